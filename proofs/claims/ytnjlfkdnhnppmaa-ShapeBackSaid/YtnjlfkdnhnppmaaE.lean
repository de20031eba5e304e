/-
  Printed by gen.py.
-/
import Derived.Test.YtnjlfkdnhnppmaaC
import Derived.Test.YtnjlfkdnhnppmaaD
import Derived.KernelRfl
namespace Go.Ab
open Go
set_option linter.unusedVariables false
set_option linter.unusedSimpArgs false
set_option maxRecDepth 100000
set_option maxHeartbeats 4000000
theorem l03_works_ok : evI T 6 [] = some (.bool true, []) := evI_some.2 ⟨3000, by kernel_rfl⟩
theorem shape_bits_ok : Sim (shape_bits) fun r => evI T 21 [] = some (.agg (r.flatMap (cint .i64)), []) := by
  unfold shape_bits
  refine sim_some ?_
  refine evI_ret (x := x21) rfl rfl ?_
  refine' (w_fn rfl rfl (w_seq (w_reg (w_cons ?_ w_nil) ?_) (w_go (w_seq (w_reg (w_cons ?_ (w_cons ?_ w_nil)) ?_) (w_go w_ret)))) ?_)
  all_goals (first | (simp only [x21, nz, rn, Int.reduceLT, Int.reduceEq, List.contains_cons, List.contains_nil, Option.map_some, Option.map_none, reduceIte, reduceCtorEq, Nat.reduceEqDiff, Nat.reduceLT, Nat.reduceBEq, Nat.reduceAdd, Nat.reduceMul, Nat.reduceLeDiff, Nat.reduceSub, Bool.false_eq_true]; try rfl) | skip)
theorem shape_Parse_j1_ok (p0 : Str) : evX (evI T) x7_1 [(0, .str p0), (2, .box [.int .i64 0, .int .i64 0])] = some (.norm, [(0, .str p0), (2, .box [.int .i64 0, .int .i64 0]), (16, .bool (((decide (((p0.length : Int)) < 1)) || (decide (16 < ((p0.length : Int)))))))]) := by
  rcases Bool.eq_false_or_eq_true (decide (((p0.length : Int)) < 1)) with h2 | h2
  · refine' (w_reg (w_cons ?_ (w_cons ?_ (w_cons ?_ (w_cons ?_ (w_cons ?_ (w_cons ?_ (w_cons ?_ (w_cons ?_ w_nil)))))))) ?_)
    all_goals (first | (simp only [nz, rn, h2, Int.reduceLT, Int.reduceEq, List.contains_cons, List.contains_nil, Option.map_some, Option.map_none, reduceIte, reduceCtorEq, Nat.reduceEqDiff, Nat.reduceLT, Nat.reduceBEq, Nat.reduceAdd, Nat.reduceMul, Nat.reduceLeDiff, Nat.reduceSub, Bool.false_eq_true]; try rfl) | skip)
  · refine' (w_reg (w_cons ?_ (w_cons ?_ (w_cons ?_ (w_cons ?_ (w_cons ?_ (w_cons ?_ (w_cons ?_ (w_cons ?_ w_nil)))))))) ?_)
    all_goals (first | (simp only [nz, rn, h2, Int.reduceLT, Int.reduceEq, List.contains_cons, List.contains_nil, Option.map_some, Option.map_none, reduceIte, reduceCtorEq, Nat.reduceEqDiff, Nat.reduceLT, Nat.reduceBEq, Nat.reduceAdd, Nat.reduceMul, Nat.reduceLeDiff, Nat.reduceSub, Bool.false_eq_true]; try rfl) | skip)
theorem shape_Parse_j9_ok (p0 : Str) (x2 : Int) (i3 : Int) (c_4 : UInt8) : Sim (shape_Parse_j9 p0 x2 i3 c_4) fun r => evX (evI T) x7_2 [(0, .str p0), (2, .box [.int .i64 0, .int .i64 0]), (4, .box [.int .i64 ((p0.length : Int)), .int .i64 x2]), (5, .int .i64 i3), (29, .int .u8 ((c_4.toNat : Int))), (31, .bool ((((c_4.toNat : Int)) == 112)))] = some (stpK (fun t0 => (.norm, [(0, .str p0), (2, .box [.int .i64 0, .int .i64 0]), (4, .box [.int .i64 ((p0.length : Int)), .int .i64 t0]), (5, .int .i64 i3)])) (fun u0 => (.ret, [(2, .box [.int .i64 0, .int .i64 0]), (3, .int .i64 16)])) r) := by
  unfold shape_Parse_j9
  refine sim_if (fun h9 => ?_) (fun h9 => ?_)
  · refine sim_bind (fun r5 h10 => ?_)
    have f11 := shape_bits_ok  _ h10
    dsimp only at f11
    refine sim_bind (fun x_6 h12 => ?_)
    have f13 := ixa_ok h12
    have f13a := ixa_int (kd := .i64) h12
    have f13b := ixa_le h12
    refine sim_some ?_
    try simp only [nz] at f11
    refine' (w_condt ?_ (w_regD ?_ ?_ (w_consD rfl ?_ ?_ ?_ (w_consD rfl ?_ ?_ ?_ (w_consD rfl ?_ ?_ ?_ (w_consD rfl ?_ ?_ ?_ (w_consD rfl ?_ ?_ ?_ (w_consD rfl ?_ ?_ ?_ (w_consD rfl ?_ ?_ ?_ (w_barD rfl rfl (w_cons ?_ w_nil))))))))) ?_) ?_)
    all_goals (first | (simp only [nz, rn, h9, f11, f13, f13a, f13b, Int.reduceLT, Int.reduceEq, List.contains_cons, List.contains_nil, Option.map_some, Option.map_none, reduceIte, reduceCtorEq, Nat.reduceEqDiff, Nat.reduceLT, Nat.reduceBEq, Nat.reduceAdd, Nat.reduceMul, Nat.reduceLeDiff, Nat.reduceSub, Bool.false_eq_true]; try rfl) | skip)
  · refine sim_if (fun h14 => ?_) (fun h14 => ?_)
    · refine sim_some ?_
      refine' (w_condf ?_ (w_seq (w_reg (w_cons ?_ (w_cons ?_ w_nil)) ?_) (w_go (w_condt ?_ w_skip ?_))) ?_)
      all_goals (first | (simp only [nz, rn, h9, h14, Int.reduceLT, Int.reduceEq, List.contains_cons, List.contains_nil, Option.map_some, Option.map_none, reduceIte, reduceCtorEq, Nat.reduceEqDiff, Nat.reduceLT, Nat.reduceBEq, Nat.reduceAdd, Nat.reduceMul, Nat.reduceLeDiff, Nat.reduceSub, Bool.false_eq_true]; try rfl) | skip)
    · refine sim_some ?_
      refine' (w_condf ?_ (w_seq (w_reg (w_cons ?_ (w_cons ?_ w_nil)) ?_) (w_go (w_condf ?_ (w_seq (w_reg (w_cons ?_ (w_cons ?_ (w_cons ?_ w_nil))) ?_) (w_go w_ret)) ?_))) ?_)
      all_goals (first | (simp only [nz, rn, h9, h14, Int.reduceLT, Int.reduceEq, List.contains_cons, List.contains_nil, Option.map_some, Option.map_none, reduceIte, reduceCtorEq, Nat.reduceEqDiff, Nat.reduceLT, Nat.reduceBEq, Nat.reduceAdd, Nat.reduceMul, Nat.reduceLeDiff, Nat.reduceSub, Bool.false_eq_true]; try rfl) | skip)
theorem shape_Parse_l10_bok (p0 : Str) (x2 : Int) (i3 : Int) : Sim (shape_Parse_l10_b p0 x2 i3) fun x => fgt [0, 2, 4, 5] (evX (evI T) x7_3 [(0, .str p0), (2, .box [.int .i64 0, .int .i64 0]), (4, .box [.int .i64 ((p0.length : Int)), .int .i64 x2]), (5, .int .i64 i3)]) = some (stpK (fun s => (.norm, [(0, .str p0), (2, .box [.int .i64 0, .int .i64 0]), (4, .box [.int .i64 ((p0.length : Int)), .int .i64 s.1]), (5, .int .i64 s.2)])) (fun r => (stpK (fun t0 => (.exit 0, [(2, .box [.int .i64 0, .int .i64 0]), (4, .box [.int .i64 ((p0.length : Int)), .int .i64 t0])])) (fun u0 => (.ret, [(2, .box [.int .i64 0, .int .i64 0]), (3, .int .i64 16)])) r)) x) := by
  unfold shape_Parse_l10_b
  refine sim_if (fun h6 => ?_) (fun h6 => ?_)
  · refine sim_bind (fun c_4 h7 => ?_)
    have f8 := ix_str h7
    refine sim_bind (fun qh15 h15 => ?_)
    rcases qh15 with ⟨x7⟩ | ⟨_⟩
    · dsimp only
      have f16 := shape_Parse_j9_ok p0 x2 i3 c_4 _ h15
      dsimp only at f16
      refine sim_some ?_
      try simp only [nz] at f16
      refine' (w_fgt (w_seq (w_seq (w_reg (w_cons ?_ (w_cons ?_ (w_cons ?_ (w_cons ?_ w_nil)))) ?_) (w_go (w_condt ?_ w_skip ?_))) (w_go (w_seq (w_block (w_seq (w_reg (w_cons ?_ (w_cons ?_ (w_cons ?_ w_nil))) ?_) (w_go (w_block (w_seq (w_reg (w_cons ?_ (w_cons ?_ w_nil)) ?_) (w_go f16)) ?_))) ?_) (w_go (w_reg (w_cons ?_ (w_cons ?_ (w_cons ?_ w_nil))) ?_))))) ?_)
      all_goals (first | (simp only [nz, rn, h6, f8, Int.reduceLT, Int.reduceEq, List.contains_cons, List.contains_nil, Option.map_some, Option.map_none, reduceIte, reduceCtorEq, Nat.reduceEqDiff, Nat.reduceLT, Nat.reduceBEq, Nat.reduceAdd, Nat.reduceMul, Nat.reduceLeDiff, Nat.reduceSub, Bool.false_eq_true]; try rfl) | skip)
    · dsimp only
      have f16 := shape_Parse_j9_ok p0 x2 i3 c_4 _ h15
      dsimp only at f16
      refine sim_some ?_
      try simp only [nz] at f16
      refine' (w_fgt (w_seq (w_seq (w_reg (w_cons ?_ (w_cons ?_ (w_cons ?_ (w_cons ?_ w_nil)))) ?_) (w_go (w_condt ?_ w_skip ?_))) (w_go (w_seq (w_block (w_seq (w_reg (w_cons ?_ (w_cons ?_ (w_cons ?_ w_nil))) ?_) (w_go (w_block (w_seq (w_reg (w_cons ?_ (w_cons ?_ w_nil)) ?_) (w_go f16)) ?_))) ?_) w_gor))) ?_)
      all_goals (first | (simp only [nz, rn, h6, f8, Int.reduceLT, Int.reduceEq, List.contains_cons, List.contains_nil, Option.map_some, Option.map_none, reduceIte, reduceCtorEq, Nat.reduceEqDiff, Nat.reduceLT, Nat.reduceBEq, Nat.reduceAdd, Nat.reduceMul, Nat.reduceLeDiff, Nat.reduceSub, Bool.false_eq_true]; try rfl) | skip)
  · refine sim_some ?_
    refine' (w_fgt (w_seq (w_seq (w_reg (w_cons ?_ (w_cons ?_ (w_cons ?_ (w_cons ?_ w_nil)))) ?_) (w_go (w_condf ?_ (w_exit ?_) ?_))) w_gox) ?_)
    all_goals (first | (simp only [nz, rn, h6, Int.reduceLT, Int.reduceEq, List.contains_cons, List.contains_nil, Option.map_some, Option.map_none, reduceIte, reduceCtorEq, Nat.reduceEqDiff, Nat.reduceLT, Nat.reduceBEq, Nat.reduceAdd, Nat.reduceMul, Nat.reduceLeDiff, Nat.reduceSub, Bool.false_eq_true]; try rfl) | skip)
theorem shape_Parse_l10_ok (p0 : Str) (s : Int × Int) : Sim (shape_Parse_l10 p0 s) fun r => evX (evI T) (.loop x7_3 [0, 2, 4, 5]) [(0, .str p0), (2, .box [.int .i64 0, .int .i64 0]), (4, .box [.int .i64 ((p0.length : Int)), .int .i64 s.1]), (5, .int .i64 s.2)] = some (stpK (fun t0 => (.exit 0, [(2, .box [.int .i64 0, .int .i64 0]), (4, .box [.int .i64 ((p0.length : Int)), .int .i64 t0])])) (fun u0 => (.ret, [(2, .box [.int .i64 0, .int .i64 0]), (3, .int .i64 16)])) r) := by
  unfold shape_Parse_l10
  exact loop_rule (C := evI T) (b := x7_3) (ks := [0, 2, 4, 5]) (σ := Int × Int) (ρ := Stp Int Unit) (body := fun s => shape_Parse_l10_b p0 s.1 s.2) (E := fun s => [(0, .str p0), (2, .box [.int .i64 0, .int .i64 0]), (4, .box [.int .i64 ((p0.length : Int)), .int .i64 s.1]), (5, .int .i64 s.2)]) (R := fun r => (stpK (fun t0 => (.exit 0, [(2, .box [.int .i64 0, .int .i64 0]), (4, .box [.int .i64 ((p0.length : Int)), .int .i64 t0])])) (fun u0 => (.ret, [(2, .box [.int .i64 0, .int .i64 0]), (3, .int .i64 16)])) r)) (fun r h => by rcases r with _ | _ <;> cases h) (fun s => shape_Parse_l10_bok p0 s.1 s.2) s
theorem shape_Parse_ok (p0 : Str) : Sim (shape_Parse p0) fun r => evI T 7 [.str p0] = some (.tup [.agg [.int .i64 r.1.Slots, .int .i64 r.1.Mask], .int .i64 r.2], [.none]) := by
  unfold shape_Parse
  refine sim_if (fun h1 => ?_) (fun h1 => ?_)
  · refine sim_some ?_
    refine evI_ret (x := x7) rfl rfl ?_
    refine' (w_fn rfl rfl (w_seq (w_reg (w_cons ?_ (w_cons ?_ w_nil)) ?_) (w_go (w_seq (w_seq (w_reg (w_cons ?_ (w_cons ?_ w_nil)) ?_) (w_go (w_condt ?_ (w_seq (w_reg (w_cons ?_ (w_cons ?_ (w_cons ?_ w_nil))) ?_) (w_go w_ret)) ?_))) w_gor))) ?_)
    all_goals (first | (simp only [x7, nz, rn, h1, Int.reduceLT, Int.reduceEq, List.contains_cons, List.contains_nil, Option.map_some, Option.map_none, reduceIte, reduceCtorEq, Nat.reduceEqDiff, Nat.reduceLT, Nat.reduceBEq, Nat.reduceAdd, Nat.reduceMul, Nat.reduceLeDiff, Nat.reduceSub, Bool.false_eq_true]; try rfl) | skip)
  · have f4 := shape_Parse_j1_ok p0
    refine sim_if (fun h5 => ?_) (fun h5 => ?_)
    · refine sim_some ?_
      refine evI_ret (x := x7) rfl rfl ?_
      try simp only [nz] at f4
      refine' (w_fn rfl rfl (w_seq (w_reg (w_cons ?_ (w_cons ?_ w_nil)) ?_) (w_go (w_seq (w_seq (w_reg (w_cons ?_ (w_cons ?_ w_nil)) ?_) (w_go (w_condf ?_ w_skip ?_))) (w_go (w_seq (w_seq f4 (w_go (w_condt ?_ (w_seq (w_reg (w_cons ?_ (w_cons ?_ (w_cons ?_ w_nil))) ?_) (w_go w_ret)) ?_))) w_gor))))) ?_)
      all_goals (first | (simp only [x7, nz, rn, h1, h5, Int.reduceLT, Int.reduceEq, List.contains_cons, List.contains_nil, Option.map_some, Option.map_none, reduceIte, reduceCtorEq, Nat.reduceEqDiff, Nat.reduceLT, Nat.reduceBEq, Nat.reduceAdd, Nat.reduceMul, Nat.reduceLeDiff, Nat.reduceSub, Bool.false_eq_true]; try rfl) | skip)
    · refine sim_bind (fun qh17 h17 => ?_)
      rcases qh17 with ⟨x8⟩ | ⟨_⟩
      · dsimp only
        have f18 := shape_Parse_l10_ok p0 (0, 0) _ h17
        dsimp only at f18
        refine sim_some ?_
        refine evI_ret (x := x7) rfl rfl ?_
        try simp only [nz] at f4
        try simp only [nz] at f18
        refine' (w_fn rfl rfl (w_seq (w_reg (w_cons ?_ (w_cons ?_ w_nil)) ?_) (w_go (w_seq (w_seq (w_reg (w_cons ?_ (w_cons ?_ w_nil)) ?_) (w_go (w_condf ?_ w_skip ?_))) (w_go (w_seq (w_seq f4 (w_go (w_condf ?_ w_skip ?_))) (w_go (w_seq (w_reg (w_cons ?_ (w_cons ?_ (w_cons ?_ (w_cons ?_ (w_cons ?_ w_nil))))) ?_) (w_go (w_seq (w_seq (w_reg (w_cons ?_ w_nil) ?_) (w_go (w_block f18 ?_))) (w_go (w_seq (w_reg (w_cons ?_ (w_cons ?_ (w_cons ?_ w_nil))) ?_) (w_go w_ret)))))))))))) ?_)
        all_goals (first | (simp only [x7, nz, rn, h1, h5, Int.reduceLT, Int.reduceEq, List.contains_cons, List.contains_nil, Option.map_some, Option.map_none, reduceIte, reduceCtorEq, Nat.reduceEqDiff, Nat.reduceLT, Nat.reduceBEq, Nat.reduceAdd, Nat.reduceMul, Nat.reduceLeDiff, Nat.reduceSub, Bool.false_eq_true]; try rfl) | skip)
      · dsimp only
        have f18 := shape_Parse_l10_ok p0 (0, 0) _ h17
        dsimp only at f18
        refine sim_some ?_
        refine evI_ret (x := x7) rfl rfl ?_
        try simp only [nz] at f4
        try simp only [nz] at f18
        refine' (w_fn rfl rfl (w_seq (w_reg (w_cons ?_ (w_cons ?_ w_nil)) ?_) (w_go (w_seq (w_seq (w_reg (w_cons ?_ (w_cons ?_ w_nil)) ?_) (w_go (w_condf ?_ w_skip ?_))) (w_go (w_seq (w_seq f4 (w_go (w_condf ?_ w_skip ?_))) (w_go (w_seq (w_reg (w_cons ?_ (w_cons ?_ (w_cons ?_ (w_cons ?_ (w_cons ?_ w_nil))))) ?_) (w_go (w_seq (w_seq (w_reg (w_cons ?_ w_nil) ?_) (w_go (w_block f18 ?_))) w_gor))))))))) ?_)
        all_goals (first | (simp only [x7, nz, rn, h1, h5, Int.reduceLT, Int.reduceEq, List.contains_cons, List.contains_nil, Option.map_some, Option.map_none, reduceIte, reduceCtorEq, Nat.reduceEqDiff, Nat.reduceLT, Nat.reduceBEq, Nat.reduceAdd, Nat.reduceMul, Nat.reduceLeDiff, Nat.reduceSub, Bool.false_eq_true]; try rfl) | skip)
theorem r03_power_l1_bok (p0 : Int) (out1 : Int) (i2 : Int) : Sim (r03_power_l1_b p0 out1 i2) fun x => fgt [0, 3, 4] (evX (evI T) x22_1 [(0, .int .i64 p0), (3, .int .i64 out1), (4, .int .i64 i2)]) = some (stpK (fun s => (.norm, [(0, .int .i64 p0), (3, .int .i64 s.1), (4, .int .i64 s.2)])) (fun r => (.exit 0, [(3, .int .i64 r)])) x) := by
  unfold r03_power_l1_b
  refine sim_if (fun h1 => ?_) (fun h1 => ?_)
  · refine sim_some ?_
    refine' (w_fgt (w_seq (w_seq (w_reg (w_cons ?_ (w_cons ?_ (w_cons ?_ w_nil))) ?_) (w_go (w_condt ?_ w_skip ?_))) (w_go (w_seq (w_block (w_reg (w_cons ?_ (w_cons ?_ (w_cons ?_ w_nil))) ?_) ?_) (w_go (w_reg (w_cons ?_ (w_cons ?_ (w_cons ?_ w_nil))) ?_))))) ?_)
    all_goals (first | (simp only [nz, rn, h1, Int.reduceLT, Int.reduceEq, List.contains_cons, List.contains_nil, Option.map_some, Option.map_none, reduceIte, reduceCtorEq, Nat.reduceEqDiff, Nat.reduceLT, Nat.reduceBEq, Nat.reduceAdd, Nat.reduceMul, Nat.reduceLeDiff, Nat.reduceSub, Bool.false_eq_true]; try rfl) | skip)
  · refine sim_some ?_
    refine' (w_fgt (w_seq (w_seq (w_reg (w_cons ?_ (w_cons ?_ (w_cons ?_ w_nil))) ?_) (w_go (w_condf ?_ (w_exit ?_) ?_))) w_gox) ?_)
    all_goals (first | (simp only [nz, rn, h1, Int.reduceLT, Int.reduceEq, List.contains_cons, List.contains_nil, Option.map_some, Option.map_none, reduceIte, reduceCtorEq, Nat.reduceEqDiff, Nat.reduceLT, Nat.reduceBEq, Nat.reduceAdd, Nat.reduceMul, Nat.reduceLeDiff, Nat.reduceSub, Bool.false_eq_true]; try rfl) | skip)
theorem r03_power_l1_ok (p0 : Int) (s : Int × Int) : Sim (r03_power_l1 p0 s) fun r => evX (evI T) (.loop x22_1 [0, 3, 4]) [(0, .int .i64 p0), (3, .int .i64 s.1), (4, .int .i64 s.2)] = some (.exit 0, [(3, .int .i64 r)]) := by
  unfold r03_power_l1
  exact loop_rule (C := evI T) (b := x22_1) (ks := [0, 3, 4]) (σ := Int × Int) (ρ := Int) (body := fun s => r03_power_l1_b p0 s.1 s.2) (E := fun s => [(0, .int .i64 p0), (3, .int .i64 s.1), (4, .int .i64 s.2)]) (R := fun r => (.exit 0, [(3, .int .i64 r)])) (fun r h => nomatch h) (fun s => r03_power_l1_bok p0 s.1 s.2) s
theorem r03_power_ok (p0 : Int) : Sim (r03_power p0) fun r => evI T 22 [.int .i64 p0] = some (.int .i64 r, [.none]) := by
  unfold r03_power
  refine sim_bind (fun out3 h2 => ?_)
  have f3 := r03_power_l1_ok p0 (1, 0) _ h2
  dsimp only at f3
  refine sim_some ?_
  refine evI_ret (x := x22) rfl rfl ?_
  try simp only [nz] at f3
  refine' (w_fn rfl rfl (w_seq (w_reg (w_cons ?_ w_nil) ?_) (w_go (w_seq (w_reg (w_cons ?_ w_nil) ?_) (w_go (w_seq (w_seq (w_reg (w_cons ?_ w_nil) ?_) (w_go (w_block f3 ?_))) (w_go (w_seq (w_reg (w_cons ?_ (w_cons ?_ w_nil)) ?_) (w_go w_ret)))))))) ?_)
  all_goals (first | (simp only [x22, nz, rn, Int.reduceLT, Int.reduceEq, List.contains_cons, List.contains_nil, Option.map_some, Option.map_none, reduceIte, reduceCtorEq, Nat.reduceEqDiff, Nat.reduceLT, Nat.reduceBEq, Nat.reduceAdd, Nat.reduceMul, Nat.reduceLeDiff, Nat.reduceSub, Bool.false_eq_true]; try rfl) | skip)
theorem r03_Parse_j1_ok (p0 : Str) : evX (evI T) x8_1 [(0, .str p0), (2, .box [.int .i64 0, .int .i64 0])] = some (.norm, [(0, .str p0), (2, .box [.int .i64 0, .int .i64 0]), (15, .bool ((((p0 == ([] : Str))) || (decide (16 < ((p0.length : Int)))))))]) := by
  rcases Bool.eq_false_or_eq_true ((p0 == ([] : Str))) with h2 | h2
  · refine' (w_reg (w_cons ?_ (w_cons ?_ (w_cons ?_ (w_cons ?_ (w_cons ?_ (w_cons ?_ (w_cons ?_ w_nil))))))) ?_)
    all_goals (first | (simp only [nz, rn, h2, Int.reduceLT, Int.reduceEq, List.contains_cons, List.contains_nil, Option.map_some, Option.map_none, reduceIte, reduceCtorEq, Nat.reduceEqDiff, Nat.reduceLT, Nat.reduceBEq, Nat.reduceAdd, Nat.reduceMul, Nat.reduceLeDiff, Nat.reduceSub, Bool.false_eq_true]; try rfl) | skip)
  · refine' (w_reg (w_cons ?_ (w_cons ?_ (w_cons ?_ (w_cons ?_ (w_cons ?_ (w_cons ?_ (w_cons ?_ w_nil))))))) ?_)
    all_goals (first | (simp only [nz, rn, h2, Int.reduceLT, Int.reduceEq, List.contains_cons, List.contains_nil, Option.map_some, Option.map_none, reduceIte, reduceCtorEq, Nat.reduceEqDiff, Nat.reduceLT, Nat.reduceBEq, Nat.reduceAdd, Nat.reduceMul, Nat.reduceLeDiff, Nat.reduceSub, Bool.false_eq_true]; try rfl) | skip)
theorem r03_Parse_j8_ok (p0 : Str) (mask2 : Int) (i3 : Int) : Sim (r03_Parse_j8 p0 mask2 i3) fun r => evX (evI T) x8_2 [(0, .str p0), (2, .box [.int .i64 0, .int .i64 0]), (4, .int .i64 mask2), (5, .int .i64 i3)] = some (.norm, [(0, .str p0), (2, .box [.int .i64 0, .int .i64 0]), (4, .int .i64 mask2), (5, .int .i64 i3), (32, .bool r)]) := by
  unfold r03_Parse_j8
  refine sim_bind (fun c_4 h7 => ?_)
  have f8 := ix_str h7
  refine sim_if (fun h9 => ?_) (fun h9 => ?_)
  · refine sim_some ?_
    refine' (w_reg (w_cons ?_ (w_cons ?_ (w_cons ?_ (w_cons ?_ (w_cons ?_ (w_cons ?_ (w_cons ?_ (w_cons ?_ (w_cons ?_ (w_cons ?_ w_nil)))))))))) ?_)
    all_goals (first | (simp only [nz, rn, f8, h9, Int.reduceLT, Int.reduceEq, List.contains_cons, List.contains_nil, Option.map_some, Option.map_none, reduceIte, reduceCtorEq, Nat.reduceEqDiff, Nat.reduceLT, Nat.reduceBEq, Nat.reduceAdd, Nat.reduceMul, Nat.reduceLeDiff, Nat.reduceSub, Bool.false_eq_true]; try rfl) | skip)
  · refine sim_some ?_
    refine' (w_reg (w_cons ?_ (w_cons ?_ (w_cons ?_ (w_cons ?_ (w_cons ?_ (w_cons ?_ (w_cons ?_ (w_cons ?_ (w_cons ?_ (w_cons ?_ w_nil)))))))))) ?_)
    all_goals (first | (simp only [nz, rn, f8, h9, Int.reduceLT, Int.reduceEq, List.contains_cons, List.contains_nil, Option.map_some, Option.map_none, reduceIte, reduceCtorEq, Nat.reduceEqDiff, Nat.reduceLT, Nat.reduceBEq, Nat.reduceAdd, Nat.reduceMul, Nat.reduceLeDiff, Nat.reduceSub, Bool.false_eq_true]; try rfl) | skip)
theorem r03_Parse_j9_ok (p0 : Str) (mask2 : Int) (i3 : Int) (c_6 : UInt8) : Sim (r03_Parse_j9 p0 mask2 i3 c_6) fun r => evX (evI T) x8_3 [(0, .str p0), (2, .box [.int .i64 0, .int .i64 0]), (4, .int .i64 mask2), (5, .int .i64 i3), (37, .bool ((((c_6.toNat : Int)) == 112)))] = some (.norm, [(0, .str p0), (2, .box [.int .i64 0, .int .i64 0]), (4, .int .i64 r), (5, .int .i64 i3)]) := by
  unfold r03_Parse_j9
  refine sim_if (fun h15 => ?_) (fun h15 => ?_)
  · refine sim_bind (fun r7 h16 => ?_)
    have f17 := r03_power_ok i3 _ h16
    dsimp only at f17
    refine sim_some ?_
    try simp only [nz] at f17
    refine' (w_condt ?_ (w_reg (w_cons ?_ (w_cons ?_ (w_cons ?_ (w_cons ?_ (w_cons ?_ w_nil))))) ?_) ?_)
    all_goals (first | (simp only [nz, rn, h15, f17, Int.reduceLT, Int.reduceEq, List.contains_cons, List.contains_nil, Option.map_some, Option.map_none, reduceIte, reduceCtorEq, Nat.reduceEqDiff, Nat.reduceLT, Nat.reduceBEq, Nat.reduceAdd, Nat.reduceMul, Nat.reduceLeDiff, Nat.reduceSub, Bool.false_eq_true]; try rfl) | skip)
  · refine sim_some ?_
    refine' (w_condf ?_ w_skip ?_)
    all_goals (first | (simp only [nz, rn, h15, Int.reduceLT, Int.reduceEq, List.contains_cons, List.contains_nil, Option.map_some, Option.map_none, reduceIte, reduceCtorEq, Nat.reduceEqDiff, Nat.reduceLT, Nat.reduceBEq, Nat.reduceAdd, Nat.reduceMul, Nat.reduceLeDiff, Nat.reduceSub, Bool.false_eq_true]; try rfl) | skip)
theorem r03_Parse_l10_bok (p0 : Str) (mask2 : Int) (i3 : Int) : Sim (r03_Parse_l10_b p0 mask2 i3) fun x => fgt [0, 2, 4, 5] (evX (evI T) x8_4 [(0, .str p0), (2, .box [.int .i64 0, .int .i64 0]), (4, .int .i64 mask2), (5, .int .i64 i3)]) = some (stpK (fun s => (.norm, [(0, .str p0), (2, .box [.int .i64 0, .int .i64 0]), (4, .int .i64 s.1), (5, .int .i64 s.2)])) (fun r => (stpK (fun t0 => (.exit 0, [(0, .str p0), (2, .box [.int .i64 0, .int .i64 0]), (4, .int .i64 t0)])) (fun u0 => (.ret, [(2, .box [.int .i64 0, .int .i64 0]), (3, .int .i64 16)])) r)) x) := by
  unfold r03_Parse_l10_b
  refine sim_if (fun h6 => ?_) (fun h6 => ?_)
  · refine sim_bind (fun v5 h10 => ?_)
    have f11 := r03_Parse_j8_ok p0 mask2 i3 _ h10
    dsimp only at f11
    refine sim_if (fun h12 => ?_) (fun h12 => ?_)
    · refine sim_some ?_
      try simp only [nz] at f11
      refine' (w_fgt (w_seq (w_seq (w_reg (w_cons ?_ (w_cons ?_ (w_cons ?_ (w_cons ?_ w_nil)))) ?_) (w_go (w_condt ?_ w_skip ?_))) (w_go (w_seq (w_block (w_seq (w_seq f11 (w_go (w_condt ?_ (w_seq (w_reg (w_cons ?_ (w_cons ?_ (w_cons ?_ w_nil))) ?_) (w_go w_ret)) ?_))) w_gor) ?_) w_gor))) ?_)
      all_goals (first | (simp only [nz, rn, h6, h12, Int.reduceLT, Int.reduceEq, List.contains_cons, List.contains_nil, Option.map_some, Option.map_none, reduceIte, reduceCtorEq, Nat.reduceEqDiff, Nat.reduceLT, Nat.reduceBEq, Nat.reduceAdd, Nat.reduceMul, Nat.reduceLeDiff, Nat.reduceSub, Bool.false_eq_true]; try rfl) | skip)
    · refine sim_bind (fun c_6 h13 => ?_)
      have f14 := ix_str h13
      refine sim_bind (fun mask8 h18 => ?_)
      have f19 := r03_Parse_j9_ok p0 mask2 i3 c_6 _ h18
      dsimp only at f19
      refine sim_some ?_
      try simp only [nz] at f11
      try simp only [nz] at f19
      refine' (w_fgt (w_seq (w_seq (w_reg (w_cons ?_ (w_cons ?_ (w_cons ?_ (w_cons ?_ w_nil)))) ?_) (w_go (w_condt ?_ w_skip ?_))) (w_go (w_seq (w_block (w_seq (w_seq f11 (w_go (w_condf ?_ w_skip ?_))) (w_go (w_seq (w_reg (w_cons ?_ (w_cons ?_ (w_cons ?_ (w_cons ?_ w_nil)))) ?_) (w_go f19)))) ?_) (w_go (w_reg (w_cons ?_ (w_cons ?_ (w_cons ?_ w_nil))) ?_))))) ?_)
      all_goals (first | (simp only [nz, rn, h6, h12, f14, Int.reduceLT, Int.reduceEq, List.contains_cons, List.contains_nil, Option.map_some, Option.map_none, reduceIte, reduceCtorEq, Nat.reduceEqDiff, Nat.reduceLT, Nat.reduceBEq, Nat.reduceAdd, Nat.reduceMul, Nat.reduceLeDiff, Nat.reduceSub, Bool.false_eq_true]; try rfl) | skip)
  · refine sim_some ?_
    refine' (w_fgt (w_seq (w_seq (w_reg (w_cons ?_ (w_cons ?_ (w_cons ?_ (w_cons ?_ w_nil)))) ?_) (w_go (w_condf ?_ (w_exit ?_) ?_))) w_gox) ?_)
    all_goals (first | (simp only [nz, rn, h6, Int.reduceLT, Int.reduceEq, List.contains_cons, List.contains_nil, Option.map_some, Option.map_none, reduceIte, reduceCtorEq, Nat.reduceEqDiff, Nat.reduceLT, Nat.reduceBEq, Nat.reduceAdd, Nat.reduceMul, Nat.reduceLeDiff, Nat.reduceSub, Bool.false_eq_true]; try rfl) | skip)
theorem r03_Parse_l10_ok (p0 : Str) (s : Int × Int) : Sim (r03_Parse_l10 p0 s) fun r => evX (evI T) (.loop x8_4 [0, 2, 4, 5]) [(0, .str p0), (2, .box [.int .i64 0, .int .i64 0]), (4, .int .i64 s.1), (5, .int .i64 s.2)] = some (stpK (fun t0 => (.exit 0, [(0, .str p0), (2, .box [.int .i64 0, .int .i64 0]), (4, .int .i64 t0)])) (fun u0 => (.ret, [(2, .box [.int .i64 0, .int .i64 0]), (3, .int .i64 16)])) r) := by
  unfold r03_Parse_l10
  exact loop_rule (C := evI T) (b := x8_4) (ks := [0, 2, 4, 5]) (σ := Int × Int) (ρ := Stp Int Unit) (body := fun s => r03_Parse_l10_b p0 s.1 s.2) (E := fun s => [(0, .str p0), (2, .box [.int .i64 0, .int .i64 0]), (4, .int .i64 s.1), (5, .int .i64 s.2)]) (R := fun r => (stpK (fun t0 => (.exit 0, [(0, .str p0), (2, .box [.int .i64 0, .int .i64 0]), (4, .int .i64 t0)])) (fun u0 => (.ret, [(2, .box [.int .i64 0, .int .i64 0]), (3, .int .i64 16)])) r)) (fun r h => by rcases r with _ | _ <;> cases h) (fun s => r03_Parse_l10_bok p0 s.1 s.2) s
theorem r03_Parse_ok (p0 : Str) : Sim (r03_Parse p0) fun r => evI T 8 [.str p0] = some (.tup [.agg [.int .i64 r.1.Slots, .int .i64 r.1.Mask], .int .i64 r.2], [.none]) := by
  unfold r03_Parse
  refine sim_if (fun h1 => ?_) (fun h1 => ?_)
  · refine sim_some ?_
    refine evI_ret (x := x8) rfl rfl ?_
    refine' (w_fn rfl rfl (w_seq (w_reg (w_cons ?_ (w_cons ?_ w_nil)) ?_) (w_go (w_seq (w_seq (w_reg (w_cons ?_ (w_cons ?_ w_nil)) ?_) (w_go (w_condt ?_ (w_seq (w_reg (w_cons ?_ (w_cons ?_ (w_cons ?_ w_nil))) ?_) (w_go w_ret)) ?_))) w_gor))) ?_)
    all_goals (first | (simp only [x8, nz, rn, h1, Int.reduceLT, Int.reduceEq, List.contains_cons, List.contains_nil, Option.map_some, Option.map_none, reduceIte, reduceCtorEq, Nat.reduceEqDiff, Nat.reduceLT, Nat.reduceBEq, Nat.reduceAdd, Nat.reduceMul, Nat.reduceLeDiff, Nat.reduceSub, Bool.false_eq_true]; try rfl) | skip)
  · have f4 := r03_Parse_j1_ok p0
    refine sim_if (fun h5 => ?_) (fun h5 => ?_)
    · refine sim_some ?_
      refine evI_ret (x := x8) rfl rfl ?_
      try simp only [nz] at f4
      refine' (w_fn rfl rfl (w_seq (w_reg (w_cons ?_ (w_cons ?_ w_nil)) ?_) (w_go (w_seq (w_seq (w_reg (w_cons ?_ (w_cons ?_ w_nil)) ?_) (w_go (w_condf ?_ w_skip ?_))) (w_go (w_seq (w_seq f4 (w_go (w_condt ?_ (w_seq (w_reg (w_cons ?_ (w_cons ?_ (w_cons ?_ w_nil))) ?_) (w_go w_ret)) ?_))) w_gor))))) ?_)
      all_goals (first | (simp only [x8, nz, rn, h1, h5, Int.reduceLT, Int.reduceEq, List.contains_cons, List.contains_nil, Option.map_some, Option.map_none, reduceIte, reduceCtorEq, Nat.reduceEqDiff, Nat.reduceLT, Nat.reduceBEq, Nat.reduceAdd, Nat.reduceMul, Nat.reduceLeDiff, Nat.reduceSub, Bool.false_eq_true]; try rfl) | skip)
    · refine sim_bind (fun qh20 h20 => ?_)
      rcases qh20 with ⟨mask9⟩ | ⟨_⟩
      · dsimp only
        have f21 := r03_Parse_l10_ok p0 (0, 0) _ h20
        dsimp only at f21
        refine sim_some ?_
        refine evI_ret (x := x8) rfl rfl ?_
        try simp only [nz] at f4
        try simp only [nz] at f21
        refine' (w_fn rfl rfl (w_seq (w_reg (w_cons ?_ (w_cons ?_ w_nil)) ?_) (w_go (w_seq (w_seq (w_reg (w_cons ?_ (w_cons ?_ w_nil)) ?_) (w_go (w_condf ?_ w_skip ?_))) (w_go (w_seq (w_seq f4 (w_go (w_condf ?_ w_skip ?_))) (w_go (w_seq (w_reg (w_cons ?_ w_nil) ?_) (w_go (w_seq (w_seq (w_reg (w_cons ?_ w_nil) ?_) (w_go (w_block f21 ?_))) (w_go (w_seq (w_reg (w_cons ?_ (w_cons ?_ (w_cons ?_ (w_cons ?_ (w_cons ?_ (w_cons ?_ w_nil)))))) ?_) (w_go w_ret)))))))))))) ?_)
        all_goals (first | (simp only [x8, nz, rn, h1, h5, Int.reduceLT, Int.reduceEq, List.contains_cons, List.contains_nil, Option.map_some, Option.map_none, reduceIte, reduceCtorEq, Nat.reduceEqDiff, Nat.reduceLT, Nat.reduceBEq, Nat.reduceAdd, Nat.reduceMul, Nat.reduceLeDiff, Nat.reduceSub, Bool.false_eq_true]; try rfl) | skip)
      · dsimp only
        have f21 := r03_Parse_l10_ok p0 (0, 0) _ h20
        dsimp only at f21
        refine sim_some ?_
        refine evI_ret (x := x8) rfl rfl ?_
        try simp only [nz] at f4
        try simp only [nz] at f21
        refine' (w_fn rfl rfl (w_seq (w_reg (w_cons ?_ (w_cons ?_ w_nil)) ?_) (w_go (w_seq (w_seq (w_reg (w_cons ?_ (w_cons ?_ w_nil)) ?_) (w_go (w_condf ?_ w_skip ?_))) (w_go (w_seq (w_seq f4 (w_go (w_condf ?_ w_skip ?_))) (w_go (w_seq (w_reg (w_cons ?_ w_nil) ?_) (w_go (w_seq (w_seq (w_reg (w_cons ?_ w_nil) ?_) (w_go (w_block f21 ?_))) w_gor))))))))) ?_)
        all_goals (first | (simp only [x8, nz, rn, h1, h5, Int.reduceLT, Int.reduceEq, List.contains_cons, List.contains_nil, Option.map_some, Option.map_none, reduceIte, reduceCtorEq, Nat.reduceEqDiff, Nat.reduceLT, Nat.reduceBEq, Nat.reduceAdd, Nat.reduceMul, Nat.reduceLeDiff, Nat.reduceSub, Bool.false_eq_true]; try rfl) | skip)
theorem shape_Check_j1_ok (p0 : Shape) : evX (evI T) x11_1 [(1, .box [.int .i64 p0.Slots, .int .i64 p0.Mask])] = some (.norm, [(23, .bool (((decide (p0.Slots < 0)) || (((decide (16 < p0.Slots)) || (((decide (p0.Mask < 0)) || (decide ((IntKind.wrap .i64 (1 * 2 ^ (min p0.Slots.toNat 64))) ≤ p0.Mask)))))))))]) := by
  rcases Bool.eq_false_or_eq_true (decide (p0.Slots < 0)) with h1 | h1
  · refine' (w_regD ?_ ?_ (w_consD rfl ?_ ?_ ?_ (w_consD rfl ?_ ?_ ?_ (w_consD rfl ?_ ?_ ?_ (w_consD rfl ?_ ?_ ?_ (w_consD rfl ?_ ?_ ?_ (w_consD rfl ?_ ?_ ?_ (w_consD rfl ?_ ?_ ?_ (w_consD rfl ?_ ?_ ?_ (w_consD rfl ?_ ?_ ?_ (w_consD rfl ?_ ?_ ?_ (w_consD rfl ?_ ?_ ?_ (w_consD rfl ?_ ?_ ?_ (w_consD rfl ?_ ?_ ?_ (w_consD rfl ?_ ?_ ?_ (w_consD rfl ?_ ?_ ?_ (w_consD rfl ?_ ?_ ?_ (w_consD rfl ?_ ?_ ?_ (w_consD rfl ?_ ?_ ?_ (w_consD rfl ?_ ?_ ?_ (w_consD rfl ?_ ?_ ?_ (w_consD rfl ?_ ?_ ?_ w_nilD))))))))))))))))))))) ?_)
    all_goals (first | (simp only [nz, rn, nzShape, h1, Int.reduceLT, Int.reduceEq, List.contains_cons, List.contains_nil, Option.map_some, Option.map_none, reduceIte, reduceCtorEq, Nat.reduceEqDiff, Nat.reduceLT, Nat.reduceBEq, Nat.reduceAdd, Nat.reduceMul, Nat.reduceLeDiff, Nat.reduceSub, Bool.false_eq_true]; try rfl) | skip)
  · rcases Bool.eq_false_or_eq_true (decide (16 < p0.Slots)) with h2 | h2
    · refine' (w_regD ?_ ?_ (w_consD rfl ?_ ?_ ?_ (w_consD rfl ?_ ?_ ?_ (w_consD rfl ?_ ?_ ?_ (w_consD rfl ?_ ?_ ?_ (w_consD rfl ?_ ?_ ?_ (w_consD rfl ?_ ?_ ?_ (w_consD rfl ?_ ?_ ?_ (w_consD rfl ?_ ?_ ?_ (w_consD rfl ?_ ?_ ?_ (w_consD rfl ?_ ?_ ?_ (w_consD rfl ?_ ?_ ?_ (w_consD rfl ?_ ?_ ?_ (w_consD rfl ?_ ?_ ?_ (w_consD rfl ?_ ?_ ?_ (w_consD rfl ?_ ?_ ?_ (w_consD rfl ?_ ?_ ?_ (w_consD rfl ?_ ?_ ?_ (w_consD rfl ?_ ?_ ?_ (w_consD rfl ?_ ?_ ?_ (w_consD rfl ?_ ?_ ?_ (w_consD rfl ?_ ?_ ?_ w_nilD))))))))))))))))))))) ?_)
      all_goals (first | (simp only [nz, rn, nzShape, h1, h2, Int.reduceLT, Int.reduceEq, List.contains_cons, List.contains_nil, Option.map_some, Option.map_none, reduceIte, reduceCtorEq, Nat.reduceEqDiff, Nat.reduceLT, Nat.reduceBEq, Nat.reduceAdd, Nat.reduceMul, Nat.reduceLeDiff, Nat.reduceSub, Bool.false_eq_true]; try rfl) | skip)
    · rcases Bool.eq_false_or_eq_true (decide (p0.Mask < 0)) with h3 | h3
      · refine' (w_regD ?_ ?_ (w_consD rfl ?_ ?_ ?_ (w_consD rfl ?_ ?_ ?_ (w_consD rfl ?_ ?_ ?_ (w_consD rfl ?_ ?_ ?_ (w_consD rfl ?_ ?_ ?_ (w_consD rfl ?_ ?_ ?_ (w_consD rfl ?_ ?_ ?_ (w_consD rfl ?_ ?_ ?_ (w_consD rfl ?_ ?_ ?_ (w_consD rfl ?_ ?_ ?_ (w_consD rfl ?_ ?_ ?_ (w_consD rfl ?_ ?_ ?_ (w_consD rfl ?_ ?_ ?_ (w_consD rfl ?_ ?_ ?_ (w_consD rfl ?_ ?_ ?_ (w_consD rfl ?_ ?_ ?_ (w_consD rfl ?_ ?_ ?_ (w_consD rfl ?_ ?_ ?_ (w_consD rfl ?_ ?_ ?_ (w_consD rfl ?_ ?_ ?_ (w_consD rfl ?_ ?_ ?_ w_nilD))))))))))))))))))))) ?_)
        all_goals (first | (simp only [nz, rn, nzShape, h1, h2, h3, Int.reduceLT, Int.reduceEq, List.contains_cons, List.contains_nil, Option.map_some, Option.map_none, reduceIte, reduceCtorEq, Nat.reduceEqDiff, Nat.reduceLT, Nat.reduceBEq, Nat.reduceAdd, Nat.reduceMul, Nat.reduceLeDiff, Nat.reduceSub, Bool.false_eq_true]; try rfl) | skip)
      · refine' (w_regD ?_ ?_ (w_consD rfl ?_ ?_ ?_ (w_consD rfl ?_ ?_ ?_ (w_consD rfl ?_ ?_ ?_ (w_consD rfl ?_ ?_ ?_ (w_consD rfl ?_ ?_ ?_ (w_consD rfl ?_ ?_ ?_ (w_consD rfl ?_ ?_ ?_ (w_consD rfl ?_ ?_ ?_ (w_consD rfl ?_ ?_ ?_ (w_consD rfl ?_ ?_ ?_ (w_consD rfl ?_ ?_ ?_ (w_consD rfl ?_ ?_ ?_ (w_consD rfl ?_ ?_ ?_ (w_consD rfl ?_ ?_ ?_ (w_consD rfl ?_ ?_ ?_ (w_consD rfl ?_ ?_ ?_ (w_consD rfl ?_ ?_ ?_ (w_consD rfl ?_ ?_ ?_ (w_consD rfl ?_ ?_ ?_ (w_consD rfl ?_ ?_ ?_ (w_consD rfl ?_ ?_ ?_ w_nilD))))))))))))))))))))) ?_)
        all_goals (first | (simp only [nz, rn, nzShape, h1, h2, h3, of_decide_eq_false h1, Int.reduceLT, Int.reduceEq, List.contains_cons, List.contains_nil, Option.map_some, Option.map_none, reduceIte, reduceCtorEq, Nat.reduceEqDiff, Nat.reduceLT, Nat.reduceBEq, Nat.reduceAdd, Nat.reduceMul, Nat.reduceLeDiff, Nat.reduceSub, Bool.false_eq_true]; try rfl) | skip)
theorem shape_Check_ok (p0 : Shape) : Sim (shape_Check p0) fun r => evI T 11 [.agg [.int .i64 p0.Slots, .int .i64 p0.Mask]] = some (.int .i64 r, [.none]) := by
  unfold shape_Check
  have f5 := shape_Check_j1_ok p0
  refine sim_if (fun h6 => ?_) (fun h6 => ?_)
  · refine sim_some ?_
    refine evI_ret (x := x11) rfl rfl ?_
    try simp only [nz, nzShape] at f5
    refine' (w_fn rfl rfl (w_seq (w_reg (w_cons ?_ (w_cons ?_ w_nil)) ?_) (w_go (w_seq (w_seq f5 (w_go (w_condt ?_ (w_seq (w_reg (w_cons ?_ w_nil) ?_) (w_go w_ret)) ?_))) w_gor))) ?_)
    all_goals (first | (simp only [x11, nz, rn, nzShape, h6, Int.reduceLT, Int.reduceEq, List.contains_cons, List.contains_nil, Option.map_some, Option.map_none, reduceIte, reduceCtorEq, Nat.reduceEqDiff, Nat.reduceLT, Nat.reduceBEq, Nat.reduceAdd, Nat.reduceMul, Nat.reduceLeDiff, Nat.reduceSub, Bool.false_eq_true]; try rfl) | skip)
  · refine sim_some ?_
    refine evI_ret (x := x11) rfl rfl ?_
    try simp only [nz, nzShape] at f5
    refine' (w_fn rfl rfl (w_seq (w_reg (w_cons ?_ (w_cons ?_ w_nil)) ?_) (w_go (w_seq (w_seq f5 (w_go (w_condf ?_ w_skip ?_))) (w_go (w_seq (w_reg (w_cons ?_ w_nil) ?_) (w_go w_ret)))))) ?_)
    all_goals (first | (simp only [x11, nz, rn, nzShape, h6, Int.reduceLT, Int.reduceEq, List.contains_cons, List.contains_nil, Option.map_some, Option.map_none, reduceIte, reduceCtorEq, Nat.reduceEqDiff, Nat.reduceLT, Nat.reduceBEq, Nat.reduceAdd, Nat.reduceMul, Nat.reduceLeDiff, Nat.reduceSub, Bool.false_eq_true]; try rfl) | skip)
theorem shape_Of_j1_ok (p0 : Int) : evX (evI T) x9_1 [(0, .int .i64 p0), (2, .box [.int .i64 0, .int .i64 0])] = some (.norm, [(0, .int .i64 p0), (2, .box [.int .i64 0, .int .i64 0]), (11, .bool (((decide (p0 < 0)) || (decide (2097152 ≤ p0)))))]) := by
  rcases Bool.eq_false_or_eq_true (decide (p0 < 0)) with h1 | h1
  · refine' (w_reg (w_cons ?_ (w_cons ?_ (w_cons ?_ (w_cons ?_ (w_cons ?_ (w_cons ?_ w_nil)))))) ?_)
    all_goals (first | (simp only [nz, rn, h1, Int.reduceLT, Int.reduceEq, List.contains_cons, List.contains_nil, Option.map_some, Option.map_none, reduceIte, reduceCtorEq, Nat.reduceEqDiff, Nat.reduceLT, Nat.reduceBEq, Nat.reduceAdd, Nat.reduceMul, Nat.reduceLeDiff, Nat.reduceSub, Bool.false_eq_true]; try rfl) | skip)
  · refine' (w_reg (w_cons ?_ (w_cons ?_ (w_cons ?_ (w_cons ?_ (w_cons ?_ (w_cons ?_ w_nil)))))) ?_)
    all_goals (first | (simp only [nz, rn, h1, Int.reduceLT, Int.reduceEq, List.contains_cons, List.contains_nil, Option.map_some, Option.map_none, reduceIte, reduceCtorEq, Nat.reduceEqDiff, Nat.reduceLT, Nat.reduceBEq, Nat.reduceAdd, Nat.reduceMul, Nat.reduceLeDiff, Nat.reduceSub, Bool.false_eq_true]; try rfl) | skip)
theorem shape_Of_ok (p0 : Int) : Sim (shape_Of p0) fun r => evI T 9 [.int .i64 p0] = some (.tup [.agg [.int .i64 r.1.Slots, .int .i64 r.1.Mask], .int .i64 r.2], [.none]) := by
  unfold shape_Of
  have f3 := shape_Of_j1_ok p0
  refine sim_if (fun h4 => ?_) (fun h4 => ?_)
  · refine sim_some ?_
    refine evI_ret (x := x9) rfl rfl ?_
    try simp only [nz, nzShape] at f3
    refine' (w_fn rfl rfl (w_seq (w_reg (w_cons ?_ (w_cons ?_ w_nil)) ?_) (w_go (w_seq (w_seq f3 (w_go (w_condt ?_ (w_seq (w_reg (w_cons ?_ (w_cons ?_ (w_cons ?_ w_nil))) ?_) (w_go w_ret)) ?_))) w_gor))) ?_)
    all_goals (first | (simp only [x9, nz, rn, nzShape, h4, Int.reduceLT, Int.reduceEq, List.contains_cons, List.contains_nil, Option.map_some, Option.map_none, reduceIte, reduceCtorEq, Nat.reduceEqDiff, Nat.reduceLT, Nat.reduceBEq, Nat.reduceAdd, Nat.reduceMul, Nat.reduceLeDiff, Nat.reduceSub, Bool.false_eq_true]; try rfl) | skip)
  · refine sim_bind (fun r2 h5 => ?_)
    have f6 := shape_Check_ok ((⟨bAnd .i64 p0 31, Int.fdiv p0 (2 ^ (min (5 : Int).toNat 64))⟩ : Shape)) _ h5
    dsimp only at f6
    refine sim_if (fun h7 => ?_) (fun h7 => ?_)
    · refine sim_some ?_
      refine evI_ret (x := x9) rfl rfl ?_
      try simp only [nz, nzShape] at f3
      try simp only [nz, nzShape] at f6
      refine' (w_fn rfl rfl (w_seq (w_reg (w_cons ?_ (w_cons ?_ w_nil)) ?_) (w_go (w_seq (w_seq f3 (w_go (w_condf ?_ w_skip ?_))) (w_go (w_seq (w_reg (w_cons ?_ (w_cons ?_ (w_cons ?_ (w_cons ?_ (w_cons ?_ (w_cons ?_ (w_cons ?_ w_nil))))))) ?_) (w_go (w_seq (w_seq (w_reg (w_cons ?_ (w_cons ?_ (w_cons ?_ w_nil))) ?_) (w_go (w_seq (w_reg (w_cons ?_ (w_cons ?_ w_nil)) ?_) (w_go (w_condt ?_ (w_seq (w_reg (w_cons ?_ (w_cons ?_ (w_cons ?_ (w_cons ?_ w_nil)))) ?_) (w_go w_ret)) ?_))))) w_gor))))))) ?_)
      all_goals (first | (simp only [x9, nz, rn, nzShape, h4, f6, h7, Int.reduceLT, Int.reduceEq, List.contains_cons, List.contains_nil, Option.map_some, Option.map_none, reduceIte, reduceCtorEq, Nat.reduceEqDiff, Nat.reduceLT, Nat.reduceBEq, Nat.reduceAdd, Nat.reduceMul, Nat.reduceLeDiff, Nat.reduceSub, Bool.false_eq_true]; try rfl) | skip)
    · refine sim_some ?_
      refine evI_ret (x := x9) rfl rfl ?_
      try simp only [nz, nzShape] at f3
      try simp only [nz, nzShape] at f6
      refine' (w_fn rfl rfl (w_seq (w_reg (w_cons ?_ (w_cons ?_ w_nil)) ?_) (w_go (w_seq (w_seq f3 (w_go (w_condf ?_ w_skip ?_))) (w_go (w_seq (w_reg (w_cons ?_ (w_cons ?_ (w_cons ?_ (w_cons ?_ (w_cons ?_ (w_cons ?_ (w_cons ?_ w_nil))))))) ?_) (w_go (w_seq (w_seq (w_reg (w_cons ?_ (w_cons ?_ (w_cons ?_ w_nil))) ?_) (w_go (w_seq (w_reg (w_cons ?_ (w_cons ?_ w_nil)) ?_) (w_go (w_condf ?_ w_skip ?_))))) (w_go (w_seq (w_reg (w_cons ?_ (w_cons ?_ (w_cons ?_ w_nil))) ?_) (w_go w_ret)))))))))) ?_)
      all_goals (first | (simp only [x9, nz, rn, nzShape, h4, f6, h7, Int.reduceLT, Int.reduceEq, List.contains_cons, List.contains_nil, Option.map_some, Option.map_none, reduceIte, reduceCtorEq, Nat.reduceEqDiff, Nat.reduceLT, Nat.reduceBEq, Nat.reduceAdd, Nat.reduceMul, Nat.reduceLeDiff, Nat.reduceSub, Bool.false_eq_true]; try rfl) | skip)
theorem r03_Check_j1_ok (p0 : Shape) : evX (evI T) x12_1 [(1, .box [.int .i64 p0.Slots, .int .i64 p0.Mask])] = some (.norm, [(1, .box [.int .i64 p0.Slots, .int .i64 p0.Mask]), (10, .bool (((decide (p0.Slots < 0)) || (decide (16 < p0.Slots)))))]) := by
  rcases Bool.eq_false_or_eq_true (decide (p0.Slots < 0)) with h1 | h1
  · refine' (w_reg (w_cons ?_ (w_cons ?_ (w_cons ?_ (w_cons ?_ (w_cons ?_ (w_cons ?_ (w_cons ?_ (w_cons ?_ w_nil)))))))) ?_)
    all_goals (first | (simp only [nz, rn, nzShape, h1, Int.reduceLT, Int.reduceEq, List.contains_cons, List.contains_nil, Option.map_some, Option.map_none, reduceIte, reduceCtorEq, Nat.reduceEqDiff, Nat.reduceLT, Nat.reduceBEq, Nat.reduceAdd, Nat.reduceMul, Nat.reduceLeDiff, Nat.reduceSub, Bool.false_eq_true]; try rfl) | skip)
  · refine' (w_reg (w_cons ?_ (w_cons ?_ (w_cons ?_ (w_cons ?_ (w_cons ?_ (w_cons ?_ (w_cons ?_ (w_cons ?_ w_nil)))))))) ?_)
    all_goals (first | (simp only [nz, rn, nzShape, h1, Int.reduceLT, Int.reduceEq, List.contains_cons, List.contains_nil, Option.map_some, Option.map_none, reduceIte, reduceCtorEq, Nat.reduceEqDiff, Nat.reduceLT, Nat.reduceBEq, Nat.reduceAdd, Nat.reduceMul, Nat.reduceLeDiff, Nat.reduceSub, Bool.false_eq_true]; try rfl) | skip)
theorem r03_Check_j2_ok (p0 : Shape) : Sim (r03_Check_j2 p0) fun r => evX (evI T) x12_2 [(1, .box [.int .i64 p0.Slots, .int .i64 p0.Mask])] = some (.norm, [(21, .bool r)]) := by
  unfold r03_Check_j2
  refine sim_if (fun h5 => ?_) (fun h5 => ?_)
  · refine sim_some ?_
    refine' (w_regD ?_ ?_ (w_consD rfl ?_ ?_ ?_ (w_consD rfl ?_ ?_ ?_ (w_consD rfl ?_ ?_ ?_ (w_consD rfl ?_ ?_ ?_ (w_consD rfl ?_ ?_ ?_ (w_consD rfl ?_ ?_ ?_ (w_consD rfl ?_ ?_ ?_ (w_consD rfl ?_ ?_ ?_ (w_consD rfl ?_ ?_ ?_ (w_consD rfl ?_ ?_ ?_ (w_consD rfl ?_ ?_ ?_ w_nilD))))))))))) ?_)
    all_goals (first | (simp only [nz, rn, nzShape, h5, Int.reduceLT, Int.reduceEq, List.contains_cons, List.contains_nil, Option.map_some, Option.map_none, reduceIte, reduceCtorEq, Nat.reduceEqDiff, Nat.reduceLT, Nat.reduceBEq, Nat.reduceAdd, Nat.reduceMul, Nat.reduceLeDiff, Nat.reduceSub, Bool.false_eq_true]; try rfl) | skip)
  · refine sim_bind (fun r2 h6 => ?_)
    have f7 := r03_power_ok p0.Slots _ h6
    dsimp only at f7
    refine sim_some ?_
    try simp only [nz, nzShape] at f7
    refine' (w_regD ?_ ?_ (w_consD rfl ?_ ?_ ?_ (w_consD rfl ?_ ?_ ?_ (w_consD rfl ?_ ?_ ?_ (w_consD rfl ?_ ?_ ?_ (w_consD rfl ?_ ?_ ?_ (w_consD rfl ?_ ?_ ?_ (w_consD rfl ?_ ?_ ?_ (w_consD rfl ?_ ?_ ?_ (w_consD rfl ?_ ?_ ?_ (w_consD rfl ?_ ?_ ?_ (w_consD rfl ?_ ?_ ?_ w_nilD))))))))))) ?_)
    all_goals (first | (simp only [nz, rn, nzShape, h5, f7, Int.reduceLT, Int.reduceEq, List.contains_cons, List.contains_nil, Option.map_some, Option.map_none, reduceIte, reduceCtorEq, Nat.reduceEqDiff, Nat.reduceLT, Nat.reduceBEq, Nat.reduceAdd, Nat.reduceMul, Nat.reduceLeDiff, Nat.reduceSub, Bool.false_eq_true]; try rfl) | skip)
theorem r03_Check_ok (p0 : Shape) : Sim (r03_Check p0) fun r => evI T 12 [.agg [.int .i64 p0.Slots, .int .i64 p0.Mask]] = some (.int .i64 r, [.none]) := by
  unfold r03_Check
  have f3 := r03_Check_j1_ok p0
  refine sim_if (fun h4 => ?_) (fun h4 => ?_)
  · refine sim_some ?_
    refine evI_ret (x := x12) rfl rfl ?_
    try simp only [nz, nzShape] at f3
    refine' (w_fn rfl rfl (w_seq (w_reg (w_cons ?_ (w_cons ?_ w_nil)) ?_) (w_go (w_seq (w_seq f3 (w_go (w_condt ?_ (w_seq (w_reg (w_cons ?_ w_nil) ?_) (w_go w_ret)) ?_))) w_gor))) ?_)
    all_goals (first | (simp only [x12, nz, rn, nzShape, h4, Int.reduceLT, Int.reduceEq, List.contains_cons, List.contains_nil, Option.map_some, Option.map_none, reduceIte, reduceCtorEq, Nat.reduceEqDiff, Nat.reduceLT, Nat.reduceBEq, Nat.reduceAdd, Nat.reduceMul, Nat.reduceLeDiff, Nat.reduceSub, Bool.false_eq_true]; try rfl) | skip)
  · refine sim_bind (fun v3 h8 => ?_)
    have f9 := r03_Check_j2_ok p0 _ h8
    dsimp only at f9
    refine sim_if (fun h10 => ?_) (fun h10 => ?_)
    · refine sim_some ?_
      refine evI_ret (x := x12) rfl rfl ?_
      try simp only [nz, nzShape] at f3
      try simp only [nz, nzShape] at f9
      refine' (w_fn rfl rfl (w_seq (w_reg (w_cons ?_ (w_cons ?_ w_nil)) ?_) (w_go (w_seq (w_seq f3 (w_go (w_condf ?_ w_skip ?_))) (w_go (w_seq (w_seq f9 (w_go (w_condt ?_ (w_seq (w_reg (w_cons ?_ w_nil) ?_) (w_go w_ret)) ?_))) w_gor))))) ?_)
      all_goals (first | (simp only [x12, nz, rn, nzShape, h4, h10, Int.reduceLT, Int.reduceEq, List.contains_cons, List.contains_nil, Option.map_some, Option.map_none, reduceIte, reduceCtorEq, Nat.reduceEqDiff, Nat.reduceLT, Nat.reduceBEq, Nat.reduceAdd, Nat.reduceMul, Nat.reduceLeDiff, Nat.reduceSub, Bool.false_eq_true]; try rfl) | skip)
    · refine sim_some ?_
      refine evI_ret (x := x12) rfl rfl ?_
      try simp only [nz, nzShape] at f3
      try simp only [nz, nzShape] at f9
      refine' (w_fn rfl rfl (w_seq (w_reg (w_cons ?_ (w_cons ?_ w_nil)) ?_) (w_go (w_seq (w_seq f3 (w_go (w_condf ?_ w_skip ?_))) (w_go (w_seq (w_seq f9 (w_go (w_condf ?_ w_skip ?_))) (w_go (w_seq (w_reg (w_cons ?_ w_nil) ?_) (w_go w_ret)))))))) ?_)
      all_goals (first | (simp only [x12, nz, rn, nzShape, h4, h10, Int.reduceLT, Int.reduceEq, List.contains_cons, List.contains_nil, Option.map_some, Option.map_none, reduceIte, reduceCtorEq, Nat.reduceEqDiff, Nat.reduceLT, Nat.reduceBEq, Nat.reduceAdd, Nat.reduceMul, Nat.reduceLeDiff, Nat.reduceSub, Bool.false_eq_true]; try rfl) | skip)
theorem r03_Of_j1_ok (p0 : Int) : evX (evI T) x10_1 [(0, .int .i64 p0), (2, .box [.int .i64 0, .int .i64 0])] = some (.norm, [(0, .int .i64 p0), (2, .box [.int .i64 0, .int .i64 0]), (11, .bool (((decide (p0 < 0)) || (decide (2097152 ≤ p0)))))]) := by
  rcases Bool.eq_false_or_eq_true (decide (p0 < 0)) with h1 | h1
  · refine' (w_reg (w_cons ?_ (w_cons ?_ (w_cons ?_ (w_cons ?_ (w_cons ?_ (w_cons ?_ w_nil)))))) ?_)
    all_goals (first | (simp only [nz, rn, h1, Int.reduceLT, Int.reduceEq, List.contains_cons, List.contains_nil, Option.map_some, Option.map_none, reduceIte, reduceCtorEq, Nat.reduceEqDiff, Nat.reduceLT, Nat.reduceBEq, Nat.reduceAdd, Nat.reduceMul, Nat.reduceLeDiff, Nat.reduceSub, Bool.false_eq_true]; try rfl) | skip)
  · refine' (w_reg (w_cons ?_ (w_cons ?_ (w_cons ?_ (w_cons ?_ (w_cons ?_ (w_cons ?_ w_nil)))))) ?_)
    all_goals (first | (simp only [nz, rn, h1, Int.reduceLT, Int.reduceEq, List.contains_cons, List.contains_nil, Option.map_some, Option.map_none, reduceIte, reduceCtorEq, Nat.reduceEqDiff, Nat.reduceLT, Nat.reduceBEq, Nat.reduceAdd, Nat.reduceMul, Nat.reduceLeDiff, Nat.reduceSub, Bool.false_eq_true]; try rfl) | skip)
theorem r03_Of_ok (p0 : Int) : Sim (r03_Of p0) fun r => evI T 10 [.int .i64 p0] = some (.tup [.agg [.int .i64 r.1.Slots, .int .i64 r.1.Mask], .int .i64 r.2], [.none]) := by
  unfold r03_Of
  have f3 := r03_Of_j1_ok p0
  refine sim_if (fun h4 => ?_) (fun h4 => ?_)
  · refine sim_some ?_
    refine evI_ret (x := x10) rfl rfl ?_
    try simp only [nz, nzShape] at f3
    refine' (w_fn rfl rfl (w_seq (w_reg (w_cons ?_ (w_cons ?_ w_nil)) ?_) (w_go (w_seq (w_seq f3 (w_go (w_condt ?_ (w_seq (w_reg (w_cons ?_ (w_cons ?_ (w_cons ?_ w_nil))) ?_) (w_go w_ret)) ?_))) w_gor))) ?_)
    all_goals (first | (simp only [x10, nz, rn, nzShape, h4, Int.reduceLT, Int.reduceEq, List.contains_cons, List.contains_nil, Option.map_some, Option.map_none, reduceIte, reduceCtorEq, Nat.reduceEqDiff, Nat.reduceLT, Nat.reduceBEq, Nat.reduceAdd, Nat.reduceMul, Nat.reduceLeDiff, Nat.reduceSub, Bool.false_eq_true]; try rfl) | skip)
  · refine sim_bind (fun r2 h5 => ?_)
    have f6 := r03_Check_ok ((⟨Int.tmod p0 32, IntKind.wrap .i64 (Int.tdiv p0 32)⟩ : Shape)) _ h5
    dsimp only at f6
    refine sim_if (fun h7 => ?_) (fun h7 => ?_)
    · refine sim_some ?_
      refine evI_ret (x := x10) rfl rfl ?_
      try simp only [nz, nzShape] at f3
      try simp only [nz, nzShape] at f6
      refine' (w_fn rfl rfl (w_seq (w_reg (w_cons ?_ (w_cons ?_ w_nil)) ?_) (w_go (w_seq (w_seq f3 (w_go (w_condf ?_ w_skip ?_))) (w_go (w_seq (w_reg (w_cons ?_ (w_cons ?_ (w_cons ?_ (w_cons ?_ (w_cons ?_ (w_cons ?_ (w_cons ?_ w_nil))))))) ?_) (w_go (w_seq (w_seq (w_reg (w_cons ?_ (w_cons ?_ (w_cons ?_ w_nil))) ?_) (w_go (w_seq (w_reg (w_cons ?_ (w_cons ?_ w_nil)) ?_) (w_go (w_condt ?_ (w_seq (w_reg (w_cons ?_ (w_cons ?_ (w_cons ?_ (w_cons ?_ w_nil)))) ?_) (w_go w_ret)) ?_))))) w_gor))))))) ?_)
      all_goals (first | (simp only [x10, nz, rn, nzShape, h4, f6, h7, Int.reduceLT, Int.reduceEq, List.contains_cons, List.contains_nil, Option.map_some, Option.map_none, reduceIte, reduceCtorEq, Nat.reduceEqDiff, Nat.reduceLT, Nat.reduceBEq, Nat.reduceAdd, Nat.reduceMul, Nat.reduceLeDiff, Nat.reduceSub, Bool.false_eq_true]; try rfl) | skip)
    · refine sim_some ?_
      refine evI_ret (x := x10) rfl rfl ?_
      try simp only [nz, nzShape] at f3
      try simp only [nz, nzShape] at f6
      refine' (w_fn rfl rfl (w_seq (w_reg (w_cons ?_ (w_cons ?_ w_nil)) ?_) (w_go (w_seq (w_seq f3 (w_go (w_condf ?_ w_skip ?_))) (w_go (w_seq (w_reg (w_cons ?_ (w_cons ?_ (w_cons ?_ (w_cons ?_ (w_cons ?_ (w_cons ?_ (w_cons ?_ w_nil))))))) ?_) (w_go (w_seq (w_seq (w_reg (w_cons ?_ (w_cons ?_ (w_cons ?_ w_nil))) ?_) (w_go (w_seq (w_reg (w_cons ?_ (w_cons ?_ w_nil)) ?_) (w_go (w_condf ?_ w_skip ?_))))) (w_go (w_seq (w_reg (w_cons ?_ (w_cons ?_ (w_cons ?_ w_nil))) ?_) (w_go w_ret)))))))))) ?_)
      all_goals (first | (simp only [x10, nz, rn, nzShape, h4, f6, h7, Int.reduceLT, Int.reduceEq, List.contains_cons, List.contains_nil, Option.map_some, Option.map_none, reduceIte, reduceCtorEq, Nat.reduceEqDiff, Nat.reduceLT, Nat.reduceBEq, Nat.reduceAdd, Nat.reduceMul, Nat.reduceLeDiff, Nat.reduceSub, Bool.false_eq_true]; try rfl) | skip)
theorem shape_Pointer_j1_ok (p0 : Shape) (p1 : Int) : Sim (shape_Pointer_j1 p0 p1) fun r => evX (evI T) x13_1 [(1, .int .i64 p1), (2, .box [.int .i64 p0.Slots, .int .i64 p0.Mask])] = some (.norm, [(4, .bool r)]) := by
  unfold shape_Pointer_j1
  refine sim_if (fun h1 => ?_) (fun h1 => ?_)
  · refine sim_if (fun h2 => ?_) (fun h2 => ?_)
    · refine sim_bind (fun r1 h3 => ?_)
      have f4 := shape_bits_ok  _ h3
      dsimp only at f4
      refine sim_bind (fun x_2 h5 => ?_)
      have f6 := ixa_ok h5
      have f6a := ixa_int (kd := .i64) h5
      have f6b := ixa_le h5
      refine sim_some ?_
      try simp only [nz, nzShape] at f4
      refine' (w_regD ?_ ?_ (w_consD rfl ?_ ?_ ?_ (w_consD rfl ?_ ?_ ?_ (w_consD rfl ?_ ?_ ?_ (w_consD rfl ?_ ?_ ?_ (w_consD rfl ?_ ?_ ?_ (w_consD rfl ?_ ?_ ?_ (w_consD rfl ?_ ?_ ?_ (w_consD rfl ?_ ?_ ?_ (w_consD rfl ?_ ?_ ?_ (w_consD rfl ?_ ?_ ?_ (w_consD rfl ?_ ?_ ?_ (w_consD rfl ?_ ?_ ?_ (w_consD rfl ?_ ?_ ?_ (w_consD rfl ?_ ?_ ?_ (w_consD rfl ?_ ?_ ?_ (w_consD rfl ?_ ?_ ?_ (w_consD rfl ?_ ?_ ?_ (w_barD rfl rfl (w_cons ?_ w_nil))))))))))))))))))) ?_)
      all_goals (first | (simp only [nz, rn, nzShape, h1, h2, f4, f6, f6a, f6b, Int.reduceLT, Int.reduceEq, List.contains_cons, List.contains_nil, Option.map_some, Option.map_none, reduceIte, reduceCtorEq, Nat.reduceEqDiff, Nat.reduceLT, Nat.reduceBEq, Nat.reduceAdd, Nat.reduceMul, Nat.reduceLeDiff, Nat.reduceSub, Bool.false_eq_true]; try rfl) | skip)
    · refine sim_some ?_
      refine' (w_regD ?_ ?_ (w_consD rfl ?_ ?_ ?_ (w_consD rfl ?_ ?_ ?_ (w_consD rfl ?_ ?_ ?_ (w_consD rfl ?_ ?_ ?_ (w_consD rfl ?_ ?_ ?_ (w_consD rfl ?_ ?_ ?_ (w_consD rfl ?_ ?_ ?_ (w_consD rfl ?_ ?_ ?_ (w_consD rfl ?_ ?_ ?_ (w_consD rfl ?_ ?_ ?_ (w_consD rfl ?_ ?_ ?_ (w_consD rfl ?_ ?_ ?_ (w_consD rfl ?_ ?_ ?_ (w_consD rfl ?_ ?_ ?_ (w_consD rfl ?_ ?_ ?_ (w_consD rfl ?_ ?_ ?_ (w_consD rfl ?_ ?_ ?_ (w_barD rfl rfl (w_cons ?_ w_nil))))))))))))))))))) ?_)
      all_goals (first | (simp only [nz, rn, nzShape, h1, h2, Int.reduceLT, Int.reduceEq, List.contains_cons, List.contains_nil, Option.map_some, Option.map_none, reduceIte, reduceCtorEq, Nat.reduceEqDiff, Nat.reduceLT, Nat.reduceBEq, Nat.reduceAdd, Nat.reduceMul, Nat.reduceLeDiff, Nat.reduceSub, Bool.false_eq_true]; try rfl) | skip)
  · refine sim_some ?_
    refine' (w_regD ?_ ?_ (w_consD rfl ?_ ?_ ?_ (w_consD rfl ?_ ?_ ?_ (w_consD rfl ?_ ?_ ?_ (w_consD rfl ?_ ?_ ?_ (w_consD rfl ?_ ?_ ?_ (w_consD rfl ?_ ?_ ?_ (w_consD rfl ?_ ?_ ?_ (w_consD rfl ?_ ?_ ?_ (w_consD rfl ?_ ?_ ?_ (w_consD rfl ?_ ?_ ?_ (w_consD rfl ?_ ?_ ?_ (w_consD rfl ?_ ?_ ?_ (w_consD rfl ?_ ?_ ?_ (w_consD rfl ?_ ?_ ?_ (w_consD rfl ?_ ?_ ?_ (w_consD rfl ?_ ?_ ?_ (w_consD rfl ?_ ?_ ?_ (w_barD rfl rfl (w_cons ?_ w_nil))))))))))))))))))) ?_)
    all_goals (first | (simp only [nz, rn, nzShape, h1, Int.reduceLT, Int.reduceEq, List.contains_cons, List.contains_nil, Option.map_some, Option.map_none, reduceIte, reduceCtorEq, Nat.reduceEqDiff, Nat.reduceLT, Nat.reduceBEq, Nat.reduceAdd, Nat.reduceMul, Nat.reduceLeDiff, Nat.reduceSub, Bool.false_eq_true]; try rfl) | skip)
theorem shape_Pointer_ok (p0 : Shape) (p1 : Int) : Sim (shape_Pointer p0 p1) fun r => evI T 13 [.agg [.int .i64 p0.Slots, .int .i64 p0.Mask], .int .i64 p1] = some (.bool r, [.none, .none]) := by
  unfold shape_Pointer
  refine sim_bind (fun v3 h7 => ?_)
  have f8 := shape_Pointer_j1_ok p0 p1 _ h7
  dsimp only at f8
  refine sim_some ?_
  refine evI_ret (x := x13) rfl rfl ?_
  try simp only [nz, nzShape] at f8
  refine' (w_fn rfl rfl (w_seq (w_reg (w_cons ?_ (w_cons ?_ w_nil)) ?_) (w_go (w_seq f8 (w_go w_ret)))) ?_)
  all_goals (first | (simp only [x13, nz, rn, nzShape, Int.reduceLT, Int.reduceEq, List.contains_cons, List.contains_nil, Option.map_some, Option.map_none, reduceIte, reduceCtorEq, Nat.reduceEqDiff, Nat.reduceLT, Nat.reduceBEq, Nat.reduceAdd, Nat.reduceMul, Nat.reduceLeDiff, Nat.reduceSub, Bool.false_eq_true]; try rfl) | skip)
theorem r03_Pointer_j1_ok (p0 : Shape) (p1 : Int) : evX (evI T) x14_1 [(1, .int .i64 p1), (2, .box [.int .i64 p0.Slots, .int .i64 p0.Mask])] = some (.norm, [(1, .int .i64 p1), (2, .box [.int .i64 p0.Slots, .int .i64 p0.Mask]), (12, .bool (((decide (p1 < 0)) || (decide (p0.Slots ≤ p1)))))]) := by
  rcases Bool.eq_false_or_eq_true (decide (p1 < 0)) with h1 | h1
  · refine' (w_reg (w_cons ?_ (w_cons ?_ (w_cons ?_ (w_cons ?_ (w_cons ?_ (w_cons ?_ (w_cons ?_ (w_cons ?_ w_nil)))))))) ?_)
    all_goals (first | (simp only [nz, rn, nzShape, h1, Int.reduceLT, Int.reduceEq, List.contains_cons, List.contains_nil, Option.map_some, Option.map_none, reduceIte, reduceCtorEq, Nat.reduceEqDiff, Nat.reduceLT, Nat.reduceBEq, Nat.reduceAdd, Nat.reduceMul, Nat.reduceLeDiff, Nat.reduceSub, Bool.false_eq_true]; try rfl) | skip)
  · refine' (w_reg (w_cons ?_ (w_cons ?_ (w_cons ?_ (w_cons ?_ (w_cons ?_ (w_cons ?_ (w_cons ?_ (w_cons ?_ w_nil)))))))) ?_)
    all_goals (first | (simp only [nz, rn, nzShape, h1, Int.reduceLT, Int.reduceEq, List.contains_cons, List.contains_nil, Option.map_some, Option.map_none, reduceIte, reduceCtorEq, Nat.reduceEqDiff, Nat.reduceLT, Nat.reduceBEq, Nat.reduceAdd, Nat.reduceMul, Nat.reduceLeDiff, Nat.reduceSub, Bool.false_eq_true]; try rfl) | skip)
theorem r03_Pointer_ok (p0 : Shape) (p1 : Int) : Sim (r03_Pointer p0 p1) fun r => evI T 14 [.agg [.int .i64 p0.Slots, .int .i64 p0.Mask], .int .i64 p1] = some (.bool r, [.none, .none]) := by
  unfold r03_Pointer
  have f3 := r03_Pointer_j1_ok p0 p1
  refine sim_if (fun h4 => ?_) (fun h4 => ?_)
  · refine sim_some ?_
    refine evI_ret (x := x14) rfl rfl ?_
    try simp only [nz, nzShape] at f3
    refine' (w_fn rfl rfl (w_seq (w_reg (w_cons ?_ (w_cons ?_ w_nil)) ?_) (w_go (w_seq (w_seq f3 (w_go (w_condt ?_ (w_seq (w_reg (w_cons ?_ w_nil) ?_) (w_go w_ret)) ?_))) w_gor))) ?_)
    all_goals (first | (simp only [x14, nz, rn, nzShape, h4, Int.reduceLT, Int.reduceEq, List.contains_cons, List.contains_nil, Option.map_some, Option.map_none, reduceIte, reduceCtorEq, Nat.reduceEqDiff, Nat.reduceLT, Nat.reduceBEq, Nat.reduceAdd, Nat.reduceMul, Nat.reduceLeDiff, Nat.reduceSub, Bool.false_eq_true]; try rfl) | skip)
  · refine sim_bind (fun r2 h5 => ?_)
    have f6 := r03_power_ok p1 _ h5
    dsimp only at f6
    refine sim_if (fun h7 => ?_) (fun h7 => ?_)
    · exact sim_none
    · refine sim_some ?_
      refine evI_ret (x := x14) rfl rfl ?_
      try simp only [nz, nzShape] at f3
      try simp only [nz, nzShape] at f6
      refine' (w_fn rfl rfl (w_seq (w_reg (w_cons ?_ (w_cons ?_ w_nil)) ?_) (w_go (w_seq (w_seq f3 (w_go (w_condf ?_ w_skip ?_))) (w_go (w_seq (w_regD ?_ ?_ (w_consD rfl ?_ ?_ ?_ (w_consD rfl ?_ ?_ ?_ (w_consD rfl ?_ ?_ ?_ (w_consD rfl ?_ ?_ ?_ (w_consD rfl ?_ ?_ ?_ (w_consD rfl ?_ ?_ ?_ (w_consD rfl ?_ ?_ ?_ (w_barD rfl rfl (w_cons ?_ w_nil))))))))) ?_) (w_go w_ret)))))) ?_)
      all_goals (first | (simp only [x14, nz, rn, nzShape, h4, f6, of_decide_eq_false h7, h7, Int.reduceLT, Int.reduceEq, List.contains_cons, List.contains_nil, Option.map_some, Option.map_none, reduceIte, reduceCtorEq, Nat.reduceEqDiff, Nat.reduceLT, Nat.reduceBEq, Nat.reduceAdd, Nat.reduceMul, Nat.reduceLeDiff, Nat.reduceSub, Bool.false_eq_true]; try rfl) | skip)
theorem shape_Pointers_j4_ok (p0 : Shape) (n1 : Int) (v2 : Int) (r3 : Bool) : evX (evI T) x15_1 [(1, .box [.int .i64 p0.Slots, .int .i64 p0.Mask]), (3, .int .i64 n1), (6, .int .i64 p0.Slots), (7, .int .i64 v2), (12, .bool r3)] = some (.norm, [(1, .box [.int .i64 p0.Slots, .int .i64 p0.Mask]), (3, .int .i64 ((if r3 then IntKind.wrap .i64 (n1 + 1) else n1))), (6, .int .i64 p0.Slots), (7, .int .i64 v2)]) := by
  rcases Bool.eq_false_or_eq_true (r3) with h4 | h4
  · refine' (w_condt ?_ (w_reg (w_cons ?_ (w_cons ?_ (w_cons ?_ w_nil))) ?_) ?_)
    all_goals (first | (simp only [nz, rn, nzShape, h4, Int.reduceLT, Int.reduceEq, List.contains_cons, List.contains_nil, Option.map_some, Option.map_none, reduceIte, reduceCtorEq, Nat.reduceEqDiff, Nat.reduceLT, Nat.reduceBEq, Nat.reduceAdd, Nat.reduceMul, Nat.reduceLeDiff, Nat.reduceSub, Bool.false_eq_true]; try rfl) | skip)
  · refine' (w_condf ?_ w_skip ?_)
    all_goals (first | (simp only [nz, rn, nzShape, h4, Int.reduceLT, Int.reduceEq, List.contains_cons, List.contains_nil, Option.map_some, Option.map_none, reduceIte, reduceCtorEq, Nat.reduceEqDiff, Nat.reduceLT, Nat.reduceBEq, Nat.reduceAdd, Nat.reduceMul, Nat.reduceLeDiff, Nat.reduceSub, Bool.false_eq_true]; try rfl) | skip)
theorem shape_Pointers_l5_bok (p0 : Shape) (n1 : Int) (v2 : Int) : Sim (shape_Pointers_l5_b p0 n1 v2) fun x => fgt [1, 3, 6, 7] (evX (evI T) x15_2 [(1, .box [.int .i64 p0.Slots, .int .i64 p0.Mask]), (3, .int .i64 n1), (6, .int .i64 p0.Slots), (7, .int .i64 v2)]) = some (stpK (fun s => (.norm, [(1, .box [.int .i64 p0.Slots, .int .i64 p0.Mask]), (3, .int .i64 s.1), (6, .int .i64 p0.Slots), (7, .int .i64 s.2)])) (fun r => (.exit 0, [(3, .int .i64 r)])) x) := by
  unfold shape_Pointers_l5_b
  refine sim_if (fun h1 => ?_) (fun h1 => ?_)
  · refine sim_bind (fun r3 h2 => ?_)
    have f3 := shape_Pointer_ok p0 v2 _ h2
    dsimp only at f3
    have f6 := shape_Pointers_j4_ok p0 n1 v2 r3
    refine sim_some ?_
    try simp only [nz, nzShape] at f3
    try simp only [nz, nzShape] at f6
    refine' (w_fgt (w_seq (w_reg (w_cons ?_ w_nil) ?_) (w_go (w_seq (w_condt ?_ w_skip ?_) (w_go (w_seq (w_block (w_seq (w_reg (w_cons ?_ (w_cons ?_ w_nil)) ?_) (w_go (w_seq (w_reg (w_cons ?_ (w_cons ?_ (w_cons ?_ w_nil))) ?_) (w_go f6)))) ?_) (w_go (w_reg (w_cons ?_ (w_cons ?_ w_nil)) ?_))))))) ?_)
    all_goals (first | (simp only [nz, rn, nzShape, h1, f3, Int.reduceLT, Int.reduceEq, List.contains_cons, List.contains_nil, Option.map_some, Option.map_none, reduceIte, reduceCtorEq, Nat.reduceEqDiff, Nat.reduceLT, Nat.reduceBEq, Nat.reduceAdd, Nat.reduceMul, Nat.reduceLeDiff, Nat.reduceSub, Bool.false_eq_true]; try rfl) | skip)
  · refine sim_some ?_
    refine' (w_fgt (w_seq (w_reg (w_cons ?_ w_nil) ?_) (w_go (w_seq (w_condf ?_ (w_exit ?_) ?_) w_gox))) ?_)
    all_goals (first | (simp only [nz, rn, nzShape, h1, Int.reduceLT, Int.reduceEq, List.contains_cons, List.contains_nil, Option.map_some, Option.map_none, reduceIte, reduceCtorEq, Nat.reduceEqDiff, Nat.reduceLT, Nat.reduceBEq, Nat.reduceAdd, Nat.reduceMul, Nat.reduceLeDiff, Nat.reduceSub, Bool.false_eq_true]; try rfl) | skip)
theorem shape_Pointers_l5_ok (p0 : Shape) (s : Int × Int) : Sim (shape_Pointers_l5 p0 s) fun r => evX (evI T) (.loop x15_2 [1, 3, 6, 7]) [(1, .box [.int .i64 p0.Slots, .int .i64 p0.Mask]), (3, .int .i64 s.1), (6, .int .i64 p0.Slots), (7, .int .i64 s.2)] = some (.exit 0, [(3, .int .i64 r)]) := by
  unfold shape_Pointers_l5
  exact loop_rule (C := evI T) (b := x15_2) (ks := [1, 3, 6, 7]) (σ := Int × Int) (ρ := Int) (body := fun s => shape_Pointers_l5_b p0 s.1 s.2) (E := fun s => [(1, .box [.int .i64 p0.Slots, .int .i64 p0.Mask]), (3, .int .i64 s.1), (6, .int .i64 p0.Slots), (7, .int .i64 s.2)]) (R := fun r => (.exit 0, [(3, .int .i64 r)])) (fun r h => nomatch h) (fun s => shape_Pointers_l5_bok p0 s.1 s.2) s
theorem shape_Pointers_ok (p0 : Shape) : Sim (shape_Pointers p0) fun r => evI T 15 [.agg [.int .i64 p0.Slots, .int .i64 p0.Mask]] = some (.int .i64 r, [.none]) := by
  unfold shape_Pointers
  refine sim_bind (fun n5 h7 => ?_)
  have f8 := shape_Pointers_l5_ok p0 (0, 0) _ h7
  dsimp only at f8
  refine sim_some ?_
  refine evI_ret (x := x15) rfl rfl ?_
  try simp only [nz, nzShape] at f8
  refine' (w_fn rfl rfl (w_seq (w_reg (w_cons ?_ (w_cons ?_ w_nil)) ?_) (w_go (w_seq (w_reg (w_cons ?_ w_nil) ?_) (w_go (w_seq (w_seq (w_reg (w_cons ?_ (w_cons ?_ (w_cons ?_ w_nil))) ?_) (w_go (w_block f8 ?_))) (w_go (w_seq (w_reg (w_cons ?_ (w_cons ?_ w_nil)) ?_) (w_go w_ret)))))))) ?_)
  all_goals (first | (simp only [x15, nz, rn, nzShape, Int.reduceLT, Int.reduceEq, List.contains_cons, List.contains_nil, Option.map_some, Option.map_none, reduceIte, reduceCtorEq, Nat.reduceEqDiff, Nat.reduceLT, Nat.reduceBEq, Nat.reduceAdd, Nat.reduceMul, Nat.reduceLeDiff, Nat.reduceSub, Bool.false_eq_true]; try rfl) | skip)
theorem r03_Pointers_j4_ok (p0 : Shape) (n1 : Int) (i2 : Int) (r3 : Bool) : evX (evI T) x16_1 [(1, .box [.int .i64 p0.Slots, .int .i64 p0.Mask]), (3, .int .i64 n1), (4, .int .i64 i2), (13, .bool r3)] = some (.norm, [(1, .box [.int .i64 p0.Slots, .int .i64 p0.Mask]), (3, .int .i64 ((if r3 then IntKind.wrap .i64 (n1 + 1) else n1))), (4, .int .i64 i2)]) := by
  rcases Bool.eq_false_or_eq_true (r3) with h4 | h4
  · refine' (w_condt ?_ (w_reg (w_cons ?_ (w_cons ?_ (w_cons ?_ w_nil))) ?_) ?_)
    all_goals (first | (simp only [nz, rn, nzShape, h4, Int.reduceLT, Int.reduceEq, List.contains_cons, List.contains_nil, Option.map_some, Option.map_none, reduceIte, reduceCtorEq, Nat.reduceEqDiff, Nat.reduceLT, Nat.reduceBEq, Nat.reduceAdd, Nat.reduceMul, Nat.reduceLeDiff, Nat.reduceSub, Bool.false_eq_true]; try rfl) | skip)
  · refine' (w_condf ?_ w_skip ?_)
    all_goals (first | (simp only [nz, rn, nzShape, h4, Int.reduceLT, Int.reduceEq, List.contains_cons, List.contains_nil, Option.map_some, Option.map_none, reduceIte, reduceCtorEq, Nat.reduceEqDiff, Nat.reduceLT, Nat.reduceBEq, Nat.reduceAdd, Nat.reduceMul, Nat.reduceLeDiff, Nat.reduceSub, Bool.false_eq_true]; try rfl) | skip)
theorem r03_Pointers_l5_bok (p0 : Shape) (n1 : Int) (i2 : Int) : Sim (r03_Pointers_l5_b p0 n1 i2) fun x => fgt [1, 3, 4] (evX (evI T) x16_2 [(1, .box [.int .i64 p0.Slots, .int .i64 p0.Mask]), (3, .int .i64 n1), (4, .int .i64 i2)]) = some (stpK (fun s => (.norm, [(1, .box [.int .i64 p0.Slots, .int .i64 p0.Mask]), (3, .int .i64 s.1), (4, .int .i64 s.2)])) (fun r => (.exit 0, [(3, .int .i64 r)])) x) := by
  unfold r03_Pointers_l5_b
  refine sim_if (fun h1 => ?_) (fun h1 => ?_)
  · refine sim_bind (fun r3 h2 => ?_)
    have f3 := r03_Pointer_ok p0 i2 _ h2
    dsimp only at f3
    have f6 := r03_Pointers_j4_ok p0 n1 i2 r3
    refine sim_some ?_
    try simp only [nz, nzShape] at f3
    try simp only [nz, nzShape] at f6
    refine' (w_fgt (w_seq (w_seq (w_reg (w_cons ?_ (w_cons ?_ (w_cons ?_ (w_cons ?_ w_nil)))) ?_) (w_go (w_condt ?_ w_skip ?_))) (w_go (w_seq (w_block (w_seq (w_reg (w_cons ?_ (w_cons ?_ (w_cons ?_ w_nil))) ?_) (w_go f6)) ?_) (w_go (w_reg (w_cons ?_ (w_cons ?_ (w_cons ?_ w_nil))) ?_))))) ?_)
    all_goals (first | (simp only [nz, rn, nzShape, h1, f3, Int.reduceLT, Int.reduceEq, List.contains_cons, List.contains_nil, Option.map_some, Option.map_none, reduceIte, reduceCtorEq, Nat.reduceEqDiff, Nat.reduceLT, Nat.reduceBEq, Nat.reduceAdd, Nat.reduceMul, Nat.reduceLeDiff, Nat.reduceSub, Bool.false_eq_true]; try rfl) | skip)
  · refine sim_some ?_
    refine' (w_fgt (w_seq (w_seq (w_reg (w_cons ?_ (w_cons ?_ (w_cons ?_ (w_cons ?_ w_nil)))) ?_) (w_go (w_condf ?_ (w_exit ?_) ?_))) w_gox) ?_)
    all_goals (first | (simp only [nz, rn, nzShape, h1, Int.reduceLT, Int.reduceEq, List.contains_cons, List.contains_nil, Option.map_some, Option.map_none, reduceIte, reduceCtorEq, Nat.reduceEqDiff, Nat.reduceLT, Nat.reduceBEq, Nat.reduceAdd, Nat.reduceMul, Nat.reduceLeDiff, Nat.reduceSub, Bool.false_eq_true]; try rfl) | skip)
theorem r03_Pointers_l5_ok (p0 : Shape) (s : Int × Int) : Sim (r03_Pointers_l5 p0 s) fun r => evX (evI T) (.loop x16_2 [1, 3, 4]) [(1, .box [.int .i64 p0.Slots, .int .i64 p0.Mask]), (3, .int .i64 s.1), (4, .int .i64 s.2)] = some (.exit 0, [(3, .int .i64 r)]) := by
  unfold r03_Pointers_l5
  exact loop_rule (C := evI T) (b := x16_2) (ks := [1, 3, 4]) (σ := Int × Int) (ρ := Int) (body := fun s => r03_Pointers_l5_b p0 s.1 s.2) (E := fun s => [(1, .box [.int .i64 p0.Slots, .int .i64 p0.Mask]), (3, .int .i64 s.1), (4, .int .i64 s.2)]) (R := fun r => (.exit 0, [(3, .int .i64 r)])) (fun r h => nomatch h) (fun s => r03_Pointers_l5_bok p0 s.1 s.2) s
theorem r03_Pointers_ok (p0 : Shape) : Sim (r03_Pointers p0) fun r => evI T 16 [.agg [.int .i64 p0.Slots, .int .i64 p0.Mask]] = some (.int .i64 r, [.none]) := by
  unfold r03_Pointers
  refine sim_bind (fun n5 h7 => ?_)
  have f8 := r03_Pointers_l5_ok p0 (0, 0) _ h7
  dsimp only at f8
  refine sim_some ?_
  refine evI_ret (x := x16) rfl rfl ?_
  try simp only [nz, nzShape] at f8
  refine' (w_fn rfl rfl (w_seq (w_reg (w_cons ?_ (w_cons ?_ w_nil)) ?_) (w_go (w_seq (w_reg (w_cons ?_ w_nil) ?_) (w_go (w_seq (w_seq (w_reg (w_cons ?_ w_nil) ?_) (w_go (w_block f8 ?_))) (w_go (w_seq (w_reg (w_cons ?_ (w_cons ?_ w_nil)) ?_) (w_go w_ret)))))))) ?_)
  all_goals (first | (simp only [x16, nz, rn, nzShape, Int.reduceLT, Int.reduceEq, List.contains_cons, List.contains_nil, Option.map_some, Option.map_none, reduceIte, reduceCtorEq, Nat.reduceEqDiff, Nat.reduceLT, Nat.reduceBEq, Nat.reduceAdd, Nat.reduceMul, Nat.reduceLeDiff, Nat.reduceSub, Bool.false_eq_true]; try rfl) | skip)
theorem shape_Print_j4_ok (p0 : Shape) (l_1 : List Int) (b2 : List Int) (v3 : Int) (r5 : Bool) : Sim (shape_Print_j4 p0 l_1 b2 v3 r5) fun r => evX (evI T) x17_1 [(1, .box [.int .i64 p0.Slots, .int .i64 p0.Mask]), (3, mkOwn 1 (b2.set v3.toNat 105).length ((b2.set v3.toNat 105).flatMap (cint .u8))), (4, .int .i64 v3), (12, .int .i64 ((l_1.length : Int))), (13, .int .i64 v3), (21, .bool r5)] = some (.norm, [(1, .box [.int .i64 p0.Slots, .int .i64 p0.Mask]), (3, mkOwn 1 r.length (r.flatMap (cint .u8))), (12, .int .i64 ((l_1.length : Int))), (13, .int .i64 v3)]) := by
  unfold shape_Print_j4
  refine sim_if (fun h10 => ?_) (fun h10 => ?_)
  · refine sim_bind (fun x_6 h11 => ?_)
    have f12 := ix_ok h11
    have f12o := ix_own2 h11
    simp only [List.length_set] at f12 f12o
    have f13 : setCells ((b2.set v3.toNat 105).flatMap (cint .u8)) (v3.toNat * 1) [.int .u8 112] = ((b2.set v3.toNat 105).set v3.toNat 112).flatMap (cint .u8) := ix_set (sz_int .u8) h11 _
    have f13a := ix_le (sz_int .u8) h11
    simp only [List.length_set] at f13a
    refine sim_some ?_
    refine' (w_condt ?_ (w_reg (w_cons ?_ (w_cons ?_ (w_cons ?_ (w_cons ?_ w_nil)))) ?_) ?_)
    all_goals (first | (simp only [nz, rn, nzShape, h10, f12, f12o, f13, f13a, Int.reduceLT, Int.reduceEq, List.contains_cons, List.contains_nil, Option.map_some, Option.map_none, reduceIte, reduceCtorEq, Nat.reduceEqDiff, Nat.reduceLT, Nat.reduceBEq, Nat.reduceAdd, Nat.reduceMul, Nat.reduceLeDiff, Nat.reduceSub, Bool.false_eq_true]; try rfl) | skip)
  · refine sim_some ?_
    refine' (w_condf ?_ w_skip ?_)
    all_goals (first | (simp only [nz, rn, nzShape, h10, Int.reduceLT, Int.reduceEq, List.contains_cons, List.contains_nil, Option.map_some, Option.map_none, reduceIte, reduceCtorEq, Nat.reduceEqDiff, Nat.reduceLT, Nat.reduceBEq, Nat.reduceAdd, Nat.reduceMul, Nat.reduceLeDiff, Nat.reduceSub, Bool.false_eq_true]; try rfl) | skip)
theorem shape_Print_l5_bok (p0 : Shape) (l_1 : List Int) (b2 : List Int) (v3 : Int) : Sim (shape_Print_l5_b p0 l_1 b2 v3) fun x => fgt [1, 3, 12, 13] (evX (evI T) x17_2 [(1, .box [.int .i64 p0.Slots, .int .i64 p0.Mask]), (3, mkOwn 1 b2.length (b2.flatMap (cint .u8))), (12, .int .i64 ((l_1.length : Int))), (13, .int .i64 v3)]) = some (stpK (fun s => (.norm, [(1, .box [.int .i64 p0.Slots, .int .i64 p0.Mask]), (3, mkOwn 1 s.1.length (s.1.flatMap (cint .u8))), (12, .int .i64 ((l_1.length : Int))), (13, .int .i64 s.2)])) (fun r => (.exit 0, [(3, mkOwn 1 r.length (r.flatMap (cint .u8)))])) x) := by
  unfold shape_Print_l5_b
  refine sim_if (fun h4 => ?_) (fun h4 => ?_)
  · refine sim_bind (fun x_4 h5 => ?_)
    have f6 := ix_ok h5
    have f6o := ix_own2 h5
    have f7 : setCells (b2.flatMap (cint .u8)) (v3.toNat * 1) [.int .u8 105] = (b2.set v3.toNat 105).flatMap (cint .u8) := ix_set (sz_int .u8) h5 _
    have f7a := ix_le (sz_int .u8) h5
    refine sim_bind (fun r5 h8 => ?_)
    have f9 := shape_Pointer_ok p0 v3 _ h8
    dsimp only at f9
    refine sim_bind (fun b7 h14 => ?_)
    have f15 := shape_Print_j4_ok p0 l_1 b2 v3 r5 _ h14
    dsimp only at f15
    refine sim_some ?_
    try simp only [nz, nzShape, f6o] at f9
    try simp only [nz, nzShape, f6o] at f15
    refine' (w_fgt (w_seq (w_reg (w_cons ?_ w_nil) ?_) (w_go (w_seq (w_condt ?_ w_skip ?_) (w_go (w_seq (w_block (w_seq (w_reg (w_cons ?_ (w_cons ?_ w_nil)) ?_) (w_go (w_seq (w_reg (w_cons ?_ (w_cons ?_ (w_cons ?_ (w_cons ?_ w_nil)))) ?_) (w_go (w_seq (w_reg (w_cons ?_ (w_cons ?_ (w_cons ?_ w_nil))) ?_) (w_go f15)))))) ?_) (w_go (w_reg (w_cons ?_ (w_cons ?_ w_nil)) ?_))))))) ?_)
    all_goals (first | (simp only [nz, rn, nzShape, h4, f6, f6o, f7, f7a, f9, Int.reduceLT, Int.reduceEq, List.contains_cons, List.contains_nil, Option.map_some, Option.map_none, reduceIte, reduceCtorEq, Nat.reduceEqDiff, Nat.reduceLT, Nat.reduceBEq, Nat.reduceAdd, Nat.reduceMul, Nat.reduceLeDiff, Nat.reduceSub, Bool.false_eq_true]; try rfl) | skip)
  · refine sim_some ?_
    refine' (w_fgt (w_seq (w_reg (w_cons ?_ w_nil) ?_) (w_go (w_seq (w_condf ?_ (w_exit ?_) ?_) w_gox))) ?_)
    all_goals (first | (simp only [nz, rn, nzShape, h4, Int.reduceLT, Int.reduceEq, List.contains_cons, List.contains_nil, Option.map_some, Option.map_none, reduceIte, reduceCtorEq, Nat.reduceEqDiff, Nat.reduceLT, Nat.reduceBEq, Nat.reduceAdd, Nat.reduceMul, Nat.reduceLeDiff, Nat.reduceSub, Bool.false_eq_true]; try rfl) | skip)
theorem shape_Print_l5_ok (p0 : Shape) (l_1 : List Int) (s : List Int × Int) : Sim (shape_Print_l5 p0 l_1 s) fun r => evX (evI T) (.loop x17_2 [1, 3, 12, 13]) [(1, .box [.int .i64 p0.Slots, .int .i64 p0.Mask]), (3, mkOwn 1 s.1.length (s.1.flatMap (cint .u8))), (12, .int .i64 ((l_1.length : Int))), (13, .int .i64 s.2)] = some (.exit 0, [(3, mkOwn 1 r.length (r.flatMap (cint .u8)))]) := by
  unfold shape_Print_l5
  exact loop_rule (C := evI T) (b := x17_2) (ks := [1, 3, 12, 13]) (σ := List Int × Int) (ρ := List Int) (body := fun s => shape_Print_l5_b p0 l_1 s.1 s.2) (E := fun s => [(1, .box [.int .i64 p0.Slots, .int .i64 p0.Mask]), (3, mkOwn 1 s.1.length (s.1.flatMap (cint .u8))), (12, .int .i64 ((l_1.length : Int))), (13, .int .i64 s.2)]) (R := fun r => (.exit 0, [(3, mkOwn 1 r.length (r.flatMap (cint .u8)))])) (fun r h => nomatch h) (fun s => shape_Print_l5_bok p0 l_1 s.1 s.2) s
theorem shape_Print_ok (p0 : Shape) : Sim (shape_Print p0) fun r => evI T 17 [.agg [.int .i64 p0.Slots, .int .i64 p0.Mask]] = some (.str r, [.none]) := by
  unfold shape_Print
  refine sim_if (fun h1 => ?_) (fun h1 => ?_)
  · refine sim_some ?_
    refine evI_ret (x := x17) rfl rfl ?_
    refine' (w_fn rfl rfl (w_seq (w_reg (w_cons ?_ (w_cons ?_ w_nil)) ?_) (w_go (w_seq (w_seq (w_reg (w_cons ?_ (w_cons ?_ (w_cons ?_ w_nil))) ?_) (w_go (w_condt ?_ (w_seq (w_reg (w_cons ?_ w_nil) ?_) (w_go w_ret)) ?_))) w_gor))) ?_)
    all_goals (first | (simp only [x17, nz, rn, nzShape, h1, Int.reduceLT, Int.reduceEq, List.contains_cons, List.contains_nil, Option.map_some, Option.map_none, reduceIte, reduceCtorEq, Nat.reduceEqDiff, Nat.reduceLT, Nat.reduceBEq, Nat.reduceAdd, Nat.reduceMul, Nat.reduceLeDiff, Nat.reduceSub, Bool.false_eq_true]; try rfl) | skip)
  · refine sim_bind (fun l_1 h2 => ?_)
    have f3 := mk_cond h2
    have f3a : mkOwn 1 p0.Slots.toNat (rep p0.Slots.toNat [.int .u8 0]) = mkOwn 1 l_1.length (l_1.flatMap (cint .u8)) := mk_own h2 (cint .u8) 1
    refine sim_bind (fun b8 h16 => ?_)
    have f17 := shape_Print_l5_ok p0 l_1 (l_1, 0) _ h16
    dsimp only at f17
    refine sim_some ?_
    refine evI_ret (x := x17) rfl rfl ?_
    rcases own_cases l_1 with rfl | o_l_1
    · rcases own_cases b8 with rfl | o_b8
      · try simp only [nz, nzShape] at f17
        refine' (w_fn rfl rfl (w_seq (w_reg (w_cons ?_ (w_cons ?_ w_nil)) ?_) (w_go (w_seq (w_seq (w_reg (w_cons ?_ (w_cons ?_ (w_cons ?_ w_nil))) ?_) (w_go (w_condf ?_ w_skip ?_))) (w_go (w_seq (w_reg (w_cons ?_ (w_cons ?_ (w_cons ?_ (w_cons ?_ w_nil)))) ?_) (w_go (w_seq (w_seq (w_reg (w_cons ?_ (w_cons ?_ (w_cons ?_ w_nil))) ?_) (w_go (w_block f17 ?_))) (w_go (w_seq (w_reg (w_cons ?_ (w_cons ?_ (w_cons ?_ w_nil))) ?_) (w_go w_ret)))))))))) ?_)
        all_goals (first | (simp only [x17, nz, rn, nzShape, h1, f3, f3a, Int.reduceLT, Int.reduceEq, List.contains_cons, List.contains_nil, Option.map_some, Option.map_none, reduceIte, reduceCtorEq, Nat.reduceEqDiff, Nat.reduceLT, Nat.reduceBEq, Nat.reduceAdd, Nat.reduceMul, Nat.reduceLeDiff, Nat.reduceSub, Bool.false_eq_true]; try rfl) | skip)
      · try simp only [nz, nzShape, o_b8] at f17
        refine' (w_fn rfl rfl (w_seq (w_reg (w_cons ?_ (w_cons ?_ w_nil)) ?_) (w_go (w_seq (w_seq (w_reg (w_cons ?_ (w_cons ?_ (w_cons ?_ w_nil))) ?_) (w_go (w_condf ?_ w_skip ?_))) (w_go (w_seq (w_reg (w_cons ?_ (w_cons ?_ (w_cons ?_ (w_cons ?_ w_nil)))) ?_) (w_go (w_seq (w_seq (w_reg (w_cons ?_ (w_cons ?_ (w_cons ?_ w_nil))) ?_) (w_go (w_block f17 ?_))) (w_go (w_seq (w_reg (w_cons ?_ (w_cons ?_ (w_cons ?_ w_nil))) ?_) (w_go w_ret)))))))))) ?_)
        all_goals (first | (simp only [x17, nz, rn, nzShape, h1, f3, f3a, o_b8, Int.reduceLT, Int.reduceEq, List.contains_cons, List.contains_nil, Option.map_some, Option.map_none, reduceIte, reduceCtorEq, Nat.reduceEqDiff, Nat.reduceLT, Nat.reduceBEq, Nat.reduceAdd, Nat.reduceMul, Nat.reduceLeDiff, Nat.reduceSub, Bool.false_eq_true]; try rfl) | skip)
    · rcases own_cases b8 with rfl | o_b8
      · try simp only [nz, nzShape, o_l_1] at f17
        refine' (w_fn rfl rfl (w_seq (w_reg (w_cons ?_ (w_cons ?_ w_nil)) ?_) (w_go (w_seq (w_seq (w_reg (w_cons ?_ (w_cons ?_ (w_cons ?_ w_nil))) ?_) (w_go (w_condf ?_ w_skip ?_))) (w_go (w_seq (w_reg (w_cons ?_ (w_cons ?_ (w_cons ?_ (w_cons ?_ w_nil)))) ?_) (w_go (w_seq (w_seq (w_reg (w_cons ?_ (w_cons ?_ (w_cons ?_ w_nil))) ?_) (w_go (w_block f17 ?_))) (w_go (w_seq (w_reg (w_cons ?_ (w_cons ?_ (w_cons ?_ w_nil))) ?_) (w_go w_ret)))))))))) ?_)
        all_goals (first | (simp only [x17, nz, rn, nzShape, h1, f3, f3a, o_l_1, Int.reduceLT, Int.reduceEq, List.contains_cons, List.contains_nil, Option.map_some, Option.map_none, reduceIte, reduceCtorEq, Nat.reduceEqDiff, Nat.reduceLT, Nat.reduceBEq, Nat.reduceAdd, Nat.reduceMul, Nat.reduceLeDiff, Nat.reduceSub, Bool.false_eq_true]; try rfl) | skip)
      · try simp only [nz, nzShape, o_l_1, o_b8] at f17
        refine' (w_fn rfl rfl (w_seq (w_reg (w_cons ?_ (w_cons ?_ w_nil)) ?_) (w_go (w_seq (w_seq (w_reg (w_cons ?_ (w_cons ?_ (w_cons ?_ w_nil))) ?_) (w_go (w_condf ?_ w_skip ?_))) (w_go (w_seq (w_reg (w_cons ?_ (w_cons ?_ (w_cons ?_ (w_cons ?_ w_nil)))) ?_) (w_go (w_seq (w_seq (w_reg (w_cons ?_ (w_cons ?_ (w_cons ?_ w_nil))) ?_) (w_go (w_block f17 ?_))) (w_go (w_seq (w_reg (w_cons ?_ (w_cons ?_ (w_cons ?_ w_nil))) ?_) (w_go w_ret)))))))))) ?_)
        all_goals (first | (simp only [x17, nz, rn, nzShape, h1, f3, f3a, o_l_1, o_b8, Int.reduceLT, Int.reduceEq, List.contains_cons, List.contains_nil, Option.map_some, Option.map_none, reduceIte, reduceCtorEq, Nat.reduceEqDiff, Nat.reduceLT, Nat.reduceBEq, Nat.reduceAdd, Nat.reduceMul, Nat.reduceLeDiff, Nat.reduceSub, Bool.false_eq_true]; try rfl) | skip)
theorem r03_Print_j4_ok (p0 : Shape) (v1 : Str) (i2 : Int) (r3 : Bool) : Sim (r03_Print_j4 p0 v1 i2 r3) fun r => evX (evI T) x18_1 [(1, .box [.int .i64 p0.Slots, .int .i64 p0.Mask]), (3, .str v1), (4, .int .i64 i2), (13, .bool r3)] = some (.norm, [(1, .box [.int .i64 p0.Slots, .int .i64 p0.Mask]), (3, .str r), (4, .int .i64 i2)]) := by
  unfold r03_Print_j4
  refine sim_if (fun h4 => ?_) (fun h4 => ?_)
  · refine sim_bind (fun s_4 h5 => ?_)
    obtain ⟨f6, f6e⟩ := scat_cond h5
    replace f6e := f6e.symm
    try simp only [nz, Nat.reduceLeDiff, Nat.reduceAdd, Nat.reduceMul, Nat.reduceSub] at f6
    refine sim_some ?_
    refine' (w_condt ?_ (w_reg (w_cons ?_ (w_cons ?_ (w_cons ?_ w_nil))) ?_) ?_)
    all_goals (first | (simp only [nz, rn, nzShape, h4, f6, f6e, Int.reduceLT, Int.reduceEq, List.contains_cons, List.contains_nil, Option.map_some, Option.map_none, reduceIte, reduceCtorEq, Nat.reduceEqDiff, Nat.reduceLT, Nat.reduceBEq, Nat.reduceAdd, Nat.reduceMul, Nat.reduceLeDiff, Nat.reduceSub, Bool.false_eq_true]; try rfl) | skip)
  · refine sim_bind (fun s_5 h7 => ?_)
    obtain ⟨f8, f8e⟩ := scat_cond h7
    replace f8e := f8e.symm
    try simp only [nz, Nat.reduceLeDiff, Nat.reduceAdd, Nat.reduceMul, Nat.reduceSub] at f8
    refine sim_some ?_
    refine' (w_condf ?_ (w_reg (w_cons ?_ (w_cons ?_ (w_cons ?_ w_nil))) ?_) ?_)
    all_goals (first | (simp only [nz, rn, nzShape, h4, f8, f8e, Int.reduceLT, Int.reduceEq, List.contains_cons, List.contains_nil, Option.map_some, Option.map_none, reduceIte, reduceCtorEq, Nat.reduceEqDiff, Nat.reduceLT, Nat.reduceBEq, Nat.reduceAdd, Nat.reduceMul, Nat.reduceLeDiff, Nat.reduceSub, Bool.false_eq_true]; try rfl) | skip)
theorem r03_Print_l5_bok (p0 : Shape) (v1 : Str) (i2 : Int) : Sim (r03_Print_l5_b p0 v1 i2) fun x => fgt [1, 3, 4] (evX (evI T) x18_2 [(1, .box [.int .i64 p0.Slots, .int .i64 p0.Mask]), (3, .str v1), (4, .int .i64 i2)]) = some (stpK (fun s => (.norm, [(1, .box [.int .i64 p0.Slots, .int .i64 p0.Mask]), (3, .str s.1), (4, .int .i64 s.2)])) (fun r => (.exit 0, [(3, .str r)])) x) := by
  unfold r03_Print_l5_b
  refine sim_if (fun h1 => ?_) (fun h1 => ?_)
  · refine sim_bind (fun r3 h2 => ?_)
    have f3 := r03_Pointer_ok p0 i2 _ h2
    dsimp only at f3
    refine sim_bind (fun v6 h9 => ?_)
    have f10 := r03_Print_j4_ok p0 v1 i2 r3 _ h9
    dsimp only at f10
    refine sim_some ?_
    try simp only [nz, nzShape] at f3
    try simp only [nz, nzShape] at f10
    refine' (w_fgt (w_seq (w_seq (w_reg (w_cons ?_ (w_cons ?_ (w_cons ?_ (w_cons ?_ w_nil)))) ?_) (w_go (w_condt ?_ w_skip ?_))) (w_go (w_seq (w_block (w_seq (w_reg (w_cons ?_ (w_cons ?_ (w_cons ?_ w_nil))) ?_) (w_go f10)) ?_) (w_go (w_reg (w_cons ?_ (w_cons ?_ (w_cons ?_ w_nil))) ?_))))) ?_)
    all_goals (first | (simp only [nz, rn, nzShape, h1, f3, Int.reduceLT, Int.reduceEq, List.contains_cons, List.contains_nil, Option.map_some, Option.map_none, reduceIte, reduceCtorEq, Nat.reduceEqDiff, Nat.reduceLT, Nat.reduceBEq, Nat.reduceAdd, Nat.reduceMul, Nat.reduceLeDiff, Nat.reduceSub, Bool.false_eq_true]; try rfl) | skip)
  · refine sim_some ?_
    refine' (w_fgt (w_seq (w_seq (w_reg (w_cons ?_ (w_cons ?_ (w_cons ?_ (w_cons ?_ w_nil)))) ?_) (w_go (w_condf ?_ (w_exit ?_) ?_))) w_gox) ?_)
    all_goals (first | (simp only [nz, rn, nzShape, h1, Int.reduceLT, Int.reduceEq, List.contains_cons, List.contains_nil, Option.map_some, Option.map_none, reduceIte, reduceCtorEq, Nat.reduceEqDiff, Nat.reduceLT, Nat.reduceBEq, Nat.reduceAdd, Nat.reduceMul, Nat.reduceLeDiff, Nat.reduceSub, Bool.false_eq_true]; try rfl) | skip)
theorem r03_Print_l5_ok (p0 : Shape) (s : Str × Int) : Sim (r03_Print_l5 p0 s) fun r => evX (evI T) (.loop x18_2 [1, 3, 4]) [(1, .box [.int .i64 p0.Slots, .int .i64 p0.Mask]), (3, .str s.1), (4, .int .i64 s.2)] = some (.exit 0, [(3, .str r)]) := by
  unfold r03_Print_l5
  exact loop_rule (C := evI T) (b := x18_2) (ks := [1, 3, 4]) (σ := Str × Int) (ρ := Str) (body := fun s => r03_Print_l5_b p0 s.1 s.2) (E := fun s => [(1, .box [.int .i64 p0.Slots, .int .i64 p0.Mask]), (3, .str s.1), (4, .int .i64 s.2)]) (R := fun r => (.exit 0, [(3, .str r)])) (fun r h => nomatch h) (fun s => r03_Print_l5_bok p0 s.1 s.2) s
theorem r03_Print_ok (p0 : Shape) : Sim (r03_Print p0) fun r => evI T 18 [.agg [.int .i64 p0.Slots, .int .i64 p0.Mask]] = some (.str r, [.none]) := by
  unfold r03_Print
  refine sim_bind (fun v7 h11 => ?_)
  have f12 := r03_Print_l5_ok p0 ([], 0) _ h11
  dsimp only at f12
  refine sim_if (fun h13 => ?_) (fun h13 => ?_)
  · refine sim_some ?_
    refine evI_ret (x := x18) rfl rfl ?_
    try simp only [nz, nzShape] at f12
    refine' (w_fn rfl rfl (w_seq (w_reg (w_cons ?_ (w_cons ?_ w_nil)) ?_) (w_go (w_seq (w_reg (w_cons ?_ w_nil) ?_) (w_go (w_seq (w_seq (w_reg (w_cons ?_ w_nil) ?_) (w_go (w_block f12 ?_))) (w_go (w_seq (w_seq (w_reg (w_cons ?_ (w_cons ?_ w_nil)) ?_) (w_go (w_condt ?_ (w_seq (w_reg (w_cons ?_ w_nil) ?_) (w_go w_ret)) ?_))) w_gor))))))) ?_)
    all_goals (first | (simp only [x18, nz, rn, nzShape, h13, Int.reduceLT, Int.reduceEq, List.contains_cons, List.contains_nil, Option.map_some, Option.map_none, reduceIte, reduceCtorEq, Nat.reduceEqDiff, Nat.reduceLT, Nat.reduceBEq, Nat.reduceAdd, Nat.reduceMul, Nat.reduceLeDiff, Nat.reduceSub, Bool.false_eq_true]; try rfl) | skip)
  · refine sim_some ?_
    refine evI_ret (x := x18) rfl rfl ?_
    try simp only [nz, nzShape] at f12
    refine' (w_fn rfl rfl (w_seq (w_reg (w_cons ?_ (w_cons ?_ w_nil)) ?_) (w_go (w_seq (w_reg (w_cons ?_ w_nil) ?_) (w_go (w_seq (w_seq (w_reg (w_cons ?_ w_nil) ?_) (w_go (w_block f12 ?_))) (w_go (w_seq (w_seq (w_reg (w_cons ?_ (w_cons ?_ w_nil)) ?_) (w_go (w_condf ?_ w_skip ?_))) (w_go (w_seq (w_reg (w_cons ?_ (w_cons ?_ w_nil)) ?_) (w_go w_ret)))))))))) ?_)
    all_goals (first | (simp only [x18, nz, rn, nzShape, h13, Int.reduceLT, Int.reduceEq, List.contains_cons, List.contains_nil, Option.map_some, Option.map_none, reduceIte, reduceCtorEq, Nat.reduceEqDiff, Nat.reduceLT, Nat.reduceBEq, Nat.reduceAdd, Nat.reduceMul, Nat.reduceLeDiff, Nat.reduceSub, Bool.false_eq_true]; try rfl) | skip)
theorem shape_Head_ok (p0 : Shape) : Sim (shape_Head p0) fun r => evI T 19 [.agg [.int .i64 p0.Slots, .int .i64 p0.Mask]] = some (.int .i64 r, [.none]) := by
  unfold shape_Head
  refine sim_some ?_
  refine evI_ret (x := x19) rfl rfl ?_
  refine' (w_fn rfl rfl (w_seq (w_reg (w_cons ?_ (w_cons ?_ w_nil)) ?_) (w_go (w_seq (w_reg (w_cons ?_ (w_cons ?_ (w_cons ?_ (w_cons ?_ (w_cons ?_ (w_cons ?_ (w_cons ?_ w_nil))))))) ?_) (w_go w_ret)))) ?_)
  all_goals (first | (simp only [x19, nz, rn, nzShape, Int.reduceLT, Int.reduceEq, List.contains_cons, List.contains_nil, Option.map_some, Option.map_none, reduceIte, reduceCtorEq, Nat.reduceEqDiff, Nat.reduceLT, Nat.reduceBEq, Nat.reduceAdd, Nat.reduceMul, Nat.reduceLeDiff, Nat.reduceSub, Bool.false_eq_true]; try rfl) | skip)
theorem r03_Head_ok (p0 : Shape) : Sim (r03_Head p0) fun r => evI T 20 [.agg [.int .i64 p0.Slots, .int .i64 p0.Mask]] = some (.int .i64 r, [.none]) := by
  unfold r03_Head
  refine sim_some ?_
  refine evI_ret (x := x20) rfl rfl ?_
  refine' (w_fn rfl rfl (w_seq (w_reg (w_cons ?_ (w_cons ?_ w_nil)) ?_) (w_go (w_seq (w_reg (w_cons ?_ (w_cons ?_ (w_cons ?_ (w_cons ?_ (w_cons ?_ (w_cons ?_ (w_cons ?_ w_nil))))))) ?_) (w_go w_ret)))) ?_)
  all_goals (first | (simp only [x20, nz, rn, nzShape, Int.reduceLT, Int.reduceEq, List.contains_cons, List.contains_nil, Option.map_some, Option.map_none, reduceIte, reduceCtorEq, Nat.reduceEqDiff, Nat.reduceLT, Nat.reduceBEq, Nat.reduceAdd, Nat.reduceMul, Nat.reduceLeDiff, Nat.reduceSub, Bool.false_eq_true]; try rfl) | skip)
theorem l03_ShapeReads_j1_ok (p1 : Shape) (r1a : Shape) (r1b : Int) (r2a : Shape) (r2b : Int) (r3a : Shape) (r3b : Int) (r4a : Shape) (r4b : Int) : Sim (l03_ShapeReads_j1 p1 r1a r1b r2a r2b r3a r3b r4a r4b) fun r => evX (evI T) x3_1 [(4, .box [.int .i64 p1.Slots, .int .i64 p1.Mask]), (7, .box [.int .i64 r1a.Slots, .int .i64 r1a.Mask]), (8, .int .i64 r1b), (9, .box [.int .i64 r2a.Slots, .int .i64 r2a.Mask]), (10, .int .i64 r2b), (11, .box [.int .i64 r3a.Slots, .int .i64 r3a.Mask]), (12, .int .i64 r3b), (13, .box [.int .i64 r4a.Slots, .int .i64 r4a.Mask]), (14, .int .i64 r4b)] = some (.norm, [(6, .bool r)]) := by
  unfold l03_ShapeReads_j1
  refine sim_if (fun h11 => ?_) (fun h11 => ?_)
  · refine sim_if (fun h12 => ?_) (fun h12 => ?_)
    · refine sim_if (fun h13 => ?_) (fun h13 => ?_)
      · refine sim_if (fun h14 => ?_) (fun h14 => ?_)
        · refine sim_bind (fun r5 h15 => ?_)
          have f16 := shape_Check_ok p1 _ h15
          dsimp only at f16
          refine sim_bind (fun r6 h17 => ?_)
          have f18 := r03_Check_ok p1 _ h17
          dsimp only at f18
          refine sim_if (fun h19 => ?_) (fun h19 => ?_)
          · have f20 := l03_works_ok
            refine sim_some ?_
            try simp only [nz, nzShape] at f16
            try simp only [nz, nzShape] at f18
            refine' (w_regD ?_ ?_ (w_consD rfl ?_ ?_ ?_ (w_consD rfl ?_ ?_ ?_ (w_consD rfl ?_ ?_ ?_ (w_consD rfl ?_ ?_ ?_ (w_consD rfl ?_ ?_ ?_ (w_consD rfl ?_ ?_ ?_ (w_consD rfl ?_ ?_ ?_ (w_consD rfl ?_ ?_ ?_ (w_consD rfl ?_ ?_ ?_ (w_consD rfl ?_ ?_ ?_ (w_consD rfl ?_ ?_ ?_ (w_consD rfl ?_ ?_ ?_ (w_consD rfl ?_ ?_ ?_ (w_consD rfl ?_ ?_ ?_ (w_consD rfl ?_ ?_ ?_ (w_consD rfl ?_ ?_ ?_ (w_consD rfl ?_ ?_ ?_ (w_consD rfl ?_ ?_ ?_ (w_consD rfl ?_ ?_ ?_ (w_consD rfl ?_ ?_ ?_ (w_consD rfl ?_ ?_ ?_ (w_consD rfl ?_ ?_ ?_ (w_consD rfl ?_ ?_ ?_ (w_consD rfl ?_ ?_ ?_ (w_consD rfl ?_ ?_ ?_ (w_consD rfl ?_ ?_ ?_ (w_consD rfl ?_ ?_ ?_ (w_consD rfl ?_ ?_ ?_ (w_barD rfl rfl (w_cons ?_ w_nil)))))))))))))))))))))))))))))) ?_)
            all_goals (first | (simp only [nz, rn, nzShape, h11, h12, h13, h14, f16, f18, h19, f20, Int.reduceLT, Int.reduceEq, List.contains_cons, List.contains_nil, Option.map_some, Option.map_none, reduceIte, reduceCtorEq, Nat.reduceEqDiff, Nat.reduceLT, Nat.reduceBEq, Nat.reduceAdd, Nat.reduceMul, Nat.reduceLeDiff, Nat.reduceSub, Bool.false_eq_true]; try rfl) | skip)
          · refine sim_some ?_
            try simp only [nz, nzShape] at f16
            try simp only [nz, nzShape] at f18
            refine' (w_regD ?_ ?_ (w_consD rfl ?_ ?_ ?_ (w_consD rfl ?_ ?_ ?_ (w_consD rfl ?_ ?_ ?_ (w_consD rfl ?_ ?_ ?_ (w_consD rfl ?_ ?_ ?_ (w_consD rfl ?_ ?_ ?_ (w_consD rfl ?_ ?_ ?_ (w_consD rfl ?_ ?_ ?_ (w_consD rfl ?_ ?_ ?_ (w_consD rfl ?_ ?_ ?_ (w_consD rfl ?_ ?_ ?_ (w_consD rfl ?_ ?_ ?_ (w_consD rfl ?_ ?_ ?_ (w_consD rfl ?_ ?_ ?_ (w_consD rfl ?_ ?_ ?_ (w_consD rfl ?_ ?_ ?_ (w_consD rfl ?_ ?_ ?_ (w_consD rfl ?_ ?_ ?_ (w_consD rfl ?_ ?_ ?_ (w_consD rfl ?_ ?_ ?_ (w_consD rfl ?_ ?_ ?_ (w_consD rfl ?_ ?_ ?_ (w_consD rfl ?_ ?_ ?_ (w_consD rfl ?_ ?_ ?_ (w_consD rfl ?_ ?_ ?_ (w_consD rfl ?_ ?_ ?_ (w_consD rfl ?_ ?_ ?_ (w_consD rfl ?_ ?_ ?_ (w_barD rfl rfl (w_cons ?_ w_nil)))))))))))))))))))))))))))))) ?_)
            all_goals (first | (simp only [nz, rn, nzShape, h11, h12, h13, h14, f16, f18, h19, Int.reduceLT, Int.reduceEq, List.contains_cons, List.contains_nil, Option.map_some, Option.map_none, reduceIte, reduceCtorEq, Nat.reduceEqDiff, Nat.reduceLT, Nat.reduceBEq, Nat.reduceAdd, Nat.reduceMul, Nat.reduceLeDiff, Nat.reduceSub, Bool.false_eq_true]; try rfl) | skip)
        · refine sim_some ?_
          refine' (w_regD ?_ ?_ (w_consD rfl ?_ ?_ ?_ (w_consD rfl ?_ ?_ ?_ (w_consD rfl ?_ ?_ ?_ (w_consD rfl ?_ ?_ ?_ (w_consD rfl ?_ ?_ ?_ (w_consD rfl ?_ ?_ ?_ (w_consD rfl ?_ ?_ ?_ (w_consD rfl ?_ ?_ ?_ (w_consD rfl ?_ ?_ ?_ (w_consD rfl ?_ ?_ ?_ (w_consD rfl ?_ ?_ ?_ (w_consD rfl ?_ ?_ ?_ (w_consD rfl ?_ ?_ ?_ (w_consD rfl ?_ ?_ ?_ (w_consD rfl ?_ ?_ ?_ (w_consD rfl ?_ ?_ ?_ (w_consD rfl ?_ ?_ ?_ (w_consD rfl ?_ ?_ ?_ (w_consD rfl ?_ ?_ ?_ (w_consD rfl ?_ ?_ ?_ (w_consD rfl ?_ ?_ ?_ (w_consD rfl ?_ ?_ ?_ (w_consD rfl ?_ ?_ ?_ (w_consD rfl ?_ ?_ ?_ (w_consD rfl ?_ ?_ ?_ (w_consD rfl ?_ ?_ ?_ (w_consD rfl ?_ ?_ ?_ (w_consD rfl ?_ ?_ ?_ (w_barD rfl rfl (w_cons ?_ w_nil)))))))))))))))))))))))))))))) ?_)
          all_goals (first | (simp only [nz, rn, nzShape, h11, h12, h13, h14, Int.reduceLT, Int.reduceEq, List.contains_cons, List.contains_nil, Option.map_some, Option.map_none, reduceIte, reduceCtorEq, Nat.reduceEqDiff, Nat.reduceLT, Nat.reduceBEq, Nat.reduceAdd, Nat.reduceMul, Nat.reduceLeDiff, Nat.reduceSub, Bool.false_eq_true]; try rfl) | skip)
      · refine sim_some ?_
        refine' (w_regD ?_ ?_ (w_consD rfl ?_ ?_ ?_ (w_consD rfl ?_ ?_ ?_ (w_consD rfl ?_ ?_ ?_ (w_consD rfl ?_ ?_ ?_ (w_consD rfl ?_ ?_ ?_ (w_consD rfl ?_ ?_ ?_ (w_consD rfl ?_ ?_ ?_ (w_consD rfl ?_ ?_ ?_ (w_consD rfl ?_ ?_ ?_ (w_consD rfl ?_ ?_ ?_ (w_consD rfl ?_ ?_ ?_ (w_consD rfl ?_ ?_ ?_ (w_consD rfl ?_ ?_ ?_ (w_consD rfl ?_ ?_ ?_ (w_consD rfl ?_ ?_ ?_ (w_consD rfl ?_ ?_ ?_ (w_consD rfl ?_ ?_ ?_ (w_consD rfl ?_ ?_ ?_ (w_consD rfl ?_ ?_ ?_ (w_consD rfl ?_ ?_ ?_ (w_consD rfl ?_ ?_ ?_ (w_consD rfl ?_ ?_ ?_ (w_consD rfl ?_ ?_ ?_ (w_consD rfl ?_ ?_ ?_ (w_consD rfl ?_ ?_ ?_ (w_consD rfl ?_ ?_ ?_ (w_consD rfl ?_ ?_ ?_ (w_consD rfl ?_ ?_ ?_ (w_barD rfl rfl (w_cons ?_ w_nil)))))))))))))))))))))))))))))) ?_)
        all_goals (first | (simp only [nz, rn, nzShape, h11, h12, h13, Int.reduceLT, Int.reduceEq, List.contains_cons, List.contains_nil, Option.map_some, Option.map_none, reduceIte, reduceCtorEq, Nat.reduceEqDiff, Nat.reduceLT, Nat.reduceBEq, Nat.reduceAdd, Nat.reduceMul, Nat.reduceLeDiff, Nat.reduceSub, Bool.false_eq_true]; try rfl) | skip)
    · refine sim_some ?_
      refine' (w_regD ?_ ?_ (w_consD rfl ?_ ?_ ?_ (w_consD rfl ?_ ?_ ?_ (w_consD rfl ?_ ?_ ?_ (w_consD rfl ?_ ?_ ?_ (w_consD rfl ?_ ?_ ?_ (w_consD rfl ?_ ?_ ?_ (w_consD rfl ?_ ?_ ?_ (w_consD rfl ?_ ?_ ?_ (w_consD rfl ?_ ?_ ?_ (w_consD rfl ?_ ?_ ?_ (w_consD rfl ?_ ?_ ?_ (w_consD rfl ?_ ?_ ?_ (w_consD rfl ?_ ?_ ?_ (w_consD rfl ?_ ?_ ?_ (w_consD rfl ?_ ?_ ?_ (w_consD rfl ?_ ?_ ?_ (w_consD rfl ?_ ?_ ?_ (w_consD rfl ?_ ?_ ?_ (w_consD rfl ?_ ?_ ?_ (w_consD rfl ?_ ?_ ?_ (w_consD rfl ?_ ?_ ?_ (w_consD rfl ?_ ?_ ?_ (w_consD rfl ?_ ?_ ?_ (w_consD rfl ?_ ?_ ?_ (w_consD rfl ?_ ?_ ?_ (w_consD rfl ?_ ?_ ?_ (w_consD rfl ?_ ?_ ?_ (w_consD rfl ?_ ?_ ?_ (w_barD rfl rfl (w_cons ?_ w_nil)))))))))))))))))))))))))))))) ?_)
      all_goals (first | (simp only [nz, rn, nzShape, h11, h12, Int.reduceLT, Int.reduceEq, List.contains_cons, List.contains_nil, Option.map_some, Option.map_none, reduceIte, reduceCtorEq, Nat.reduceEqDiff, Nat.reduceLT, Nat.reduceBEq, Nat.reduceAdd, Nat.reduceMul, Nat.reduceLeDiff, Nat.reduceSub, Bool.false_eq_true]; try rfl) | skip)
  · refine sim_some ?_
    refine' (w_regD ?_ ?_ (w_consD rfl ?_ ?_ ?_ (w_consD rfl ?_ ?_ ?_ (w_consD rfl ?_ ?_ ?_ (w_consD rfl ?_ ?_ ?_ (w_consD rfl ?_ ?_ ?_ (w_consD rfl ?_ ?_ ?_ (w_consD rfl ?_ ?_ ?_ (w_consD rfl ?_ ?_ ?_ (w_consD rfl ?_ ?_ ?_ (w_consD rfl ?_ ?_ ?_ (w_consD rfl ?_ ?_ ?_ (w_consD rfl ?_ ?_ ?_ (w_consD rfl ?_ ?_ ?_ (w_consD rfl ?_ ?_ ?_ (w_consD rfl ?_ ?_ ?_ (w_consD rfl ?_ ?_ ?_ (w_consD rfl ?_ ?_ ?_ (w_consD rfl ?_ ?_ ?_ (w_consD rfl ?_ ?_ ?_ (w_consD rfl ?_ ?_ ?_ (w_consD rfl ?_ ?_ ?_ (w_consD rfl ?_ ?_ ?_ (w_consD rfl ?_ ?_ ?_ (w_consD rfl ?_ ?_ ?_ (w_consD rfl ?_ ?_ ?_ (w_consD rfl ?_ ?_ ?_ (w_consD rfl ?_ ?_ ?_ (w_consD rfl ?_ ?_ ?_ (w_barD rfl rfl (w_cons ?_ w_nil)))))))))))))))))))))))))))))) ?_)
    all_goals (first | (simp only [nz, rn, nzShape, h11, Int.reduceLT, Int.reduceEq, List.contains_cons, List.contains_nil, Option.map_some, Option.map_none, reduceIte, reduceCtorEq, Nat.reduceEqDiff, Nat.reduceLT, Nat.reduceBEq, Nat.reduceAdd, Nat.reduceMul, Nat.reduceLeDiff, Nat.reduceSub, Bool.false_eq_true]; try rfl) | skip)
theorem l03_ShapeReads_ok (p0 : Str) (p1 : Shape) (p2 : Int) : Sim (l03_ShapeReads p0 p1 p2) fun r => evI T 3 [.str p0, .agg [.int .i64 p1.Slots, .int .i64 p1.Mask], .int .i64 p2] = some (.bool r, [.none, .none, .none]) := by
  unfold l03_ShapeReads
  refine sim_if (fun h1 => ?_) (fun h1 => ?_)
  · have f2 := l03_works_ok
    refine sim_some ?_
    refine evI_ret (x := x3) rfl rfl ?_
    refine' (w_fn rfl rfl (w_seq (w_reg (w_cons ?_ (w_cons ?_ w_nil)) ?_) (w_go (w_seq (w_seq (w_reg (w_cons ?_ (w_cons ?_ (w_cons ?_ w_nil))) ?_) (w_go (w_condt ?_ (w_seq (w_reg (w_cons ?_ (w_cons ?_ w_nil)) ?_) (w_go w_ret)) ?_))) w_gor))) ?_)
    all_goals (first | (simp only [x3, nz, rn, nzShape, h1, f2, Int.reduceLT, Int.reduceEq, List.contains_cons, List.contains_nil, Option.map_some, Option.map_none, reduceIte, reduceCtorEq, Nat.reduceEqDiff, Nat.reduceLT, Nat.reduceBEq, Nat.reduceAdd, Nat.reduceMul, Nat.reduceLeDiff, Nat.reduceSub, Bool.false_eq_true]; try rfl) | skip)
  · refine sim_bind (fun qh3 h3 => ?_)
    obtain ⟨r1a, r1b⟩ := qh3
    dsimp only
    have f4 := shape_Parse_ok p0 _ h3
    dsimp only at f4
    refine sim_bind (fun qh5 h5 => ?_)
    obtain ⟨r2a, r2b⟩ := qh5
    dsimp only
    have f6 := r03_Parse_ok p0 _ h5
    dsimp only at f6
    refine sim_bind (fun qh7 h7 => ?_)
    obtain ⟨r3a, r3b⟩ := qh7
    dsimp only
    have f8 := shape_Of_ok p2 _ h7
    dsimp only at f8
    refine sim_bind (fun qh9 h9 => ?_)
    obtain ⟨r4a, r4b⟩ := qh9
    dsimp only
    have f10 := r03_Of_ok p2 _ h9
    dsimp only at f10
    refine sim_bind (fun v7 h21 => ?_)
    have f22 := l03_ShapeReads_j1_ok p1 r1a r1b r2a r2b r3a r3b r4a r4b _ h21
    dsimp only at f22
    refine sim_some ?_
    refine evI_ret (x := x3) rfl rfl ?_
    try simp only [nz, nzShape] at f4
    try simp only [nz, nzShape] at f6
    try simp only [nz, nzShape] at f8
    try simp only [nz, nzShape] at f10
    try simp only [nz, nzShape] at f22
    refine' (w_fn rfl rfl (w_seq (w_reg (w_cons ?_ (w_cons ?_ w_nil)) ?_) (w_go (w_seq (w_seq (w_reg (w_cons ?_ (w_cons ?_ (w_cons ?_ w_nil))) ?_) (w_go (w_condf ?_ w_skip ?_))) (w_go (w_seq (w_reg (w_cons ?_ (w_cons ?_ (w_cons ?_ (w_cons ?_ (w_cons ?_ (w_cons ?_ (w_cons ?_ (w_cons ?_ w_nil)))))))) ?_) (w_go (w_seq (w_reg (w_cons ?_ (w_cons ?_ (w_cons ?_ (w_cons ?_ (w_cons ?_ (w_cons ?_ (w_cons ?_ (w_cons ?_ w_nil)))))))) ?_) (w_go (w_seq (w_reg (w_cons ?_ (w_cons ?_ (w_cons ?_ (w_cons ?_ (w_cons ?_ (w_cons ?_ (w_cons ?_ (w_cons ?_ w_nil)))))))) ?_) (w_go (w_seq (w_reg (w_cons ?_ (w_cons ?_ (w_cons ?_ (w_cons ?_ (w_cons ?_ (w_cons ?_ (w_cons ?_ (w_cons ?_ w_nil)))))))) ?_) (w_go (w_seq f22 (w_go w_ret)))))))))))))) ?_)
    all_goals (first | (simp only [x3, nz, rn, nzShape, h1, f4, f6, f8, f10, Int.reduceLT, Int.reduceEq, List.contains_cons, List.contains_nil, Option.map_some, Option.map_none, reduceIte, reduceCtorEq, Nat.reduceEqDiff, Nat.reduceLT, Nat.reduceBEq, Nat.reduceAdd, Nat.reduceMul, Nat.reduceLeDiff, Nat.reduceSub, Bool.false_eq_true]; try rfl) | skip)
theorem l03_ShapeTells_j1_ok (p0 : Shape) (p1 : Int) : Sim (l03_ShapeTells_j1 p0 p1) fun r => evX (evI T) x4_1 [(1, .int .i64 p1), (2, .box [.int .i64 p0.Slots, .int .i64 p0.Mask])] = some (.norm, [(4, .bool r)]) := by
  unfold l03_ShapeTells_j1
  refine sim_bind (fun r2 h5 => ?_)
  have f6 := shape_Pointer_ok p0 p1 _ h5
  dsimp only at f6
  refine sim_bind (fun r3 h7 => ?_)
  have f8 := r03_Pointer_ok p0 p1 _ h7
  dsimp only at f8
  refine sim_if (fun h9 => ?_) (fun h9 => ?_)
  · refine sim_bind (fun r4 h10 => ?_)
    have f11 := shape_Pointers_ok p0 _ h10
    dsimp only at f11
    refine sim_bind (fun r5 h12 => ?_)
    have f13 := r03_Pointers_ok p0 _ h12
    dsimp only at f13
    refine sim_if (fun h14 => ?_) (fun h14 => ?_)
    · refine sim_bind (fun r6 h15 => ?_)
      have f16 := shape_Print_ok p0 _ h15
      dsimp only at f16
      refine sim_bind (fun r7 h17 => ?_)
      have f18 := r03_Print_ok p0 _ h17
      dsimp only at f18
      refine sim_if (fun h19 => ?_) (fun h19 => ?_)
      · refine sim_bind (fun r8 h20 => ?_)
        have f21 := shape_Head_ok p0 _ h20
        dsimp only at f21
        refine sim_bind (fun r9 h22 => ?_)
        have f23 := r03_Head_ok p0 _ h22
        dsimp only at f23
        refine sim_if (fun h24 => ?_) (fun h24 => ?_)
        · have f25 := l03_works_ok
          refine sim_some ?_
          try simp only [nz, nzShape] at f6
          try simp only [nz, nzShape] at f8
          try simp only [nz, nzShape] at f11
          try simp only [nz, nzShape] at f13
          try simp only [nz, nzShape] at f16
          try simp only [nz, nzShape] at f18
          try simp only [nz, nzShape] at f21
          try simp only [nz, nzShape] at f23
          refine' (w_regD ?_ ?_ (w_consD rfl ?_ ?_ ?_ (w_consD rfl ?_ ?_ ?_ (w_consD rfl ?_ ?_ ?_ (w_consD rfl ?_ ?_ ?_ (w_consD rfl ?_ ?_ ?_ (w_consD rfl ?_ ?_ ?_ (w_consD rfl ?_ ?_ ?_ (w_consD rfl ?_ ?_ ?_ (w_consD rfl ?_ ?_ ?_ (w_consD rfl ?_ ?_ ?_ (w_consD rfl ?_ ?_ ?_ (w_consD rfl ?_ ?_ ?_ (w_consD rfl ?_ ?_ ?_ (w_consD rfl ?_ ?_ ?_ (w_consD rfl ?_ ?_ ?_ (w_consD rfl ?_ ?_ ?_ (w_consD rfl ?_ ?_ ?_ (w_consD rfl ?_ ?_ ?_ (w_consD rfl ?_ ?_ ?_ (w_consD rfl ?_ ?_ ?_ (w_consD rfl ?_ ?_ ?_ (w_consD rfl ?_ ?_ ?_ (w_consD rfl ?_ ?_ ?_ (w_consD rfl ?_ ?_ ?_ (w_consD rfl ?_ ?_ ?_ (w_consD rfl ?_ ?_ ?_ (w_consD rfl ?_ ?_ ?_ (w_consD rfl ?_ ?_ ?_ (w_consD rfl ?_ ?_ ?_ (w_consD rfl ?_ ?_ ?_ (w_consD rfl ?_ ?_ ?_ (w_barD rfl rfl (w_cons ?_ w_nil))))))))))))))))))))))))))))))))) ?_)
          all_goals (first | (simp only [nz, rn, nzShape, f6, f8, h9, f11, f13, h14, f16, f18, h19, f21, f23, h24, f25, Int.reduceLT, Int.reduceEq, List.contains_cons, List.contains_nil, Option.map_some, Option.map_none, reduceIte, reduceCtorEq, Nat.reduceEqDiff, Nat.reduceLT, Nat.reduceBEq, Nat.reduceAdd, Nat.reduceMul, Nat.reduceLeDiff, Nat.reduceSub, Bool.false_eq_true]; try rfl) | skip)
        · refine sim_some ?_
          try simp only [nz, nzShape] at f6
          try simp only [nz, nzShape] at f8
          try simp only [nz, nzShape] at f11
          try simp only [nz, nzShape] at f13
          try simp only [nz, nzShape] at f16
          try simp only [nz, nzShape] at f18
          try simp only [nz, nzShape] at f21
          try simp only [nz, nzShape] at f23
          refine' (w_regD ?_ ?_ (w_consD rfl ?_ ?_ ?_ (w_consD rfl ?_ ?_ ?_ (w_consD rfl ?_ ?_ ?_ (w_consD rfl ?_ ?_ ?_ (w_consD rfl ?_ ?_ ?_ (w_consD rfl ?_ ?_ ?_ (w_consD rfl ?_ ?_ ?_ (w_consD rfl ?_ ?_ ?_ (w_consD rfl ?_ ?_ ?_ (w_consD rfl ?_ ?_ ?_ (w_consD rfl ?_ ?_ ?_ (w_consD rfl ?_ ?_ ?_ (w_consD rfl ?_ ?_ ?_ (w_consD rfl ?_ ?_ ?_ (w_consD rfl ?_ ?_ ?_ (w_consD rfl ?_ ?_ ?_ (w_consD rfl ?_ ?_ ?_ (w_consD rfl ?_ ?_ ?_ (w_consD rfl ?_ ?_ ?_ (w_consD rfl ?_ ?_ ?_ (w_consD rfl ?_ ?_ ?_ (w_consD rfl ?_ ?_ ?_ (w_consD rfl ?_ ?_ ?_ (w_consD rfl ?_ ?_ ?_ (w_consD rfl ?_ ?_ ?_ (w_consD rfl ?_ ?_ ?_ (w_consD rfl ?_ ?_ ?_ (w_consD rfl ?_ ?_ ?_ (w_consD rfl ?_ ?_ ?_ (w_consD rfl ?_ ?_ ?_ (w_consD rfl ?_ ?_ ?_ (w_barD rfl rfl (w_cons ?_ w_nil))))))))))))))))))))))))))))))))) ?_)
          all_goals (first | (simp only [nz, rn, nzShape, f6, f8, h9, f11, f13, h14, f16, f18, h19, f21, f23, h24, Int.reduceLT, Int.reduceEq, List.contains_cons, List.contains_nil, Option.map_some, Option.map_none, reduceIte, reduceCtorEq, Nat.reduceEqDiff, Nat.reduceLT, Nat.reduceBEq, Nat.reduceAdd, Nat.reduceMul, Nat.reduceLeDiff, Nat.reduceSub, Bool.false_eq_true]; try rfl) | skip)
      · refine sim_some ?_
        try simp only [nz, nzShape] at f6
        try simp only [nz, nzShape] at f8
        try simp only [nz, nzShape] at f11
        try simp only [nz, nzShape] at f13
        try simp only [nz, nzShape] at f16
        try simp only [nz, nzShape] at f18
        refine' (w_regD ?_ ?_ (w_consD rfl ?_ ?_ ?_ (w_consD rfl ?_ ?_ ?_ (w_consD rfl ?_ ?_ ?_ (w_consD rfl ?_ ?_ ?_ (w_consD rfl ?_ ?_ ?_ (w_consD rfl ?_ ?_ ?_ (w_consD rfl ?_ ?_ ?_ (w_consD rfl ?_ ?_ ?_ (w_consD rfl ?_ ?_ ?_ (w_consD rfl ?_ ?_ ?_ (w_consD rfl ?_ ?_ ?_ (w_consD rfl ?_ ?_ ?_ (w_consD rfl ?_ ?_ ?_ (w_consD rfl ?_ ?_ ?_ (w_consD rfl ?_ ?_ ?_ (w_consD rfl ?_ ?_ ?_ (w_consD rfl ?_ ?_ ?_ (w_consD rfl ?_ ?_ ?_ (w_consD rfl ?_ ?_ ?_ (w_consD rfl ?_ ?_ ?_ (w_consD rfl ?_ ?_ ?_ (w_consD rfl ?_ ?_ ?_ (w_consD rfl ?_ ?_ ?_ (w_consD rfl ?_ ?_ ?_ (w_consD rfl ?_ ?_ ?_ (w_consD rfl ?_ ?_ ?_ (w_consD rfl ?_ ?_ ?_ (w_consD rfl ?_ ?_ ?_ (w_consD rfl ?_ ?_ ?_ (w_consD rfl ?_ ?_ ?_ (w_consD rfl ?_ ?_ ?_ (w_barD rfl rfl (w_cons ?_ w_nil))))))))))))))))))))))))))))))))) ?_)
        all_goals (first | (simp only [nz, rn, nzShape, f6, f8, h9, f11, f13, h14, f16, f18, h19, Int.reduceLT, Int.reduceEq, List.contains_cons, List.contains_nil, Option.map_some, Option.map_none, reduceIte, reduceCtorEq, Nat.reduceEqDiff, Nat.reduceLT, Nat.reduceBEq, Nat.reduceAdd, Nat.reduceMul, Nat.reduceLeDiff, Nat.reduceSub, Bool.false_eq_true]; try rfl) | skip)
    · refine sim_some ?_
      try simp only [nz, nzShape] at f6
      try simp only [nz, nzShape] at f8
      try simp only [nz, nzShape] at f11
      try simp only [nz, nzShape] at f13
      refine' (w_regD ?_ ?_ (w_consD rfl ?_ ?_ ?_ (w_consD rfl ?_ ?_ ?_ (w_consD rfl ?_ ?_ ?_ (w_consD rfl ?_ ?_ ?_ (w_consD rfl ?_ ?_ ?_ (w_consD rfl ?_ ?_ ?_ (w_consD rfl ?_ ?_ ?_ (w_consD rfl ?_ ?_ ?_ (w_consD rfl ?_ ?_ ?_ (w_consD rfl ?_ ?_ ?_ (w_consD rfl ?_ ?_ ?_ (w_consD rfl ?_ ?_ ?_ (w_consD rfl ?_ ?_ ?_ (w_consD rfl ?_ ?_ ?_ (w_consD rfl ?_ ?_ ?_ (w_consD rfl ?_ ?_ ?_ (w_consD rfl ?_ ?_ ?_ (w_consD rfl ?_ ?_ ?_ (w_consD rfl ?_ ?_ ?_ (w_consD rfl ?_ ?_ ?_ (w_consD rfl ?_ ?_ ?_ (w_consD rfl ?_ ?_ ?_ (w_consD rfl ?_ ?_ ?_ (w_consD rfl ?_ ?_ ?_ (w_consD rfl ?_ ?_ ?_ (w_consD rfl ?_ ?_ ?_ (w_consD rfl ?_ ?_ ?_ (w_consD rfl ?_ ?_ ?_ (w_consD rfl ?_ ?_ ?_ (w_consD rfl ?_ ?_ ?_ (w_consD rfl ?_ ?_ ?_ (w_barD rfl rfl (w_cons ?_ w_nil))))))))))))))))))))))))))))))))) ?_)
      all_goals (first | (simp only [nz, rn, nzShape, f6, f8, h9, f11, f13, h14, Int.reduceLT, Int.reduceEq, List.contains_cons, List.contains_nil, Option.map_some, Option.map_none, reduceIte, reduceCtorEq, Nat.reduceEqDiff, Nat.reduceLT, Nat.reduceBEq, Nat.reduceAdd, Nat.reduceMul, Nat.reduceLeDiff, Nat.reduceSub, Bool.false_eq_true]; try rfl) | skip)
  · refine sim_some ?_
    try simp only [nz, nzShape] at f6
    try simp only [nz, nzShape] at f8
    refine' (w_regD ?_ ?_ (w_consD rfl ?_ ?_ ?_ (w_consD rfl ?_ ?_ ?_ (w_consD rfl ?_ ?_ ?_ (w_consD rfl ?_ ?_ ?_ (w_consD rfl ?_ ?_ ?_ (w_consD rfl ?_ ?_ ?_ (w_consD rfl ?_ ?_ ?_ (w_consD rfl ?_ ?_ ?_ (w_consD rfl ?_ ?_ ?_ (w_consD rfl ?_ ?_ ?_ (w_consD rfl ?_ ?_ ?_ (w_consD rfl ?_ ?_ ?_ (w_consD rfl ?_ ?_ ?_ (w_consD rfl ?_ ?_ ?_ (w_consD rfl ?_ ?_ ?_ (w_consD rfl ?_ ?_ ?_ (w_consD rfl ?_ ?_ ?_ (w_consD rfl ?_ ?_ ?_ (w_consD rfl ?_ ?_ ?_ (w_consD rfl ?_ ?_ ?_ (w_consD rfl ?_ ?_ ?_ (w_consD rfl ?_ ?_ ?_ (w_consD rfl ?_ ?_ ?_ (w_consD rfl ?_ ?_ ?_ (w_consD rfl ?_ ?_ ?_ (w_consD rfl ?_ ?_ ?_ (w_consD rfl ?_ ?_ ?_ (w_consD rfl ?_ ?_ ?_ (w_consD rfl ?_ ?_ ?_ (w_consD rfl ?_ ?_ ?_ (w_consD rfl ?_ ?_ ?_ (w_barD rfl rfl (w_cons ?_ w_nil))))))))))))))))))))))))))))))))) ?_)
    all_goals (first | (simp only [nz, rn, nzShape, f6, f8, h9, Int.reduceLT, Int.reduceEq, List.contains_cons, List.contains_nil, Option.map_some, Option.map_none, reduceIte, reduceCtorEq, Nat.reduceEqDiff, Nat.reduceLT, Nat.reduceBEq, Nat.reduceAdd, Nat.reduceMul, Nat.reduceLeDiff, Nat.reduceSub, Bool.false_eq_true]; try rfl) | skip)
theorem l03_ShapeTells_ok (p0 : Shape) (p1 : Int) : Sim (l03_ShapeTells p0 p1) fun r => evI T 4 [.agg [.int .i64 p0.Slots, .int .i64 p0.Mask], .int .i64 p1] = some (.bool r, [.none, .none]) := by
  unfold l03_ShapeTells
  refine sim_bind (fun r1 h1 => ?_)
  have f2 := r03_Check_ok p0 _ h1
  dsimp only at f2
  refine sim_if (fun h3 => ?_) (fun h3 => ?_)
  · have f4 := l03_works_ok
    refine sim_some ?_
    refine evI_ret (x := x4) rfl rfl ?_
    try simp only [nz, nzShape] at f2
    refine' (w_fn rfl rfl (w_seq (w_reg (w_cons ?_ (w_cons ?_ w_nil)) ?_) (w_go (w_seq (w_seq (w_reg (w_cons ?_ (w_cons ?_ (w_cons ?_ w_nil))) ?_) (w_go (w_condt ?_ (w_seq (w_reg (w_cons ?_ (w_cons ?_ w_nil)) ?_) (w_go w_ret)) ?_))) w_gor))) ?_)
    all_goals (first | (simp only [x4, nz, rn, nzShape, f2, h3, f4, Int.reduceLT, Int.reduceEq, List.contains_cons, List.contains_nil, Option.map_some, Option.map_none, reduceIte, reduceCtorEq, Nat.reduceEqDiff, Nat.reduceLT, Nat.reduceBEq, Nat.reduceAdd, Nat.reduceMul, Nat.reduceLeDiff, Nat.reduceSub, Bool.false_eq_true]; try rfl) | skip)
  · refine sim_bind (fun v10 h26 => ?_)
    have f27 := l03_ShapeTells_j1_ok p0 p1 _ h26
    dsimp only at f27
    refine sim_some ?_
    refine evI_ret (x := x4) rfl rfl ?_
    try simp only [nz, nzShape] at f2
    try simp only [nz, nzShape] at f27
    refine' (w_fn rfl rfl (w_seq (w_reg (w_cons ?_ (w_cons ?_ w_nil)) ?_) (w_go (w_seq (w_seq (w_reg (w_cons ?_ (w_cons ?_ (w_cons ?_ w_nil))) ?_) (w_go (w_condf ?_ w_skip ?_))) (w_go (w_seq f27 (w_go w_ret)))))) ?_)
    all_goals (first | (simp only [x4, nz, rn, nzShape, f2, h3, Int.reduceLT, Int.reduceEq, List.contains_cons, List.contains_nil, Option.map_some, Option.map_none, reduceIte, reduceCtorEq, Nat.reduceEqDiff, Nat.reduceLT, Nat.reduceBEq, Nat.reduceAdd, Nat.reduceMul, Nat.reduceLeDiff, Nat.reduceSub, Bool.false_eq_true]; try rfl) | skip)
theorem l03_ShapeBack_j2_ok (p0 : Shape) (p1 : Str) (p2 : Int) (r3a : Shape) (r3b : Int) (r5a : Shape) (r5b : Int) : evX (evI T) x5_1 [(1, .str p1), (2, .int .i64 p2), (3, .box [.int .i64 p0.Slots, .int .i64 p0.Mask]), (7, .box [.int .i64 r3a.Slots, .int .i64 r3a.Mask]), (8, .int .i64 r3b), (9, .box [.int .i64 r5a.Slots, .int .i64 r5a.Mask]), (10, .int .i64 r5b)] = some (.norm, [(1, .str p1), (2, .int .i64 p2), (49, .bool ((((r3b != 0)) || ((((r5b != 0)) || ((((!((r3a.Slots == p0.Slots) && (r3a.Mask == p0.Mask)))) || ((!((r5a.Slots == p0.Slots) && (r5a.Mask == p0.Mask)))))))))))]) := by
  rcases Bool.eq_false_or_eq_true ((r3b != 0)) with h14 | h14
  · refine' (w_reg (w_cons ?_ (w_cons ?_ (w_cons ?_ (w_cons ?_ (w_cons ?_ (w_cons ?_ (w_cons ?_ (w_cons ?_ (w_cons ?_ (w_cons ?_ (w_cons ?_ (w_cons ?_ (w_cons ?_ (w_cons ?_ (w_cons ?_ (w_cons ?_ w_nil)))))))))))))))) ?_)
    all_goals (first | (simp only [nz, rn, nzShape, h14, Int.reduceLT, Int.reduceEq, List.contains_cons, List.contains_nil, Option.map_some, Option.map_none, reduceIte, reduceCtorEq, Nat.reduceEqDiff, Nat.reduceLT, Nat.reduceBEq, Nat.reduceAdd, Nat.reduceMul, Nat.reduceLeDiff, Nat.reduceSub, Bool.false_eq_true]; try rfl) | skip)
  · rcases Bool.eq_false_or_eq_true ((r5b != 0)) with h15 | h15
    · refine' (w_reg (w_cons ?_ (w_cons ?_ (w_cons ?_ (w_cons ?_ (w_cons ?_ (w_cons ?_ (w_cons ?_ (w_cons ?_ (w_cons ?_ (w_cons ?_ (w_cons ?_ (w_cons ?_ (w_cons ?_ (w_cons ?_ (w_cons ?_ (w_cons ?_ w_nil)))))))))))))))) ?_)
      all_goals (first | (simp only [nz, rn, nzShape, h14, h15, Int.reduceLT, Int.reduceEq, List.contains_cons, List.contains_nil, Option.map_some, Option.map_none, reduceIte, reduceCtorEq, Nat.reduceEqDiff, Nat.reduceLT, Nat.reduceBEq, Nat.reduceAdd, Nat.reduceMul, Nat.reduceLeDiff, Nat.reduceSub, Bool.false_eq_true]; try rfl) | skip)
    · rcases Bool.eq_false_or_eq_true ((!((r3a.Slots == p0.Slots) && (r3a.Mask == p0.Mask)))) with h16 | h16
      · refine' (w_reg (w_cons ?_ (w_cons ?_ (w_cons ?_ (w_cons ?_ (w_cons ?_ (w_cons ?_ (w_cons ?_ (w_cons ?_ (w_cons ?_ (w_cons ?_ (w_cons ?_ (w_cons ?_ (w_cons ?_ (w_cons ?_ (w_cons ?_ (w_cons ?_ w_nil)))))))))))))))) ?_)
        all_goals (first | (simp only [nz, rn, nzShape, h14, h15, h16, Int.reduceLT, Int.reduceEq, List.contains_cons, List.contains_nil, Option.map_some, Option.map_none, reduceIte, reduceCtorEq, Nat.reduceEqDiff, Nat.reduceLT, Nat.reduceBEq, Nat.reduceAdd, Nat.reduceMul, Nat.reduceLeDiff, Nat.reduceSub, Bool.false_eq_true]; try rfl) | skip)
      · refine' (w_reg (w_cons ?_ (w_cons ?_ (w_cons ?_ (w_cons ?_ (w_cons ?_ (w_cons ?_ (w_cons ?_ (w_cons ?_ (w_cons ?_ (w_cons ?_ (w_cons ?_ (w_cons ?_ (w_cons ?_ (w_cons ?_ (w_cons ?_ (w_cons ?_ w_nil)))))))))))))))) ?_)
        all_goals (first | (simp only [nz, rn, nzShape, h14, h15, h16, Int.reduceLT, Int.reduceEq, List.contains_cons, List.contains_nil, Option.map_some, Option.map_none, reduceIte, reduceCtorEq, Nat.reduceEqDiff, Nat.reduceLT, Nat.reduceBEq, Nat.reduceAdd, Nat.reduceMul, Nat.reduceLeDiff, Nat.reduceSub, Bool.false_eq_true]; try rfl) | skip)
theorem l03_ShapeBack_j3_ok (p0 : Shape) (p1 : Str) (p2 : Int) (r1 : Int) : Sim (l03_ShapeBack_j3 p0 p1 p2 r1) fun r => evX (evI T) x5_2 [(1, .str p1), (2, .int .i64 p2), (3, .box [.int .i64 p0.Slots, .int .i64 p0.Mask]), (21, .bool ((r1 == 0)))] = some (stpK (fun t0 => (.norm, [(1, .str p1), (2, .int .i64 p2)])) (fun u0 => (.ret, [(6, .bool false)])) r) := by
  unfold l03_ShapeBack_j3
  refine sim_if (fun h5 => ?_) (fun h5 => ?_)
  · refine sim_bind (fun r2 h6 => ?_)
    have f7 := shape_Print_ok p0 _ h6
    dsimp only at f7
    refine sim_bind (fun qh8 h8 => ?_)
    obtain ⟨r3a, r3b⟩ := qh8
    dsimp only
    have f9 := shape_Parse_ok r2 _ h8
    dsimp only at f9
    refine sim_bind (fun r4 h10 => ?_)
    have f11 := shape_Head_ok p0 _ h10
    dsimp only at f11
    refine sim_bind (fun qh12 h12 => ?_)
    obtain ⟨r5a, r5b⟩ := qh12
    dsimp only
    have f13 := shape_Of_ok r4 _ h12
    dsimp only at f13
    have f18 := l03_ShapeBack_j2_ok p0 p1 p2 r3a r3b r5a r5b
    refine sim_if (fun h19 => ?_) (fun h19 => ?_)
    · refine sim_some ?_
      try simp only [nz, nzShape] at f7
      try simp only [nz, nzShape] at f9
      try simp only [nz, nzShape] at f11
      try simp only [nz, nzShape] at f13
      try simp only [nz, nzShape] at f18
      refine' (w_condt ?_ (w_seq (w_reg (w_cons ?_ (w_cons ?_ (w_cons ?_ (w_cons ?_ (w_cons ?_ (w_cons ?_ (w_cons ?_ (w_cons ?_ (w_cons ?_ w_nil))))))))) ?_) (w_go (w_seq (w_reg (w_cons ?_ (w_cons ?_ (w_cons ?_ (w_cons ?_ (w_cons ?_ (w_cons ?_ (w_cons ?_ (w_cons ?_ (w_cons ?_ w_nil))))))))) ?_) (w_go (w_seq f18 (w_go (w_condt ?_ (w_seq (w_reg (w_cons ?_ w_nil) ?_) (w_go w_ret)) ?_))))))) ?_)
      all_goals (first | (simp only [nz, rn, nzShape, h5, f7, f9, f11, f13, h19, Int.reduceLT, Int.reduceEq, List.contains_cons, List.contains_nil, Option.map_some, Option.map_none, reduceIte, reduceCtorEq, Nat.reduceEqDiff, Nat.reduceLT, Nat.reduceBEq, Nat.reduceAdd, Nat.reduceMul, Nat.reduceLeDiff, Nat.reduceSub, Bool.false_eq_true]; try rfl) | skip)
    · refine sim_some ?_
      try simp only [nz, nzShape] at f7
      try simp only [nz, nzShape] at f9
      try simp only [nz, nzShape] at f11
      try simp only [nz, nzShape] at f13
      try simp only [nz, nzShape] at f18
      refine' (w_condt ?_ (w_seq (w_reg (w_cons ?_ (w_cons ?_ (w_cons ?_ (w_cons ?_ (w_cons ?_ (w_cons ?_ (w_cons ?_ (w_cons ?_ (w_cons ?_ w_nil))))))))) ?_) (w_go (w_seq (w_reg (w_cons ?_ (w_cons ?_ (w_cons ?_ (w_cons ?_ (w_cons ?_ (w_cons ?_ (w_cons ?_ (w_cons ?_ (w_cons ?_ w_nil))))))))) ?_) (w_go (w_seq f18 (w_go (w_condf ?_ w_skip ?_))))))) ?_)
      all_goals (first | (simp only [nz, rn, nzShape, h5, f7, f9, f11, f13, h19, Int.reduceLT, Int.reduceEq, List.contains_cons, List.contains_nil, Option.map_some, Option.map_none, reduceIte, reduceCtorEq, Nat.reduceEqDiff, Nat.reduceLT, Nat.reduceBEq, Nat.reduceAdd, Nat.reduceMul, Nat.reduceLeDiff, Nat.reduceSub, Bool.false_eq_true]; try rfl) | skip)
  · refine sim_some ?_
    refine' (w_condf ?_ w_skip ?_)
    all_goals (first | (simp only [nz, rn, nzShape, h5, Int.reduceLT, Int.reduceEq, List.contains_cons, List.contains_nil, Option.map_some, Option.map_none, reduceIte, reduceCtorEq, Nat.reduceEqDiff, Nat.reduceLT, Nat.reduceBEq, Nat.reduceAdd, Nat.reduceMul, Nat.reduceLeDiff, Nat.reduceSub, Bool.false_eq_true]; try rfl) | skip)
theorem l03_ShapeBack_j4_ok (p1 : Str) (p2 : Int) (r7a : Shape) (r7b : Int) : Sim (l03_ShapeBack_j4 p1 p2 r7a r7b) fun r => evX (evI T) x5_3 [(1, .str p1), (2, .int .i64 p2), (11, .box [.int .i64 r7a.Slots, .int .i64 r7a.Mask]), (12, .int .i64 r7b)] = some (.norm, [(2, .int .i64 p2), (62, .bool r)]) := by
  unfold l03_ShapeBack_j4
  refine sim_if (fun h24 => ?_) (fun h24 => ?_)
  · refine sim_bind (fun r8 h25 => ?_)
    have f26 := shape_Print_ok r7a _ h25
    dsimp only at f26
    refine sim_some ?_
    try simp only [nz, nzShape] at f26
    refine' (w_reg (w_cons ?_ (w_cons ?_ (w_cons ?_ (w_cons ?_ (w_cons ?_ (w_cons ?_ (w_cons ?_ (w_cons ?_ w_nil)))))))) ?_)
    all_goals (first | (simp only [nz, rn, nzShape, h24, f26, Int.reduceLT, Int.reduceEq, List.contains_cons, List.contains_nil, Option.map_some, Option.map_none, reduceIte, reduceCtorEq, Nat.reduceEqDiff, Nat.reduceLT, Nat.reduceBEq, Nat.reduceAdd, Nat.reduceMul, Nat.reduceLeDiff, Nat.reduceSub, Bool.false_eq_true]; try rfl) | skip)
  · refine sim_some ?_
    refine' (w_reg (w_cons ?_ (w_cons ?_ (w_cons ?_ (w_cons ?_ (w_cons ?_ (w_cons ?_ (w_cons ?_ (w_cons ?_ w_nil)))))))) ?_)
    all_goals (first | (simp only [nz, rn, nzShape, h24, Int.reduceLT, Int.reduceEq, List.contains_cons, List.contains_nil, Option.map_some, Option.map_none, reduceIte, reduceCtorEq, Nat.reduceEqDiff, Nat.reduceLT, Nat.reduceBEq, Nat.reduceAdd, Nat.reduceMul, Nat.reduceLeDiff, Nat.reduceSub, Bool.false_eq_true]; try rfl) | skip)
theorem l03_ShapeBack_j5_ok (p2 : Int) (r10a : Shape) (r10b : Int) : Sim (l03_ShapeBack_j5 p2 r10a r10b) fun r => evX (evI T) x5_4 [(2, .int .i64 p2), (13, .box [.int .i64 r10a.Slots, .int .i64 r10a.Mask]), (14, .int .i64 r10b)] = some (.norm, [(75, .bool r)]) := by
  unfold l03_ShapeBack_j5
  refine sim_if (fun h32 => ?_) (fun h32 => ?_)
  · refine sim_bind (fun r11 h33 => ?_)
    have f34 := shape_Head_ok r10a _ h33
    dsimp only at f34
    refine sim_some ?_
    try simp only [nz, nzShape] at f34
    refine' (w_reg (w_cons ?_ (w_cons ?_ (w_cons ?_ (w_cons ?_ (w_cons ?_ (w_cons ?_ (w_cons ?_ (w_cons ?_ w_nil)))))))) ?_)
    all_goals (first | (simp only [nz, rn, nzShape, h32, f34, Int.reduceLT, Int.reduceEq, List.contains_cons, List.contains_nil, Option.map_some, Option.map_none, reduceIte, reduceCtorEq, Nat.reduceEqDiff, Nat.reduceLT, Nat.reduceBEq, Nat.reduceAdd, Nat.reduceMul, Nat.reduceLeDiff, Nat.reduceSub, Bool.false_eq_true]; try rfl) | skip)
  · refine sim_some ?_
    refine' (w_reg (w_cons ?_ (w_cons ?_ (w_cons ?_ (w_cons ?_ (w_cons ?_ (w_cons ?_ (w_cons ?_ (w_cons ?_ w_nil)))))))) ?_)
    all_goals (first | (simp only [nz, rn, nzShape, h32, Int.reduceLT, Int.reduceEq, List.contains_cons, List.contains_nil, Option.map_some, Option.map_none, reduceIte, reduceCtorEq, Nat.reduceEqDiff, Nat.reduceLT, Nat.reduceBEq, Nat.reduceAdd, Nat.reduceMul, Nat.reduceLeDiff, Nat.reduceSub, Bool.false_eq_true]; try rfl) | skip)
theorem l03_ShapeBack_ok (p0 : Shape) (p1 : Str) (p2 : Int) : Sim (l03_ShapeBack p0 p1 p2) fun r => evI T 5 [.agg [.int .i64 p0.Slots, .int .i64 p0.Mask], .str p1, .int .i64 p2] = some (.bool r, [.none, .none, .none]) := by
  unfold l03_ShapeBack
  refine sim_if (fun h1 => ?_) (fun h1 => ?_)
  · have f2 := l03_works_ok
    refine sim_some ?_
    refine evI_ret (x := x5) rfl rfl ?_
    refine' (w_fn rfl rfl (w_seq (w_reg (w_cons ?_ (w_cons ?_ w_nil)) ?_) (w_go (w_seq (w_seq (w_reg (w_cons ?_ (w_cons ?_ (w_cons ?_ w_nil))) ?_) (w_go (w_condt ?_ (w_seq (w_reg (w_cons ?_ (w_cons ?_ w_nil)) ?_) (w_go w_ret)) ?_))) w_gor))) ?_)
    all_goals (first | (simp only [x5, nz, rn, nzShape, h1, f2, Int.reduceLT, Int.reduceEq, List.contains_cons, List.contains_nil, Option.map_some, Option.map_none, reduceIte, reduceCtorEq, Nat.reduceEqDiff, Nat.reduceLT, Nat.reduceBEq, Nat.reduceAdd, Nat.reduceMul, Nat.reduceLeDiff, Nat.reduceSub, Bool.false_eq_true]; try rfl) | skip)
  · refine sim_bind (fun r1 h3 => ?_)
    have f4 := r03_Check_ok p0 _ h3
    dsimp only at f4
    refine sim_bind (fun qh20 h20 => ?_)
    rcases qh20 with ⟨_⟩ | ⟨_⟩
    · dsimp only
      have f21 := l03_ShapeBack_j3_ok p0 p1 p2 r1 _ h20
      dsimp only at f21
      refine sim_bind (fun qh22 h22 => ?_)
      obtain ⟨r7a, r7b⟩ := qh22
      dsimp only
      have f23 := shape_Parse_ok p1 _ h22
      dsimp only at f23
      refine sim_bind (fun v9 h27 => ?_)
      have f28 := l03_ShapeBack_j4_ok p1 p2 r7a r7b _ h27
      dsimp only at f28
      refine sim_if (fun h29 => ?_) (fun h29 => ?_)
      · refine sim_some ?_
        refine evI_ret (x := x5) rfl rfl ?_
        try simp only [nz, nzShape] at f4
        try simp only [nz, nzShape] at f21
        try simp only [nz, nzShape] at f23
        try simp only [nz, nzShape] at f28
        refine' (w_fn rfl rfl (w_seq (w_reg (w_cons ?_ (w_cons ?_ w_nil)) ?_) (w_go (w_seq (w_seq (w_reg (w_cons ?_ (w_cons ?_ (w_cons ?_ w_nil))) ?_) (w_go (w_condf ?_ w_skip ?_))) (w_go (w_seq (w_seq (w_reg (w_cons ?_ (w_cons ?_ (w_cons ?_ w_nil))) ?_) (w_go f21)) (w_go (w_seq (w_seq (w_reg (w_cons ?_ (w_cons ?_ (w_cons ?_ (w_cons ?_ (w_cons ?_ (w_cons ?_ (w_cons ?_ (w_cons ?_ w_nil)))))))) ?_) (w_go (w_seq f28 (w_go (w_condt ?_ (w_seq (w_reg (w_cons ?_ w_nil) ?_) (w_go w_ret)) ?_))))) w_gor))))))) ?_)
        all_goals (first | (simp only [x5, nz, rn, nzShape, h1, f4, f23, h29, Int.reduceLT, Int.reduceEq, List.contains_cons, List.contains_nil, Option.map_some, Option.map_none, reduceIte, reduceCtorEq, Nat.reduceEqDiff, Nat.reduceLT, Nat.reduceBEq, Nat.reduceAdd, Nat.reduceMul, Nat.reduceLeDiff, Nat.reduceSub, Bool.false_eq_true]; try rfl) | skip)
      · refine sim_bind (fun qh30 h30 => ?_)
        obtain ⟨r10a, r10b⟩ := qh30
        dsimp only
        have f31 := shape_Of_ok p2 _ h30
        dsimp only at f31
        refine sim_bind (fun v12 h35 => ?_)
        have f36 := l03_ShapeBack_j5_ok p2 r10a r10b _ h35
        dsimp only at f36
        refine sim_if (fun h37 => ?_) (fun h37 => ?_)
        · refine sim_some ?_
          refine evI_ret (x := x5) rfl rfl ?_
          try simp only [nz, nzShape] at f4
          try simp only [nz, nzShape] at f21
          try simp only [nz, nzShape] at f23
          try simp only [nz, nzShape] at f28
          try simp only [nz, nzShape] at f31
          try simp only [nz, nzShape] at f36
          refine' (w_fn rfl rfl (w_seq (w_reg (w_cons ?_ (w_cons ?_ w_nil)) ?_) (w_go (w_seq (w_seq (w_reg (w_cons ?_ (w_cons ?_ (w_cons ?_ w_nil))) ?_) (w_go (w_condf ?_ w_skip ?_))) (w_go (w_seq (w_seq (w_reg (w_cons ?_ (w_cons ?_ (w_cons ?_ w_nil))) ?_) (w_go f21)) (w_go (w_seq (w_seq (w_reg (w_cons ?_ (w_cons ?_ (w_cons ?_ (w_cons ?_ (w_cons ?_ (w_cons ?_ (w_cons ?_ (w_cons ?_ w_nil)))))))) ?_) (w_go (w_seq f28 (w_go (w_condf ?_ w_skip ?_))))) (w_go (w_seq (w_seq (w_reg (w_cons ?_ (w_cons ?_ (w_cons ?_ (w_cons ?_ (w_cons ?_ (w_cons ?_ (w_cons ?_ (w_cons ?_ w_nil)))))))) ?_) (w_go (w_seq f36 (w_go (w_condt ?_ (w_seq (w_reg (w_cons ?_ w_nil) ?_) (w_go w_ret)) ?_))))) w_gor))))))))) ?_)
          all_goals (first | (simp only [x5, nz, rn, nzShape, h1, f4, f23, h29, f31, h37, Int.reduceLT, Int.reduceEq, List.contains_cons, List.contains_nil, Option.map_some, Option.map_none, reduceIte, reduceCtorEq, Nat.reduceEqDiff, Nat.reduceLT, Nat.reduceBEq, Nat.reduceAdd, Nat.reduceMul, Nat.reduceLeDiff, Nat.reduceSub, Bool.false_eq_true]; try rfl) | skip)
        · have f38 := l03_works_ok
          refine sim_some ?_
          refine evI_ret (x := x5) rfl rfl ?_
          try simp only [nz, nzShape] at f4
          try simp only [nz, nzShape] at f21
          try simp only [nz, nzShape] at f23
          try simp only [nz, nzShape] at f28
          try simp only [nz, nzShape] at f31
          try simp only [nz, nzShape] at f36
          refine' (w_fn rfl rfl (w_seq (w_reg (w_cons ?_ (w_cons ?_ w_nil)) ?_) (w_go (w_seq (w_seq (w_reg (w_cons ?_ (w_cons ?_ (w_cons ?_ w_nil))) ?_) (w_go (w_condf ?_ w_skip ?_))) (w_go (w_seq (w_seq (w_reg (w_cons ?_ (w_cons ?_ (w_cons ?_ w_nil))) ?_) (w_go f21)) (w_go (w_seq (w_seq (w_reg (w_cons ?_ (w_cons ?_ (w_cons ?_ (w_cons ?_ (w_cons ?_ (w_cons ?_ (w_cons ?_ (w_cons ?_ w_nil)))))))) ?_) (w_go (w_seq f28 (w_go (w_condf ?_ w_skip ?_))))) (w_go (w_seq (w_seq (w_reg (w_cons ?_ (w_cons ?_ (w_cons ?_ (w_cons ?_ (w_cons ?_ (w_cons ?_ (w_cons ?_ (w_cons ?_ w_nil)))))))) ?_) (w_go (w_seq f36 (w_go (w_condf ?_ w_skip ?_))))) (w_go (w_seq (w_reg (w_cons ?_ (w_cons ?_ w_nil)) ?_) (w_go w_ret)))))))))))) ?_)
          all_goals (first | (simp only [x5, nz, rn, nzShape, h1, f4, f23, h29, f31, h37, f38, Int.reduceLT, Int.reduceEq, List.contains_cons, List.contains_nil, Option.map_some, Option.map_none, reduceIte, reduceCtorEq, Nat.reduceEqDiff, Nat.reduceLT, Nat.reduceBEq, Nat.reduceAdd, Nat.reduceMul, Nat.reduceLeDiff, Nat.reduceSub, Bool.false_eq_true]; try rfl) | skip)
    · dsimp only
      have f21 := l03_ShapeBack_j3_ok p0 p1 p2 r1 _ h20
      dsimp only at f21
      refine sim_some ?_
      refine evI_ret (x := x5) rfl rfl ?_
      try simp only [nz, nzShape] at f4
      try simp only [nz, nzShape] at f21
      refine' (w_fn rfl rfl (w_seq (w_reg (w_cons ?_ (w_cons ?_ w_nil)) ?_) (w_go (w_seq (w_seq (w_reg (w_cons ?_ (w_cons ?_ (w_cons ?_ w_nil))) ?_) (w_go (w_condf ?_ w_skip ?_))) (w_go (w_seq (w_seq (w_reg (w_cons ?_ (w_cons ?_ (w_cons ?_ w_nil))) ?_) (w_go f21)) w_gor))))) ?_)
      all_goals (first | (simp only [x5, nz, rn, nzShape, h1, f4, Int.reduceLT, Int.reduceEq, List.contains_cons, List.contains_nil, Option.map_some, Option.map_none, reduceIte, reduceCtorEq, Nat.reduceEqDiff, Nat.reduceLT, Nat.reduceBEq, Nat.reduceAdd, Nat.reduceMul, Nat.reduceLeDiff, Nat.reduceSub, Bool.false_eq_true]; try rfl) | skip)
end Go.Ab
