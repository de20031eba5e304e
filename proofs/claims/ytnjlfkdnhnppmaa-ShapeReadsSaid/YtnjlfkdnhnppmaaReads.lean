/-
  The statement ShapeReads of the seat, whatever the arguments: the law returns true, and the arguments read behind the call as they read before. No condition beyond those of the given row.
-/
import Derived.Test.YtnjlfkdnhnppmaaC
import Derived.Test.YtnjlfkdnhnppmaaE
import Derived.Test.YtnjlfkdnhnppmaaD
import Derived.Test.YtnjlfkdnhnppmaaF
namespace Go.Ab
open Go Go.ChangeShapes Go.WideShapes Go.ChangeAt Go.RowKit Go.Proofs Go.Proofs.Ytnjlfkdnhnppmaa
set_option linter.unusedVariables false
set_option maxRecDepth 100000
set_option maxHeartbeats 4000000
theorem own : ownKnob Try.prog.godebug = none := by kernel_rfl
theorem laidOut : laidOutB Try.prog = true := by kernel_rfl
def RShape (x : Shape) : Prop := Rng .i64 x.Slots ∧ Rng .i64 x.Mask
theorem opnShape (n : Nat) : Opn Try.prog (n + 2) 23 cShape RShape := by
  intro H d pvs h
  obtain ⟨ds, g0⟩ := pv_struct Try.underlying23 h
  clear h
  obtain ⟨d1, ds1, a1, b1, rfl, h1, g1, rfl⟩ := zipL_cons g0
  obtain ⟨d2, ds2, a2, b2, rfl, h2, g2, rfl⟩ := zipL_cons g1
  obtain rfl := zipL_nil g2
  obtain ⟨x1, rfl, r1⟩ := opn_int (n := n) Try.underlying3 H d1 a1 h1
  obtain ⟨x2, rfl, r2⟩ := opn_int (n := n) Try.underlying3 H d2 a2 h2
  exact ⟨⟨x1, x2⟩, rfl, r1, r2⟩

theorem lawShapeReads (H : Type) (ds : List (DataW H)) (ws : List PV) (h : argsPV Try.prog 12 [9, 23, 2] ds = some ws) : ∃ outs, evI T 3 ws = some (.bool true, outs) := by
  obtain ⟨d1, ds1, w1, ws1, rfl, rfl, h1, h⟩ := args_cons h
  obtain ⟨d2, ds2, w2, ws2, rfl, rfl, h2, h⟩ := args_cons h
  obtain ⟨d3, ds3, w3, ws3, rfl, rfl, h3, h⟩ := args_cons h
  obtain ⟨rfl, rfl⟩ := args_nil h
  obtain ⟨x1, rfl, r1⟩ := arg_one (by kernel_rfl) (opn_str Try.underlying9) h1
  obtain ⟨x2, rfl, r2⟩ := arg_agg (by kernel_rfl) (opnShape 10) h2
  obtain ⟨x3, rfl, r3⟩ := arg_one (by kernel_rfl) (opn_int Try.underlying2) h3
  exact ⟨_, l03_ShapeReads_ok x1 x2 x3 true (shapeReads x1 x2 x3)⟩

theorem lifted (os : Os) (started : os.Started) (H : Type) (enc : TypeId × Value → H) :
    ReturnsInHanded {} Try.checked os 3 .any (Rows.shapeReadsSpec.pre6 enc Try.prog Try.f3 Rows.shapeReadsRow.domain false) (Rows.shapeReadsSpec.post enc Try.prog Try.f3 false true false false) := by
  refine returnsInHanded_of_change (C := Try.checked) own started (by kernel_rfl) Try.func3
    (ChangeSpec.witness6 (enc := enc) (C := Try.checked) false ⟨#[], #[.string .empty, .agg #[.int .i64 0, .int .i64 0], .int .i64 0], []⟩ 8 (by kernel_rfl) (by kernel_rfl) (by kernel_rfl) (by kernel_rfl)) ?_
  intro W base args ds gs before hval hW hcnd _
  exact law_contract (f := 3) (fn := Try.f3) (ts := [9, 23, 2]) (ds := ds) (rt := 4) (N := 12) (s := Rows.shapeReadsSpec) mixed tok laidOut rfl (by kernel_rfl) rfl (by kernel_rfl) (by kernel_rfl) rfl
    (fun hl => by match ds, hl with | [d1, d2, d3], _ => rfl) hval hW (fun ws h => lawShapeReads H ds ws h)

theorem ShapeReads_holds : Rows.ShapeReadsSaid :=
  OpenClaim.holds_of_wide 3 Try.f3 rfl rfl rfl rfl rfl rfl rfl ⟨rfl, rfl, rfl, rfl, rfl⟩ rfl rfl rfl rfl rfl (by kernel_rfl) Try.func3 (by kernel_rfl)
    (of_decide_eq_true (by kernel_rfl)) (by unfold Func.isWrapper; first | (rw [if_pos (by decide +kernel)]; kernel_rfl) | (rw [if_neg (by decide +kernel)]; exact ⟨rfl, rfl⟩))
    (fun os started H enc _ => lifted os started H enc)
end Go.Ab
namespace Go.Proofs.Ytnjlfkdnhnppmaa
theorem shapeReads_holds : Rows.ShapeReadsSaid := Go.Ab.ShapeReads_holds
end Go.Proofs.Ytnjlfkdnhnppmaa
