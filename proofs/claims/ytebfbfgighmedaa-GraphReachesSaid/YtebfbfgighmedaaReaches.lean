/-
  The statement GraphReachesSaid of this seat: whatever the arguments, the law returns true, and the arguments read behind the call as they read before. No condition beyond those of the given row.
-/
import Derived.Test.YtebfbfgighmedaaF
import Derived.Test.YtebfbfgighmedaaG
namespace Go.Ab
open Go Go.ChangeShapes Go.WideShapes Go.ChangeAt Go.RowKit
set_option maxRecDepth 100000
set_option maxHeartbeats 4000000
theorem lawGraphReaches (H : Type) (ds : List (DataW H)) (ws : List PV) (h : argsPV Go.Proofs.Try.prog 12 [25, 45, 3] ds = some ws ∧ ∀ x ∈ DataW.weightsEach Go.Proofs.Try.prog [25, 45, 3] ds, x ≤ reachBytes) : ∃ outs, evI T 5 ws = some (.bool true, outs) := by
  obtain ⟨x1, x2, x3, r1, r2, r3, rfl⟩ := readGraphReaches H ds ws h
  exact ⟨_, l08_GraphReaches_ok x1 x2 x3 true (graphReaches x1 x2 x3 r1 r2 r3)⟩
theorem liftedGraphReaches (os : Os) (started : os.Started) (H : Type) (enc : TypeId × Value → H) :
    ReturnsInHanded {} Go.Proofs.Try.checked os 5 .any (Go.Proofs.Ytebfbfgighmedaa.Rows.graphReachesSpec.pre6 enc Go.Proofs.Try.prog Go.Proofs.Try.f5 Go.Proofs.Ytebfbfgighmedaa.Rows.graphReachesRow.domain false) (Go.Proofs.Ytebfbfgighmedaa.Rows.graphReachesSpec.post enc Go.Proofs.Try.prog Go.Proofs.Try.f5 false true false false) := by
  refine returnsInHanded_of_change_sized (C := Go.Proofs.Try.checked) own started (by kernel_rfl) Go.Proofs.Try.func5
    (ChangeSpec.witness6 (enc := enc) (C := Go.Proofs.Try.checked) false ⟨#[], #[.agg #[.string .empty, .slice none 0 0, .int .i64 0, .slice none 0 0, .int .i64 0], .slice none 0 0, .int .i64 0], []⟩ 8 (by kernel_rfl) (by kernel_rfl) (by kernel_rfl) (by kernel_rfl)) ?_
  intro W base args ds gs before hval hW hcnd hwt _
  exact law_contract (f := 5) (fn := Go.Proofs.Try.f5) (ts := [25, 45, 3]) (ds := ds) (rt := 4) (N := 12) (s := Go.Proofs.Ytebfbfgighmedaa.Rows.graphReachesSpec) mixed tok laidOut rfl (by kernel_rfl) rfl (by kernel_rfl) (by kernel_rfl) rfl
    (fun hl => by match ds, hl with | [d1, d2, d3], _ => rfl) hval hW hwt (fun ws h => lawGraphReaches H ds ws h)
theorem holdsGraphReaches : Go.Proofs.Ytebfbfgighmedaa.Rows.GraphReachesSaid :=
  OpenClaim.holds_of_wide 5 Go.Proofs.Try.f5 rfl rfl rfl rfl rfl rfl rfl ⟨rfl, rfl, rfl, rfl, rfl⟩ rfl rfl rfl rfl rfl (by kernel_rfl) Go.Proofs.Try.func5 (by kernel_rfl)
    (of_decide_eq_true (by kernel_rfl)) (by unfold Func.isWrapper; first | (rw [if_pos (by decide +kernel)]; kernel_rfl) | (rw [if_neg (by decide +kernel)]; exact ⟨rfl, rfl⟩))
    (fun os started H enc _ => liftedGraphReaches os started H enc)
end Go.Ab
namespace Go.Proofs.Ytebfbfgighmedaa
theorem graphReaches_holds : Rows.GraphReachesSaid := Go.Ab.holdsGraphReaches
end Go.Proofs.Ytebfbfgighmedaa
