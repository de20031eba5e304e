/-
  The statement GraphRoundsSaid of this seat: whatever the arguments, the law returns true, and the arguments read behind the call as they read before. No condition beyond those of the given row.
-/
import Derived.Test.YtebfbfgighmedaaF
import Derived.Test.YtebfbfgighmedaaG
namespace Go.Ab
open Go Go.ChangeShapes Go.WideShapes Go.ChangeAt Go.RowKit
set_option maxRecDepth 100000
set_option maxHeartbeats 4000000
theorem lawGraphRounds (H : Type) (ds : List (DataW H)) (ws : List PV) (h : argsPV Go.Proofs.Try.prog 12 [25] ds = some ws ∧ ∀ x ∈ DataW.weightsEach Go.Proofs.Try.prog [25] ds, x ≤ reachBytes) : ∃ outs, evI T 6 ws = some (.bool true, outs) := by
  obtain ⟨x1, r1, rfl⟩ := readGraphRounds H ds ws h
  exact ⟨_, l08_GraphRounds_ok x1 true (graphRounds x1 r1)⟩
theorem liftedGraphRounds (os : Os) (started : os.Started) (H : Type) (enc : TypeId × Value → H) :
    ReturnsInHanded {} Go.Proofs.Try.checked os 6 .any (Go.Proofs.Ytebfbfgighmedaa.Rows.graphRoundsSpec.pre6 enc Go.Proofs.Try.prog Go.Proofs.Try.f6 Go.Proofs.Ytebfbfgighmedaa.Rows.graphRoundsRow.domain false) (Go.Proofs.Ytebfbfgighmedaa.Rows.graphRoundsSpec.post enc Go.Proofs.Try.prog Go.Proofs.Try.f6 false true false false) := by
  refine returnsInHanded_of_change_sized (C := Go.Proofs.Try.checked) own started (by kernel_rfl) Go.Proofs.Try.func6
    (ChangeSpec.witness6 (enc := enc) (C := Go.Proofs.Try.checked) false ⟨#[], #[.agg #[.string .empty, .slice none 0 0, .int .i64 0, .slice none 0 0, .int .i64 0]], []⟩ 8 (by kernel_rfl) (by kernel_rfl) (by kernel_rfl) (by kernel_rfl)) ?_
  intro W base args ds gs before hval hW hcnd hwt _
  exact law_contract (f := 6) (fn := Go.Proofs.Try.f6) (ts := [25]) (ds := ds) (rt := 4) (N := 12) (s := Go.Proofs.Ytebfbfgighmedaa.Rows.graphRoundsSpec) mixed tok laidOut rfl (by kernel_rfl) rfl (by kernel_rfl) (by kernel_rfl) rfl
    (fun hl => by match ds, hl with | [d1], _ => rfl) hval hW hwt (fun ws h => lawGraphRounds H ds ws h)
theorem holdsGraphRounds : Go.Proofs.Ytebfbfgighmedaa.Rows.GraphRoundsSaid :=
  OpenClaim.holds_of_wide 6 Go.Proofs.Try.f6 rfl rfl rfl rfl rfl rfl rfl ⟨rfl, rfl, rfl, rfl, rfl⟩ rfl rfl rfl rfl rfl (by kernel_rfl) Go.Proofs.Try.func6 (by kernel_rfl)
    (of_decide_eq_true (by kernel_rfl)) (by unfold Func.isWrapper; first | (rw [if_pos (by decide +kernel)]; kernel_rfl) | (rw [if_neg (by decide +kernel)]; exact ⟨rfl, rfl⟩))
    (fun os started H enc _ => liftedGraphRounds os started H enc)
end Go.Ab
namespace Go.Proofs.Ytebfbfgighmedaa
theorem graphRounds_holds : Rows.GraphRoundsSaid := Go.Ab.holdsGraphRounds
end Go.Proofs.Ytebfbfgighmedaa
