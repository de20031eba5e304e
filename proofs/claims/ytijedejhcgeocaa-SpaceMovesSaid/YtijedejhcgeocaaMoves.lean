/-
  The statement SpaceMovesSaid of this seat: whatever the arguments, the law returns true, and the arguments read behind the call as they read before. No condition beyond those of the given row.
-/
import Derived.Test.YtijedejhcgeocaaD
import Derived.Test.YtijedejhcgeocaaG
namespace Go.Ab
open Go Go.ChangeShapes Go.WideShapes Go.ChangeAt Go.RowKit
set_option maxRecDepth 100000
set_option maxHeartbeats 4000000
theorem lawSpaceMoves (H : Type) (ds : List (DataW H)) (ws : List PV) (h : argsPV Go.Proofs.Try.prog 12 [5, 22, 23, 4] ds = some ws ∧ ∀ x ∈ DataW.weightsEach Go.Proofs.Try.prog [5, 22, 23, 4] ds, x ≤ reachBytes) : ∃ st', evHI C0 KM2 TH 5 (ws.map .p) [] = some (.p (.bool true), st') := by
  obtain ⟨x1, x2, x3, x4, r1, r2, r3, r4, rfl⟩ := readSpaceMoves H ds ws h
  exact spaceMoves x1 x2 x3 x4 r1 r2 r3 r4
theorem liftedSpaceMoves (os : Os) (started : os.Started) (H : Type) (enc : TypeId × Value → H) :
    ReturnsInHanded {} Go.Proofs.Try.checked os 5 .any (Go.Proofs.Ytijedejhcgeocaa.Rows.spaceMovesSpec.pre6 enc Go.Proofs.Try.prog Go.Proofs.Try.f5 Go.Proofs.Ytijedejhcgeocaa.Rows.spaceMovesRow.domain false) (Go.Proofs.Ytijedejhcgeocaa.Rows.spaceMovesSpec.post enc Go.Proofs.Try.prog Go.Proofs.Try.f5 false true false false) := by
  refine returnsInHanded_of_change_sized (C := Go.Proofs.Try.checked) own started (by kernel_rfl) Go.Proofs.Try.func5
    (ChangeSpec.witness6 (enc := enc) (C := Go.Proofs.Try.checked) false ⟨#[], #[.int .u8 0, .slice none 0 0, .slice none 0 0, .bool false], []⟩ 8 (by kernel_rfl) (by kernel_rfl) (by kernel_rfl) (by kernel_rfl)) ?_
  intro W base args ds gs before hval hW hcnd hwt _
  exact law_contractH (f := 5) (fn := Go.Proofs.Try.f5) (ts := [5, 22, 23, 4]) (ds := ds) (rt := 4) (N := 12) (s := Go.Proofs.Ytijedejhcgeocaa.Rows.spaceMovesSpec) km2Ok laidOut rfl (by kernel_rfl) rfl (by kernel_rfl) (by kernel_rfl) rfl
    (fun hl => by match ds, hl with | [d1, d2, d3, d4], _ => rfl) hval hW hwt (fun ws h => lawSpaceMoves H ds ws h)
theorem holdsSpaceMoves : Go.Proofs.Ytijedejhcgeocaa.Rows.SpaceMovesSaid :=
  OpenClaim.holds_of_wide 5 Go.Proofs.Try.f5 rfl rfl rfl rfl rfl rfl rfl ⟨rfl, rfl, rfl, rfl, rfl⟩ rfl rfl rfl rfl rfl (by kernel_rfl) Go.Proofs.Try.func5 (by kernel_rfl)
    (of_decide_eq_true (by kernel_rfl)) (by unfold Func.isWrapper; first | (rw [if_pos (by decide +kernel)]; kernel_rfl) | (rw [if_neg (by decide +kernel)]; exact ⟨rfl, rfl⟩))
    (fun os started H enc _ => liftedSpaceMoves os started H enc)
end Go.Ab
namespace Go.Proofs.Ytijedejhcgeocaa
theorem spaceMoves_holds : Rows.SpaceMovesSaid := Go.Ab.holdsSpaceMoves
end Go.Proofs.Ytijedejhcgeocaa
