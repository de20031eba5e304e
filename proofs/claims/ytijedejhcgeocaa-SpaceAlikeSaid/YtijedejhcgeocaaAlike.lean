/-
  The statement SpaceAlikeSaid of this seat: whatever the arguments, the law returns true, and the arguments read behind the call as they read before. No condition beyond those of the given row.
-/
import Derived.Test.YtijedejhcgeocaaD
import Derived.Test.YtijedejhcgeocaaE
import Derived.Test.YtijedejhcgeocaaG
namespace Go.Ab
open Go Go.ChangeShapes Go.WideShapes Go.ChangeAt Go.RowKit
set_option maxRecDepth 100000
set_option maxHeartbeats 4000000
theorem lawSpaceAlike (H : Type) (ds : List (DataW H)) (ws : List PV) (h : argsPV Go.Proofs.Try.prog 12 [5, 22, 23, 23] ds = some ws ∧ ∀ x ∈ DataW.weightsEach Go.Proofs.Try.prog [5, 22, 23, 23] ds, x ≤ reachBytes) : ∃ st', evHI C0 KS2 TH 3 (ws.map .p) [] = some (.p (.bool true), st') := by
  obtain ⟨x1, x2, x3, x4, r1, r2, r3, r4, rfl⟩ := readSpaceAlike H ds ws h
  exact spaceAlike x1 x2 x3 x4 r1 r2 r3 r4
theorem liftedSpaceAlike (os : Os) (started : os.Started) (H : Type) (enc : TypeId × Value → H) :
    ReturnsInHanded {} Go.Proofs.Try.checked os 3 .any (Go.Proofs.Ytijedejhcgeocaa.Rows.spaceAlikeSpec.pre6 enc Go.Proofs.Try.prog Go.Proofs.Try.f3 Go.Proofs.Ytijedejhcgeocaa.Rows.spaceAlikeRow.domain false) (Go.Proofs.Ytijedejhcgeocaa.Rows.spaceAlikeSpec.post enc Go.Proofs.Try.prog Go.Proofs.Try.f3 false true false false) := by
  refine returnsInHanded_of_change_sized (C := Go.Proofs.Try.checked) own started (by kernel_rfl) Go.Proofs.Try.func3
    (ChangeSpec.witness6 (enc := enc) (C := Go.Proofs.Try.checked) false ⟨#[], #[.int .u8 0, .slice none 0 0, .slice none 0 0, .slice none 0 0], []⟩ 8 (by kernel_rfl) (by kernel_rfl) (by kernel_rfl) (by kernel_rfl)) ?_
  intro W base args ds gs before hval hW hcnd hwt _
  exact law_contractH (f := 3) (fn := Go.Proofs.Try.f3) (ts := [5, 22, 23, 23]) (ds := ds) (rt := 4) (N := 12) (s := Go.Proofs.Ytijedejhcgeocaa.Rows.spaceAlikeSpec) ks2Ok laidOut rfl (by kernel_rfl) rfl (by kernel_rfl) (by kernel_rfl) rfl
    (fun hl => by match ds, hl with | [d1, d2, d3, d4], _ => rfl) hval hW hwt (fun ws h => lawSpaceAlike H ds ws h)
theorem holdsSpaceAlike : Go.Proofs.Ytijedejhcgeocaa.Rows.SpaceAlikeSaid :=
  OpenClaim.holds_of_wide 3 Go.Proofs.Try.f3 rfl rfl rfl rfl rfl rfl rfl ⟨rfl, rfl, rfl, rfl, rfl⟩ rfl rfl rfl rfl rfl (by kernel_rfl) Go.Proofs.Try.func3 (by kernel_rfl)
    (of_decide_eq_true (by kernel_rfl)) (by unfold Func.isWrapper; first | (rw [if_pos (by decide +kernel)]; kernel_rfl) | (rw [if_neg (by decide +kernel)]; exact ⟨rfl, rfl⟩))
    (fun os started H enc _ => liftedSpaceAlike os started H enc)
end Go.Ab
namespace Go.Proofs.Ytijedejhcgeocaa
theorem spaceAlike_holds : Rows.SpaceAlikeSaid := Go.Ab.holdsSpaceAlike
end Go.Proofs.Ytijedejhcgeocaa
