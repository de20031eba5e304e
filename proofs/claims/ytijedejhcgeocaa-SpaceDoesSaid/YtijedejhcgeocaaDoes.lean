/-
  The statement SpaceDoesSaid of this seat: whatever the arguments, the law returns true, and the arguments read behind the call as they read before. No condition beyond those of the given row.
-/
import Derived.Test.YtijedejhcgeocaaE
import Derived.Test.YtijedejhcgeocaaG
namespace Go.Ab
open Go Go.ChangeShapes Go.WideShapes Go.ChangeAt Go.RowKit
set_option maxRecDepth 100000
set_option maxHeartbeats 4000000
theorem lawSpaceDoes (H : Type) (ds : List (DataW H)) (ws : List PV) (h : argsPV Go.Proofs.Try.prog 12 [5, 22] ds = some ws ∧ ∀ x ∈ DataW.weightsEach Go.Proofs.Try.prog [5, 22] ds, x ≤ reachBytes) : ∃ st', evHI C0 KS2 TH 4 (ws.map .p) [] = some (.p (.bool true), st') := by
  obtain ⟨x1, x2, r1, r2, rfl⟩ := readSpaceDoes H ds ws h
  exact spaceDoes x1 x2 r1 r2
theorem liftedSpaceDoes (os : Os) (started : os.Started) (H : Type) (enc : TypeId × Value → H) :
    ReturnsInHanded {} Go.Proofs.Try.checked os 4 .any (Go.Proofs.Ytijedejhcgeocaa.Rows.spaceDoesSpec.pre6 enc Go.Proofs.Try.prog Go.Proofs.Try.f4 Go.Proofs.Ytijedejhcgeocaa.Rows.spaceDoesRow.domain false) (Go.Proofs.Ytijedejhcgeocaa.Rows.spaceDoesSpec.post enc Go.Proofs.Try.prog Go.Proofs.Try.f4 false true false false) := by
  refine returnsInHanded_of_change_sized (C := Go.Proofs.Try.checked) own started (by kernel_rfl) Go.Proofs.Try.func4
    (ChangeSpec.witness6 (enc := enc) (C := Go.Proofs.Try.checked) false ⟨#[], #[.int .u8 0, .slice none 0 0], []⟩ 8 (by kernel_rfl) (by kernel_rfl) (by kernel_rfl) (by kernel_rfl)) ?_
  intro W base args ds gs before hval hW hcnd hwt _
  exact law_contractH (f := 4) (fn := Go.Proofs.Try.f4) (ts := [5, 22]) (ds := ds) (rt := 4) (N := 12) (s := Go.Proofs.Ytijedejhcgeocaa.Rows.spaceDoesSpec) ks2Ok laidOut rfl (by kernel_rfl) rfl (by kernel_rfl) (by kernel_rfl) rfl
    (fun hl => by match ds, hl with | [d1, d2], _ => rfl) hval hW hwt (fun ws h => lawSpaceDoes H ds ws h)
theorem holdsSpaceDoes : Go.Proofs.Ytijedejhcgeocaa.Rows.SpaceDoesSaid :=
  OpenClaim.holds_of_wide 4 Go.Proofs.Try.f4 rfl rfl rfl rfl rfl rfl rfl ⟨rfl, rfl, rfl, rfl, rfl⟩ rfl rfl rfl rfl rfl (by kernel_rfl) Go.Proofs.Try.func4 (by kernel_rfl)
    (of_decide_eq_true (by kernel_rfl)) (by unfold Func.isWrapper; first | (rw [if_pos (by decide +kernel)]; kernel_rfl) | (rw [if_neg (by decide +kernel)]; exact ⟨rfl, rfl⟩))
    (fun os started H enc _ => liftedSpaceDoes os started H enc)
end Go.Ab
namespace Go.Proofs.Ytijedejhcgeocaa
theorem spaceDoes_holds : Rows.SpaceDoesSaid := Go.Ab.holdsSpaceDoes
end Go.Proofs.Ytijedejhcgeocaa
