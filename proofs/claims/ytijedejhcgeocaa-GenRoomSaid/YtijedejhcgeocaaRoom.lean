/-
  The statement GenRoomSaid of this seat: whatever the arguments, the law returns true, and the arguments read behind the call as they read before. No condition beyond those of the given row.
-/
import Derived.Test.YtijedejhcgeocaaD
import Derived.Test.YtijedejhcgeocaaF
namespace Go.Ab
open Go Go.ChangeShapes Go.WideShapes Go.ChangeAt Go.RowKit
set_option maxRecDepth 100000
set_option maxHeartbeats 4000000
theorem lawGenRoom (H : Type) (ds : List (DataW H)) (ws : List PV) (h : argsPV Go.Proofs.Try.prog 12 [5, 90] ds = some ws ∧ ∀ x ∈ DataW.weightsEach Go.Proofs.Try.prog [5, 90] ds, x ≤ reachBytes) : ∃ st', evHI C0 KG1 TH 12 (ws.map .p) [] = some (.p (.bool true), st') := by
  obtain ⟨x1, x2, r1, r2, rfl⟩ := readGenRoom H ds ws h
  exact genRoom x1 x2 r1 r2
theorem liftedGenRoom (os : Os) (started : os.Started) (H : Type) (enc : TypeId × Value → H) :
    ReturnsInHanded {} Go.Proofs.Try.checked os 12 .any (Go.Proofs.Ytijedejhcgeocaa.Rows.genRoomSpec.pre6 enc Go.Proofs.Try.prog Go.Proofs.Try.f12 Go.Proofs.Ytijedejhcgeocaa.Rows.genRoomRow.domain false) (Go.Proofs.Ytijedejhcgeocaa.Rows.genRoomSpec.post enc Go.Proofs.Try.prog Go.Proofs.Try.f12 false true false false) := by
  refine returnsInHanded_of_change_sized (C := Go.Proofs.Try.checked) own started (by kernel_rfl) Go.Proofs.Try.func12
    (ChangeSpec.witness6 (enc := enc) (C := Go.Proofs.Try.checked) false ⟨#[], #[.int .u8 0, .slice none 0 0], []⟩ 8 (by kernel_rfl) (by kernel_rfl) (by kernel_rfl) (by kernel_rfl)) ?_
  intro W base args ds gs before hval hW hcnd hwt _
  exact law_contractH (f := 12) (fn := Go.Proofs.Try.f12) (ts := [5, 90]) (ds := ds) (rt := 4) (N := 12) (s := Go.Proofs.Ytijedejhcgeocaa.Rows.genRoomSpec) kg1Ok laidOut rfl (by kernel_rfl) rfl (by kernel_rfl) (by kernel_rfl) rfl
    (fun hl => by match ds, hl with | [d1, d2], _ => rfl) hval hW hwt (fun ws h => lawGenRoom H ds ws h)
theorem holdsGenRoom : Go.Proofs.Ytijedejhcgeocaa.Rows.GenRoomSaid :=
  OpenClaim.holds_of_wide 12 Go.Proofs.Try.f12 rfl rfl rfl rfl rfl rfl rfl ⟨rfl, rfl, rfl, rfl, rfl⟩ rfl rfl rfl rfl rfl (by kernel_rfl) Go.Proofs.Try.func12 (by kernel_rfl)
    (of_decide_eq_true (by kernel_rfl)) (by unfold Func.isWrapper; first | (rw [if_pos (by decide +kernel)]; kernel_rfl) | (rw [if_neg (by decide +kernel)]; exact ⟨rfl, rfl⟩))
    (fun os started H enc _ => liftedGenRoom os started H enc)
end Go.Ab
namespace Go.Proofs.Ytijedejhcgeocaa
theorem genRoom_holds : Rows.GenRoomSaid := Go.Ab.holdsGenRoom
end Go.Proofs.Ytijedejhcgeocaa
