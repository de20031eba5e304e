/-
  The statement GenBeginsSaid of this seat: whatever the arguments, the law returns true, and the arguments read behind the call as they read before. No condition beyond those of the given row.
-/
import Derived.Test.YtijedejhcgeocaaE
import Derived.Test.YtijedejhcgeocaaF
import Derived.Test.YtijedejhcgeocaaRows
namespace Go.Ab
open Go Go.ChangeShapes Go.WideShapes Go.ChangeAt Go.RowKit
set_option maxRecDepth 100000
set_option maxHeartbeats 4000000
theorem mixed : Go.Proofs.Try.prog.follows .mixedOrders = true := by kernel_rfl
theorem own : ownKnob Go.Proofs.Try.prog.godebug = none := by kernel_rfl
theorem laidOut : laidOutB Go.Proofs.Try.prog = true := by kernel_rfl
theorem hcOk : HCallOk Go.Proofs.Try.prog (evHF C0 K11 TH 100) := evHF_sound mixed C0_ok (K11_ok mixed tokTH) tokTH 100
theorem readGenBegins (H : Type) (ds : List (DataW H)) (ws : List PV) (h : argsPV Go.Proofs.Try.prog 12 [3, 3] ds = some ws ∧ ∀ x ∈ DataW.weightsEach Go.Proofs.Try.prog [3, 3] ds, x ≤ reachBytes) : ∃ a b : Int, ws = [.int .i64 a, .int .i64 b] := by
  obtain ⟨d1, ds1, w1, ws1, rfl, rfl, h1, h⟩ := args_cons h
  obtain ⟨d2, ds2, w2, ws2, rfl, rfl, h2, h⟩ := args_cons h
  obtain ⟨rfl, rfl⟩ := args_nil h
  obtain ⟨x1, rfl, r1⟩ := arg_one (by kernel_rfl) (opn_int (n := 11) Go.Proofs.Try.underlying3) h1
  obtain ⟨x2, rfl, r2⟩ := arg_one (by kernel_rfl) (opn_int (n := 11) Go.Proofs.Try.underlying3) h2
  exact ⟨x1, x2, rfl⟩
theorem lawGenBegins (H : Type) (ds : List (DataW H)) (ws : List PV) (h : argsPV Go.Proofs.Try.prog 12 [3, 3] ds = some ws ∧ ∀ x ∈ DataW.weightsEach Go.Proofs.Try.prog [3, 3] ds, x ≤ reachBytes) : ∃ st', evHF C0 K11 TH 100 11 (ws.map .p) [] = some (.p (.bool true), st') := by
  obtain ⟨a, b, rfl⟩ := readGenBegins H ds ws h
  exact ans11 (K11_no (by decide)) (K11_no (by decide)) (K11_no (by decide)) (K11_no (by decide)) (K11_no (by decide)) K11_56 0 a b
theorem liftedGenBegins (os : Os) (started : os.Started) (H : Type) (enc : TypeId × Value → H) :
    ReturnsInHanded {} Go.Proofs.Try.checked os 11 .any (Go.Proofs.Ytijedejhcgeocaa.Rows.genBeginsSpec.pre6 enc Go.Proofs.Try.prog Go.Proofs.Try.f11 Go.Proofs.Ytijedejhcgeocaa.Rows.genBeginsRow.domain false) (Go.Proofs.Ytijedejhcgeocaa.Rows.genBeginsSpec.post enc Go.Proofs.Try.prog Go.Proofs.Try.f11 false true false false) := by
  refine returnsInHanded_of_change_sized (C := Go.Proofs.Try.checked) own started (by kernel_rfl) Go.Proofs.Try.func11
    (ChangeSpec.witness6 (enc := enc) (C := Go.Proofs.Try.checked) false ⟨#[], #[.int .i64 0, .int .i64 0], []⟩ 8 (by kernel_rfl) (by kernel_rfl) (by kernel_rfl) (by kernel_rfl)) ?_
  intro W base args ds gs before hval hW hcnd hwt _
  exact law_contractH (f := 11) (fn := Go.Proofs.Try.f11) (ts := [3, 3]) (ds := ds) (rt := 4) (N := 12) (s := Go.Proofs.Ytijedejhcgeocaa.Rows.genBeginsSpec) hcOk laidOut rfl (by kernel_rfl) rfl (by kernel_rfl) (by kernel_rfl) rfl
    (fun hl => by match ds, hl with | [d1, d2], _ => rfl) hval hW hwt (fun ws h => lawGenBegins H ds ws h)
theorem holdsGenBegins : Go.Proofs.Ytijedejhcgeocaa.Rows.GenBeginsSaid :=
  OpenClaim.holds_of_wide 11 Go.Proofs.Try.f11 rfl rfl rfl rfl rfl rfl rfl ⟨rfl, rfl, rfl, rfl, rfl⟩ rfl rfl rfl rfl rfl (by kernel_rfl) Go.Proofs.Try.func11 (by kernel_rfl)
    (of_decide_eq_true (by kernel_rfl)) (by unfold Func.isWrapper; first | (rw [if_pos (by decide +kernel)]; kernel_rfl) | (rw [if_neg (by decide +kernel)]; exact ⟨rfl, rfl⟩))
    (fun os started H enc _ => liftedGenBegins os started H enc)
end Go.Ab
namespace Go.Proofs.Ytijedejhcgeocaa
theorem genBegins_holds : Rows.GenBeginsSaid := Go.Ab.holdsGenBegins
end Go.Proofs.Ytijedejhcgeocaa
