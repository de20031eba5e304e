/-
  The statement CanonChecksSaid of this seat: whatever the arguments, the law returns true, and the arguments read behind the call as they read before. No condition beyond those of the given row.
-/
import Derived.Test.YtijedejhcgeocaaE
import Derived.Test.YtijedejhcgeocaaF
import Derived.Test.YtijedejhcgeocaaG
namespace Go.Ab
open Go Go.ChangeShapes Go.WideShapes Go.ChangeAt Go.RowKit
set_option maxRecDepth 100000
set_option maxHeartbeats 4000000
def l7 : List Nat := [44, 46, 47, 40, 48, 49, 97, 98]
theorem pureC_in {T : Nat → Option XF} {f : Nat} (h : l7.contains f = true) (ws : List PV) : pureC T l7 f ws = evI T f ws := if_pos h
theorem pureC_out {T : Nat → Option XF} {f : Nat} (h : l7.contains f = false) (ws : List PV) : pureC T l7 f ws = Option.none := if_neg (by rw [h]; decide)
theorem hcOk : HCallOk Go.Proofs.Try.prog (evHI (pureC T l7) K7 TH) := evHI_sound mixed (pureC_ok mixed tok l7) (K7_ok mixed tokTH) tokTH
theorem small_of {f : Form} (h : RForm f) : SmallF f := ⟨h.1.1, h.2.1.1, h.2.2.1, fun l hl => (h.2.2.2 l hl).1⟩
theorem lawCanonChecks (H : Type) (ds : List (DataW H)) (ws : List PV) (h : argsPV Go.Proofs.Try.prog 12 [82, 82] ds = some ws ∧ ∀ x ∈ DataW.weightsEach Go.Proofs.Try.prog [82, 82] ds, x ≤ reachBytes) : ∃ st', evHI (pureC T l7) K7 TH 7 (ws.map .p) [] = some (.p (.bool true), st') := by
  obtain ⟨f, g, r1, r2, rfl⟩ := readCanonChecks H ds ws h
  have sf := small_of r1
  have sg := small_of r2
  obtain ⟨bf, hbf⟩ := light_tot sf.2.2.1
  obtain ⟨bg, hbg⟩ := light_tot sg.2.2.1
  obtain ⟨hw, wd, hwd⟩ := words_eq sf.2.1
  have e97 : ∀ x : Shape, pureC T l7 97 [.agg [.int .i64 x.Slots, .int .i64 x.Mask]] = some (.int .i64 (if okB x = true then 0 else 16), [.none]) := fun x => by
    rw [pureC_in (by decide)]
    refine shape_Check_ok x _ ?_
    rw [Check_eq]; simp [okB]
  have e98 : ∀ x : Shape, okB x = true → ∀ i : Nat, pureC T l7 98 [.agg [.int .i64 x.Slots, .int .i64 x.Mask], .int .i64 i] = some (.bool (ptB x i), [.none, .none]) := fun x hx i => by
    rw [pureC_in (by decide)]
    refine shape_Pointer_ok x i _ ?_
    rw [Pointer_eq (by simpa [okB] using hx)]; rfl
  have d1 := (pureC_in (T := T) (f := 44) (by decide) _).trans (l28_light_ok f bf hbf)
  have d2 := (pureC_in (T := T) (f := 44) (by decide) _).trans (l28_light_ok g bg hbg)
  have d3 := (pureC_in (T := T) (f := 46) (by decide) _).trans (r28_Check_ok f _ (rCheck_chk f sf.1 sf.2.1 sf.2.2.2))
  have d4 := (pureC_in (T := T) (f := 47) (by decide) _).trans (canon_Same_ok f g _ (same_eq sf))
  have d5 := (pureC_in (T := T) (f := 40) (by decide) _).trans (r28_Same_ok f g _ (rsame_eq sf))
  have d6 := (pureC_in (T := T) (f := 48) (by decide) _).trans (canon_Words_ok f wd (by rw [hw, hwd]))
  have d7 := (pureC_in (T := T) (f := 49) (by decide) _).trans (r28_Words_ok f wd hwd)
  obtain ⟨n, st', hn⟩ := ans7 (K := K7) (C := pureC T l7) (K7_no (by decide)) (K7_no (by decide)) (K7_no (by decide)) K7_33 (pureC_out (by decide)) (pureC_out (by decide)) okB ptB _ _ e97 e98 f g sf.1 sf.2.1 sf.2.2.2 bf bg _ wd _ _ _ _ _ _ _ d1 d2 d3 d4 d5 d6 d7
  exact ⟨st', evHI_some.2 ⟨n, hn⟩⟩
theorem liftedCanonChecks (os : Os) (started : os.Started) (H : Type) (enc : TypeId × Value → H) :
    ReturnsInHanded {} Go.Proofs.Try.checked os 7 .any (Go.Proofs.Ytijedejhcgeocaa.Rows.canonChecksSpec.pre6 enc Go.Proofs.Try.prog Go.Proofs.Try.f7 Go.Proofs.Ytijedejhcgeocaa.Rows.canonChecksRow.domain false) (Go.Proofs.Ytijedejhcgeocaa.Rows.canonChecksSpec.post enc Go.Proofs.Try.prog Go.Proofs.Try.f7 false true false false) := by
  refine returnsInHanded_of_change_sized (C := Go.Proofs.Try.checked) own started (by kernel_rfl) Go.Proofs.Try.func7
    (ChangeSpec.witness6 (enc := enc) (C := Go.Proofs.Try.checked) false ⟨#[], #[.agg #[.slice none 0 0, .slice none 0 0, .slice none 0 0], .agg #[.slice none 0 0, .slice none 0 0, .slice none 0 0]], []⟩ 8 (by kernel_rfl) (by kernel_rfl) (by kernel_rfl) (by kernel_rfl)) ?_
  intro W base args ds gs before hval hW hcnd hwt _
  exact law_contractH (f := 7) (fn := Go.Proofs.Try.f7) (ts := [82, 82]) (ds := ds) (rt := 4) (N := 12) (s := Go.Proofs.Ytijedejhcgeocaa.Rows.canonChecksSpec) hcOk laidOut rfl (by kernel_rfl) rfl (by kernel_rfl) (by kernel_rfl) rfl
    (fun hl => by match ds, hl with | [d1, d2], _ => rfl) hval hW hwt (fun ws h => lawCanonChecks H ds ws h)
theorem holdsCanonChecks : Go.Proofs.Ytijedejhcgeocaa.Rows.CanonChecksSaid :=
  OpenClaim.holds_of_wide 7 Go.Proofs.Try.f7 rfl rfl rfl rfl rfl rfl rfl ⟨rfl, rfl, rfl, rfl, rfl⟩ rfl rfl rfl rfl rfl (by kernel_rfl) Go.Proofs.Try.func7 (by kernel_rfl)
    (of_decide_eq_true (by kernel_rfl)) (by unfold Func.isWrapper; first | (rw [if_pos (by decide +kernel)]; kernel_rfl) | (rw [if_neg (by decide +kernel)]; exact ⟨rfl, rfl⟩))
    (fun os started H enc _ => liftedCanonChecks os started H enc)
end Go.Ab
namespace Go.Proofs.Ytijedejhcgeocaa
theorem canonChecks_holds : Rows.CanonChecksSaid := Go.Ab.holdsCanonChecks
end Go.Proofs.Ytijedejhcgeocaa
