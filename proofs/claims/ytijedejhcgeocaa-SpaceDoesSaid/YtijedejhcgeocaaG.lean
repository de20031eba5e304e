/-
  Texts of this seat: lemmas on the way to the statement.
-/
import Derived.Test.YtijedejhcgeocaaF
import Derived.Test.YtijedejhcgeocaaE
import Derived.KernelRfl
import Derived.Test.YtijedejhcgeocaaProg
namespace Go.Ab
open Go
set_option linter.unusedVariables false
set_option linter.unusedSimpArgs false
set_option maxRecDepth 100000
set_option maxHeartbeats 4000000
def isTrueH : Option (HV × HSt) → Bool
  | some (.p (.bool true), _) => true
  | _ => false
theorem isTrueH_some {r : Option (HV × HSt)} (h : isTrueH r = true) : ∃ st, r = some (.p (.bool true), st) := by
  unfold isTrueH at h
  split at h
  · exact ⟨_, rfl⟩
  · cases h
def KN : HCalls := fun _ _ _ => Option.none
theorem KN_ok {P : Program} : HCallOk P KN := fun _ _ _ _ _ h => by cases h
theorem w15 : isTrueH (evHF C0 KN TH 300 15 [] []) = true := by kernel_rfl
def KW : HCalls := fun f ws st => if f = 15 then sealed (evHF C0 KN TH 300) f ws st else Option.none
theorem KW_15 (st : HSt) : KW 15 [] st = some (.p (.bool true), st) := by
  obtain ⟨st', h⟩ := isTrueH_some w15
  simp [KW, sealed, h, PV.flat, PV.flat1]
theorem KW_no {f : Nat} (h : f ≠ 15) : KW f = fun _ _ => Option.none := by
  funext ws st; exact if_neg h
theorem KW_ok {P : Program} (hm : P.follows .mixedOrders = true) (hT : TOkH P TH) : HCallOk P KW := by
  intro f ws st r st' h
  unfold KW at h
  split at h
  · exact sealed_ok (evHF_sound hm C0_ok KN_ok hT 300) f ws st r st' h
  · cases h
noncomputable def KS0 : HCalls := orK KW KP
noncomputable def KS1 : HCalls := lev KS0 [22, 24, 64, 65, 66] [114, 76, 27, 28, 18, 31]
noncomputable def KS2 : HCalls := lev KS1 [] [68, 69]
theorem KP_none {f : Nat} (h : lp.contains f = false) (ws : List HV) (st : HSt) : KP f ws st = Option.none := by
  have hc : ∀ vs, pureC T lp f vs = Option.none := fun vs => by unfold pureC; rw [h]; rfl
  unfold KP orK pureK lentC
  simp only [hc]
  split
  · rename_i r hr
    split at hr
    · split at hr
      · split at hr <;> cases hr
      · cases hr
    · cases hr
  · split <;> rfl
theorem KS0_none {f : Nat} (h : lp.contains f = false) (h2 : f ≠ 15) (ws : List HV) (st : HSt) : KS0 f ws st = Option.none := by
  unfold KS0 orK
  rw [KW_no h2]
  exact KP_none h ws st
theorem KS0_B : KB KS0 where
  pu f hf := by
    funext ws st
    unfold KS0 orK
    rw [KW_no (fun e => by subst e; exact absurd hf (by decide))]
  no f hf ws st := by
    refine KS0_none ?_ (fun e => by subst e; exact absurd hf (by decide)) ws st
    simp only [lw, List.contains_eq_mem, List.mem_cons, List.not_mem_nil, or_false, decide_eq_true_eq] at hf
    rcases hf with rfl | rfl | rfl | rfl | rfl | rfl | rfl | rfl | rfl | rfl | rfl | rfl | rfl | rfl | rfl | rfl | rfl | rfl | rfl <;> decide
theorem KS1_D : KD KS1 := KD_of KS0_B (KS0_none (by decide) (by decide)) (by decide) (by decide) (by decide)
theorem KS1_none {f : Nat} (h : lp.contains f = false) (h2 : f ≠ 15) (h3 : [22, 24, 64, 65, 66, 114, 76, 27, 28, 18, 31].contains f = false) (ws : List HV) (st : HSt) : KS1 f ws st = Option.none := by
  simp only [List.contains_eq_mem, List.mem_cons, List.not_mem_nil, or_false, decide_eq_false_iff_not, not_or] at h3
  unfold KS1
  rw [lev_none (by simp; omega) (by simp; omega)]
  exact KS0_none h h2 ws st
theorem KS2_E : KE KS2 := KE_of KS1_D ⟨KS1_none (by decide) (by decide) (by decide), KS1_none (by decide) (by decide) (by decide)⟩ (by decide) (by decide)
theorem KS2_none {f : Nat} (h : lp.contains f = false) (h2 : f ≠ 15) (h3 : [22, 24, 64, 65, 66, 114, 76, 27, 28, 18, 31, 68, 69].contains f = false) (ws : List HV) (st : HSt) : KS2 f ws st = Option.none := by
  simp only [List.contains_eq_mem, List.mem_cons, List.not_mem_nil, or_false, decide_eq_false_iff_not, not_or] at h3
  unfold KS2
  rw [lev_none (by simp) (by simp; omega)]
  refine KS1_none h h2 ?_ ws st
  simp; omega
theorem KS2_15 (st : HSt) : KS2 15 [] st = some (.p (.bool true), st) := by
  unfold KS2
  rw [lev_none (by decide) (by decide)]
  unfold KS1
  rw [lev_none (by decide) (by decide)]
  unfold KS0 orK
  rw [KW_15]
theorem ks2Ok' {P : Program} (hm : P.follows .mixedOrders = true) (hT : TOk P T) (hTH : TOkH P TH) : HCallOk P (evHI C0 KS2 TH) := by
  have h0 : HCallOk P KP := orK_ok (pureK_ok (pureC_ok hm hT lp)) (lentC_ok (pureC_ok hm hT lp))
  exact evHI_sound hm C0_ok (lev_ok hm hTH (lev_ok hm hTH (orK_ok (KW_ok hm hTH) h0) _ _) _ _) hTH
theorem likeA_of {ws : List Int} {As : List Area} {L : List r26_Object} (H : Spc ws As L) (hL : L.length < 100000) {a : Area} (ha : a ∈ As) (hb : a.Hi < 1000000000) : LikeA ws L a := by
  have hc := H.lay.chain a ha
  rw [← objsIn_keys] at hc
  refine ⟨Starts_eq H.lay hL ha (by omega), hc, fun o ho => ?_⟩
  have hoL : o ∈ L := (List.mem_filter.1 ho).1
  refine ⟨H.ok o hoL, H.lay.pos (k := keyOf o) (List.mem_map.2 ⟨o, hoL, rfl⟩), ?_⟩
  obtain ⟨j, hj⟩ := List.getElem?_of_mem hoL
  rcases Find_eq L (by omega) o.At with ⟨i, o2, e1, e2, e3⟩ | ⟨_, e2⟩
  · have := apart_idx H.lay.apart (i := i) (j := j) (by rw [List.getElem?_map, e2]; rfl) (by rw [List.getElem?_map, hj]; rfl) e3
    subst this
    exact ⟨i, hj, e1⟩
  · exact absurd rfl (e2 o hoL)
theorem spaceDoes1 {z : Int} (hz : 0 ≤ z ∧ z ≤ 255) (ops : List l26_Op) (hops : ∀ o ∈ ops, OkOp o) (hl : ops.length < 140737488355328) : ∃ st', evHI C0 KS2 TH 4 [.p (.int .u8 z), hOps ops] [] = some (.p (.bool true), st') := by
  have k15 := fun n st => known_of (KS2_15 st) n
  have hk : ∀ ws st, KS2 4 ws st = .none := KS2_none (by decide) (by decide) (by decide)
  by_cases h : 60 < ops.length
  · have h' : (60 : Int) < ops.length := by omega
    refine ⟨[], evHI_some.2 ⟨60, evHF_in (n := 59) hk (x := h4) rfl rfl ?_⟩⟩
    simp (config := { maxSteps := 4000000 }) [↓hs_pre, ↓evP_call0', hs_eq, h4, h, h', k15]
  · have h' : ¬ (60 : Int) < ops.length := by omega
    obtain ⟨n1, N, st1, sp, wb, ws, b0, b1, L, hN, e1, S, hw, H, hLn, h0, h1⟩ := e16 KS2_E (KS2_none (by decide) (by decide) (by decide)) hz ops hops (by omega) []
    have hb0 := H.lay.ord b0 (by simp)
    have hb1 := H.lay.ord b1 (by simp)
    obtain ⟨g, n2, e2⟩ := e25 KS2_E (KS2_none (by decide) (by decide) (by decide)) (S.app [.box [.ptr sp 0, hAs [b0, b1, ⟨1 + N + N, 1 + N + N + 2 * N, 1 + N + N⟩], hL L]]) (by omega) (hAs [b0, b1]) (.inl rfl) (by simp) L (by omega) (fun a ha => by
      have ha' : a ∈ [b0, b1, ⟨1 + N + N, 1 + N + N + 2 * N, 1 + N + N⟩] := by simp at ha ⊢; rcases ha with rfl | rfl <;> simp
      have : a.Next < 1000000000 ∧ a.Hi < 1000000000 := by
        simp at ha; rcases ha with rfl | rfl <;> omega
      exact ⟨likeA_of H (by omega) ha' this.2, this.1⟩)
    have e1' := fun k => evHF_mono (C := C0) (K := KS2) (T := TH) (show n1 ≤ n1 + n2 + k by omega) _ _ _ _ e1
    have e2' : ∀ k, evHF C0 KS2 TH (n1 + n2 + k) 25 [.ptr sp 0, .p (.sl 2 [.int .i64 b0.Lo, .int .i64 b0.Hi, .int .i64 b0.Next, .int .i64 b1.Lo, .int .i64 b1.Hi, .int .i64 b1.Next]), hL L] (st1 ++ [.box [.ptr sp 0, hAs [b0, b1, ⟨1 + N + N, 1 + N + N + 2 * N, 1 + N + N⟩], hL L]]) = some (hI 0, st1 ++ ([.box [.ptr sp 0, hAs [b0, b1, ⟨1 + N + N, 1 + N + N + 2 * N, 1 + N + N⟩], hL L]] ++ g)) := fun k => by
      have := e2 (n1 + n2 + k) (by omega)
      rw [List.append_assoc] at this
      exact this
    refine ⟨st1 ++ [.box [.ptr sp 0, hAs [b0, b1, ⟨1 + N + N, 1 + N + N + 2 * N, 1 + N + N⟩], hL L]] ++ g, evHI_some.2 ⟨n1 + n2 + 60, evHF_in (n := n1 + n2 + 59) hk (x := h4) rfl rfl ?_⟩⟩
    simp (config := { maxSteps := 4000000 }) [↓hs_pre, ↓evP_call0', hs_eq, h4, h, h', k15, e1', e2', cArea]
end Go.Ab
namespace Go.Ab
open Go
set_option maxRecDepth 100000
theorem toh3 : OkH1 Go.Proofs.Try.prog 3 h3 := ⟨Go.Proofs.Try.f3, _, hintsH h3.body, Go.Proofs.Try.func3, by kernel_rfl, rfl, by decide, by decide, by kernel_rfl, by kernel_rfl⟩
theorem toh4 : OkH1 Go.Proofs.Try.prog 4 h4 := ⟨Go.Proofs.Try.f4, _, hintsH h4.body, Go.Proofs.Try.func4, by kernel_rfl, rfl, by decide, by decide, by kernel_rfl, by kernel_rfl⟩
theorem toh5 : OkH1 Go.Proofs.Try.prog 5 h5 := ⟨Go.Proofs.Try.f5, _, hintsH h5.body, Go.Proofs.Try.func5, by kernel_rfl, rfl, by decide, by decide, by kernel_rfl, by kernel_rfl⟩
theorem toh15 : OkH1 Go.Proofs.Try.prog 15 h15 := ⟨Go.Proofs.Try.f15, _, hintsH h15.body, Go.Proofs.Try.func15, by kernel_rfl, rfl, by decide, by decide, by kernel_rfl, by kernel_rfl⟩
theorem toh16 : OkH1 Go.Proofs.Try.prog 16 h16 := ⟨Go.Proofs.Try.f16, _, hintsH h16.body, Go.Proofs.Try.func16, by kernel_rfl, rfl, by decide, by decide, by kernel_rfl, by kernel_rfl⟩
theorem toh17 : OkH1 Go.Proofs.Try.prog 17 h17 := ⟨Go.Proofs.Try.f17, _, hintsH h17.body, Go.Proofs.Try.func17, by kernel_rfl, rfl, by decide, by decide, by kernel_rfl, by kernel_rfl⟩
theorem toh18 : OkH1 Go.Proofs.Try.prog 18 h18 := ⟨Go.Proofs.Try.f18, _, hintsH h18.body, Go.Proofs.Try.func18, by kernel_rfl, rfl, by decide, by decide, by kernel_rfl, by kernel_rfl⟩
theorem toh19 : OkH1 Go.Proofs.Try.prog 19 h19 := ⟨Go.Proofs.Try.f19, _, hintsH h19.body, Go.Proofs.Try.func19, by kernel_rfl, rfl, by decide, by decide, by kernel_rfl, by kernel_rfl⟩
theorem toh20 : OkH1 Go.Proofs.Try.prog 20 h20 := ⟨Go.Proofs.Try.f20, _, hintsH h20.body, Go.Proofs.Try.func20, by kernel_rfl, rfl, by decide, by decide, by kernel_rfl, by kernel_rfl⟩
theorem toh21 : OkH1 Go.Proofs.Try.prog 21 h21 := ⟨Go.Proofs.Try.f21, _, hintsH h21.body, Go.Proofs.Try.func21, by kernel_rfl, rfl, by decide, by decide, by kernel_rfl, by kernel_rfl⟩
theorem toh22 : OkH1 Go.Proofs.Try.prog 22 h22 := ⟨Go.Proofs.Try.f22, _, hintsH h22.body, Go.Proofs.Try.func22, by kernel_rfl, rfl, by decide, by decide, by kernel_rfl, by kernel_rfl⟩
theorem toh23 : OkH1 Go.Proofs.Try.prog 23 h23 := ⟨Go.Proofs.Try.f23, _, hintsH h23.body, Go.Proofs.Try.func23, by kernel_rfl, rfl, by decide, by decide, by kernel_rfl, by kernel_rfl⟩
theorem toh24 : OkH1 Go.Proofs.Try.prog 24 h24 := ⟨Go.Proofs.Try.f24, _, hintsH h24.body, Go.Proofs.Try.func24, by kernel_rfl, rfl, by decide, by decide, by kernel_rfl, by kernel_rfl⟩
theorem toh25 : OkH1 Go.Proofs.Try.prog 25 h25 := ⟨Go.Proofs.Try.f25, _, hintsH h25.body, Go.Proofs.Try.func25, by kernel_rfl, rfl, by decide, by decide, by kernel_rfl, by kernel_rfl⟩
theorem toh26 : OkH1 Go.Proofs.Try.prog 26 h26 := ⟨Go.Proofs.Try.f26, _, hintsH h26.body, Go.Proofs.Try.func26, by kernel_rfl, rfl, by decide, by decide, by kernel_rfl, by kernel_rfl⟩
theorem toh27 : OkH1 Go.Proofs.Try.prog 27 h27 := ⟨Go.Proofs.Try.f27, _, hintsH h27.body, Go.Proofs.Try.func27, by kernel_rfl, rfl, by decide, by decide, by kernel_rfl, by kernel_rfl⟩
theorem toh28 : OkH1 Go.Proofs.Try.prog 28 h28 := ⟨Go.Proofs.Try.f28, _, hintsH h28.body, Go.Proofs.Try.func28, by kernel_rfl, rfl, by decide, by decide, by kernel_rfl, by kernel_rfl⟩
theorem toh29 : OkH1 Go.Proofs.Try.prog 29 h29 := ⟨Go.Proofs.Try.f29, _, hintsH h29.body, Go.Proofs.Try.func29, by kernel_rfl, rfl, by decide, by decide, by kernel_rfl, by kernel_rfl⟩
theorem toh30 : OkH1 Go.Proofs.Try.prog 30 h30 := ⟨Go.Proofs.Try.f30, _, hintsH h30.body, Go.Proofs.Try.func30, by kernel_rfl, rfl, by decide, by decide, by kernel_rfl, by kernel_rfl⟩
theorem toh31 : OkH1 Go.Proofs.Try.prog 31 h31 := ⟨Go.Proofs.Try.f31, _, hintsH h31.body, Go.Proofs.Try.func31, by kernel_rfl, rfl, by decide, by decide, by kernel_rfl, by kernel_rfl⟩
theorem toh32 : OkH1 Go.Proofs.Try.prog 32 h32 := ⟨Go.Proofs.Try.f32, _, hintsH h32.body, Go.Proofs.Try.func32, by kernel_rfl, rfl, by decide, by decide, by kernel_rfl, by kernel_rfl⟩
theorem toh35 : OkH1 Go.Proofs.Try.prog 35 h35 := ⟨Go.Proofs.Try.f35, _, hintsH h35.body, Go.Proofs.Try.func35, by kernel_rfl, rfl, by decide, by decide, by kernel_rfl, by kernel_rfl⟩
theorem toh64 : OkH1 Go.Proofs.Try.prog 64 h64 := ⟨Go.Proofs.Try.f64, _, hintsH h64.body, Go.Proofs.Try.func64, by kernel_rfl, rfl, by decide, by decide, by kernel_rfl, by kernel_rfl⟩
theorem toh65 : OkH1 Go.Proofs.Try.prog 65 h65 := ⟨Go.Proofs.Try.f65, _, hintsH h65.body, Go.Proofs.Try.func65, by kernel_rfl, rfl, by decide, by decide, by kernel_rfl, by kernel_rfl⟩
theorem toh66 : OkH1 Go.Proofs.Try.prog 66 h66 := ⟨Go.Proofs.Try.f66, _, hintsH h66.body, Go.Proofs.Try.func66, by kernel_rfl, rfl, by decide, by decide, by kernel_rfl, by kernel_rfl⟩
theorem toh67 : OkH1 Go.Proofs.Try.prog 67 h67 := ⟨Go.Proofs.Try.f67, _, hintsH h67.body, Go.Proofs.Try.func67, by kernel_rfl, rfl, by decide, by decide, by kernel_rfl, by kernel_rfl⟩
theorem toh68 : OkH1 Go.Proofs.Try.prog 68 h68 := ⟨Go.Proofs.Try.f68, _, hintsH h68.body, Go.Proofs.Try.func68, by kernel_rfl, rfl, by decide, by decide, by kernel_rfl, by kernel_rfl⟩
theorem toh69 : OkH1 Go.Proofs.Try.prog 69 h69 := ⟨Go.Proofs.Try.f69, _, hintsH h69.body, Go.Proofs.Try.func69, by kernel_rfl, rfl, by decide, by decide, by kernel_rfl, by kernel_rfl⟩
theorem toh70 : OkH1 Go.Proofs.Try.prog 70 h70 := ⟨Go.Proofs.Try.f70, _, hintsH h70.body, Go.Proofs.Try.func70, by kernel_rfl, rfl, by decide, by decide, by kernel_rfl, by kernel_rfl⟩
theorem toh71 : OkH1 Go.Proofs.Try.prog 71 h71 := ⟨Go.Proofs.Try.f71, _, hintsH h71.body, Go.Proofs.Try.func71, by kernel_rfl, rfl, by decide, by decide, by kernel_rfl, by kernel_rfl⟩
theorem toh72 : OkH1 Go.Proofs.Try.prog 72 h72 := ⟨Go.Proofs.Try.f72, _, hintsH h72.body, Go.Proofs.Try.func72, by kernel_rfl, rfl, by decide, by decide, by kernel_rfl, by kernel_rfl⟩
theorem toh73 : OkH1 Go.Proofs.Try.prog 73 h73 := ⟨Go.Proofs.Try.f73, _, hintsH h73.body, Go.Proofs.Try.func73, by kernel_rfl, rfl, by decide, by decide, by kernel_rfl, by kernel_rfl⟩
theorem toh74 : OkH1 Go.Proofs.Try.prog 74 h74 := ⟨Go.Proofs.Try.f74, _, hintsH h74.body, Go.Proofs.Try.func74, by kernel_rfl, rfl, by decide, by decide, by kernel_rfl, by kernel_rfl⟩
theorem toh75 : OkH1 Go.Proofs.Try.prog 75 h75 := ⟨Go.Proofs.Try.f75, _, hintsH h75.body, Go.Proofs.Try.func75, by kernel_rfl, rfl, by decide, by decide, by kernel_rfl, by kernel_rfl⟩
theorem toh76 : OkH1 Go.Proofs.Try.prog 76 h76 := ⟨Go.Proofs.Try.f76, _, hintsH h76.body, Go.Proofs.Try.func76, by kernel_rfl, rfl, by decide, by decide, by kernel_rfl, by kernel_rfl⟩
theorem toh77 : OkH1 Go.Proofs.Try.prog 77 h77 := ⟨Go.Proofs.Try.f77, _, hintsH h77.body, Go.Proofs.Try.func77, by kernel_rfl, rfl, by decide, by decide, by kernel_rfl, by kernel_rfl⟩
theorem toh78 : OkH1 Go.Proofs.Try.prog 78 h78 := ⟨Go.Proofs.Try.f78, _, hintsH h78.body, Go.Proofs.Try.func78, by kernel_rfl, rfl, by decide, by decide, by kernel_rfl, by kernel_rfl⟩
theorem toh79 : OkH1 Go.Proofs.Try.prog 79 h79 := ⟨Go.Proofs.Try.f79, _, hintsH h79.body, Go.Proofs.Try.func79, by kernel_rfl, rfl, by decide, by decide, by kernel_rfl, by kernel_rfl⟩
theorem toh80 : OkH1 Go.Proofs.Try.prog 80 h80 := ⟨Go.Proofs.Try.f80, _, hintsH h80.body, Go.Proofs.Try.func80, by kernel_rfl, rfl, by decide, by decide, by kernel_rfl, by kernel_rfl⟩
theorem toh81 : OkH1 Go.Proofs.Try.prog 81 h81 := ⟨Go.Proofs.Try.f81, _, hintsH h81.body, Go.Proofs.Try.func81, by kernel_rfl, rfl, by decide, by decide, by kernel_rfl, by kernel_rfl⟩
theorem toh82 : OkH1 Go.Proofs.Try.prog 82 h82 := ⟨Go.Proofs.Try.f82, _, hintsH h82.body, Go.Proofs.Try.func82, by kernel_rfl, rfl, by decide, by decide, by kernel_rfl, by kernel_rfl⟩
theorem toh83 : OkH1 Go.Proofs.Try.prog 83 h83 := ⟨Go.Proofs.Try.f83, _, hintsH h83.body, Go.Proofs.Try.func83, by kernel_rfl, rfl, by decide, by decide, by kernel_rfl, by kernel_rfl⟩
theorem toh84 : OkH1 Go.Proofs.Try.prog 84 h84 := ⟨Go.Proofs.Try.f84, _, hintsH h84.body, Go.Proofs.Try.func84, by kernel_rfl, rfl, by decide, by decide, by kernel_rfl, by kernel_rfl⟩
theorem toh85 : OkH1 Go.Proofs.Try.prog 85 h85 := ⟨Go.Proofs.Try.f85, _, hintsH h85.body, Go.Proofs.Try.func85, by kernel_rfl, rfl, by decide, by decide, by kernel_rfl, by kernel_rfl⟩
theorem toh86 : OkH1 Go.Proofs.Try.prog 86 h86 := ⟨Go.Proofs.Try.f86, _, hintsH h86.body, Go.Proofs.Try.func86, by kernel_rfl, rfl, by decide, by decide, by kernel_rfl, by kernel_rfl⟩
theorem toh97 : OkH1 Go.Proofs.Try.prog 97 h97 := ⟨Go.Proofs.Try.f97, _, hintsH h97.body, Go.Proofs.Try.func97, by kernel_rfl, rfl, by decide, by decide, by kernel_rfl, by kernel_rfl⟩
theorem toh98 : OkH1 Go.Proofs.Try.prog 98 h98 := ⟨Go.Proofs.Try.f98, _, hintsH h98.body, Go.Proofs.Try.func98, by kernel_rfl, rfl, by decide, by decide, by kernel_rfl, by kernel_rfl⟩
theorem toh113 : OkH1 Go.Proofs.Try.prog 113 h113 := ⟨Go.Proofs.Try.f113, _, hintsH h113.body, Go.Proofs.Try.func113, by kernel_rfl, rfl, by decide, by decide, by kernel_rfl, by kernel_rfl⟩
theorem toh114 : OkH1 Go.Proofs.Try.prog 114 h114 := ⟨Go.Proofs.Try.f114, _, hintsH h114.body, Go.Proofs.Try.func114, by kernel_rfl, rfl, by decide, by decide, by kernel_rfl, by kernel_rfl⟩
theorem toh115 : OkH1 Go.Proofs.Try.prog 115 h115 := ⟨Go.Proofs.Try.f115, _, hintsH h115.body, Go.Proofs.Try.func115, by kernel_rfl, rfl, by decide, by decide, by kernel_rfl, by kernel_rfl⟩
theorem toh116 : OkH1 Go.Proofs.Try.prog 116 h116 := ⟨Go.Proofs.Try.f116, _, hintsH h116.body, Go.Proofs.Try.func116, by kernel_rfl, rfl, by decide, by decide, by kernel_rfl, by kernel_rfl⟩
theorem toh117 : OkH1 Go.Proofs.Try.prog 117 h117 := ⟨Go.Proofs.Try.f117, _, hintsH h117.body, Go.Proofs.Try.func117, by kernel_rfl, rfl, by decide, by decide, by kernel_rfl, by kernel_rfl⟩
theorem toh120 : OkH1 Go.Proofs.Try.prog 120 h120 := ⟨Go.Proofs.Try.f120, _, hintsH h120.body, Go.Proofs.Try.func120, by kernel_rfl, rfl, by decide, by decide, by kernel_rfl, by kernel_rfl⟩
theorem tokTH : TOkH Go.Proofs.Try.prog TH := tok_of (l := TL) ⟨toh3, toh4, toh5, toh15, toh16, toh17, toh18, toh19, toh20, toh21, toh22, toh23, toh24, toh25, toh26, toh27, toh28, toh29, toh30, toh31, toh32, toh35, toh64, toh65, toh66, toh67, toh68, toh69, toh70, toh71, toh72, toh73, toh74, toh75, toh76, toh77, toh78, toh79, toh80, toh81, toh82, toh83, toh84, toh85, toh86, toh97, toh98, toh113, toh114, toh115, toh116, toh117, toh120, trivial⟩
end Go.Ab
namespace Go.Ab
open Go
theorem ks2Ok : HCallOk Go.Proofs.Try.prog (evHI C0 KS2 TH) := ks2Ok' mixed tok tokTH
theorem okOp_of {o : l26_Op} (h : Rl26_Op o) : OkOp o := by
  obtain ⟨_, h2, h3, h4, h5, h6⟩ := h
  have := h2.u8; have := h3.u8; have := h4.u8; have := h5.u8; have := h6.u16
  exact ⟨by omega, by omega, by omega, by omega, by omega⟩
theorem spaceDoes (x1 : Int) (x2 : List l26_Op) (r1 : Rng .u8 x1) (r2 : x2.length < 140737488355328 ∧ ∀ y ∈ x2, Rl26_Op y) : ∃ st', evHI C0 KS2 TH 4 ([PV.int .u8 x1, PV.sl x2.length (x2.flatMap cl26_Op)].map .p) [] = some (.p (.bool true), st') :=
  spaceDoes1 r1.u8 x2 (fun o ho => okOp_of (r2.2 o ho)) r2.1
end Go.Ab
