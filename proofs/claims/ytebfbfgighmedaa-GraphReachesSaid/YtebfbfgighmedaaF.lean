/-
  Functions that are known by their contracts: slices.Reverse at numbers.
-/
import Derived.Test.YtebfbfgighmedaaC
import Derived.Shelf.Slices.Cells
import Derived.Ground.NamesProg
import Derived.Test.YtebfbfgighmedaaRows
import Derived.Test.YtebfbfgighmedaaE
import Derived.Test.YtebfbfgighmedaaD
namespace Go.Ab
open Go Go.Proofs Go.Shelf
set_option linter.unusedVariables false
set_option linter.unusedSimpArgs false

theorem wrote_setCells {b : Nat} : ∀ (vs : List Value) (o : Nat) (w : World), (∃ c t fr, w.heap[b]? = some (.cells c t fr) ∧ o + vs.length ≤ c.size) → Wrote w (w.setCells b o vs) b o vs
  | [], o, w, ⟨c, t, fr, hc, hle⟩ => ⟨rfl, rfl, rfl, rfl, fun _ _ => rfl, c, c, t, fr, hc, hc, rfl, fun j => by simp; intro h1 h2; omega⟩
  | v :: vs, o, w, ⟨c, t, fr, hc, hle⟩ => by
    simp only [List.length_cons] at hle
    let w1 := w.setCell ⟨b, o, Option.none⟩ v
    have hlt : b < w.heap.size := by
      rcases Nat.lt_or_ge b w.heap.size with h | h
      · exact h
      · rw [Array.getElem?_eq_none h] at hc; cases hc
    have h1 : w1.heap[b]? = some (.cells (c.setIfInBounds o v) t fr) := by
      simp only [w1, World.setCell, Array.getElem?_modify, if_true, hc, Option.map_some]
      simp
    have W := wrote_setCells vs (o + 1) w1 ⟨_, _, _, h1, by simp; omega⟩
    refine ⟨W.os.trans rfl, W.tape.trans rfl, W.output.trans rfl, by rw [show w.setCells b o (v :: vs) = w1.setCells b (o + 1) vs from rfl, W.size]; simp [w1, World.setCell], fun b' hb' => ?_, ?_⟩
    · rw [show w.setCells b o (v :: vs) = w1.setCells b (o + 1) vs from rfl, W.other b' hb']
      simp only [w1, World.setCell, Array.getElem?_modify]
      rw [if_neg (by simpa using Ne.symm hb')]
    · obtain ⟨c1, c', t1, fr1, e1, e2, e3, e4⟩ := W.blk
      rw [h1] at e1
      simp only [Option.some.injEq, Obj.cells.injEq] at e1
      obtain ⟨rfl, rfl, rfl⟩ := e1
      refine ⟨c, c', _, _, hc, e2, by simpa using e3, fun j => ?_⟩
      rw [e4 j]
      simp only [List.length_cons]
      by_cases ha : o + 1 ≤ j ∧ j < o + 1 + vs.length
      · rw [if_pos ha, if_pos (by omega)]
        rw [show j - o = (j - (o + 1)) + 1 by omega]
        simp
      · rw [if_neg ha]
        by_cases hb : j = o
        · subst hb
          rw [if_pos (by omega)]
          simp [show j < c.size by omega]
        · rw [if_neg (by omega)]
          simp [Array.getElem?_setIfInBounds, Ne.symm hb]

theorem intsOf_some : ∀ {cs : List PV} {zs : List Int}, intsOf cs = some zs → cs = zs.map (PV.int .i64)
  | [], zs, h => by simp [intsOf] at h; subst h; rfl
  | c :: cs, zs, h => by
    unfold intsOf at h
    split at h
    · rename_i h1; cases h1
    · rename_i n r h1
      simp only [List.cons.injEq] at h1
      obtain ⟨rfl, rfl⟩ := h1
      simp only [Option.map_eq_some_iff] at h
      obtain ⟨zs', h2, rfl⟩ := h
      rw [intsOf_some h2]; rfl
    · cases h

def upL : Lab → Lab
  | .own q (k :: s) i => .own q ((k + 1) :: s) i
  | l => l

theorem upL_own {l : Lab} {q : Nat} {p : List Nat} {i : Nat} (h : upL l = .own q p i) (hn : ∀ q' i', l ≠ .own q' [] i') : ∃ k s, l = .own q (k :: s) i ∧ p = (k + 1) :: s := by
  cases l with
  | out => cases h
  | sh => cases h
  | own q' s j =>
    cases s with
    | nil => exact absurd rfl (hn q' j)
    | cons k s =>
      simp only [upL, Lab.own.injEq] at h
      obtain ⟨rfl, rfl, rfl⟩ := h
      exact ⟨k, s, rfl, rfl⟩

section
variable {P : Program} {ρ : Ren}

theorem ext_reverse (L : Lays.n112 P ρ) {f : Nat} (hf : ρ.f 112 = f) (hfn : ∃ fn, P.funcs[f]? = some fn ∧ (fn.name == "runtime.NumGoroutine") = false ∧ fn.body.isNone = false) : CallOk1 P f (extSem 0) := by
  subst hf
  intro ws r outs h
  refine ⟨hfn, fun args w L0 hsz W bd H => ?_⟩
  unfold extSem at h
  split at h
  · rename_i sz n cs
    split at h
    · rename_i hc0
      obtain ⟨rfl, hn⟩ := hc0
      simp only [Option.map_eq_some_iff, Prod.mk.injEq] at h
      obtain ⟨zs, hzs, rfl, rfl⟩ := h
      have hcs := intsOf_some hzs
      subst hcs
      obtain ⟨H0, -⟩ := H 0 (by simp)
      simp only [List.getElem_cons_zero] at H0
      have hargs : args = #[args.getD 0 undef] := by
        have hs : args.size = 1 := by simpa using hsz
        apply Array.ext
        · simp [hs]
        · intro i h1 h2
          have : i = 0 := by omega
          subst this
          simp [Array.getD, hs]
      generalize args.getD 0 undef = u at hargs H0
      subst hargs
      cases H0 with
      | own _ _ _ _ _ b cap hlen hle hp ho hk hc =>
        simp only [Nat.mul_one, List.length_map] at hlen hp ho
        subst hlen
        have hcell : ∀ j, j < zs.length → w.cell? ⟨b, 0 + j, Option.none⟩ = some (.int .i64 (zs.getD j 0)) := fun j hj => by
          obtain ⟨v, hv⟩ := W.ex b j (by rw [ho j (by omega)]; simp)
          have := hc j (by simpa using hj)
          simp only [cv, hv, Option.getD_some, List.getElem_map] at this
          cases this
          rw [Nat.zero_add, hv]
          simp [hj]
        have hfr : ∀ j, j < zs.length → w.frozen? ⟨b, 0 + j, Option.none⟩ = false := fun j hj => by
          rw [Nat.zero_add]; exact W.thaw _ _ _ _ _ (ho j (by omega))
        have hbig : zs.length ≤ 9223372036854775807 := Nat.le_trans hn (by decide)
        refine (Any.slices_Reverse_int_cells L b 0 zs.length cap zs w (Nat.le_refl _) hbig hcell hfr).mono ?_
        rintro e w' ⟨rfl, q, rfl⟩
        rw [List.take_length]
        -- the cells that were written
        have hblk : ∃ c t fr, (w.drewN q).heap[b]? = some (.cells c t fr) ∧ 0 + (zs.reverse.map (Value.int .i64)).length ≤ c.size := by
          obtain ⟨v0, hv0⟩ := W.ex b 0 (by rw [ho 0 hp]; simp)
          show ∃ c t fr, w.heap[b]? = some (.cells c t fr) ∧ _
          have hv1 := hv0
          unfold World.cell? at hv1
          split at hv1
          · rename_i c t fr hcc
            refine ⟨c, t, fr, hcc, ?_⟩
            simp only [List.length_map, List.length_reverse, Nat.zero_add]
            rcases Nat.lt_or_ge 0 zs.length with h0 | h0
            · have := hcell (zs.length - 1) (by omega)
              simp only [World.cell?, hcc, Nat.zero_add] at this
              rcases Nat.lt_or_ge (zs.length - 1) c.size with h1 | h1
              · omega
              · simp [Array.getElem?_eq_none h1] at this
            · omega
          all_goals simp_all
        have WW0 := wrote_setCells (zs.reverse.map (Value.int .i64)) 0 (w.drewN q) hblk
        have WW : Wrote w ((w.drewN q).setCells b 0 (zs.reverse.map (Value.int .i64))) b 0 (zs.reverse.map (Value.int .i64)) := ⟨WW0.os, WW0.tape, WW0.output, WW0.size, WW0.other, WW0.blk⟩
        generalize (w.drewN q).setCells b 0 (zs.reverse.map (Value.int .i64)) = w' at WW
        clear WW0
        have hnl : ∀ b j q' i', L0 b j ≠ .own q' [] i' := fun b j q' i' hh => by
          obtain ⟨_, k, s, hh2, _⟩ := bd _ _ _ _ _ hh
          cases hh2
        refine ⟨fun b j => upL (L0 b j), ⟨fun b1 j1 b2 j2 r p i h1 h2 => ?_, fun b1 j1 h1 => ?_, fun b1 j1 r p i h1 => ?_⟩, WW.ext (fun j h1 h2 => ?_) (fun b1 j1 h1 => ?_), fun b1 j1 q' p i h1 => ?_, .tup _ _ _ rfl (fun i hi => by cases hi), rfl, fun i hi => ?_⟩
        · obtain ⟨k1, s1, e1, e2⟩ := upL_own h1 (hnl _ _)
          obtain ⟨k2, s2, e3, e4⟩ := upL_own h2 (hnl _ _)
          rw [e2] at e4
          simp only [List.cons.injEq, Nat.add_right_cancel_iff] at e4
          obtain ⟨rfl, rfl⟩ := e4
          exact W.inj _ _ _ _ _ _ _ e1 e3
        · obtain ⟨v, hv⟩ := W.ex b1 j1 fun e => h1 (by rw [e]; rfl)
          exact WW.ex hv
        · obtain ⟨k1, s1, e1, e2⟩ := upL_own h1 (hnl _ _)
          rw [WW.frozen]
          exact W.thaw _ _ _ _ _ e1
        · simp only [List.length_map, List.length_reverse, Nat.zero_add] at h2
          exact ⟨_, _, _, ho j (by omega)⟩
        · rcases h1 with h1 | h1 <;> rw [h1] <;> rfl
        · obtain ⟨k1, s1, e1, e2⟩ := upL_own h1 (hnl _ _)
          obtain ⟨h3, k, s, h4, h5⟩ := bd _ _ _ _ _ e1
          simp only [List.cons.injEq] at h4
          obtain ⟨rfl, rfl⟩ := h4
          simp only [List.length_cons, List.length_nil] at h5
          exact ⟨h3, _, _, e2, by simp only [List.length_cons, List.length_nil]; omega⟩
        · simp only [List.length_cons, List.length_nil, Nat.zero_add, Nat.lt_one_iff] at hi
          subst hi
          refine ⟨?_, rfl, rfl⟩
          simp only [List.getElem_cons_zero]
          show RepV w' _ _ _ ((#[_] : Array Value).getD 0 undef)
          refine .own _ _ _ _ _ _ _ (by simp) hle (by simpa using hp) (fun j hj => ?_) (fun i hi => ?_) fun i hi => ?_
          · rw [ho j (by simpa using hj)]; rfl
          · simp only [List.getElem_map]; rfl
          · have hi' : i < (zs.reverse.map (Value.int .i64)).length := by simpa using hi
            have := WW.cell_new hi'
            rw [Nat.zero_add] at this
            rw [this]
            simp only [List.getElem_map]
            exact .int _ _ _
    · cases h
  · simp only [Option.some.injEq, Prod.mk.injEq] at h
    obtain ⟨rfl, rfl⟩ := h
    obtain ⟨H0, -⟩ := H 0 (by simp)
    simp only [List.getElem_cons_zero] at H0
    have hargs : args = #[args.getD 0 undef] := by
      have hs : args.size = 1 := by simpa using hsz
      apply Array.ext
      · simp [hs]
      · intro i h1 h2
        have : i = 0 := by omega
        subst this
        simp [Array.getD, hs]
    generalize args.getD 0 undef = u at hargs H0
    subst hargs
    cases H0 with
    | nils _ a =>
      refine (Any.slices_Reverse_int_empty L a 0 w).mono ?_
      rintro e w' ⟨rfl, rfl⟩
      refine ⟨L0, W, .refl _ _, fun b j q p i hh => ?_, .tup _ _ _ rfl (fun i hi => by cases hi), rfl, fun i hi => ?_⟩
      · obtain ⟨h1, k, s, h2, h3⟩ := bd _ _ _ _ _ hh
        exact ⟨h1, k, s, h2, by simp only [List.length_cons, List.length_nil] at h3 ⊢; omega⟩
      · simp only [List.length_cons, List.length_nil, Nat.zero_add, Nat.lt_one_iff] at hi
        subst hi
        exact ⟨.none _ _, rfl, rfl⟩
  · cases h

end
end Go.Ab

/-
  Contracts of the library laid at this program (text pasted by the kit's own tool).
-/
namespace Go.Proofs
open Go.Shelf
def Try.lays35_ren : Go.Shelf.Ren := ⟨fun | 112 => 35 | n => n, fun | 28 => 22 | 3 => 3 | 4 => 4 | 0 => 0 | n => n, fun | n => n⟩
theorem Try.lays35 : Go.Proofs.Lays.n112 Try.prog Try.lays35_ren := {
  mixed := by kernel_rfl
  f112 := Try.func35.trans (congrArg some (by kernel_rfl))
  t0 := Try.underlying0
  a0 := Try.isAgg0
  z0 := Try.sizeOf0
  v0 := Try.zeroValue0
  t3 := Try.underlying3
  a3 := Try.isAgg3
  z3 := Try.sizeOf3
  v3 := Try.zeroValue3
  t4 := Try.underlying4
  a4 := Try.isAgg4
  z4 := Try.sizeOf4
  v4 := Try.zeroValue4
  t28 := Try.underlying22
  a28 := Try.isAgg22
  z28 := Try.sizeOf22
  v28 := Try.zeroValue22 }
end Go.Proofs

/-
  Printed by gen.py.
-/
namespace Go.Ab
open Go
set_option linter.unusedVariables false
set_option linter.unusedSimpArgs false
set_option maxRecDepth 100000
set_option maxHeartbeats 4000000
/-- function f of the program is x -/
def Ok1 (P : Program) (f : Nat) (x : XF) : Prop := x.ext = Option.none ∧ ∃ fn code hints, P.funcs[f]? = some fn ∧ (fn.name == "runtime.NumGoroutine") = false ∧ fn.body = some code ∧ x.np ≤ fn.ntmps ∧ trC P (fun d => decide (d < fn.ntmps) && !x.prot.contains d) code hints = some (x.body, []) ∧ trRs P fn.results.toList = some x.res
theorem tok3 : Ok1 Go.Proofs.Try.prog 3 x3 := ⟨rfl, Go.Proofs.Try.f3, _, hintsOf 3, Go.Proofs.Try.func3, by kernel_rfl, rfl, by decide, by kernel_rfl, by kernel_rfl⟩
theorem tok4 : Ok1 Go.Proofs.Try.prog 4 x4 := ⟨rfl, Go.Proofs.Try.f4, _, hintsOf 4, Go.Proofs.Try.func4, by kernel_rfl, rfl, by decide, by kernel_rfl, by kernel_rfl⟩
theorem tok5 : Ok1 Go.Proofs.Try.prog 5 x5 := ⟨rfl, Go.Proofs.Try.f5, _, hintsOf 5, Go.Proofs.Try.func5, by kernel_rfl, rfl, by decide, by kernel_rfl, by kernel_rfl⟩
theorem tok6 : Ok1 Go.Proofs.Try.prog 6 x6 := ⟨rfl, Go.Proofs.Try.f6, _, hintsOf 6, Go.Proofs.Try.func6, by kernel_rfl, rfl, by decide, by kernel_rfl, by kernel_rfl⟩
theorem tok7 : Ok1 Go.Proofs.Try.prog 7 x7 := ⟨rfl, Go.Proofs.Try.f7, _, hintsOf 7, Go.Proofs.Try.func7, by kernel_rfl, rfl, by decide, by kernel_rfl, by kernel_rfl⟩
theorem tok8 : Ok1 Go.Proofs.Try.prog 8 x8 := ⟨rfl, Go.Proofs.Try.f8, _, hintsOf 8, Go.Proofs.Try.func8, by kernel_rfl, rfl, by decide, by kernel_rfl, by kernel_rfl⟩
theorem tok9 : Ok1 Go.Proofs.Try.prog 9 x9 := ⟨rfl, Go.Proofs.Try.f9, _, hintsOf 9, Go.Proofs.Try.func9, by kernel_rfl, rfl, by decide, by kernel_rfl, by kernel_rfl⟩
theorem tok10 : Ok1 Go.Proofs.Try.prog 10 x10 := ⟨rfl, Go.Proofs.Try.f10, _, hintsOf 10, Go.Proofs.Try.func10, by kernel_rfl, rfl, by decide, by kernel_rfl, by kernel_rfl⟩
theorem tok11 : Ok1 Go.Proofs.Try.prog 11 x11 := ⟨rfl, Go.Proofs.Try.f11, _, hintsOf 11, Go.Proofs.Try.func11, by kernel_rfl, rfl, by decide, by kernel_rfl, by kernel_rfl⟩
theorem tok12 : Ok1 Go.Proofs.Try.prog 12 x12 := ⟨rfl, Go.Proofs.Try.f12, _, hintsOf 12, Go.Proofs.Try.func12, by kernel_rfl, rfl, by decide, by kernel_rfl, by kernel_rfl⟩
theorem tok13 : Ok1 Go.Proofs.Try.prog 13 x13 := ⟨rfl, Go.Proofs.Try.f13, _, hintsOf 13, Go.Proofs.Try.func13, by kernel_rfl, rfl, by decide, by kernel_rfl, by kernel_rfl⟩
theorem tok14 : Ok1 Go.Proofs.Try.prog 14 x14 := ⟨rfl, Go.Proofs.Try.f14, _, hintsOf 14, Go.Proofs.Try.func14, by kernel_rfl, rfl, by decide, by kernel_rfl, by kernel_rfl⟩
theorem tok15 : Ok1 Go.Proofs.Try.prog 15 x15 := ⟨rfl, Go.Proofs.Try.f15, _, hintsOf 15, Go.Proofs.Try.func15, by kernel_rfl, rfl, by decide, by kernel_rfl, by kernel_rfl⟩
theorem tok16 : Ok1 Go.Proofs.Try.prog 16 x16 := ⟨rfl, Go.Proofs.Try.f16, _, hintsOf 16, Go.Proofs.Try.func16, by kernel_rfl, rfl, by decide, by kernel_rfl, by kernel_rfl⟩
theorem tok17 : Ok1 Go.Proofs.Try.prog 17 x17 := ⟨rfl, Go.Proofs.Try.f17, _, hintsOf 17, Go.Proofs.Try.func17, by kernel_rfl, rfl, by decide, by kernel_rfl, by kernel_rfl⟩
theorem tok18 : Ok1 Go.Proofs.Try.prog 18 x18 := ⟨rfl, Go.Proofs.Try.f18, _, hintsOf 18, Go.Proofs.Try.func18, by kernel_rfl, rfl, by decide, by kernel_rfl, by kernel_rfl⟩
theorem tok19 : Ok1 Go.Proofs.Try.prog 19 x19 := ⟨rfl, Go.Proofs.Try.f19, _, hintsOf 19, Go.Proofs.Try.func19, by kernel_rfl, rfl, by decide, by kernel_rfl, by kernel_rfl⟩
theorem tok20 : Ok1 Go.Proofs.Try.prog 20 x20 := ⟨rfl, Go.Proofs.Try.f20, _, hintsOf 20, Go.Proofs.Try.func20, by kernel_rfl, rfl, by decide, by kernel_rfl, by kernel_rfl⟩
theorem tok21 : Ok1 Go.Proofs.Try.prog 21 x21 := ⟨rfl, Go.Proofs.Try.f21, _, hintsOf 21, Go.Proofs.Try.func21, by kernel_rfl, rfl, by decide, by kernel_rfl, by kernel_rfl⟩
theorem tok22 : Ok1 Go.Proofs.Try.prog 22 x22 := ⟨rfl, Go.Proofs.Try.f22, _, hintsOf 22, Go.Proofs.Try.func22, by kernel_rfl, rfl, by decide, by kernel_rfl, by kernel_rfl⟩
theorem tok23 : Ok1 Go.Proofs.Try.prog 23 x23 := ⟨rfl, Go.Proofs.Try.f23, _, hintsOf 23, Go.Proofs.Try.func23, by kernel_rfl, rfl, by decide, by kernel_rfl, by kernel_rfl⟩
theorem tok24 : Ok1 Go.Proofs.Try.prog 24 x24 := ⟨rfl, Go.Proofs.Try.f24, _, hintsOf 24, Go.Proofs.Try.func24, by kernel_rfl, rfl, by decide, by kernel_rfl, by kernel_rfl⟩
theorem tok25 : Ok1 Go.Proofs.Try.prog 25 x25 := ⟨rfl, Go.Proofs.Try.f25, _, hintsOf 25, Go.Proofs.Try.func25, by kernel_rfl, rfl, by decide, by kernel_rfl, by kernel_rfl⟩
theorem tok26 : Ok1 Go.Proofs.Try.prog 26 x26 := ⟨rfl, Go.Proofs.Try.f26, _, hintsOf 26, Go.Proofs.Try.func26, by kernel_rfl, rfl, by decide, by kernel_rfl, by kernel_rfl⟩
theorem tok27 : Ok1 Go.Proofs.Try.prog 27 x27 := ⟨rfl, Go.Proofs.Try.f27, _, hintsOf 27, Go.Proofs.Try.func27, by kernel_rfl, rfl, by decide, by kernel_rfl, by kernel_rfl⟩
theorem tok28 : Ok1 Go.Proofs.Try.prog 28 x28 := ⟨rfl, Go.Proofs.Try.f28, _, hintsOf 28, Go.Proofs.Try.func28, by kernel_rfl, rfl, by decide, by kernel_rfl, by kernel_rfl⟩
theorem tok29 : Ok1 Go.Proofs.Try.prog 29 x29 := ⟨rfl, Go.Proofs.Try.f29, _, hintsOf 29, Go.Proofs.Try.func29, by kernel_rfl, rfl, by decide, by kernel_rfl, by kernel_rfl⟩
theorem tok30 : Ok1 Go.Proofs.Try.prog 30 x30 := ⟨rfl, Go.Proofs.Try.f30, _, hintsOf 30, Go.Proofs.Try.func30, by kernel_rfl, rfl, by decide, by kernel_rfl, by kernel_rfl⟩
theorem tok31 : Ok1 Go.Proofs.Try.prog 31 x31 := ⟨rfl, Go.Proofs.Try.f31, _, hintsOf 31, Go.Proofs.Try.func31, by kernel_rfl, rfl, by decide, by kernel_rfl, by kernel_rfl⟩
theorem tok32 : Ok1 Go.Proofs.Try.prog 32 x32 := ⟨rfl, Go.Proofs.Try.f32, _, hintsOf 32, Go.Proofs.Try.func32, by kernel_rfl, rfl, by decide, by kernel_rfl, by kernel_rfl⟩
theorem tok33 : Ok1 Go.Proofs.Try.prog 33 x33 := ⟨rfl, Go.Proofs.Try.f33, _, hintsOf 33, Go.Proofs.Try.func33, by kernel_rfl, rfl, by decide, by kernel_rfl, by kernel_rfl⟩
theorem tok34 : Ok1 Go.Proofs.Try.prog 34 x34 := ⟨rfl, Go.Proofs.Try.f34, _, hintsOf 34, Go.Proofs.Try.func34, by kernel_rfl, rfl, by decide, by kernel_rfl, by kernel_rfl⟩
theorem tok35 : CallOk1 Go.Proofs.Try.prog 35 (extSem 0) := ext_reverse Go.Proofs.Try.lays35 rfl ⟨Go.Proofs.Try.f35, Go.Proofs.Try.func35, by kernel_rfl, by kernel_rfl⟩
theorem tok36 : Ok1 Go.Proofs.Try.prog 36 x36 := ⟨rfl, Go.Proofs.Try.f36, _, hintsOf 36, Go.Proofs.Try.func36, by kernel_rfl, rfl, by decide, by kernel_rfl, by kernel_rfl⟩
theorem tok37 : Ok1 Go.Proofs.Try.prog 37 x37 := ⟨rfl, Go.Proofs.Try.f37, _, hintsOf 37, Go.Proofs.Try.func37, by kernel_rfl, rfl, by decide, by kernel_rfl, by kernel_rfl⟩
theorem tok38 : Ok1 Go.Proofs.Try.prog 38 x38 := ⟨rfl, Go.Proofs.Try.f38, _, hintsOf 38, Go.Proofs.Try.func38, by kernel_rfl, rfl, by decide, by kernel_rfl, by kernel_rfl⟩
theorem tok39 : Ok1 Go.Proofs.Try.prog 39 x39 := ⟨rfl, Go.Proofs.Try.f39, _, hintsOf 39, Go.Proofs.Try.func39, by kernel_rfl, rfl, by decide, by kernel_rfl, by kernel_rfl⟩
theorem tok40 : Ok1 Go.Proofs.Try.prog 40 x40 := ⟨rfl, Go.Proofs.Try.f40, _, hintsOf 40, Go.Proofs.Try.func40, by kernel_rfl, rfl, by decide, by kernel_rfl, by kernel_rfl⟩
theorem tok41 : Ok1 Go.Proofs.Try.prog 41 x41 := ⟨rfl, Go.Proofs.Try.f41, _, hintsOf 41, Go.Proofs.Try.func41, by kernel_rfl, rfl, by decide, by kernel_rfl, by kernel_rfl⟩
theorem tok42 : Ok1 Go.Proofs.Try.prog 42 x42 := ⟨rfl, Go.Proofs.Try.f42, _, hintsOf 42, Go.Proofs.Try.func42, by kernel_rfl, rfl, by decide, by kernel_rfl, by kernel_rfl⟩
theorem tok43 : Ok1 Go.Proofs.Try.prog 43 x43 := ⟨rfl, Go.Proofs.Try.f43, _, hintsOf 43, Go.Proofs.Try.func43, by kernel_rfl, rfl, by decide, by kernel_rfl, by kernel_rfl⟩
theorem tok44 : Ok1 Go.Proofs.Try.prog 44 x44 := ⟨rfl, Go.Proofs.Try.f44, _, hintsOf 44, Go.Proofs.Try.func44, by kernel_rfl, rfl, by decide, by kernel_rfl, by kernel_rfl⟩
theorem tok45 : Ok1 Go.Proofs.Try.prog 45 x45 := ⟨rfl, Go.Proofs.Try.f45, _, hintsOf 45, Go.Proofs.Try.func45, by kernel_rfl, rfl, by decide, by kernel_rfl, by kernel_rfl⟩
theorem tok46 : Ok1 Go.Proofs.Try.prog 46 x46 := ⟨rfl, Go.Proofs.Try.f46, _, hintsOf 46, Go.Proofs.Try.func46, by kernel_rfl, rfl, by decide, by kernel_rfl, by kernel_rfl⟩
theorem tok47 : Ok1 Go.Proofs.Try.prog 47 x47 := ⟨rfl, Go.Proofs.Try.f47, _, hintsOf 47, Go.Proofs.Try.func47, by kernel_rfl, rfl, by decide, by kernel_rfl, by kernel_rfl⟩
theorem tok48 : Ok1 Go.Proofs.Try.prog 48 x48 := ⟨rfl, Go.Proofs.Try.f48, _, hintsOf 48, Go.Proofs.Try.func48, by kernel_rfl, rfl, by decide, by kernel_rfl, by kernel_rfl⟩
theorem tok49 : Ok1 Go.Proofs.Try.prog 49 x49 := ⟨rfl, Go.Proofs.Try.f49, _, hintsOf 49, Go.Proofs.Try.func49, by kernel_rfl, rfl, by decide, by kernel_rfl, by kernel_rfl⟩
theorem tok50 : Ok1 Go.Proofs.Try.prog 50 x50 := ⟨rfl, Go.Proofs.Try.f50, _, hintsOf 50, Go.Proofs.Try.func50, by kernel_rfl, rfl, by decide, by kernel_rfl, by kernel_rfl⟩
theorem tok51 : Ok1 Go.Proofs.Try.prog 51 x51 := ⟨rfl, Go.Proofs.Try.f51, _, hintsOf 51, Go.Proofs.Try.func51, by kernel_rfl, rfl, by decide, by kernel_rfl, by kernel_rfl⟩
theorem tok52 : Ok1 Go.Proofs.Try.prog 52 x52 := ⟨rfl, Go.Proofs.Try.f52, _, hintsOf 52, Go.Proofs.Try.func52, by kernel_rfl, rfl, by decide, by kernel_rfl, by kernel_rfl⟩
theorem tok53 : Ok1 Go.Proofs.Try.prog 53 x53 := ⟨rfl, Go.Proofs.Try.f53, _, hintsOf 53, Go.Proofs.Try.func53, by kernel_rfl, rfl, by decide, by kernel_rfl, by kernel_rfl⟩
theorem tok54 : Ok1 Go.Proofs.Try.prog 54 x54 := ⟨rfl, Go.Proofs.Try.f54, _, hintsOf 54, Go.Proofs.Try.func54, by kernel_rfl, rfl, by decide, by kernel_rfl, by kernel_rfl⟩
theorem tok55 : Ok1 Go.Proofs.Try.prog 55 x55 := ⟨rfl, Go.Proofs.Try.f55, _, hintsOf 55, Go.Proofs.Try.func55, by kernel_rfl, rfl, by decide, by kernel_rfl, by kernel_rfl⟩
theorem tok56 : Ok1 Go.Proofs.Try.prog 56 x56 := ⟨rfl, Go.Proofs.Try.f56, _, hintsOf 56, Go.Proofs.Try.func56, by kernel_rfl, rfl, by decide, by kernel_rfl, by kernel_rfl⟩
theorem tok57 : Ok1 Go.Proofs.Try.prog 57 x57 := ⟨rfl, Go.Proofs.Try.f57, _, hintsOf 57, Go.Proofs.Try.func57, by kernel_rfl, rfl, by decide, by kernel_rfl, by kernel_rfl⟩
theorem tok58 : Ok1 Go.Proofs.Try.prog 58 x58 := ⟨rfl, Go.Proofs.Try.f58, _, hintsOf 58, Go.Proofs.Try.func58, by kernel_rfl, rfl, by decide, by kernel_rfl, by kernel_rfl⟩
theorem tok59 : Ok1 Go.Proofs.Try.prog 59 x59 := ⟨rfl, Go.Proofs.Try.f59, _, hintsOf 59, Go.Proofs.Try.func59, by kernel_rfl, rfl, by decide, by kernel_rfl, by kernel_rfl⟩
theorem tok60 : Ok1 Go.Proofs.Try.prog 60 x60 := ⟨rfl, Go.Proofs.Try.f60, _, hintsOf 60, Go.Proofs.Try.func60, by kernel_rfl, rfl, by decide, by kernel_rfl, by kernel_rfl⟩
theorem tok61 : Ok1 Go.Proofs.Try.prog 61 x61 := ⟨rfl, Go.Proofs.Try.f61, _, hintsOf 61, Go.Proofs.Try.func61, by kernel_rfl, rfl, by decide, by kernel_rfl, by kernel_rfl⟩
theorem tok62 : Ok1 Go.Proofs.Try.prog 62 x62 := ⟨rfl, Go.Proofs.Try.f62, _, hintsOf 62, Go.Proofs.Try.func62, by kernel_rfl, rfl, by decide, by kernel_rfl, by kernel_rfl⟩
theorem tok63 : Ok1 Go.Proofs.Try.prog 63 x63 := ⟨rfl, Go.Proofs.Try.f63, _, hintsOf 63, Go.Proofs.Try.func63, by kernel_rfl, rfl, by decide, by kernel_rfl, by kernel_rfl⟩
theorem tok64 : Ok1 Go.Proofs.Try.prog 64 x64 := ⟨rfl, Go.Proofs.Try.f64, _, hintsOf 64, Go.Proofs.Try.func64, by kernel_rfl, rfl, by decide, by kernel_rfl, by kernel_rfl⟩
theorem tok65 : Ok1 Go.Proofs.Try.prog 65 x65 := ⟨rfl, Go.Proofs.Try.f65, _, hintsOf 65, Go.Proofs.Try.func65, by kernel_rfl, rfl, by decide, by kernel_rfl, by kernel_rfl⟩
theorem tok66 : Ok1 Go.Proofs.Try.prog 66 x66 := ⟨rfl, Go.Proofs.Try.f66, _, hintsOf 66, Go.Proofs.Try.func66, by kernel_rfl, rfl, by decide, by kernel_rfl, by kernel_rfl⟩
theorem tok67 : Ok1 Go.Proofs.Try.prog 67 x67 := ⟨rfl, Go.Proofs.Try.f67, _, hintsOf 67, Go.Proofs.Try.func67, by kernel_rfl, rfl, by decide, by kernel_rfl, by kernel_rfl⟩
theorem tok68 : Ok1 Go.Proofs.Try.prog 68 x68 := ⟨rfl, Go.Proofs.Try.f68, _, hintsOf 68, Go.Proofs.Try.func68, by kernel_rfl, rfl, by decide, by kernel_rfl, by kernel_rfl⟩
theorem tok69 : Ok1 Go.Proofs.Try.prog 69 x69 := ⟨rfl, Go.Proofs.Try.f69, _, hintsOf 69, Go.Proofs.Try.func69, by kernel_rfl, rfl, by decide, by kernel_rfl, by kernel_rfl⟩
theorem tok70 : Ok1 Go.Proofs.Try.prog 70 x70 := ⟨rfl, Go.Proofs.Try.f70, _, hintsOf 70, Go.Proofs.Try.func70, by kernel_rfl, rfl, by decide, by kernel_rfl, by kernel_rfl⟩
theorem tok71 : Ok1 Go.Proofs.Try.prog 71 x71 := ⟨rfl, Go.Proofs.Try.f71, _, hintsOf 71, Go.Proofs.Try.func71, by kernel_rfl, rfl, by decide, by kernel_rfl, by kernel_rfl⟩
theorem tok72 : Ok1 Go.Proofs.Try.prog 72 x72 := ⟨rfl, Go.Proofs.Try.f72, _, hintsOf 72, Go.Proofs.Try.func72, by kernel_rfl, rfl, by decide, by kernel_rfl, by kernel_rfl⟩
theorem tok73 : Ok1 Go.Proofs.Try.prog 73 x73 := ⟨rfl, Go.Proofs.Try.f73, _, hintsOf 73, Go.Proofs.Try.func73, by kernel_rfl, rfl, by decide, by kernel_rfl, by kernel_rfl⟩
theorem tok74 : Ok1 Go.Proofs.Try.prog 74 x74 := ⟨rfl, Go.Proofs.Try.f74, _, hintsOf 74, Go.Proofs.Try.func74, by kernel_rfl, rfl, by decide, by kernel_rfl, by kernel_rfl⟩
theorem tok75 : Ok1 Go.Proofs.Try.prog 75 x75 := ⟨rfl, Go.Proofs.Try.f75, _, hintsOf 75, Go.Proofs.Try.func75, by kernel_rfl, rfl, by decide, by kernel_rfl, by kernel_rfl⟩
theorem tok76 : Ok1 Go.Proofs.Try.prog 76 x76 := ⟨rfl, Go.Proofs.Try.f76, _, hintsOf 76, Go.Proofs.Try.func76, by kernel_rfl, rfl, by decide, by kernel_rfl, by kernel_rfl⟩
theorem tok77 : Ok1 Go.Proofs.Try.prog 77 x77 := ⟨rfl, Go.Proofs.Try.f77, _, hintsOf 77, Go.Proofs.Try.func77, by kernel_rfl, rfl, by decide, by kernel_rfl, by kernel_rfl⟩
theorem tok78 : Ok1 Go.Proofs.Try.prog 78 x78 := ⟨rfl, Go.Proofs.Try.f78, _, hintsOf 78, Go.Proofs.Try.func78, by kernel_rfl, rfl, by decide, by kernel_rfl, by kernel_rfl⟩
theorem tok79 : Ok1 Go.Proofs.Try.prog 79 x79 := ⟨rfl, Go.Proofs.Try.f79, _, hintsOf 79, Go.Proofs.Try.func79, by kernel_rfl, rfl, by decide, by kernel_rfl, by kernel_rfl⟩
theorem tok80 : Ok1 Go.Proofs.Try.prog 80 x80 := ⟨rfl, Go.Proofs.Try.f80, _, hintsOf 80, Go.Proofs.Try.func80, by kernel_rfl, rfl, by decide, by kernel_rfl, by kernel_rfl⟩
theorem tok81 : Ok1 Go.Proofs.Try.prog 81 x81 := ⟨rfl, Go.Proofs.Try.f81, _, hintsOf 81, Go.Proofs.Try.func81, by kernel_rfl, rfl, by decide, by kernel_rfl, by kernel_rfl⟩
theorem tok : TOk Go.Proofs.Try.prog T := fun f x hx => TT.get_all (t := tt) (Q := fun f x => (∃ k, x.ext = some k ∧ CallOk1 Go.Proofs.Try.prog f (extSem k)) ∨ Ok1 Go.Proofs.Try.prog f x) ⟨.inr tok42, ⟨.inr tok22, ⟨.inr tok12, ⟨.inr tok7, ⟨.inr tok5, ⟨.inr tok4, ⟨.inr tok3, trivial, trivial⟩, trivial⟩, ⟨.inr tok6, trivial, trivial⟩⟩, ⟨.inr tok10, ⟨.inr tok9, ⟨.inr tok8, trivial, trivial⟩, trivial⟩, ⟨.inr tok11, trivial, trivial⟩⟩⟩, ⟨.inr tok17, ⟨.inr tok15, ⟨.inr tok14, ⟨.inr tok13, trivial, trivial⟩, trivial⟩, ⟨.inr tok16, trivial, trivial⟩⟩, ⟨.inr tok20, ⟨.inr tok19, ⟨.inr tok18, trivial, trivial⟩, trivial⟩, ⟨.inr tok21, trivial, trivial⟩⟩⟩⟩, ⟨.inr tok32, ⟨.inr tok27, ⟨.inr tok25, ⟨.inr tok24, ⟨.inr tok23, trivial, trivial⟩, trivial⟩, ⟨.inr tok26, trivial, trivial⟩⟩, ⟨.inr tok30, ⟨.inr tok29, ⟨.inr tok28, trivial, trivial⟩, trivial⟩, ⟨.inr tok31, trivial, trivial⟩⟩⟩, ⟨.inr tok37, ⟨.inl ⟨_, rfl, tok35⟩, ⟨.inr tok34, ⟨.inr tok33, trivial, trivial⟩, trivial⟩, ⟨.inr tok36, trivial, trivial⟩⟩, ⟨.inr tok40, ⟨.inr tok39, ⟨.inr tok38, trivial, trivial⟩, trivial⟩, ⟨.inr tok41, trivial, trivial⟩⟩⟩⟩⟩, ⟨.inr tok62, ⟨.inr tok52, ⟨.inr tok47, ⟨.inr tok45, ⟨.inr tok44, ⟨.inr tok43, trivial, trivial⟩, trivial⟩, ⟨.inr tok46, trivial, trivial⟩⟩, ⟨.inr tok50, ⟨.inr tok49, ⟨.inr tok48, trivial, trivial⟩, trivial⟩, ⟨.inr tok51, trivial, trivial⟩⟩⟩, ⟨.inr tok57, ⟨.inr tok55, ⟨.inr tok54, ⟨.inr tok53, trivial, trivial⟩, trivial⟩, ⟨.inr tok56, trivial, trivial⟩⟩, ⟨.inr tok60, ⟨.inr tok59, ⟨.inr tok58, trivial, trivial⟩, trivial⟩, ⟨.inr tok61, trivial, trivial⟩⟩⟩⟩, ⟨.inr tok72, ⟨.inr tok67, ⟨.inr tok65, ⟨.inr tok64, ⟨.inr tok63, trivial, trivial⟩, trivial⟩, ⟨.inr tok66, trivial, trivial⟩⟩, ⟨.inr tok70, ⟨.inr tok69, ⟨.inr tok68, trivial, trivial⟩, trivial⟩, ⟨.inr tok71, trivial, trivial⟩⟩⟩, ⟨.inr tok77, ⟨.inr tok75, ⟨.inr tok74, ⟨.inr tok73, trivial, trivial⟩, trivial⟩, ⟨.inr tok76, trivial, trivial⟩⟩, ⟨.inr tok80, ⟨.inr tok79, ⟨.inr tok78, trivial, trivial⟩, trivial⟩, ⟨.inr tok81, trivial, trivial⟩⟩⟩⟩⟩⟩ f x hx
theorem mixed : Go.Proofs.Try.prog.follows .mixedOrders = true := by kernel_rfl
end Go.Ab

/-
  Printed by gen.py.
-/
namespace Go.Ab
open Go
set_option linter.unusedVariables false
set_option linter.unusedSimpArgs false
set_option maxRecDepth 100000
set_option maxHeartbeats 4000000
open Go.ChangeShapes Go.WideShapes Go.ChangeAt Go.RowKit
theorem own : ownKnob Go.Proofs.Try.prog.godebug = none := by kernel_rfl
theorem laidOut : laidOutB Go.Proofs.Try.prog = true := by kernel_rfl
def RIns (x : Ins) : Prop := Rng .i64 x.Op ∧ Rng .i64 x.Id ∧ Rng .i64 x.N ∧ Rng .i64 (x.Type') ∧ (x.Args.length < 140737488355328 ∧ ∀ y ∈ x.Args, Rng .i64 y) ∧ (x.To.length < 140737488355328 ∧ ∀ y ∈ x.To, Rng .i64 y) ∧ x.Name.length < 140737488355328 ∧ Rng .i64 x.At
theorem opnIns (n : Nat) : Opn Go.Proofs.Try.prog (n + 3) 53 cIns RIns := by
  intro H d pvs h hw
  obtain ⟨ds, g0⟩ := pv_struct Go.Proofs.Try.underlying53 h hw
  clear h hw
  obtain ⟨d1, ds1, a1, b1, rfl, h1, g1, rfl⟩ := zipL_cons g0
  obtain ⟨d2, ds2, a2, b2, rfl, h2, g2, rfl⟩ := zipL_cons g1
  obtain ⟨d3, ds3, a3, b3, rfl, h3, g3, rfl⟩ := zipL_cons g2
  obtain ⟨d4, ds4, a4, b4, rfl, h4, g4, rfl⟩ := zipL_cons g3
  obtain ⟨d5, ds5, a5, b5, rfl, h5, g5, rfl⟩ := zipL_cons g4
  obtain ⟨d6, ds6, a6, b6, rfl, h6, g6, rfl⟩ := zipL_cons g5
  obtain ⟨d7, ds7, a7, b7, rfl, h7, g7, rfl⟩ := zipL_cons g6
  obtain ⟨d8, ds8, a8, b8, rfl, h8, g8, rfl⟩ := zipL_cons g7
  obtain rfl := zipL_nil g8
  obtain ⟨x1, rfl, r1⟩ := (opn_int (n := n + 1) Go.Proofs.Try.underlying3 : Opn Go.Proofs.Try.prog (n + 2) 3 (cint .i64) (Rng .i64)) H d1 a1 h1.1 h1.2
  obtain ⟨x2, rfl, r2⟩ := (opn_int (n := n + 1) Go.Proofs.Try.underlying3 : Opn Go.Proofs.Try.prog (n + 2) 3 (cint .i64) (Rng .i64)) H d2 a2 h2.1 h2.2
  obtain ⟨x3, rfl, r3⟩ := (opn_int (n := n + 1) Go.Proofs.Try.underlying2 : Opn Go.Proofs.Try.prog (n + 2) 2 (cint .i64) (Rng .i64)) H d3 a3 h3.1 h3.2
  obtain ⟨x4, rfl, r4⟩ := (opn_int (n := n + 1) Go.Proofs.Try.underlying3 : Opn Go.Proofs.Try.prog (n + 2) 3 (cint .i64) (Rng .i64)) H d4 a4 h4.1 h4.2
  obtain ⟨x5, rfl, r5⟩ := (opn_sl (n := n + 1) Go.Proofs.Try.underlying22 (by decide +kernel) (opn_int (n := n + 0) Go.Proofs.Try.underlying3) : Opn Go.Proofs.Try.prog (n + 2) 22 (csl (cint .i64)) (fun xs => xs.length < 140737488355328 ∧ ∀ x ∈ xs, (Rng .i64) x)) H d5 a5 h5.1 h5.2
  obtain ⟨x6, rfl, r6⟩ := (opn_sl (n := n + 1) Go.Proofs.Try.underlying22 (by decide +kernel) (opn_int (n := n + 0) Go.Proofs.Try.underlying3) : Opn Go.Proofs.Try.prog (n + 2) 22 (csl (cint .i64)) (fun xs => xs.length < 140737488355328 ∧ ∀ x ∈ xs, (Rng .i64) x)) H d6 a6 h6.1 h6.2
  obtain ⟨x7, rfl, r7⟩ := (opn_str (n := n + 1) Go.Proofs.Try.underlying9 : Opn Go.Proofs.Try.prog (n + 2) 9 cstr (fun s => s.length < 140737488355328)) H d7 a7 h7.1 h7.2
  obtain ⟨x8, rfl, r8⟩ := (opn_int (n := n + 1) Go.Proofs.Try.underlying3 : Opn Go.Proofs.Try.prog (n + 2) 3 (cint .i64) (Rng .i64)) H d8 a8 h8.1 h8.2
  exact ⟨⟨x1, x2, x3, x4, x5, x6, x7, x8⟩, rfl, r1, r2, r3, r4, r5, r6, r7, r8⟩
def RFun (x : Fun) : Prop := x.Name.length < 140737488355328 ∧ (x.Params.length < 140737488355328 ∧ ∀ y ∈ x.Params, Rng .i64 y) ∧ Rng .i64 x.Ret ∧ (x.Blocks.length < 140737488355328 ∧ ∀ y ∈ x.Blocks, y.length < 140737488355328 ∧ ∀ y1 ∈ y, RIns y1) ∧ Rng .i64 x.At
theorem opnFun (n : Nat) : Opn Go.Proofs.Try.prog (n + 6) 25 cFun RFun := by
  intro H d pvs h hw
  obtain ⟨ds, g0⟩ := pv_struct Go.Proofs.Try.underlying25 h hw
  clear h hw
  obtain ⟨d1, ds1, a1, b1, rfl, h1, g1, rfl⟩ := zipL_cons g0
  obtain ⟨d2, ds2, a2, b2, rfl, h2, g2, rfl⟩ := zipL_cons g1
  obtain ⟨d3, ds3, a3, b3, rfl, h3, g3, rfl⟩ := zipL_cons g2
  obtain ⟨d4, ds4, a4, b4, rfl, h4, g4, rfl⟩ := zipL_cons g3
  obtain ⟨d5, ds5, a5, b5, rfl, h5, g5, rfl⟩ := zipL_cons g4
  obtain rfl := zipL_nil g5
  obtain ⟨x1, rfl, r1⟩ := (opn_str (n := n + 4) Go.Proofs.Try.underlying9 : Opn Go.Proofs.Try.prog (n + 5) 9 cstr (fun s => s.length < 140737488355328)) H d1 a1 h1.1 h1.2
  obtain ⟨x2, rfl, r2⟩ := (opn_sl (n := n + 4) Go.Proofs.Try.underlying22 (by decide +kernel) (opn_int (n := n + 3) Go.Proofs.Try.underlying3) : Opn Go.Proofs.Try.prog (n + 5) 22 (csl (cint .i64)) (fun xs => xs.length < 140737488355328 ∧ ∀ x ∈ xs, (Rng .i64) x)) H d2 a2 h2.1 h2.2
  obtain ⟨x3, rfl, r3⟩ := (opn_int (n := n + 4) Go.Proofs.Try.underlying3 : Opn Go.Proofs.Try.prog (n + 5) 3 (cint .i64) (Rng .i64)) H d3 a3 h3.1 h3.2
  obtain ⟨x4, rfl, r4⟩ := (opn_sl (n := n + 4) Go.Proofs.Try.underlying23 (by decide +kernel) (opn_sl (n := n + 3) Go.Proofs.Try.underlying51 (by decide +kernel) (opnIns (n + 0))) : Opn Go.Proofs.Try.prog (n + 5) 23 (csl (csl cIns)) (fun xs => xs.length < 140737488355328 ∧ ∀ x ∈ xs, (fun xs => xs.length < 140737488355328 ∧ ∀ x ∈ xs, RIns x) x)) H d4 a4 h4.1 h4.2
  obtain ⟨x5, rfl, r5⟩ := (opn_int (n := n + 4) Go.Proofs.Try.underlying3 : Opn Go.Proofs.Try.prog (n + 5) 3 (cint .i64) (Rng .i64)) H d5 a5 h5.1 h5.2
  exact ⟨⟨x1, x2, x3, x4, x5⟩, rfl, r1, r2, r3, r4, r5⟩
theorem readGraphShapes (H : Type) (ds : List (DataW H)) (ws : List PV) (h : argsPV Go.Proofs.Try.prog 12 [25] ds = some ws ∧ ∀ x ∈ DataW.weightsEach Go.Proofs.Try.prog [25] ds, x ≤ reachBytes) : ∃ (x1 : Fun), (RFun x1) ∧ ws = [.agg [.str x1.Name, .sl x1.Params.length (x1.Params.flatMap (cint .i64)), .int .i64 x1.Ret, .sl x1.Blocks.length (x1.Blocks.flatMap (csl cIns)), .int .i64 x1.At]] := by
  obtain ⟨d1, ds1, w1, ws1, rfl, rfl, h1, h⟩ := args_cons h
  obtain ⟨rfl, rfl⟩ := args_nil h
  obtain ⟨x1, rfl, r1⟩ := arg_agg (by kernel_rfl) (opnFun 6) h1
  exact ⟨x1, r1, rfl⟩
theorem readGraphFollows (H : Type) (ds : List (DataW H)) (ws : List PV) (h : argsPV Go.Proofs.Try.prog 12 [25] ds = some ws ∧ ∀ x ∈ DataW.weightsEach Go.Proofs.Try.prog [25] ds, x ≤ reachBytes) : ∃ (x1 : Fun), (RFun x1) ∧ ws = [.agg [.str x1.Name, .sl x1.Params.length (x1.Params.flatMap (cint .i64)), .int .i64 x1.Ret, .sl x1.Blocks.length (x1.Blocks.flatMap (csl cIns)), .int .i64 x1.At]] := by
  obtain ⟨d1, ds1, w1, ws1, rfl, rfl, h1, h⟩ := args_cons h
  obtain ⟨rfl, rfl⟩ := args_nil h
  obtain ⟨x1, rfl, r1⟩ := arg_agg (by kernel_rfl) (opnFun 6) h1
  exact ⟨x1, r1, rfl⟩
theorem readGraphReaches (H : Type) (ds : List (DataW H)) (ws : List PV) (h : argsPV Go.Proofs.Try.prog 12 [25, 45, 3] ds = some ws ∧ ∀ x ∈ DataW.weightsEach Go.Proofs.Try.prog [25, 45, 3] ds, x ≤ reachBytes) : ∃ (x1 : Fun) (x2 : List Int) (x3 : Int), (RFun x1) ∧ (x2.length < 140737488355328 ∧ ∀ y ∈ x2, Rng .u8 y) ∧ (Rng .i64 x3) ∧ ws = [.agg [.str x1.Name, .sl x1.Params.length (x1.Params.flatMap (cint .i64)), .int .i64 x1.Ret, .sl x1.Blocks.length (x1.Blocks.flatMap (csl cIns)), .int .i64 x1.At], .sl x2.length (x2.flatMap (cint .u8)), .int .i64 x3] := by
  obtain ⟨d1, ds1, w1, ws1, rfl, rfl, h1, h⟩ := args_cons h
  obtain ⟨d2, ds2, w2, ws2, rfl, rfl, h2, h⟩ := args_cons h
  obtain ⟨d3, ds3, w3, ws3, rfl, rfl, h3, h⟩ := args_cons h
  obtain ⟨rfl, rfl⟩ := args_nil h
  obtain ⟨x1, rfl, r1⟩ := arg_agg (by kernel_rfl) (opnFun 6) h1
  obtain ⟨x2, rfl, r2⟩ := arg_one (by kernel_rfl) (opn_sl (n := 11) Go.Proofs.Try.underlying45 (by decide +kernel) (opn_int (n := 10) Go.Proofs.Try.underlying5)) h2
  obtain ⟨x3, rfl, r3⟩ := arg_one (by kernel_rfl) (opn_int (n := 11) Go.Proofs.Try.underlying3) h3
  exact ⟨x1, x2, x3, r1, r2, r3, rfl⟩
theorem readGraphRounds (H : Type) (ds : List (DataW H)) (ws : List PV) (h : argsPV Go.Proofs.Try.prog 12 [25] ds = some ws ∧ ∀ x ∈ DataW.weightsEach Go.Proofs.Try.prog [25] ds, x ≤ reachBytes) : ∃ (x1 : Fun), (RFun x1) ∧ ws = [.agg [.str x1.Name, .sl x1.Params.length (x1.Params.flatMap (cint .i64)), .int .i64 x1.Ret, .sl x1.Blocks.length (x1.Blocks.flatMap (csl cIns)), .int .i64 x1.At]] := by
  obtain ⟨d1, ds1, w1, ws1, rfl, rfl, h1, h⟩ := args_cons h
  obtain ⟨rfl, rfl⟩ := args_nil h
  obtain ⟨x1, rfl, r1⟩ := arg_agg (by kernel_rfl) (opnFun 6) h1
  exact ⟨x1, r1, rfl⟩
end Go.Ab

/-
  Going through code step by step.
-/
namespace Go.Ab
open Go
set_option linter.unusedVariables false
section
variable {C : Calls'} {E E1 E2 E3 : Env} {ex : Ex} {k : List Nat}

theorem w_seq {a b : XC} {R : Option (Ex × Env)} (h : evX C a E = some (ex, E1)) (h2 : seqK (some (ex, E1)) (evX C b) = R) : evX C (.seq a b) E = R := by
  rw [evX_seq, h]; exact h2
theorem w_go {f : Env → Option (Ex × Env)} {R : Option (Ex × Env)} (h : f E = R) : seqK (some (.norm, E)) f = R := h
theorem w_gox {f : Env → Option (Ex × Env)} {i : Nat} : seqK (some (.exit i, E)) f = some (.exit i, E) := rfl
theorem w_gor {f : Env → Option (Ex × Env)} : seqK (some (.ret, E)) f = some (.ret, E) := rfl
theorem w_skip : evX C .skip E = some (.norm, E) := evX_skip
theorem w_ret : evX C .ret E = some (.ret, E) := evX_ret
theorem w_exit {i : Nat} (h : E.keep k = E1) : evX C (.exit i k) E = some (.exit i, E1) := by rw [evX_exit, h]
theorem w_reg {ops : List XI} (h : steps C E ops = some E1) (h2 : E1.keep k = E2) : evX C (.reg ops false k) E = some (.norm, E2) := by
  rw [evX_reg, h]; simp [h2]
theorem w_nil : steps C E [] = some E := rfl
theorem w_cons {o : XI} {r : List XI} (h : step C E o = some E1) (h2 : steps C E1 r = some E2) : steps C E (o :: r) = some E2 := by
  simp only [steps, h]; exact h2
theorem w_regD {ops : List XI} {ds : List Nat} (h0 : dstsOf ops = ds) (h1 : (E.all fun x => noRefs ds x.2 && !ds.contains x.1) = true) (h : stepsD C E.sub ds E ops = some E1) (h2 : E1.keep k = E2) : evX C (.reg ops true k) E = some (.norm, E2) := by
  subst h0
  rw [evX_regD]
  simp only [regD]
  rw [if_pos h1, h]; simp [h2]
theorem w_nilD {S : Subs} {ds : List Nat} : stepsD C S ds E [] = some E := rfl
theorem w_consD {S : Subs} {ds : List Nat} {o : XI} {r : List XI} {d : Nat} {v : PV} (hb : o.bar = false) (h : stepD C S ds E o = some (d, v)) (hg : E.get d = .none) (hs : E.set d v = E1) (h2 : stepsD C S ds E1 r = some E2) : stepsD C S ds E (o :: r) = some E2 := by
  simp only [stepsD, hb, Bool.false_eq_true, if_false, h, hg, hs]; exact h2
theorem w_barD {S : Subs} {ds : List Nat} {o : XI} {r : List XI} (hb : o.bar = true) (ha : r.all (·.bar) = true) (h : steps C E (o :: r) = some E2) : stepsD C S ds E (o :: r) = some E2 := by
  simp only [stepsD, hb, if_true, ha]; exact h
theorem w_condt {c : XO} {a b : XC} {R : Option (Ex × Env)} (h : look E c = .bool true) (h1 : evX C a E = some (ex, E1)) (h2 : fgt k (some (ex, E1)) = R) : evX C (.cond c a b k) E = R := by
  rw [evX_cond, h, condK, h1]; exact h2
theorem w_condf {c : XO} {a b : XC} {R : Option (Ex × Env)} (h : look E c = .bool false) (h1 : evX C b E = some (ex, E1)) (h2 : fgt k (some (ex, E1)) = R) : evX C (.cond c a b k) E = R := by
  rw [evX_cond, h, condK, h1]; exact h2
theorem w_block {b : XC} {i : Nat} {R : Option (Ex × Env)} (h1 : evX C b E = some (ex, E1)) (h2 : fgt k (blockK i (some (ex, E1))) = R) : evX C (.block i b k) E = R := by
  rw [evX_block, h1]; exact h2
theorem w_fgt {b : XC} {R : Option (Ex × Env)} (h1 : evX C b E = some (ex, E1)) (h2 : fgt k (some (ex, E1)) = R) : fgt k (evX C b E) = R := by
  rw [h1]; exact h2
theorem w_fn {x : XF} {ws : List PV} {c : XC} {r : Option (PV × List PV)} (hc : x.body = c) (hp : params 0 (argsIn x.nk ws) = E) (h : evX C c E = some (ex, E1)) (h2 : retK x ws (some (ex, E1)) = r) : retK x ws (evX C x.body (params 0 (argsIn x.nk ws))) = r := by
  rw [hc, hp, h]; exact h2
end
end Go.Ab

/-
  Printed by gen.py.
-/
namespace Go.Ab
open Go
set_option linter.unusedVariables false
set_option linter.unusedSimpArgs false
set_option maxRecDepth 100000
set_option maxHeartbeats 4000000
theorem r05_Ends_j1_ok (p0 : Int) : evX (evI T) x31_1 [(0, .int .i64 p0)] = some (.norm, [(2, .bool (((decide (26 ≤ p0)) && (decide (p0 ≤ 29)))))]) := by
  rcases Bool.eq_false_or_eq_true (decide (26 ≤ p0)) with h1 | h1
  · refine' (w_reg (w_cons ?_ (w_cons ?_ (w_cons ?_ (w_cons ?_ (w_cons ?_ (w_cons ?_ (w_cons ?_ w_nil))))))) ?_)
    all_goals (first | (simp only [nz, rn, h1, Int.reduceLT, Int.reduceEq, List.contains_cons, List.contains_nil, Option.map_some, Option.map_none, reduceIte, reduceCtorEq, Nat.reduceEqDiff, Nat.reduceLT, Nat.reduceBEq, Nat.reduceAdd, Nat.reduceMul, Nat.reduceLeDiff, Nat.reduceSub, Bool.false_eq_true]; try rfl) | skip)
  · refine' (w_reg (w_cons ?_ (w_cons ?_ (w_cons ?_ (w_cons ?_ (w_cons ?_ (w_cons ?_ (w_cons ?_ w_nil))))))) ?_)
    all_goals (first | (simp only [nz, rn, h1, Int.reduceLT, Int.reduceEq, List.contains_cons, List.contains_nil, Option.map_some, Option.map_none, reduceIte, reduceCtorEq, Nat.reduceEqDiff, Nat.reduceLT, Nat.reduceBEq, Nat.reduceAdd, Nat.reduceMul, Nat.reduceLeDiff, Nat.reduceSub, Bool.false_eq_true]; try rfl) | skip)
theorem r05_Ends_ok (p0 : Int) : Sim (r05_Ends p0) fun r => evI T 31 [.int .i64 p0] = some (.bool r, [.none]) := by
  unfold r05_Ends
  have f3 := r05_Ends_j1_ok p0
  refine sim_some ?_
  refine evI_ret (x := x31) rfl rfl rfl ?_
  try simp only [nz] at f3
  all_goals
    refine' (w_fn rfl rfl (w_seq (w_reg (w_cons ?_ w_nil) ?_) (w_go (w_seq f3 (w_go w_ret)))) ?_)
    all_goals (first | (simp only [x31, nz, rn, Int.reduceLT, Int.reduceEq, List.contains_cons, List.contains_nil, Option.map_some, Option.map_none, reduceIte, reduceCtorEq, Nat.reduceEqDiff, Nat.reduceLT, Nat.reduceBEq, Nat.reduceAdd, Nat.reduceMul, Nat.reduceLeDiff, Nat.reduceSub, Bool.false_eq_true]; try rfl) | skip)
theorem r05_Ends_okN (p0 : Int) : Sim (r05_Ends p0) fun r => ∀ ws, ws.map normA = [.int .i64 p0] → evI T 31 ws = some (.bool r, [.none]) := fun r h => evI_okN (x := x31) rfl rfl rfl (r05_Ends_ok p0 r h)
end Go.Ab

/-
  Printed by gen.py.
-/
namespace Go.Ab
open Go
set_option linter.unusedVariables false
set_option linter.unusedSimpArgs false
set_option maxRecDepth 100000
set_option maxHeartbeats 4000000
theorem r08_Shaped_j112_ok (p0 : Fun) (v1 : Int) (x_2 : List Ins) (v3 : Int) (x_5 : Ins) (v7 : Int) : evX (evI T) x10_1 [(1, .box [.str p0.Name, .sl p0.Params.length (p0.Params.flatMap (cint .i64)), .int .i64 p0.Ret, .sl p0.Blocks.length (p0.Blocks.flatMap (csl cIns)), .int .i64 p0.At]), (2, .box [.int .i64 0, .int .i64 0]), (3, .int .i64 v1), (4, .int .i64 ((x_2.length : Int))), (5, .int .i64 v3), (6, .box [.int .i64 x_5.Op, .int .i64 x_5.Id, .int .i64 x_5.N, .int .i64 (x_5.Type'), .sl x_5.Args.length (x_5.Args.flatMap (cint .i64)), .sl x_5.To.length (x_5.To.flatMap (cint .i64)), .str x_5.Name, .int .i64 x_5.At]), (7, .int .i64 v7)] = some (.norm, [(1, .box [.str p0.Name, .sl p0.Params.length (p0.Params.flatMap (cint .i64)), .int .i64 p0.Ret, .sl p0.Blocks.length (p0.Blocks.flatMap (csl cIns)), .int .i64 p0.At]), (2, .box [.int .i64 0, .int .i64 0]), (3, .int .i64 v1), (4, .int .i64 ((x_2.length : Int))), (5, .int .i64 v3), (6, .box [.int .i64 x_5.Op, .int .i64 x_5.Id, .int .i64 x_5.N, .int .i64 (x_5.Type'), .sl x_5.Args.length (x_5.Args.flatMap (cint .i64)), .sl x_5.To.length (x_5.To.flatMap (cint .i64)), .str x_5.Name, .int .i64 x_5.At]), (7, .int .i64 v7), (58, .bool (((decide (v7 < ((x_5.To.length : Int)))) && ((x_5.Op != 20)))))]) := by
  rcases Bool.eq_false_or_eq_true (decide (v7 < ((x_5.To.length : Int)))) with h16 | h16
  · refine' (w_reg (w_cons ?_ (w_cons ?_ (w_cons ?_ (w_cons ?_ (w_cons ?_ (w_cons ?_ (w_cons ?_ (w_cons ?_ (w_cons ?_ (w_cons ?_ w_nil)))))))))) ?_)
    all_goals (first | (simp only [nz, rn, nzIns, nzFun, h16, Int.reduceLT, Int.reduceEq, List.contains_cons, List.contains_nil, Option.map_some, Option.map_none, reduceIte, reduceCtorEq, Nat.reduceEqDiff, Nat.reduceLT, Nat.reduceBEq, Nat.reduceAdd, Nat.reduceMul, Nat.reduceLeDiff, Nat.reduceSub, Bool.false_eq_true]; try rfl) | skip)
  · refine' (w_reg (w_cons ?_ (w_cons ?_ (w_cons ?_ (w_cons ?_ (w_cons ?_ (w_cons ?_ (w_cons ?_ (w_cons ?_ (w_cons ?_ (w_cons ?_ w_nil)))))))))) ?_)
    all_goals (first | (simp only [nz, rn, nzIns, nzFun, h16, Int.reduceLT, Int.reduceEq, List.contains_cons, List.contains_nil, Option.map_some, Option.map_none, reduceIte, reduceCtorEq, Nat.reduceEqDiff, Nat.reduceLT, Nat.reduceBEq, Nat.reduceAdd, Nat.reduceMul, Nat.reduceLeDiff, Nat.reduceSub, Bool.false_eq_true]; try rfl) | skip)
theorem r08_Shaped_j114_ok (p0 : Fun) (v1 : Int) (x_2 : List Ins) (v3 : Int) (x_5 : Ins) (v7 : Int) : Sim (r08_Shaped_j114 p0 v1 x_2 v3 x_5 v7) fun r => evX (evI T) x10_2 [(1, .box [.str p0.Name, .sl p0.Params.length (p0.Params.flatMap (cint .i64)), .int .i64 p0.Ret, .sl p0.Blocks.length (p0.Blocks.flatMap (csl cIns)), .int .i64 p0.At]), (2, .box [.int .i64 0, .int .i64 0]), (3, .int .i64 v1), (4, .int .i64 ((x_2.length : Int))), (5, .int .i64 v3), (6, .box [.int .i64 x_5.Op, .int .i64 x_5.Id, .int .i64 x_5.N, .int .i64 (x_5.Type'), .sl x_5.Args.length (x_5.Args.flatMap (cint .i64)), .sl x_5.To.length (x_5.To.flatMap (cint .i64)), .str x_5.Name, .int .i64 x_5.At]), (7, .int .i64 v7)] = some (.norm, [(1, .box [.str p0.Name, .sl p0.Params.length (p0.Params.flatMap (cint .i64)), .int .i64 p0.Ret, .sl p0.Blocks.length (p0.Blocks.flatMap (csl cIns)), .int .i64 p0.At]), (2, .box [.int .i64 0, .int .i64 0]), (3, .int .i64 v1), (4, .int .i64 ((x_2.length : Int))), (5, .int .i64 v3), (6, .box [.int .i64 x_5.Op, .int .i64 x_5.Id, .int .i64 x_5.N, .int .i64 (x_5.Type'), .sl x_5.Args.length (x_5.Args.flatMap (cint .i64)), .sl x_5.To.length (x_5.To.flatMap (cint .i64)), .str x_5.Name, .int .i64 x_5.At]), (7, .int .i64 v7), (77, .bool r)]) := by
  unfold r08_Shaped_j114
  refine sim_bind (fun x_9 h20 => ?_)
  have f21 := ix_ok h20
  have f21o := ix_own2 h20
  have f22 := ix_cells (sz_int .i64) h20
  simp only [nz, nzIns, nzFun] at f22
  refine sim_if (fun h23 => ?_) (fun h23 => ?_)
  · refine sim_some ?_
    refine' (w_regD ?_ ?_ (w_consD rfl ?_ ?_ ?_ (w_consD rfl ?_ ?_ ?_ (w_consD rfl ?_ ?_ ?_ (w_consD rfl ?_ ?_ ?_ (w_consD rfl ?_ ?_ ?_ (w_consD rfl ?_ ?_ ?_ (w_consD rfl ?_ ?_ ?_ (w_consD rfl ?_ ?_ ?_ (w_consD rfl ?_ ?_ ?_ (w_consD rfl ?_ ?_ ?_ (w_consD rfl ?_ ?_ ?_ (w_consD rfl ?_ ?_ ?_ (w_consD rfl ?_ ?_ ?_ (w_consD rfl ?_ ?_ ?_ (w_consD rfl ?_ ?_ ?_ (w_barD rfl rfl (w_cons ?_ (w_cons ?_ w_nil)))))))))))))))))) ?_)
    all_goals (first | (simp only [nz, rn, nzIns, nzFun, f21, f21o, f22, h23, Int.reduceLT, Int.reduceEq, List.contains_cons, List.contains_nil, Option.map_some, Option.map_none, reduceIte, reduceCtorEq, Nat.reduceEqDiff, Nat.reduceLT, Nat.reduceBEq, Nat.reduceAdd, Nat.reduceMul, Nat.reduceLeDiff, Nat.reduceSub, Bool.false_eq_true]; try rfl) | skip)
  · have f24 := ix_cells (sz_int .i64) h20
    simp only [nz, nzIns, nzFun] at f24
    refine sim_some ?_
    refine' (w_regD ?_ ?_ (w_consD rfl ?_ ?_ ?_ (w_consD rfl ?_ ?_ ?_ (w_consD rfl ?_ ?_ ?_ (w_consD rfl ?_ ?_ ?_ (w_consD rfl ?_ ?_ ?_ (w_consD rfl ?_ ?_ ?_ (w_consD rfl ?_ ?_ ?_ (w_consD rfl ?_ ?_ ?_ (w_consD rfl ?_ ?_ ?_ (w_consD rfl ?_ ?_ ?_ (w_consD rfl ?_ ?_ ?_ (w_consD rfl ?_ ?_ ?_ (w_consD rfl ?_ ?_ ?_ (w_consD rfl ?_ ?_ ?_ (w_consD rfl ?_ ?_ ?_ (w_barD rfl rfl (w_cons ?_ (w_cons ?_ w_nil)))))))))))))))))) ?_)
    all_goals (first | (simp only [nz, rn, nzIns, nzFun, f21, f21o, f22, h23, f24, Int.reduceLT, Int.reduceEq, List.contains_cons, List.contains_nil, Option.map_some, Option.map_none, reduceIte, reduceCtorEq, Nat.reduceEqDiff, Nat.reduceLT, Nat.reduceBEq, Nat.reduceAdd, Nat.reduceMul, Nat.reduceLeDiff, Nat.reduceSub, Bool.false_eq_true]; try rfl) | skip)
theorem r08_Shaped_l115_bok (p0 : Fun) (v1 : Int) (x_2 : List Ins) (v3 : Int) (x_5 : Ins) (v7 : Int) : Sim (r08_Shaped_l115_b p0 v1 x_2 v3 x_5 v7) fun x => fgt [1, 2, 3, 4, 5, 6, 7] (evX (evI T) x10_3 [(1, .box [.str p0.Name, .sl p0.Params.length (p0.Params.flatMap (cint .i64)), .int .i64 p0.Ret, .sl p0.Blocks.length (p0.Blocks.flatMap (csl cIns)), .int .i64 p0.At]), (2, .box [.int .i64 0, .int .i64 0]), (3, .int .i64 v1), (4, .int .i64 ((x_2.length : Int))), (5, .int .i64 v3), (6, .box [.int .i64 x_5.Op, .int .i64 x_5.Id, .int .i64 x_5.N, .int .i64 (x_5.Type'), .sl x_5.Args.length (x_5.Args.flatMap (cint .i64)), .sl x_5.To.length (x_5.To.flatMap (cint .i64)), .str x_5.Name, .int .i64 x_5.At]), (7, .int .i64 v7)]) = some (stpK (fun s => (.norm, [(1, .box [.str p0.Name, .sl p0.Params.length (p0.Params.flatMap (cint .i64)), .int .i64 p0.Ret, .sl p0.Blocks.length (p0.Blocks.flatMap (csl cIns)), .int .i64 p0.At]), (2, .box [.int .i64 0, .int .i64 0]), (3, .int .i64 v1), (4, .int .i64 ((x_2.length : Int))), (5, .int .i64 v3), (6, .box [.int .i64 x_5.Op, .int .i64 x_5.Id, .int .i64 x_5.N, .int .i64 (x_5.Type'), .sl x_5.Args.length (x_5.Args.flatMap (cint .i64)), .sl x_5.To.length (x_5.To.flatMap (cint .i64)), .str x_5.Name, .int .i64 x_5.At]), (7, .int .i64 s)])) (fun r => (stpK (fun t0 => (.exit 4, [(1, .box [.str p0.Name, .sl p0.Params.length (p0.Params.flatMap (cint .i64)), .int .i64 p0.Ret, .sl p0.Blocks.length (p0.Blocks.flatMap (csl cIns)), .int .i64 p0.At]), (2, .box [.int .i64 0, .int .i64 0]), (3, .int .i64 v1), (4, .int .i64 ((x_2.length : Int))), (5, .int .i64 v3)])) (fun u0 => (.ret, [(2, .box [.int .i64 7, .int .i64 v1])])) r)) x) := by
  unfold r08_Shaped_l115_b
  have f18 := r08_Shaped_j112_ok p0 v1 x_2 v3 x_5 v7
  refine sim_if (fun h19 => ?_) (fun h19 => ?_)
  · refine sim_bind (fun v10 h25 => ?_)
    have f26 := r08_Shaped_j114_ok p0 v1 x_2 v3 x_5 v7 _ h25
    dsimp only at f26
    refine sim_if (fun h27 => ?_) (fun h27 => ?_)
    · refine sim_some ?_
      try simp only [nz, nzIns, nzFun] at f18
      try simp only [nz, nzIns, nzFun] at f26
      all_goals
        refine' (w_fgt (w_seq (w_seq f18 (w_go (w_condt ?_ w_skip ?_))) (w_go (w_seq (w_block (w_seq f26 (w_go (w_condt ?_ (w_seq (w_reg (w_cons ?_ (w_cons ?_ (w_cons ?_ w_nil))) ?_) (w_go w_ret)) ?_))) ?_) w_gor))) ?_)
        all_goals (first | (simp only [nz, rn, nzIns, nzFun, h19, h27, Int.reduceLT, Int.reduceEq, List.contains_cons, List.contains_nil, Option.map_some, Option.map_none, reduceIte, reduceCtorEq, Nat.reduceEqDiff, Nat.reduceLT, Nat.reduceBEq, Nat.reduceAdd, Nat.reduceMul, Nat.reduceLeDiff, Nat.reduceSub, Bool.false_eq_true]; try rfl) | skip)
    · refine sim_some ?_
      try simp only [nz, nzIns, nzFun] at f18
      try simp only [nz, nzIns, nzFun] at f26
      all_goals
        refine' (w_fgt (w_seq (w_seq f18 (w_go (w_condt ?_ w_skip ?_))) (w_go (w_seq (w_block (w_seq f26 (w_go (w_condf ?_ w_skip ?_))) ?_) (w_go (w_reg (w_cons ?_ (w_cons ?_ (w_cons ?_ w_nil))) ?_))))) ?_)
        all_goals (first | (simp only [nz, rn, nzIns, nzFun, h19, h27, Int.reduceLT, Int.reduceEq, List.contains_cons, List.contains_nil, Option.map_some, Option.map_none, reduceIte, reduceCtorEq, Nat.reduceEqDiff, Nat.reduceLT, Nat.reduceBEq, Nat.reduceAdd, Nat.reduceMul, Nat.reduceLeDiff, Nat.reduceSub, Bool.false_eq_true]; try rfl) | skip)
  · refine sim_some ?_
    try simp only [nz, nzIns, nzFun] at f18
    all_goals
      refine' (w_fgt (w_seq (w_seq f18 (w_go (w_condf ?_ (w_exit ?_) ?_))) w_gox) ?_)
      all_goals (first | (simp only [nz, rn, nzIns, nzFun, h19, Int.reduceLT, Int.reduceEq, List.contains_cons, List.contains_nil, Option.map_some, Option.map_none, reduceIte, reduceCtorEq, Nat.reduceEqDiff, Nat.reduceLT, Nat.reduceBEq, Nat.reduceAdd, Nat.reduceMul, Nat.reduceLeDiff, Nat.reduceSub, Bool.false_eq_true]; try rfl) | skip)
theorem r08_Shaped_l115_ok (p0 : Fun) (v1 : Int) (x_2 : List Ins) (v3 : Int) (x_5 : Ins) (s : Int) : Sim (r08_Shaped_l115 p0 v1 x_2 v3 x_5 s) fun r => evX (evI T) (.loop x10_3 [1, 2, 3, 4, 5, 6, 7]) [(1, .box [.str p0.Name, .sl p0.Params.length (p0.Params.flatMap (cint .i64)), .int .i64 p0.Ret, .sl p0.Blocks.length (p0.Blocks.flatMap (csl cIns)), .int .i64 p0.At]), (2, .box [.int .i64 0, .int .i64 0]), (3, .int .i64 v1), (4, .int .i64 ((x_2.length : Int))), (5, .int .i64 v3), (6, .box [.int .i64 x_5.Op, .int .i64 x_5.Id, .int .i64 x_5.N, .int .i64 (x_5.Type'), .sl x_5.Args.length (x_5.Args.flatMap (cint .i64)), .sl x_5.To.length (x_5.To.flatMap (cint .i64)), .str x_5.Name, .int .i64 x_5.At]), (7, .int .i64 s)] = some (stpK (fun t0 => (.exit 4, [(1, .box [.str p0.Name, .sl p0.Params.length (p0.Params.flatMap (cint .i64)), .int .i64 p0.Ret, .sl p0.Blocks.length (p0.Blocks.flatMap (csl cIns)), .int .i64 p0.At]), (2, .box [.int .i64 0, .int .i64 0]), (3, .int .i64 v1), (4, .int .i64 ((x_2.length : Int))), (5, .int .i64 v3)])) (fun u0 => (.ret, [(2, .box [.int .i64 7, .int .i64 v1])])) r) := by
  unfold r08_Shaped_l115
  exact loop_rule (C := evI T) (b := x10_3) (ks := [1, 2, 3, 4, 5, 6, 7]) (σ := Int) (ρ := Stp Unit Unit) (body := fun s => r08_Shaped_l115_b p0 v1 x_2 v3 x_5 s) (E := fun s => [(1, .box [.str p0.Name, .sl p0.Params.length (p0.Params.flatMap (cint .i64)), .int .i64 p0.Ret, .sl p0.Blocks.length (p0.Blocks.flatMap (csl cIns)), .int .i64 p0.At]), (2, .box [.int .i64 0, .int .i64 0]), (3, .int .i64 v1), (4, .int .i64 ((x_2.length : Int))), (5, .int .i64 v3), (6, .box [.int .i64 x_5.Op, .int .i64 x_5.Id, .int .i64 x_5.N, .int .i64 (x_5.Type'), .sl x_5.Args.length (x_5.Args.flatMap (cint .i64)), .sl x_5.To.length (x_5.To.flatMap (cint .i64)), .str x_5.Name, .int .i64 x_5.At]), (7, .int .i64 s)]) (R := fun r => (stpK (fun t0 => (.exit 4, [(1, .box [.str p0.Name, .sl p0.Params.length (p0.Params.flatMap (cint .i64)), .int .i64 p0.Ret, .sl p0.Blocks.length (p0.Blocks.flatMap (csl cIns)), .int .i64 p0.At]), (2, .box [.int .i64 0, .int .i64 0]), (3, .int .i64 v1), (4, .int .i64 ((x_2.length : Int))), (5, .int .i64 v3)])) (fun u0 => (.ret, [(2, .box [.int .i64 7, .int .i64 v1])])) r)) (fun r h => by rcases r with _ | _ <;> cases h) (fun s => r08_Shaped_l115_bok p0 v1 x_2 v3 x_5 s) s
theorem r08_Shaped_l116_bok (p0 : Fun) (v1 : Int) (x_2 : List Ins) (v3 : Int) : Sim (r08_Shaped_l116_b p0 v1 x_2 v3) fun x => fgt [1, 2, 3, 4, 5] (evX (evI T) x10_4 [(1, .box [.str p0.Name, .sl p0.Params.length (p0.Params.flatMap (cint .i64)), .int .i64 p0.Ret, .sl p0.Blocks.length (p0.Blocks.flatMap (csl cIns)), .int .i64 p0.At]), (2, .box [.int .i64 0, .int .i64 0]), (3, .int .i64 v1), (4, .int .i64 ((x_2.length : Int))), (5, .int .i64 v3)]) = some (stpK (fun s => (.norm, [(1, .box [.str p0.Name, .sl p0.Params.length (p0.Params.flatMap (cint .i64)), .int .i64 p0.Ret, .sl p0.Blocks.length (p0.Blocks.flatMap (csl cIns)), .int .i64 p0.At]), (2, .box [.int .i64 0, .int .i64 0]), (3, .int .i64 v1), (4, .int .i64 ((x_2.length : Int))), (5, .int .i64 s)])) (fun r => (stpK (fun t0 => (.exit 2, [(1, .box [.str p0.Name, .sl p0.Params.length (p0.Params.flatMap (cint .i64)), .int .i64 p0.Ret, .sl p0.Blocks.length (p0.Blocks.flatMap (csl cIns)), .int .i64 p0.At]), (2, .box [.int .i64 0, .int .i64 0]), (3, .int .i64 v1), (4, .int .i64 ((x_2.length : Int)))])) (fun u0 => (.ret, [(2, .box [.int .i64 u0, .int .i64 v1])])) r)) x) := by
  unfold r08_Shaped_l116_b
  refine sim_if (fun h6 => ?_) (fun h6 => ?_)
  · refine sim_bind (fun x_4 h7 => ?_)
    have f8 := ix_ok h7
    have f8o := ix_own2 h7
    have f9 := ix_cells (sz_sl cIns) h7
    simp only [nz, nzIns, nzFun] at f9
    refine sim_bind (fun x_5 h10 => ?_)
    have f11 := ix_ok h10
    have f11o := ix_own2 h10
    have f12 := ix_cells szIns h10
    simp only [nz, nzIns, nzFun] at f12
    refine sim_bind (fun r6 h13 => ?_)
    have f14 := r05_Ends_okN x_5.Op _ h13
    dsimp only at f14
    refine sim_if (fun h15 => ?_) (fun h15 => ?_)
    · refine sim_some ?_
      try simp only [nz, nzIns, nzFun, f11o] at f14
      all_goals
        refine' (w_fgt (w_seq (w_seq (w_reg (w_cons ?_ (w_cons ?_ (w_cons ?_ w_nil))) ?_) (w_go (w_condt ?_ w_skip ?_))) (w_go (w_seq (w_block (w_seq (w_reg (w_cons ?_ (w_cons ?_ (w_cons ?_ (w_cons ?_ (w_cons ?_ (w_cons ?_ (w_cons ?_ (w_cons ?_ (w_cons ?_ (w_cons ?_ w_nil)))))))))) ?_) (w_go (w_seq (w_seq (w_reg (w_cons ?_ (w_cons ?_ (w_cons ?_ (w_cons ?_ (w_cons ?_ (w_cons ?_ (w_cons ?_ (w_cons ?_ w_nil)))))))) ?_) (w_go (w_condt ?_ (w_seq (w_reg (w_cons ?_ (w_cons ?_ (w_cons ?_ w_nil))) ?_) (w_go w_ret)) ?_))) w_gor))) ?_) w_gor))) ?_)
        all_goals (first | (simp only [nz, rn, nzIns, nzFun, h6, f8, f8o, f9, f11, f11o, f12, f14, h15, Int.reduceLT, Int.reduceEq, List.contains_cons, List.contains_nil, Option.map_some, Option.map_none, reduceIte, reduceCtorEq, Nat.reduceEqDiff, Nat.reduceLT, Nat.reduceBEq, Nat.reduceAdd, Nat.reduceMul, Nat.reduceLeDiff, Nat.reduceSub, Bool.false_eq_true]; try rfl) | skip)
    · refine sim_bind (fun qh28 h28 => ?_)
      rcases qh28 with ⟨_⟩ | ⟨_⟩
      · dsimp only
        have f29 := r08_Shaped_l115_ok p0 v1 x_2 v3 x_5 0 _ h28
        dsimp only at f29
        refine sim_some ?_
        try simp only [nz, nzIns, nzFun, f11o] at f14
        try simp only [nz, nzIns, nzFun, f11o] at f29
        all_goals
          refine' (w_fgt (w_seq (w_seq (w_reg (w_cons ?_ (w_cons ?_ (w_cons ?_ w_nil))) ?_) (w_go (w_condt ?_ w_skip ?_))) (w_go (w_seq (w_block (w_seq (w_reg (w_cons ?_ (w_cons ?_ (w_cons ?_ (w_cons ?_ (w_cons ?_ (w_cons ?_ (w_cons ?_ (w_cons ?_ (w_cons ?_ (w_cons ?_ w_nil)))))))))) ?_) (w_go (w_seq (w_seq (w_reg (w_cons ?_ (w_cons ?_ (w_cons ?_ (w_cons ?_ (w_cons ?_ (w_cons ?_ (w_cons ?_ (w_cons ?_ w_nil)))))))) ?_) (w_go (w_condf ?_ w_skip ?_))) (w_go (w_seq (w_reg (w_cons ?_ w_nil) ?_) (w_go (w_block f29 ?_))))))) ?_) (w_go (w_reg (w_cons ?_ (w_cons ?_ (w_cons ?_ w_nil))) ?_))))) ?_)
          all_goals (first | (simp only [nz, rn, nzIns, nzFun, h6, f8, f8o, f9, f11, f11o, f12, f14, h15, Int.reduceLT, Int.reduceEq, List.contains_cons, List.contains_nil, Option.map_some, Option.map_none, reduceIte, reduceCtorEq, Nat.reduceEqDiff, Nat.reduceLT, Nat.reduceBEq, Nat.reduceAdd, Nat.reduceMul, Nat.reduceLeDiff, Nat.reduceSub, Bool.false_eq_true]; try rfl) | skip)
      · dsimp only
        have f29 := r08_Shaped_l115_ok p0 v1 x_2 v3 x_5 0 _ h28
        dsimp only at f29
        refine sim_some ?_
        try simp only [nz, nzIns, nzFun, f11o] at f14
        try simp only [nz, nzIns, nzFun, f11o] at f29
        all_goals
          refine' (w_fgt (w_seq (w_seq (w_reg (w_cons ?_ (w_cons ?_ (w_cons ?_ w_nil))) ?_) (w_go (w_condt ?_ w_skip ?_))) (w_go (w_seq (w_block (w_seq (w_reg (w_cons ?_ (w_cons ?_ (w_cons ?_ (w_cons ?_ (w_cons ?_ (w_cons ?_ (w_cons ?_ (w_cons ?_ (w_cons ?_ (w_cons ?_ w_nil)))))))))) ?_) (w_go (w_seq (w_seq (w_reg (w_cons ?_ (w_cons ?_ (w_cons ?_ (w_cons ?_ (w_cons ?_ (w_cons ?_ (w_cons ?_ (w_cons ?_ w_nil)))))))) ?_) (w_go (w_condf ?_ w_skip ?_))) (w_go (w_seq (w_reg (w_cons ?_ w_nil) ?_) (w_go (w_block f29 ?_))))))) ?_) w_gor))) ?_)
          all_goals (first | (simp only [nz, rn, nzIns, nzFun, h6, f8, f8o, f9, f11, f11o, f12, f14, h15, Int.reduceLT, Int.reduceEq, List.contains_cons, List.contains_nil, Option.map_some, Option.map_none, reduceIte, reduceCtorEq, Nat.reduceEqDiff, Nat.reduceLT, Nat.reduceBEq, Nat.reduceAdd, Nat.reduceMul, Nat.reduceLeDiff, Nat.reduceSub, Bool.false_eq_true]; try rfl) | skip)
  · refine sim_some ?_
    refine' (w_fgt (w_seq (w_seq (w_reg (w_cons ?_ (w_cons ?_ (w_cons ?_ w_nil))) ?_) (w_go (w_condf ?_ (w_exit ?_) ?_))) w_gox) ?_)
    all_goals (first | (simp only [nz, rn, nzIns, nzFun, h6, Int.reduceLT, Int.reduceEq, List.contains_cons, List.contains_nil, Option.map_some, Option.map_none, reduceIte, reduceCtorEq, Nat.reduceEqDiff, Nat.reduceLT, Nat.reduceBEq, Nat.reduceAdd, Nat.reduceMul, Nat.reduceLeDiff, Nat.reduceSub, Bool.false_eq_true]; try rfl) | skip)
theorem r08_Shaped_l116_ok (p0 : Fun) (v1 : Int) (x_2 : List Ins) (s : Int) : Sim (r08_Shaped_l116 p0 v1 x_2 s) fun r => evX (evI T) (.loop x10_4 [1, 2, 3, 4, 5]) [(1, .box [.str p0.Name, .sl p0.Params.length (p0.Params.flatMap (cint .i64)), .int .i64 p0.Ret, .sl p0.Blocks.length (p0.Blocks.flatMap (csl cIns)), .int .i64 p0.At]), (2, .box [.int .i64 0, .int .i64 0]), (3, .int .i64 v1), (4, .int .i64 ((x_2.length : Int))), (5, .int .i64 s)] = some (stpK (fun t0 => (.exit 2, [(1, .box [.str p0.Name, .sl p0.Params.length (p0.Params.flatMap (cint .i64)), .int .i64 p0.Ret, .sl p0.Blocks.length (p0.Blocks.flatMap (csl cIns)), .int .i64 p0.At]), (2, .box [.int .i64 0, .int .i64 0]), (3, .int .i64 v1), (4, .int .i64 ((x_2.length : Int)))])) (fun u0 => (.ret, [(2, .box [.int .i64 u0, .int .i64 v1])])) r) := by
  unfold r08_Shaped_l116
  exact loop_rule (C := evI T) (b := x10_4) (ks := [1, 2, 3, 4, 5]) (σ := Int) (ρ := Stp Unit Int) (body := fun s => r08_Shaped_l116_b p0 v1 x_2 s) (E := fun s => [(1, .box [.str p0.Name, .sl p0.Params.length (p0.Params.flatMap (cint .i64)), .int .i64 p0.Ret, .sl p0.Blocks.length (p0.Blocks.flatMap (csl cIns)), .int .i64 p0.At]), (2, .box [.int .i64 0, .int .i64 0]), (3, .int .i64 v1), (4, .int .i64 ((x_2.length : Int))), (5, .int .i64 s)]) (R := fun r => (stpK (fun t0 => (.exit 2, [(1, .box [.str p0.Name, .sl p0.Params.length (p0.Params.flatMap (cint .i64)), .int .i64 p0.Ret, .sl p0.Blocks.length (p0.Blocks.flatMap (csl cIns)), .int .i64 p0.At]), (2, .box [.int .i64 0, .int .i64 0]), (3, .int .i64 v1), (4, .int .i64 ((x_2.length : Int)))])) (fun u0 => (.ret, [(2, .box [.int .i64 u0, .int .i64 v1])])) r)) (fun r h => by rcases r with _ | _ <;> cases h) (fun s => r08_Shaped_l116_bok p0 v1 x_2 s) s
theorem r08_Shaped_l117_bok (p0 : Fun) (v1 : Int) : Sim (r08_Shaped_l117_b p0 v1) fun x => fgt [1, 2, 3] (evX (evI T) x10_5 [(1, .box [.str p0.Name, .sl p0.Params.length (p0.Params.flatMap (cint .i64)), .int .i64 p0.Ret, .sl p0.Blocks.length (p0.Blocks.flatMap (csl cIns)), .int .i64 p0.At]), (2, .box [.int .i64 0, .int .i64 0]), (3, .int .i64 v1)]) = some (stpK (fun s => (.norm, [(1, .box [.str p0.Name, .sl p0.Params.length (p0.Params.flatMap (cint .i64)), .int .i64 p0.Ret, .sl p0.Blocks.length (p0.Blocks.flatMap (csl cIns)), .int .i64 p0.At]), (2, .box [.int .i64 0, .int .i64 0]), (3, .int .i64 s)])) (fun r => (stpK (fun t0 => (.exit 0, [(2, .box [.int .i64 0, .int .i64 0])])) (fun u0 => (.ret, [(2, .box [.int .i64 u0.1, .int .i64 u0.2])])) r)) x) := by
  unfold r08_Shaped_l117_b
  refine sim_if (fun h2 => ?_) (fun h2 => ?_)
  · refine sim_bind (fun x_2 h3 => ?_)
    have f4 := ix_ok h3
    have f4o := ix_own2 h3
    have f5 := ix_cells (sz_sl cIns) h3
    simp only [nz, nzIns, nzFun] at f5
    refine sim_bind (fun qh30 h30 => ?_)
    rcases qh30 with ⟨_⟩ | ⟨v11⟩
    · dsimp only
      have f31 := r08_Shaped_l116_ok p0 v1 x_2 0 _ h30
      dsimp only at f31
      refine sim_if (fun h32 => ?_) (fun h32 => ?_)
      · refine sim_some ?_
        try simp only [nz, nzIns, nzFun] at f31
        all_goals
          refine' (w_fgt (w_seq (w_seq (w_reg (w_cons ?_ (w_cons ?_ (w_cons ?_ (w_cons ?_ (w_cons ?_ w_nil))))) ?_) (w_go (w_condt ?_ w_skip ?_))) (w_go (w_seq (w_block (w_seq (w_reg (w_cons ?_ (w_cons ?_ (w_cons ?_ (w_cons ?_ (w_cons ?_ (w_cons ?_ (w_cons ?_ w_nil))))))) ?_) (w_go (w_seq (w_seq (w_reg (w_cons ?_ w_nil) ?_) (w_go (w_block f31 ?_))) (w_go (w_seq (w_reg (w_cons ?_ (w_cons ?_ w_nil)) ?_) (w_go (w_condt ?_ (w_seq (w_reg (w_cons ?_ (w_cons ?_ (w_cons ?_ w_nil))) ?_) (w_go w_ret)) ?_))))))) ?_) w_gor))) ?_)
          all_goals (first | (simp only [nz, rn, nzIns, nzFun, h2, f4, f4o, f5, h32, Int.reduceLT, Int.reduceEq, List.contains_cons, List.contains_nil, Option.map_some, Option.map_none, reduceIte, reduceCtorEq, Nat.reduceEqDiff, Nat.reduceLT, Nat.reduceBEq, Nat.reduceAdd, Nat.reduceMul, Nat.reduceLeDiff, Nat.reduceSub, Bool.false_eq_true]; try rfl) | skip)
      · refine sim_some ?_
        try simp only [nz, nzIns, nzFun] at f31
        all_goals
          refine' (w_fgt (w_seq (w_seq (w_reg (w_cons ?_ (w_cons ?_ (w_cons ?_ (w_cons ?_ (w_cons ?_ w_nil))))) ?_) (w_go (w_condt ?_ w_skip ?_))) (w_go (w_seq (w_block (w_seq (w_reg (w_cons ?_ (w_cons ?_ (w_cons ?_ (w_cons ?_ (w_cons ?_ (w_cons ?_ (w_cons ?_ w_nil))))))) ?_) (w_go (w_seq (w_seq (w_reg (w_cons ?_ w_nil) ?_) (w_go (w_block f31 ?_))) (w_go (w_seq (w_reg (w_cons ?_ (w_cons ?_ w_nil)) ?_) (w_go (w_condf ?_ w_skip ?_))))))) ?_) (w_go (w_reg (w_cons ?_ (w_cons ?_ (w_cons ?_ w_nil))) ?_))))) ?_)
          all_goals (first | (simp only [nz, rn, nzIns, nzFun, h2, f4, f4o, f5, h32, Int.reduceLT, Int.reduceEq, List.contains_cons, List.contains_nil, Option.map_some, Option.map_none, reduceIte, reduceCtorEq, Nat.reduceEqDiff, Nat.reduceLT, Nat.reduceBEq, Nat.reduceAdd, Nat.reduceMul, Nat.reduceLeDiff, Nat.reduceSub, Bool.false_eq_true]; try rfl) | skip)
    · dsimp only
      have f31 := r08_Shaped_l116_ok p0 v1 x_2 0 _ h30
      dsimp only at f31
      refine sim_some ?_
      try simp only [nz, nzIns, nzFun] at f31
      all_goals
        refine' (w_fgt (w_seq (w_seq (w_reg (w_cons ?_ (w_cons ?_ (w_cons ?_ (w_cons ?_ (w_cons ?_ w_nil))))) ?_) (w_go (w_condt ?_ w_skip ?_))) (w_go (w_seq (w_block (w_seq (w_reg (w_cons ?_ (w_cons ?_ (w_cons ?_ (w_cons ?_ (w_cons ?_ (w_cons ?_ (w_cons ?_ w_nil))))))) ?_) (w_go (w_seq (w_seq (w_reg (w_cons ?_ w_nil) ?_) (w_go (w_block f31 ?_))) w_gor))) ?_) w_gor))) ?_)
        all_goals (first | (simp only [nz, rn, nzIns, nzFun, h2, f4, f4o, f5, Int.reduceLT, Int.reduceEq, List.contains_cons, List.contains_nil, Option.map_some, Option.map_none, reduceIte, reduceCtorEq, Nat.reduceEqDiff, Nat.reduceLT, Nat.reduceBEq, Nat.reduceAdd, Nat.reduceMul, Nat.reduceLeDiff, Nat.reduceSub, Bool.false_eq_true]; try rfl) | skip)
  · refine sim_some ?_
    refine' (w_fgt (w_seq (w_seq (w_reg (w_cons ?_ (w_cons ?_ (w_cons ?_ (w_cons ?_ (w_cons ?_ w_nil))))) ?_) (w_go (w_condf ?_ (w_exit ?_) ?_))) w_gox) ?_)
    all_goals (first | (simp only [nz, rn, nzIns, nzFun, h2, Int.reduceLT, Int.reduceEq, List.contains_cons, List.contains_nil, Option.map_some, Option.map_none, reduceIte, reduceCtorEq, Nat.reduceEqDiff, Nat.reduceLT, Nat.reduceBEq, Nat.reduceAdd, Nat.reduceMul, Nat.reduceLeDiff, Nat.reduceSub, Bool.false_eq_true]; try rfl) | skip)
theorem r08_Shaped_l117_ok (p0 : Fun) (s : Int) : Sim (r08_Shaped_l117 p0 s) fun r => evX (evI T) (.loop x10_5 [1, 2, 3]) [(1, .box [.str p0.Name, .sl p0.Params.length (p0.Params.flatMap (cint .i64)), .int .i64 p0.Ret, .sl p0.Blocks.length (p0.Blocks.flatMap (csl cIns)), .int .i64 p0.At]), (2, .box [.int .i64 0, .int .i64 0]), (3, .int .i64 s)] = some (stpK (fun t0 => (.exit 0, [(2, .box [.int .i64 0, .int .i64 0])])) (fun u0 => (.ret, [(2, .box [.int .i64 u0.1, .int .i64 u0.2])])) r) := by
  unfold r08_Shaped_l117
  exact loop_rule (C := evI T) (b := x10_5) (ks := [1, 2, 3]) (σ := Int) (ρ := Stp Unit (Int × Int)) (body := fun s => r08_Shaped_l117_b p0 s) (E := fun s => [(1, .box [.str p0.Name, .sl p0.Params.length (p0.Params.flatMap (cint .i64)), .int .i64 p0.Ret, .sl p0.Blocks.length (p0.Blocks.flatMap (csl cIns)), .int .i64 p0.At]), (2, .box [.int .i64 0, .int .i64 0]), (3, .int .i64 s)]) (R := fun r => (stpK (fun t0 => (.exit 0, [(2, .box [.int .i64 0, .int .i64 0])])) (fun u0 => (.ret, [(2, .box [.int .i64 u0.1, .int .i64 u0.2])])) r)) (fun r h => by rcases r with _ | _ <;> cases h) (fun s => r08_Shaped_l117_bok p0 s) s
theorem r08_Shaped_ok (p0 : Fun) : Sim (r08_Shaped p0) fun r => evI T 10 [.agg [.str p0.Name, .sl p0.Params.length (p0.Params.flatMap (cint .i64)), .int .i64 p0.Ret, .sl p0.Blocks.length (p0.Blocks.flatMap (csl cIns)), .int .i64 p0.At]] = some (.agg [.int .i64 r.Code, .int .i64 r.At], [.none]) := by
  unfold r08_Shaped
  refine sim_if (fun h1 => ?_) (fun h1 => ?_)
  · refine sim_some ?_
    refine evI_ret (x := x10) rfl rfl rfl ?_
    refine' (w_fn rfl rfl (w_seq (w_reg (w_cons ?_ (w_cons ?_ w_nil)) ?_) (w_go (w_seq (w_seq (w_reg (w_cons ?_ (w_cons ?_ (w_cons ?_ (w_cons ?_ w_nil)))) ?_) (w_go (w_condt ?_ (w_seq (w_reg (w_cons ?_ (w_cons ?_ w_nil)) ?_) (w_go w_ret)) ?_))) w_gor))) ?_)
    all_goals (first | (simp only [x10, nz, rn, nzIns, nzFun, h1, Int.reduceLT, Int.reduceEq, List.contains_cons, List.contains_nil, Option.map_some, Option.map_none, reduceIte, reduceCtorEq, Nat.reduceEqDiff, Nat.reduceLT, Nat.reduceBEq, Nat.reduceAdd, Nat.reduceMul, Nat.reduceLeDiff, Nat.reduceSub, Bool.false_eq_true]; try rfl) | skip)
  · refine sim_bind (fun qh33 h33 => ?_)
    rcases qh33 with ⟨_⟩ | ⟨⟨v12, v13⟩⟩
    · dsimp only
      have f34 := r08_Shaped_l117_ok p0 0 _ h33
      dsimp only at f34
      refine sim_some ?_
      refine evI_ret (x := x10) rfl rfl rfl ?_
      try simp only [nz, nzIns, nzFun] at f34
      all_goals
        refine' (w_fn rfl rfl (w_seq (w_reg (w_cons ?_ (w_cons ?_ w_nil)) ?_) (w_go (w_seq (w_seq (w_reg (w_cons ?_ (w_cons ?_ (w_cons ?_ (w_cons ?_ w_nil)))) ?_) (w_go (w_condf ?_ w_skip ?_))) (w_go (w_seq (w_seq (w_reg (w_cons ?_ w_nil) ?_) (w_go (w_block f34 ?_))) (w_go (w_seq (w_reg (w_cons ?_ (w_cons ?_ w_nil)) ?_) (w_go w_ret)))))))) ?_)
        all_goals (first | (simp only [x10, nz, rn, nzIns, nzFun, h1, Int.reduceLT, Int.reduceEq, List.contains_cons, List.contains_nil, Option.map_some, Option.map_none, reduceIte, reduceCtorEq, Nat.reduceEqDiff, Nat.reduceLT, Nat.reduceBEq, Nat.reduceAdd, Nat.reduceMul, Nat.reduceLeDiff, Nat.reduceSub, Bool.false_eq_true]; try rfl) | skip)
    · dsimp only
      have f34 := r08_Shaped_l117_ok p0 0 _ h33
      dsimp only at f34
      refine sim_some ?_
      refine evI_ret (x := x10) rfl rfl rfl ?_
      try simp only [nz, nzIns, nzFun] at f34
      all_goals
        refine' (w_fn rfl rfl (w_seq (w_reg (w_cons ?_ (w_cons ?_ w_nil)) ?_) (w_go (w_seq (w_seq (w_reg (w_cons ?_ (w_cons ?_ (w_cons ?_ (w_cons ?_ w_nil)))) ?_) (w_go (w_condf ?_ w_skip ?_))) (w_go (w_seq (w_seq (w_reg (w_cons ?_ w_nil) ?_) (w_go (w_block f34 ?_))) w_gor))))) ?_)
        all_goals (first | (simp only [x10, nz, rn, nzIns, nzFun, h1, Int.reduceLT, Int.reduceEq, List.contains_cons, List.contains_nil, Option.map_some, Option.map_none, reduceIte, reduceCtorEq, Nat.reduceEqDiff, Nat.reduceLT, Nat.reduceBEq, Nat.reduceAdd, Nat.reduceMul, Nat.reduceLeDiff, Nat.reduceSub, Bool.false_eq_true]; try rfl) | skip)
theorem r08_Shaped_okN (p0 : Fun) : Sim (r08_Shaped p0) fun r => ∀ ws, ws.map normA = [.agg [.str p0.Name, .sl p0.Params.length (p0.Params.flatMap (cint .i64)), .int .i64 p0.Ret, .sl p0.Blocks.length (p0.Blocks.flatMap (csl cIns)), .int .i64 p0.At]] → evI T 10 ws = some (.agg [.int .i64 r.Code, .int .i64 r.At], [.none]) := fun r h => evI_okN (x := x10) rfl rfl rfl (r08_Shaped_ok p0 r h)
end Go.Ab

/-
  Printed by gen.py.
-/
namespace Go.Ab
open Go
set_option linter.unusedVariables false
set_option linter.unusedSimpArgs false
set_option maxRecDepth 100000
set_option maxHeartbeats 4000000
theorem l08_Light_j19_ok (p0 : Fun) (v1 : Int) (v2 : Int) (x_3 : List Ins) (v4 : Int) (x_6 : Ins) : evX (evI T) x11_1 [(1, .box [.str p0.Name, .sl p0.Params.length (p0.Params.flatMap (cint .i64)), .int .i64 p0.Ret, .sl p0.Blocks.length (p0.Blocks.flatMap (csl cIns)), .int .i64 p0.At]), (3, .int .i64 (IntKind.wrap .i64 (v1 + ((x_3.length : Int))))), (4, .int .i64 v2), (5, .int .i64 v4), (6, .box [.int .i64 x_6.Op, .int .i64 x_6.Id, .int .i64 x_6.N, .int .i64 (x_6.Type'), .sl x_6.Args.length (x_6.Args.flatMap (cint .i64)), .sl x_6.To.length (x_6.To.flatMap (cint .i64)), .str x_6.Name, .int .i64 x_6.At])] = some (.norm, [(1, .box [.str p0.Name, .sl p0.Params.length (p0.Params.flatMap (cint .i64)), .int .i64 p0.Ret, .sl p0.Blocks.length (p0.Blocks.flatMap (csl cIns)), .int .i64 p0.At]), (3, .int .i64 (IntKind.wrap .i64 (v1 + ((x_3.length : Int))))), (4, .int .i64 v2), (5, .int .i64 v4), (61, .bool (((decide (30 < ((x_6.To.length : Int)))) || (((decide (30 < ((x_6.Args.length : Int)))) || (decide (100 < ((x_6.Name.length : Int)))))))))]) := by
  rcases Bool.eq_false_or_eq_true (decide (30 < ((x_6.To.length : Int)))) with h15 | h15
  · refine' (w_reg (w_cons ?_ (w_cons ?_ (w_cons ?_ (w_cons ?_ (w_cons ?_ (w_cons ?_ (w_cons ?_ (w_cons ?_ (w_cons ?_ (w_cons ?_ (w_cons ?_ (w_cons ?_ (w_cons ?_ (w_cons ?_ (w_cons ?_ (w_cons ?_ w_nil)))))))))))))))) ?_)
    all_goals (first | (simp only [nz, rn, nzIns, nzFun, h15, Int.reduceLT, Int.reduceEq, List.contains_cons, List.contains_nil, Option.map_some, Option.map_none, reduceIte, reduceCtorEq, Nat.reduceEqDiff, Nat.reduceLT, Nat.reduceBEq, Nat.reduceAdd, Nat.reduceMul, Nat.reduceLeDiff, Nat.reduceSub, Bool.false_eq_true]; try rfl) | skip)
  · rcases Bool.eq_false_or_eq_true (decide (30 < ((x_6.Args.length : Int)))) with h16 | h16
    · refine' (w_reg (w_cons ?_ (w_cons ?_ (w_cons ?_ (w_cons ?_ (w_cons ?_ (w_cons ?_ (w_cons ?_ (w_cons ?_ (w_cons ?_ (w_cons ?_ (w_cons ?_ (w_cons ?_ (w_cons ?_ (w_cons ?_ (w_cons ?_ (w_cons ?_ w_nil)))))))))))))))) ?_)
      all_goals (first | (simp only [nz, rn, nzIns, nzFun, h15, h16, Int.reduceLT, Int.reduceEq, List.contains_cons, List.contains_nil, Option.map_some, Option.map_none, reduceIte, reduceCtorEq, Nat.reduceEqDiff, Nat.reduceLT, Nat.reduceBEq, Nat.reduceAdd, Nat.reduceMul, Nat.reduceLeDiff, Nat.reduceSub, Bool.false_eq_true]; try rfl) | skip)
    · refine' (w_reg (w_cons ?_ (w_cons ?_ (w_cons ?_ (w_cons ?_ (w_cons ?_ (w_cons ?_ (w_cons ?_ (w_cons ?_ (w_cons ?_ (w_cons ?_ (w_cons ?_ (w_cons ?_ (w_cons ?_ (w_cons ?_ (w_cons ?_ (w_cons ?_ w_nil)))))))))))))))) ?_)
      all_goals (first | (simp only [nz, rn, nzIns, nzFun, h15, h16, Int.reduceLT, Int.reduceEq, List.contains_cons, List.contains_nil, Option.map_some, Option.map_none, reduceIte, reduceCtorEq, Nat.reduceEqDiff, Nat.reduceLT, Nat.reduceBEq, Nat.reduceAdd, Nat.reduceMul, Nat.reduceLeDiff, Nat.reduceSub, Bool.false_eq_true]; try rfl) | skip)
theorem l08_Light_l20_bok (p0 : Fun) (v1 : Int) (v2 : Int) (x_3 : List Ins) (v4 : Int) : Sim (l08_Light_l20_b p0 v1 v2 x_3 v4) fun x => fgt [1, 3, 4, 5] (evX (evI T) x11_2 [(1, .box [.str p0.Name, .sl p0.Params.length (p0.Params.flatMap (cint .i64)), .int .i64 p0.Ret, .sl p0.Blocks.length (p0.Blocks.flatMap (csl cIns)), .int .i64 p0.At]), (3, .int .i64 (IntKind.wrap .i64 (v1 + ((x_3.length : Int))))), (4, .int .i64 v2), (5, .int .i64 v4)]) = some (stpK (fun s => (.norm, [(1, .box [.str p0.Name, .sl p0.Params.length (p0.Params.flatMap (cint .i64)), .int .i64 p0.Ret, .sl p0.Blocks.length (p0.Blocks.flatMap (csl cIns)), .int .i64 p0.At]), (3, .int .i64 (IntKind.wrap .i64 (v1 + ((x_3.length : Int))))), (4, .int .i64 v2), (5, .int .i64 s)])) (fun r => (stpK (fun t0 => (.exit 2, [(1, .box [.str p0.Name, .sl p0.Params.length (p0.Params.flatMap (cint .i64)), .int .i64 p0.Ret, .sl p0.Blocks.length (p0.Blocks.flatMap (csl cIns)), .int .i64 p0.At]), (3, .int .i64 (IntKind.wrap .i64 (v1 + ((x_3.length : Int))))), (4, .int .i64 v2)])) (fun u0 => (.ret, [(2, .int .i64 1)])) r)) x) := by
  unfold l08_Light_l20_b
  refine sim_bind (fun x_5 h7 => ?_)
  have f8 := ix_ok h7
  have f8o := ix_own2 h7
  have f9 := ix_cells (sz_sl cIns) h7
  simp only [nz, nzIns, nzFun] at f9
  refine sim_if (fun h10 => ?_) (fun h10 => ?_)
  · have f11 := ix_cells (sz_sl cIns) h7
    simp only [nz, nzIns, nzFun] at f11
    refine sim_bind (fun x_6 h12 => ?_)
    have f13 := ix_ok h12
    have f13o := ix_own2 h12
    have f14 := ix_cells szIns h12
    simp only [nz, nzIns, nzFun] at f14
    have f18 := l08_Light_j19_ok p0 v1 v2 x_3 v4 x_6
    refine sim_if (fun h19 => ?_) (fun h19 => ?_)
    · refine sim_some ?_
      try simp only [nz, nzIns, nzFun, f13o] at f18
      all_goals
        refine' (w_fgt (w_seq (w_seq (w_reg (w_cons ?_ (w_cons ?_ (w_cons ?_ (w_cons ?_ (w_cons ?_ (w_cons ?_ (w_cons ?_ (w_cons ?_ w_nil)))))))) ?_) (w_go (w_condt ?_ w_skip ?_))) (w_go (w_seq (w_block (w_seq (w_reg (w_cons ?_ (w_cons ?_ (w_cons ?_ (w_cons ?_ (w_cons ?_ (w_cons ?_ (w_cons ?_ (w_cons ?_ (w_cons ?_ (w_cons ?_ w_nil)))))))))) ?_) (w_go (w_seq f18 (w_go (w_condt ?_ (w_seq (w_reg (w_cons ?_ w_nil) ?_) (w_go w_ret)) ?_))))) ?_) w_gor))) ?_)
        all_goals (first | (simp only [nz, rn, nzIns, nzFun, f8, f8o, f9, h10, f11, f13, f13o, f14, h19, Int.reduceLT, Int.reduceEq, List.contains_cons, List.contains_nil, Option.map_some, Option.map_none, reduceIte, reduceCtorEq, Nat.reduceEqDiff, Nat.reduceLT, Nat.reduceBEq, Nat.reduceAdd, Nat.reduceMul, Nat.reduceLeDiff, Nat.reduceSub, Bool.false_eq_true]; try rfl) | skip)
    · refine sim_some ?_
      try simp only [nz, nzIns, nzFun, f13o] at f18
      all_goals
        refine' (w_fgt (w_seq (w_seq (w_reg (w_cons ?_ (w_cons ?_ (w_cons ?_ (w_cons ?_ (w_cons ?_ (w_cons ?_ (w_cons ?_ (w_cons ?_ w_nil)))))))) ?_) (w_go (w_condt ?_ w_skip ?_))) (w_go (w_seq (w_block (w_seq (w_reg (w_cons ?_ (w_cons ?_ (w_cons ?_ (w_cons ?_ (w_cons ?_ (w_cons ?_ (w_cons ?_ (w_cons ?_ (w_cons ?_ (w_cons ?_ w_nil)))))))))) ?_) (w_go (w_seq f18 (w_go (w_condf ?_ w_skip ?_))))) ?_) (w_go (w_reg (w_cons ?_ (w_cons ?_ (w_cons ?_ w_nil))) ?_))))) ?_)
        all_goals (first | (simp only [nz, rn, nzIns, nzFun, f8, f8o, f9, h10, f11, f13, f13o, f14, h19, Int.reduceLT, Int.reduceEq, List.contains_cons, List.contains_nil, Option.map_some, Option.map_none, reduceIte, reduceCtorEq, Nat.reduceEqDiff, Nat.reduceLT, Nat.reduceBEq, Nat.reduceAdd, Nat.reduceMul, Nat.reduceLeDiff, Nat.reduceSub, Bool.false_eq_true]; try rfl) | skip)
  · refine sim_some ?_
    refine' (w_fgt (w_seq (w_seq (w_reg (w_cons ?_ (w_cons ?_ (w_cons ?_ (w_cons ?_ (w_cons ?_ (w_cons ?_ (w_cons ?_ (w_cons ?_ w_nil)))))))) ?_) (w_go (w_condf ?_ (w_exit ?_) ?_))) w_gox) ?_)
    all_goals (first | (simp only [nz, rn, nzIns, nzFun, f8, f8o, f9, h10, Int.reduceLT, Int.reduceEq, List.contains_cons, List.contains_nil, Option.map_some, Option.map_none, reduceIte, reduceCtorEq, Nat.reduceEqDiff, Nat.reduceLT, Nat.reduceBEq, Nat.reduceAdd, Nat.reduceMul, Nat.reduceLeDiff, Nat.reduceSub, Bool.false_eq_true]; try rfl) | skip)
theorem l08_Light_l20_ok (p0 : Fun) (v1 : Int) (v2 : Int) (x_3 : List Ins) (s : Int) : Sim (l08_Light_l20 p0 v1 v2 x_3 s) fun r => evX (evI T) (.loop x11_2 [1, 3, 4, 5]) [(1, .box [.str p0.Name, .sl p0.Params.length (p0.Params.flatMap (cint .i64)), .int .i64 p0.Ret, .sl p0.Blocks.length (p0.Blocks.flatMap (csl cIns)), .int .i64 p0.At]), (3, .int .i64 (IntKind.wrap .i64 (v1 + ((x_3.length : Int))))), (4, .int .i64 v2), (5, .int .i64 s)] = some (stpK (fun t0 => (.exit 2, [(1, .box [.str p0.Name, .sl p0.Params.length (p0.Params.flatMap (cint .i64)), .int .i64 p0.Ret, .sl p0.Blocks.length (p0.Blocks.flatMap (csl cIns)), .int .i64 p0.At]), (3, .int .i64 (IntKind.wrap .i64 (v1 + ((x_3.length : Int))))), (4, .int .i64 v2)])) (fun u0 => (.ret, [(2, .int .i64 1)])) r) := by
  unfold l08_Light_l20
  exact loop_rule (C := evI T) (b := x11_2) (ks := [1, 3, 4, 5]) (σ := Int) (ρ := Stp Unit Unit) (body := fun s => l08_Light_l20_b p0 v1 v2 x_3 s) (E := fun s => [(1, .box [.str p0.Name, .sl p0.Params.length (p0.Params.flatMap (cint .i64)), .int .i64 p0.Ret, .sl p0.Blocks.length (p0.Blocks.flatMap (csl cIns)), .int .i64 p0.At]), (3, .int .i64 (IntKind.wrap .i64 (v1 + ((x_3.length : Int))))), (4, .int .i64 v2), (5, .int .i64 s)]) (R := fun r => (stpK (fun t0 => (.exit 2, [(1, .box [.str p0.Name, .sl p0.Params.length (p0.Params.flatMap (cint .i64)), .int .i64 p0.Ret, .sl p0.Blocks.length (p0.Blocks.flatMap (csl cIns)), .int .i64 p0.At]), (3, .int .i64 (IntKind.wrap .i64 (v1 + ((x_3.length : Int))))), (4, .int .i64 v2)])) (fun u0 => (.ret, [(2, .int .i64 1)])) r)) (fun r h => by rcases r with _ | _ <;> cases h) (fun s => l08_Light_l20_bok p0 v1 v2 x_3 s) s
theorem l08_Light_l21_bok (p0 : Fun) (v1 : Int) (v2 : Int) : Sim (l08_Light_l21_b p0 v1 v2) fun x => fgt [1, 3, 4] (evX (evI T) x11_3 [(1, .box [.str p0.Name, .sl p0.Params.length (p0.Params.flatMap (cint .i64)), .int .i64 p0.Ret, .sl p0.Blocks.length (p0.Blocks.flatMap (csl cIns)), .int .i64 p0.At]), (3, .int .i64 v1), (4, .int .i64 v2)]) = some (stpK (fun s => (.norm, [(1, .box [.str p0.Name, .sl p0.Params.length (p0.Params.flatMap (cint .i64)), .int .i64 p0.Ret, .sl p0.Blocks.length (p0.Blocks.flatMap (csl cIns)), .int .i64 p0.At]), (3, .int .i64 s.1), (4, .int .i64 s.2)])) (fun r => (stpK (fun t0 => (.exit 0, [(1, .box [.str p0.Name, .sl p0.Params.length (p0.Params.flatMap (cint .i64)), .int .i64 p0.Ret, .sl p0.Blocks.length (p0.Blocks.flatMap (csl cIns)), .int .i64 p0.At])])) (fun u0 => (.ret, [(2, .int .i64 1)])) r)) x) := by
  unfold l08_Light_l21_b
  refine sim_if (fun h2 => ?_) (fun h2 => ?_)
  · refine sim_bind (fun x_3 h3 => ?_)
    have f4 := ix_ok h3
    have f4o := ix_own2 h3
    have f5 := ix_cells (sz_sl cIns) h3
    simp only [nz, nzIns, nzFun] at f5
    refine sim_if (fun h6 => ?_) (fun h6 => ?_)
    · refine sim_some ?_
      refine' (w_fgt (w_seq (w_seq (w_reg (w_cons ?_ (w_cons ?_ (w_cons ?_ (w_cons ?_ (w_cons ?_ w_nil))))) ?_) (w_go (w_condt ?_ w_skip ?_))) (w_go (w_seq (w_block (w_seq (w_reg (w_cons ?_ (w_cons ?_ (w_cons ?_ (w_cons ?_ (w_cons ?_ (w_cons ?_ (w_cons ?_ (w_cons ?_ (w_cons ?_ w_nil))))))))) ?_) (w_go (w_seq (w_seq (w_reg (w_cons ?_ (w_cons ?_ w_nil)) ?_) (w_go (w_condt ?_ (w_seq (w_reg (w_cons ?_ w_nil) ?_) (w_go w_ret)) ?_))) w_gor))) ?_) w_gor))) ?_)
      all_goals (first | (simp only [nz, rn, nzIns, nzFun, h2, f4, f4o, f5, h6, Int.reduceLT, Int.reduceEq, List.contains_cons, List.contains_nil, Option.map_some, Option.map_none, reduceIte, reduceCtorEq, Nat.reduceEqDiff, Nat.reduceLT, Nat.reduceBEq, Nat.reduceAdd, Nat.reduceMul, Nat.reduceLeDiff, Nat.reduceSub, Bool.false_eq_true]; try rfl) | skip)
    · refine sim_bind (fun qh20 h20 => ?_)
      rcases qh20 with ⟨_⟩ | ⟨_⟩
      · dsimp only
        have f21 := l08_Light_l20_ok p0 v1 v2 x_3 0 _ h20
        dsimp only at f21
        refine sim_some ?_
        try simp only [nz, nzIns, nzFun] at f21
        all_goals
          refine' (w_fgt (w_seq (w_seq (w_reg (w_cons ?_ (w_cons ?_ (w_cons ?_ (w_cons ?_ (w_cons ?_ w_nil))))) ?_) (w_go (w_condt ?_ w_skip ?_))) (w_go (w_seq (w_block (w_seq (w_reg (w_cons ?_ (w_cons ?_ (w_cons ?_ (w_cons ?_ (w_cons ?_ (w_cons ?_ (w_cons ?_ (w_cons ?_ (w_cons ?_ w_nil))))))))) ?_) (w_go (w_seq (w_seq (w_reg (w_cons ?_ (w_cons ?_ w_nil)) ?_) (w_go (w_condf ?_ w_skip ?_))) (w_go (w_seq (w_reg (w_cons ?_ w_nil) ?_) (w_go (w_block f21 ?_))))))) ?_) (w_go (w_reg (w_cons ?_ (w_cons ?_ (w_cons ?_ w_nil))) ?_))))) ?_)
          all_goals (first | (simp only [nz, rn, nzIns, nzFun, h2, f4, f4o, f5, h6, Int.reduceLT, Int.reduceEq, List.contains_cons, List.contains_nil, Option.map_some, Option.map_none, reduceIte, reduceCtorEq, Nat.reduceEqDiff, Nat.reduceLT, Nat.reduceBEq, Nat.reduceAdd, Nat.reduceMul, Nat.reduceLeDiff, Nat.reduceSub, Bool.false_eq_true]; try rfl) | skip)
      · dsimp only
        have f21 := l08_Light_l20_ok p0 v1 v2 x_3 0 _ h20
        dsimp only at f21
        refine sim_some ?_
        try simp only [nz, nzIns, nzFun] at f21
        all_goals
          refine' (w_fgt (w_seq (w_seq (w_reg (w_cons ?_ (w_cons ?_ (w_cons ?_ (w_cons ?_ (w_cons ?_ w_nil))))) ?_) (w_go (w_condt ?_ w_skip ?_))) (w_go (w_seq (w_block (w_seq (w_reg (w_cons ?_ (w_cons ?_ (w_cons ?_ (w_cons ?_ (w_cons ?_ (w_cons ?_ (w_cons ?_ (w_cons ?_ (w_cons ?_ w_nil))))))))) ?_) (w_go (w_seq (w_seq (w_reg (w_cons ?_ (w_cons ?_ w_nil)) ?_) (w_go (w_condf ?_ w_skip ?_))) (w_go (w_seq (w_reg (w_cons ?_ w_nil) ?_) (w_go (w_block f21 ?_))))))) ?_) w_gor))) ?_)
          all_goals (first | (simp only [nz, rn, nzIns, nzFun, h2, f4, f4o, f5, h6, Int.reduceLT, Int.reduceEq, List.contains_cons, List.contains_nil, Option.map_some, Option.map_none, reduceIte, reduceCtorEq, Nat.reduceEqDiff, Nat.reduceLT, Nat.reduceBEq, Nat.reduceAdd, Nat.reduceMul, Nat.reduceLeDiff, Nat.reduceSub, Bool.false_eq_true]; try rfl) | skip)
  · refine sim_some ?_
    refine' (w_fgt (w_seq (w_seq (w_reg (w_cons ?_ (w_cons ?_ (w_cons ?_ (w_cons ?_ (w_cons ?_ w_nil))))) ?_) (w_go (w_condf ?_ (w_exit ?_) ?_))) w_gox) ?_)
    all_goals (first | (simp only [nz, rn, nzIns, nzFun, h2, Int.reduceLT, Int.reduceEq, List.contains_cons, List.contains_nil, Option.map_some, Option.map_none, reduceIte, reduceCtorEq, Nat.reduceEqDiff, Nat.reduceLT, Nat.reduceBEq, Nat.reduceAdd, Nat.reduceMul, Nat.reduceLeDiff, Nat.reduceSub, Bool.false_eq_true]; try rfl) | skip)
theorem l08_Light_l21_ok (p0 : Fun) (s : Int × Int) : Sim (l08_Light_l21 p0 s) fun r => evX (evI T) (.loop x11_3 [1, 3, 4]) [(1, .box [.str p0.Name, .sl p0.Params.length (p0.Params.flatMap (cint .i64)), .int .i64 p0.Ret, .sl p0.Blocks.length (p0.Blocks.flatMap (csl cIns)), .int .i64 p0.At]), (3, .int .i64 s.1), (4, .int .i64 s.2)] = some (stpK (fun t0 => (.exit 0, [(1, .box [.str p0.Name, .sl p0.Params.length (p0.Params.flatMap (cint .i64)), .int .i64 p0.Ret, .sl p0.Blocks.length (p0.Blocks.flatMap (csl cIns)), .int .i64 p0.At])])) (fun u0 => (.ret, [(2, .int .i64 1)])) r) := by
  unfold l08_Light_l21
  exact loop_rule (C := evI T) (b := x11_3) (ks := [1, 3, 4]) (σ := Int × Int) (ρ := Stp Unit Unit) (body := fun s => l08_Light_l21_b p0 s.1 s.2) (E := fun s => [(1, .box [.str p0.Name, .sl p0.Params.length (p0.Params.flatMap (cint .i64)), .int .i64 p0.Ret, .sl p0.Blocks.length (p0.Blocks.flatMap (csl cIns)), .int .i64 p0.At]), (3, .int .i64 s.1), (4, .int .i64 s.2)]) (R := fun r => (stpK (fun t0 => (.exit 0, [(1, .box [.str p0.Name, .sl p0.Params.length (p0.Params.flatMap (cint .i64)), .int .i64 p0.Ret, .sl p0.Blocks.length (p0.Blocks.flatMap (csl cIns)), .int .i64 p0.At])])) (fun u0 => (.ret, [(2, .int .i64 1)])) r)) (fun r h => by rcases r with _ | _ <;> cases h) (fun s => l08_Light_l21_bok p0 s.1 s.2) s
theorem l08_Light_ok (p0 : Fun) : Sim (l08_Light p0) fun r => evI T 11 [.agg [.str p0.Name, .sl p0.Params.length (p0.Params.flatMap (cint .i64)), .int .i64 p0.Ret, .sl p0.Blocks.length (p0.Blocks.flatMap (csl cIns)), .int .i64 p0.At]] = some (.int .i64 r, [.none]) := by
  unfold l08_Light
  refine sim_if (fun h1 => ?_) (fun h1 => ?_)
  · refine sim_some ?_
    refine evI_ret (x := x11) rfl rfl rfl ?_
    refine' (w_fn rfl rfl (w_seq (w_reg (w_cons ?_ (w_cons ?_ w_nil)) ?_) (w_go (w_seq (w_seq (w_reg (w_cons ?_ (w_cons ?_ (w_cons ?_ (w_cons ?_ w_nil)))) ?_) (w_go (w_condt ?_ (w_seq (w_reg (w_cons ?_ w_nil) ?_) (w_go w_ret)) ?_))) w_gor))) ?_)
    all_goals (first | (simp only [x11, nz, rn, nzIns, nzFun, h1, Int.reduceLT, Int.reduceEq, List.contains_cons, List.contains_nil, Option.map_some, Option.map_none, reduceIte, reduceCtorEq, Nat.reduceEqDiff, Nat.reduceLT, Nat.reduceBEq, Nat.reduceAdd, Nat.reduceMul, Nat.reduceLeDiff, Nat.reduceSub, Bool.false_eq_true]; try rfl) | skip)
  · refine sim_bind (fun qh22 h22 => ?_)
    rcases qh22 with ⟨_⟩ | ⟨_⟩
    · dsimp only
      have f23 := l08_Light_l21_ok p0 (0, 0) _ h22
      dsimp only at f23
      refine sim_bind (fun r8 h24 => ?_)
      have f25 := r08_Shaped_okN p0 _ h24
      dsimp only at f25
      refine sim_if (fun h26 => ?_) (fun h26 => ?_)
      · refine sim_some ?_
        refine evI_ret (x := x11) rfl rfl rfl ?_
        try simp only [nz, nzIns, nzFun] at f23
        try simp only [nz, nzIns, nzFun] at f25
        all_goals
          refine' (w_fn rfl rfl (w_seq (w_reg (w_cons ?_ (w_cons ?_ w_nil)) ?_) (w_go (w_seq (w_seq (w_reg (w_cons ?_ (w_cons ?_ (w_cons ?_ (w_cons ?_ w_nil)))) ?_) (w_go (w_condf ?_ w_skip ?_))) (w_go (w_seq (w_reg (w_cons ?_ w_nil) ?_) (w_go (w_seq (w_seq (w_reg (w_cons ?_ w_nil) ?_) (w_go (w_block f23 ?_))) (w_go (w_seq (w_seq (w_reg (w_cons ?_ (w_cons ?_ (w_cons ?_ (w_cons ?_ w_nil)))) ?_) (w_go (w_condt ?_ (w_seq (w_reg (w_cons ?_ w_nil) ?_) (w_go w_ret)) ?_))) w_gor))))))))) ?_)
          all_goals (first | (simp only [x11, nz, rn, nzIns, nzFun, h1, f25, h26, Int.reduceLT, Int.reduceEq, List.contains_cons, List.contains_nil, Option.map_some, Option.map_none, reduceIte, reduceCtorEq, Nat.reduceEqDiff, Nat.reduceLT, Nat.reduceBEq, Nat.reduceAdd, Nat.reduceMul, Nat.reduceLeDiff, Nat.reduceSub, Bool.false_eq_true]; try rfl) | skip)
      · refine sim_some ?_
        refine evI_ret (x := x11) rfl rfl rfl ?_
        try simp only [nz, nzIns, nzFun] at f23
        try simp only [nz, nzIns, nzFun] at f25
        all_goals
          refine' (w_fn rfl rfl (w_seq (w_reg (w_cons ?_ (w_cons ?_ w_nil)) ?_) (w_go (w_seq (w_seq (w_reg (w_cons ?_ (w_cons ?_ (w_cons ?_ (w_cons ?_ w_nil)))) ?_) (w_go (w_condf ?_ w_skip ?_))) (w_go (w_seq (w_reg (w_cons ?_ w_nil) ?_) (w_go (w_seq (w_seq (w_reg (w_cons ?_ w_nil) ?_) (w_go (w_block f23 ?_))) (w_go (w_seq (w_seq (w_reg (w_cons ?_ (w_cons ?_ (w_cons ?_ (w_cons ?_ w_nil)))) ?_) (w_go (w_condf ?_ w_skip ?_))) (w_go (w_seq (w_reg (w_cons ?_ w_nil) ?_) (w_go w_ret)))))))))))) ?_)
          all_goals (first | (simp only [x11, nz, rn, nzIns, nzFun, h1, f25, h26, Int.reduceLT, Int.reduceEq, List.contains_cons, List.contains_nil, Option.map_some, Option.map_none, reduceIte, reduceCtorEq, Nat.reduceEqDiff, Nat.reduceLT, Nat.reduceBEq, Nat.reduceAdd, Nat.reduceMul, Nat.reduceLeDiff, Nat.reduceSub, Bool.false_eq_true]; try rfl) | skip)
    · dsimp only
      have f23 := l08_Light_l21_ok p0 (0, 0) _ h22
      dsimp only at f23
      refine sim_some ?_
      refine evI_ret (x := x11) rfl rfl rfl ?_
      try simp only [nz, nzIns, nzFun] at f23
      all_goals
        refine' (w_fn rfl rfl (w_seq (w_reg (w_cons ?_ (w_cons ?_ w_nil)) ?_) (w_go (w_seq (w_seq (w_reg (w_cons ?_ (w_cons ?_ (w_cons ?_ (w_cons ?_ w_nil)))) ?_) (w_go (w_condf ?_ w_skip ?_))) (w_go (w_seq (w_reg (w_cons ?_ w_nil) ?_) (w_go (w_seq (w_seq (w_reg (w_cons ?_ w_nil) ?_) (w_go (w_block f23 ?_))) w_gor))))))) ?_)
        all_goals (first | (simp only [x11, nz, rn, nzIns, nzFun, h1, Int.reduceLT, Int.reduceEq, List.contains_cons, List.contains_nil, Option.map_some, Option.map_none, reduceIte, reduceCtorEq, Nat.reduceEqDiff, Nat.reduceLT, Nat.reduceBEq, Nat.reduceAdd, Nat.reduceMul, Nat.reduceLeDiff, Nat.reduceSub, Bool.false_eq_true]; try rfl) | skip)
theorem l08_Light_okN (p0 : Fun) : Sim (l08_Light p0) fun r => ∀ ws, ws.map normA = [.agg [.str p0.Name, .sl p0.Params.length (p0.Params.flatMap (cint .i64)), .int .i64 p0.Ret, .sl p0.Blocks.length (p0.Blocks.flatMap (csl cIns)), .int .i64 p0.At]] → evI T 11 ws = some (.int .i64 r, [.none]) := fun r h => evI_okN (x := x11) rfl rfl rfl (l08_Light_ok p0 r h)
end Go.Ab

/-
  Printed by gen.py.
-/
namespace Go.Ab
open Go
set_option linter.unusedVariables false
set_option linter.unusedSimpArgs false
set_option maxRecDepth 100000
set_option maxHeartbeats 4000000
theorem slices_Index_intint_l1_bok (p0 : List Int) (p1 : Int) (v1 : Int) : Sim (slices_Index_intint_l1_b p0 p1 v1) fun x => fgt [0, 1, 7, 8] (evX (evI T) x41_1 [(0, .sl p0.length (p0.flatMap (cint .i64))), (1, .int .i64 p1), (7, .int .i64 ((p0.length : Int))), (8, .int .i64 v1)]) = some (stpK (fun s => (.norm, [(0, .sl p0.length (p0.flatMap (cint .i64))), (1, .int .i64 p1), (7, .int .i64 ((p0.length : Int))), (8, .int .i64 s)])) (fun r => (stpK (fun t0 => (.exit 0, [])) (fun u0 => (.ret, [(4, .int .i64 u0)])) r)) x) := by
  unfold slices_Index_intint_l1_b
  refine sim_if (fun h1 => ?_) (fun h1 => ?_)
  · refine sim_bind (fun x_2 h2 => ?_)
    have f3 := ix_ok h2
    have f3o := ix_own2 h2
    have f4 := ix_cells (sz_int .i64) h2
    simp only [nz] at f4
    refine sim_if (fun h5 => ?_) (fun h5 => ?_)
    · refine sim_some ?_
      refine' (w_fgt (w_seq (w_reg (w_cons ?_ w_nil) ?_) (w_go (w_seq (w_condt ?_ w_skip ?_) (w_go (w_seq (w_block (w_seq (w_reg (w_cons ?_ (w_cons ?_ w_nil)) ?_) (w_go (w_seq (w_reg (w_cons ?_ (w_cons ?_ (w_cons ?_ (w_cons ?_ (w_cons ?_ (w_cons ?_ w_nil)))))) ?_) (w_go (w_condt ?_ (w_seq (w_reg (w_cons ?_ (w_cons ?_ w_nil)) ?_) (w_go w_ret)) ?_))))) ?_) w_gor))))) ?_)
      all_goals (first | (simp only [nz, rn, h1, f3, f3o, f4, h5, Int.reduceLT, Int.reduceEq, List.contains_cons, List.contains_nil, Option.map_some, Option.map_none, reduceIte, reduceCtorEq, Nat.reduceEqDiff, Nat.reduceLT, Nat.reduceBEq, Nat.reduceAdd, Nat.reduceMul, Nat.reduceLeDiff, Nat.reduceSub, Bool.false_eq_true]; try rfl) | skip)
    · refine sim_some ?_
      refine' (w_fgt (w_seq (w_reg (w_cons ?_ w_nil) ?_) (w_go (w_seq (w_condt ?_ w_skip ?_) (w_go (w_seq (w_block (w_seq (w_reg (w_cons ?_ (w_cons ?_ w_nil)) ?_) (w_go (w_seq (w_reg (w_cons ?_ (w_cons ?_ (w_cons ?_ (w_cons ?_ (w_cons ?_ (w_cons ?_ w_nil)))))) ?_) (w_go (w_condf ?_ w_skip ?_))))) ?_) (w_go (w_reg (w_cons ?_ (w_cons ?_ w_nil)) ?_))))))) ?_)
      all_goals (first | (simp only [nz, rn, h1, f3, f3o, f4, h5, Int.reduceLT, Int.reduceEq, List.contains_cons, List.contains_nil, Option.map_some, Option.map_none, reduceIte, reduceCtorEq, Nat.reduceEqDiff, Nat.reduceLT, Nat.reduceBEq, Nat.reduceAdd, Nat.reduceMul, Nat.reduceLeDiff, Nat.reduceSub, Bool.false_eq_true]; try rfl) | skip)
  · refine sim_some ?_
    refine' (w_fgt (w_seq (w_reg (w_cons ?_ w_nil) ?_) (w_go (w_seq (w_condf ?_ (w_exit ?_) ?_) w_gox))) ?_)
    all_goals (first | (simp only [nz, rn, h1, Int.reduceLT, Int.reduceEq, List.contains_cons, List.contains_nil, Option.map_some, Option.map_none, reduceIte, reduceCtorEq, Nat.reduceEqDiff, Nat.reduceLT, Nat.reduceBEq, Nat.reduceAdd, Nat.reduceMul, Nat.reduceLeDiff, Nat.reduceSub, Bool.false_eq_true]; try rfl) | skip)
theorem slices_Index_intint_l1_ok (p0 : List Int) (p1 : Int) (s : Int) : Sim (slices_Index_intint_l1 p0 p1 s) fun r => evX (evI T) (.loop x41_1 [0, 1, 7, 8]) [(0, .sl p0.length (p0.flatMap (cint .i64))), (1, .int .i64 p1), (7, .int .i64 ((p0.length : Int))), (8, .int .i64 s)] = some (stpK (fun t0 => (.exit 0, [])) (fun u0 => (.ret, [(4, .int .i64 u0)])) r) := by
  unfold slices_Index_intint_l1
  exact loop_rule (C := evI T) (b := x41_1) (ks := [0, 1, 7, 8]) (σ := Int) (ρ := Stp Unit Int) (body := fun s => slices_Index_intint_l1_b p0 p1 s) (E := fun s => [(0, .sl p0.length (p0.flatMap (cint .i64))), (1, .int .i64 p1), (7, .int .i64 ((p0.length : Int))), (8, .int .i64 s)]) (R := fun r => (stpK (fun t0 => (.exit 0, [])) (fun u0 => (.ret, [(4, .int .i64 u0)])) r)) (fun r h => by rcases r with _ | _ <;> cases h) (fun s => slices_Index_intint_l1_bok p0 p1 s) s
theorem slices_Index_intint_ok (p0 : List Int) (p1 : Int) : Sim (slices_Index_intint p0 p1) fun r => evI T 41 [.sl p0.length (p0.flatMap (cint .i64)), .int .i64 p1] = some (.int .i64 r, [.none, .none]) := by
  unfold slices_Index_intint
  refine sim_bind (fun qh6 h6 => ?_)
  rcases qh6 with ⟨_⟩ | ⟨v3⟩
  · dsimp only
    have f7 := slices_Index_intint_l1_ok p0 p1 0 _ h6
    dsimp only at f7
    refine sim_some ?_
    refine evI_ret (x := x41) rfl rfl rfl ?_
    try simp only [nz] at f7
    all_goals
      refine' (w_fn rfl rfl (w_seq (w_reg (w_cons ?_ w_nil) ?_) (w_go (w_seq (w_seq (w_reg (w_cons ?_ (w_cons ?_ (w_cons ?_ w_nil))) ?_) (w_go (w_block f7 ?_))) (w_go (w_seq (w_reg (w_cons ?_ w_nil) ?_) (w_go w_ret)))))) ?_)
      all_goals (first | (simp only [x41, nz, rn, Int.reduceLT, Int.reduceEq, List.contains_cons, List.contains_nil, Option.map_some, Option.map_none, reduceIte, reduceCtorEq, Nat.reduceEqDiff, Nat.reduceLT, Nat.reduceBEq, Nat.reduceAdd, Nat.reduceMul, Nat.reduceLeDiff, Nat.reduceSub, Bool.false_eq_true]; try rfl) | skip)
  · dsimp only
    have f7 := slices_Index_intint_l1_ok p0 p1 0 _ h6
    dsimp only at f7
    refine sim_some ?_
    refine evI_ret (x := x41) rfl rfl rfl ?_
    try simp only [nz] at f7
    all_goals
      refine' (w_fn rfl rfl (w_seq (w_reg (w_cons ?_ w_nil) ?_) (w_go (w_seq (w_seq (w_reg (w_cons ?_ (w_cons ?_ (w_cons ?_ w_nil))) ?_) (w_go (w_block f7 ?_))) w_gor))) ?_)
      all_goals (first | (simp only [x41, nz, rn, Int.reduceLT, Int.reduceEq, List.contains_cons, List.contains_nil, Option.map_some, Option.map_none, reduceIte, reduceCtorEq, Nat.reduceEqDiff, Nat.reduceLT, Nat.reduceBEq, Nat.reduceAdd, Nat.reduceMul, Nat.reduceLeDiff, Nat.reduceSub, Bool.false_eq_true]; try rfl) | skip)
theorem slices_Index_intint_okN (p0 : List Int) (p1 : Int) : Sim (slices_Index_intint p0 p1) fun r => ∀ ws, ws.map normA = [.sl p0.length (p0.flatMap (cint .i64)), .int .i64 p1] → evI T 41 ws = some (.int .i64 r, [.none, .none]) := fun r h => evI_okN (x := x41) rfl rfl rfl (slices_Index_intint_ok p0 p1 r h)
end Go.Ab

/-
  Printed by gen.py.
-/
namespace Go.Ab
open Go
set_option linter.unusedVariables false
set_option linter.unusedSimpArgs false
set_option maxRecDepth 100000
set_option maxHeartbeats 4000000
theorem slices_Contains_intint_ok (p0 : List Int) (p1 : Int) : Sim (slices_Contains_intint p0 p1) fun r => evI T 32 [.sl p0.length (p0.flatMap (cint .i64)), .int .i64 p1] = some (.bool r, [.none, .none]) := by
  unfold slices_Contains_intint
  refine sim_bind (fun r1 h1 => ?_)
  have f2 := slices_Index_intint_okN p0 p1 _ h1
  dsimp only at f2
  refine sim_some ?_
  refine evI_ret (x := x32) rfl rfl rfl ?_
  try simp only [nz] at f2
  all_goals
    refine' (w_fn rfl rfl (w_seq (w_reg (w_cons ?_ w_nil) ?_) (w_go (w_seq (w_reg (w_cons ?_ (w_cons ?_ (w_cons ?_ (w_cons ?_ (w_cons ?_ w_nil))))) ?_) (w_go w_ret)))) ?_)
    all_goals (first | (simp only [x32, nz, rn, f2, Int.reduceLT, Int.reduceEq, List.contains_cons, List.contains_nil, Option.map_some, Option.map_none, reduceIte, reduceCtorEq, Nat.reduceEqDiff, Nat.reduceLT, Nat.reduceBEq, Nat.reduceAdd, Nat.reduceMul, Nat.reduceLeDiff, Nat.reduceSub, Bool.false_eq_true]; try rfl) | skip)
theorem slices_Contains_intint_okN (p0 : List Int) (p1 : Int) : Sim (slices_Contains_intint p0 p1) fun r => ∀ ws, ws.map normA = [.sl p0.length (p0.flatMap (cint .i64)), .int .i64 p1] → evI T 32 ws = some (.bool r, [.none, .none]) := fun r h => evI_okN (x := x32) rfl rfl rfl (slices_Contains_intint_ok p0 p1 r h)
end Go.Ab

/-
  Printed by gen.py.
-/
namespace Go.Ab
open Go
set_option linter.unusedVariables false
set_option linter.unusedSimpArgs false
set_option maxRecDepth 100000
set_option maxHeartbeats 4000000
theorem graph_Succs_j19_ok (p0 : Fun) (v3 : Int) (x_4 : List Ins) (x_5 : Ins) (out6 : List (List Int)) (v7 : Int) (x_8 : Int) (r10 : Bool) : Sim (graph_Succs_j19 p0 v3 x_4 x_5 out6 v7 x_8 r10) fun r => evX (evI T) x13_1 [(1, .box [.str p0.Name, .sl p0.Params.length (p0.Params.flatMap (cint .i64)), .int .i64 p0.Ret, .sl p0.Blocks.length (p0.Blocks.flatMap (csl cIns)), .int .i64 p0.At]), (3, mkOwn 1 out6.length (out6.flatMap (cow 1 (cint .i64)))), (4, .int .i64 v3), (5, .sl x_4.length (x_4.flatMap cIns)), (7, .int .i64 x_8), (13, .sl p0.Blocks.length (p0.Blocks.flatMap (csl cIns))), (14, .int .i64 ((p0.Blocks.length : Int))), (15, .int .i64 v3), (26, .sl x_5.To.length (x_5.To.flatMap (cint .i64))), (27, .int .i64 ((x_5.To.length : Int))), (28, .int .i64 v7), (38, .bool ((!r10)))] = some (.norm, [(1, .box [.str p0.Name, .sl p0.Params.length (p0.Params.flatMap (cint .i64)), .int .i64 p0.Ret, .sl p0.Blocks.length (p0.Blocks.flatMap (csl cIns)), .int .i64 p0.At]), (3, mkOwn 1 r.length (r.flatMap (cow 1 (cint .i64)))), (4, .int .i64 v3), (5, .sl x_4.length (x_4.flatMap cIns)), (13, .sl p0.Blocks.length (p0.Blocks.flatMap (csl cIns))), (14, .int .i64 ((p0.Blocks.length : Int))), (15, .int .i64 v3), (26, .sl x_5.To.length (x_5.To.flatMap (cint .i64))), (27, .int .i64 ((x_5.To.length : Int))), (28, .int .i64 v7)]) := by
  unfold graph_Succs_j19
  refine sim_if (fun h19 => ?_) (fun h19 => ?_)
  · refine sim_bind (fun x_11 h20 => ?_)
    have f21 := ix_ok h20
    have f21o := ix_own2 h20
    have f22 : (out6.flatMap (cow 1 (cint .i64)))[v3.toNat * 1]? = some (mkOwn 1 x_11.length (x_11.flatMap (cint .i64))) := ix_cell0 (sz_cow 1 (cint .i64)) h20 rfl
    have f22a : (v3.toNat * 1 + 1 ≤ out6.length * 1) = True := ix_le0 (sz_cow 1 (cint .i64)) h20 (by decide)
    refine sim_bind (fun l_12 h23 => ?_)
    have f24 := app1_cond h23
    try simp only [nz, Nat.reduceLeDiff, Nat.reduceAdd, Nat.reduceMul, Nat.reduceSub] at f24
    have f24a : PV.own 1 (x_11.length + 1) (x_11.flatMap (cint .i64) ++ [.int .i64 x_8]) = .own 1 l_12.length (l_12.flatMap (cint .i64)) := app1_own h23 (cint .i64) 1
    have f24o := app1_own2 h23
    have f25 : ∀ v, setCells ((out6.flatMap (cow 1 (cint .i64))).set (v3.toNat * 1) v) (v3.toNat * 1) [mkOwn 1 l_12.length (l_12.flatMap (cint .i64))] = (out6.set v3.toNat l_12).flatMap (cow 1 (cint .i64)) := ix_setv (sz_cow 1 (cint .i64)) h20 _
    have f25b : setCells (out6.flatMap (cow 1 (cint .i64))) (v3.toNat * 1) [mkOwn 1 l_12.length (l_12.flatMap (cint .i64))] = (out6.set v3.toNat l_12).flatMap (cow 1 (cint .i64)) := ix_set (sz_cow 1 (cint .i64)) h20 _
    have f25a := ix_le (sz_cow 1 (cint .i64)) h20
    refine sim_some ?_
    rcases own_cases x_11 with rfl | o_x_11
    · obtain rfl := app_eq h23
      try simp only [nz, nzIns, nzFun, f21o, f24o] at f25
      try simp only [nz, nzIns, nzFun, f21o, f24o] at f25b
      all_goals
        refine' (w_condt ?_ (w_reg (w_cons ?_ (w_cons ?_ (w_cons ?_ (w_cons ?_ (w_cons ?_ (w_cons ?_ (w_cons ?_ (w_cons ?_ (w_cons ?_ (w_cons ?_ (w_cons ?_ w_nil))))))))))) ?_) ?_)
        all_goals (first | (simp only [nz, rn, nzIns, nzFun, h19, f21, f21o, f22, f22a, f25, f25a, f25b, Int.reduceLT, Int.reduceEq, List.contains_cons, List.contains_nil, Option.map_some, Option.map_none, reduceIte, reduceCtorEq, Nat.reduceEqDiff, Nat.reduceLT, Nat.reduceBEq, Nat.reduceAdd, Nat.reduceMul, Nat.reduceLeDiff, Nat.reduceSub, Bool.false_eq_true]; try rfl) | skip)
    · try simp only [nz, nzIns, nzFun, o_x_11, f21o, f24o] at f25
      try simp only [nz, nzIns, nzFun, o_x_11, f21o, f24o] at f25b
      all_goals
        refine' (w_condt ?_ (w_reg (w_cons ?_ (w_cons ?_ (w_cons ?_ (w_cons ?_ (w_cons ?_ (w_cons ?_ (w_cons ?_ (w_cons ?_ (w_cons ?_ (w_cons ?_ (w_cons ?_ w_nil))))))))))) ?_) ?_)
        all_goals (first | (simp only [nz, rn, nzIns, nzFun, h19, f21, f21o, f22, f22a, f24, f24a, f24o, f25, f25a, f25b, o_x_11, Int.reduceLT, Int.reduceEq, List.contains_cons, List.contains_nil, Option.map_some, Option.map_none, reduceIte, reduceCtorEq, Nat.reduceEqDiff, Nat.reduceLT, Nat.reduceBEq, Nat.reduceAdd, Nat.reduceMul, Nat.reduceLeDiff, Nat.reduceSub, Bool.false_eq_true]; try rfl) | skip)
  · refine sim_some ?_
    refine' (w_condf ?_ w_skip ?_)
    all_goals (first | (simp only [nz, rn, nzIns, nzFun, h19, Int.reduceLT, Int.reduceEq, List.contains_cons, List.contains_nil, Option.map_some, Option.map_none, reduceIte, reduceCtorEq, Nat.reduceEqDiff, Nat.reduceLT, Nat.reduceBEq, Nat.reduceAdd, Nat.reduceMul, Nat.reduceLeDiff, Nat.reduceSub, Bool.false_eq_true]; try rfl) | skip)
theorem graph_Succs_l20_bok (p0 : Fun) (v3 : Int) (x_4 : List Ins) (x_5 : Ins) (out6 : List (List Int)) (v7 : Int) : Sim (graph_Succs_l20_b p0 v3 x_4 x_5 out6 v7) fun x => fgt [1, 3, 4, 5, 13, 14, 15, 26, 27, 28] (evX (evI T) x13_2 [(1, .box [.str p0.Name, .sl p0.Params.length (p0.Params.flatMap (cint .i64)), .int .i64 p0.Ret, .sl p0.Blocks.length (p0.Blocks.flatMap (csl cIns)), .int .i64 p0.At]), (3, mkOwn 1 out6.length (out6.flatMap (cow 1 (cint .i64)))), (4, .int .i64 v3), (5, .sl x_4.length (x_4.flatMap cIns)), (13, .sl p0.Blocks.length (p0.Blocks.flatMap (csl cIns))), (14, .int .i64 ((p0.Blocks.length : Int))), (15, .int .i64 v3), (26, .sl x_5.To.length (x_5.To.flatMap (cint .i64))), (27, .int .i64 ((x_5.To.length : Int))), (28, .int .i64 v7)]) = some (stpK (fun s => (.norm, [(1, .box [.str p0.Name, .sl p0.Params.length (p0.Params.flatMap (cint .i64)), .int .i64 p0.Ret, .sl p0.Blocks.length (p0.Blocks.flatMap (csl cIns)), .int .i64 p0.At]), (3, mkOwn 1 s.1.length (s.1.flatMap (cow 1 (cint .i64)))), (4, .int .i64 v3), (5, .sl x_4.length (x_4.flatMap cIns)), (13, .sl p0.Blocks.length (p0.Blocks.flatMap (csl cIns))), (14, .int .i64 ((p0.Blocks.length : Int))), (15, .int .i64 v3), (26, .sl x_5.To.length (x_5.To.flatMap (cint .i64))), (27, .int .i64 ((x_5.To.length : Int))), (28, .int .i64 s.2)])) (fun r => (.exit 2, [(1, .box [.str p0.Name, .sl p0.Params.length (p0.Params.flatMap (cint .i64)), .int .i64 p0.Ret, .sl p0.Blocks.length (p0.Blocks.flatMap (csl cIns)), .int .i64 p0.At]), (3, mkOwn 1 r.length (r.flatMap (cow 1 (cint .i64)))), (13, .sl p0.Blocks.length (p0.Blocks.flatMap (csl cIns))), (14, .int .i64 ((p0.Blocks.length : Int))), (15, .int .i64 v3)])) x) := by
  unfold graph_Succs_l20_b
  refine sim_if (fun h10 => ?_) (fun h10 => ?_)
  · refine sim_bind (fun x_8 h11 => ?_)
    have f12 := ix_ok h11
    have f12o := ix_own2 h11
    have f13 := ix_cells (sz_int .i64) h11
    simp only [nz, nzIns, nzFun] at f13
    refine sim_bind (fun x_9 h14 => ?_)
    have f15 := ix_ok h14
    have f15o := ix_own2 h14
    have f16 : (out6.flatMap (cow 1 (cint .i64)))[v3.toNat * 1]? = some (mkOwn 1 x_9.length (x_9.flatMap (cint .i64))) := ix_cell0 (sz_cow 1 (cint .i64)) h14 rfl
    have f16a : (v3.toNat * 1 + 1 ≤ out6.length * 1) = True := ix_le0 (sz_cow 1 (cint .i64)) h14 (by decide)
    refine sim_bind (fun r10 h17 => ?_)
    have f18 := slices_Contains_intint_okN x_9 x_8 _ h17
    dsimp only at f18
    refine sim_bind (fun out13 h26 => ?_)
    have f27 := graph_Succs_j19_ok p0 v3 x_4 x_5 out6 v7 x_8 r10 _ h26
    dsimp only at f27
    refine sim_some ?_
    rcases own_cases x_9 with rfl | o_x_9
    · try simp only [nz, nzIns, nzFun, f15o] at f18
      try simp only [nz, nzIns, nzFun, f15o] at f27
      all_goals
        refine' (w_fgt (w_seq (w_reg (w_cons ?_ w_nil) ?_) (w_go (w_seq (w_condt ?_ w_skip ?_) (w_go (w_seq (w_block (w_seq (w_reg (w_cons ?_ (w_cons ?_ (w_cons ?_ w_nil))) ?_) (w_go (w_seq (w_reg (w_cons ?_ (w_cons ?_ (w_cons ?_ (w_cons ?_ (w_cons ?_ (w_cons ?_ (w_cons ?_ w_nil))))))) ?_) (w_go f27)))) ?_) (w_go (w_reg (w_cons ?_ (w_cons ?_ w_nil)) ?_))))))) ?_)
        all_goals (first | (simp only [nz, rn, nzIns, nzFun, h10, f12, f12o, f13, f15, f15o, f16, f16a, f18, Int.reduceLT, Int.reduceEq, List.contains_cons, List.contains_nil, Option.map_some, Option.map_none, reduceIte, reduceCtorEq, Nat.reduceEqDiff, Nat.reduceLT, Nat.reduceBEq, Nat.reduceAdd, Nat.reduceMul, Nat.reduceLeDiff, Nat.reduceSub, Bool.false_eq_true]; try rfl) | skip)
    · try simp only [nz, nzIns, nzFun, o_x_9, f15o] at f18
      try simp only [nz, nzIns, nzFun, o_x_9, f15o] at f27
      all_goals
        refine' (w_fgt (w_seq (w_reg (w_cons ?_ w_nil) ?_) (w_go (w_seq (w_condt ?_ w_skip ?_) (w_go (w_seq (w_block (w_seq (w_reg (w_cons ?_ (w_cons ?_ (w_cons ?_ w_nil))) ?_) (w_go (w_seq (w_reg (w_cons ?_ (w_cons ?_ (w_cons ?_ (w_cons ?_ (w_cons ?_ (w_cons ?_ (w_cons ?_ w_nil))))))) ?_) (w_go f27)))) ?_) (w_go (w_reg (w_cons ?_ (w_cons ?_ w_nil)) ?_))))))) ?_)
        all_goals (first | (simp only [nz, rn, nzIns, nzFun, h10, f12, f12o, f13, f15, f15o, f16, f16a, f18, o_x_9, Int.reduceLT, Int.reduceEq, List.contains_cons, List.contains_nil, Option.map_some, Option.map_none, reduceIte, reduceCtorEq, Nat.reduceEqDiff, Nat.reduceLT, Nat.reduceBEq, Nat.reduceAdd, Nat.reduceMul, Nat.reduceLeDiff, Nat.reduceSub, Bool.false_eq_true]; try rfl) | skip)
  · refine sim_some ?_
    refine' (w_fgt (w_seq (w_reg (w_cons ?_ w_nil) ?_) (w_go (w_seq (w_condf ?_ (w_exit ?_) ?_) w_gox))) ?_)
    all_goals (first | (simp only [nz, rn, nzIns, nzFun, h10, Int.reduceLT, Int.reduceEq, List.contains_cons, List.contains_nil, Option.map_some, Option.map_none, reduceIte, reduceCtorEq, Nat.reduceEqDiff, Nat.reduceLT, Nat.reduceBEq, Nat.reduceAdd, Nat.reduceMul, Nat.reduceLeDiff, Nat.reduceSub, Bool.false_eq_true]; try rfl) | skip)
theorem graph_Succs_l20_ok (p0 : Fun) (v3 : Int) (x_4 : List Ins) (x_5 : Ins) (s : List (List Int) × Int) : Sim (graph_Succs_l20 p0 v3 x_4 x_5 s) fun r => evX (evI T) (.loop x13_2 [1, 3, 4, 5, 13, 14, 15, 26, 27, 28]) [(1, .box [.str p0.Name, .sl p0.Params.length (p0.Params.flatMap (cint .i64)), .int .i64 p0.Ret, .sl p0.Blocks.length (p0.Blocks.flatMap (csl cIns)), .int .i64 p0.At]), (3, mkOwn 1 s.1.length (s.1.flatMap (cow 1 (cint .i64)))), (4, .int .i64 v3), (5, .sl x_4.length (x_4.flatMap cIns)), (13, .sl p0.Blocks.length (p0.Blocks.flatMap (csl cIns))), (14, .int .i64 ((p0.Blocks.length : Int))), (15, .int .i64 v3), (26, .sl x_5.To.length (x_5.To.flatMap (cint .i64))), (27, .int .i64 ((x_5.To.length : Int))), (28, .int .i64 s.2)] = some (.exit 2, [(1, .box [.str p0.Name, .sl p0.Params.length (p0.Params.flatMap (cint .i64)), .int .i64 p0.Ret, .sl p0.Blocks.length (p0.Blocks.flatMap (csl cIns)), .int .i64 p0.At]), (3, mkOwn 1 r.length (r.flatMap (cow 1 (cint .i64)))), (13, .sl p0.Blocks.length (p0.Blocks.flatMap (csl cIns))), (14, .int .i64 ((p0.Blocks.length : Int))), (15, .int .i64 v3)]) := by
  unfold graph_Succs_l20
  exact loop_rule (C := evI T) (b := x13_2) (ks := [1, 3, 4, 5, 13, 14, 15, 26, 27, 28]) (σ := List (List Int) × Int) (ρ := List (List Int)) (body := fun s => graph_Succs_l20_b p0 v3 x_4 x_5 s.1 s.2) (E := fun s => [(1, .box [.str p0.Name, .sl p0.Params.length (p0.Params.flatMap (cint .i64)), .int .i64 p0.Ret, .sl p0.Blocks.length (p0.Blocks.flatMap (csl cIns)), .int .i64 p0.At]), (3, mkOwn 1 s.1.length (s.1.flatMap (cow 1 (cint .i64)))), (4, .int .i64 v3), (5, .sl x_4.length (x_4.flatMap cIns)), (13, .sl p0.Blocks.length (p0.Blocks.flatMap (csl cIns))), (14, .int .i64 ((p0.Blocks.length : Int))), (15, .int .i64 v3), (26, .sl x_5.To.length (x_5.To.flatMap (cint .i64))), (27, .int .i64 ((x_5.To.length : Int))), (28, .int .i64 s.2)]) (R := fun r => (.exit 2, [(1, .box [.str p0.Name, .sl p0.Params.length (p0.Params.flatMap (cint .i64)), .int .i64 p0.Ret, .sl p0.Blocks.length (p0.Blocks.flatMap (csl cIns)), .int .i64 p0.At]), (3, mkOwn 1 r.length (r.flatMap (cow 1 (cint .i64)))), (13, .sl p0.Blocks.length (p0.Blocks.flatMap (csl cIns))), (14, .int .i64 ((p0.Blocks.length : Int))), (15, .int .i64 v3)])) (fun r h => nomatch h) (fun s => graph_Succs_l20_bok p0 v3 x_4 x_5 s.1 s.2) s
theorem graph_Succs_l21_bok (p0 : Fun) (out2 : List (List Int)) (v3 : Int) : Sim (graph_Succs_l21_b p0 out2 v3) fun x => fgt [1, 3, 13, 14, 15] (evX (evI T) x13_3 [(1, .box [.str p0.Name, .sl p0.Params.length (p0.Params.flatMap (cint .i64)), .int .i64 p0.Ret, .sl p0.Blocks.length (p0.Blocks.flatMap (csl cIns)), .int .i64 p0.At]), (3, mkOwn 1 out2.length (out2.flatMap (cow 1 (cint .i64)))), (13, .sl p0.Blocks.length (p0.Blocks.flatMap (csl cIns))), (14, .int .i64 ((p0.Blocks.length : Int))), (15, .int .i64 v3)]) = some (stpK (fun s => (.norm, [(1, .box [.str p0.Name, .sl p0.Params.length (p0.Params.flatMap (cint .i64)), .int .i64 p0.Ret, .sl p0.Blocks.length (p0.Blocks.flatMap (csl cIns)), .int .i64 p0.At]), (3, mkOwn 1 s.1.length (s.1.flatMap (cow 1 (cint .i64)))), (13, .sl p0.Blocks.length (p0.Blocks.flatMap (csl cIns))), (14, .int .i64 ((p0.Blocks.length : Int))), (15, .int .i64 s.2)])) (fun r => (.exit 0, [(3, mkOwn 1 r.length (r.flatMap (cow 1 (cint .i64))))])) x) := by
  unfold graph_Succs_l21_b
  refine sim_if (fun h3 => ?_) (fun h3 => ?_)
  · refine sim_bind (fun x_4 h4 => ?_)
    have f5 := ix_ok h4
    have f5o := ix_own2 h4
    have f6 := ix_cells (sz_sl cIns) h4
    simp only [nz, nzIns, nzFun] at f6
    refine sim_bind (fun x_5 h7 => ?_)
    have f8 := ix_ok h7
    have f8o := ix_own2 h7
    have f9 := ix_cells szIns h7
    simp only [nz, nzIns, nzFun] at f9
    refine sim_bind (fun out14 h28 => ?_)
    have f29 := graph_Succs_l20_ok p0 v3 x_4 x_5 (out2, 0) _ h28
    dsimp only at f29
    refine sim_some ?_
    try simp only [nz, nzIns, nzFun, f8o] at f29
    all_goals
      refine' (w_fgt (w_seq (w_reg (w_cons ?_ w_nil) ?_) (w_go (w_seq (w_condt ?_ w_skip ?_) (w_go (w_seq (w_block (w_seq (w_reg (w_cons ?_ (w_cons ?_ (w_cons ?_ (w_cons ?_ (w_cons ?_ w_nil))))) ?_) (w_go (w_seq (w_reg (w_cons ?_ (w_cons ?_ (w_cons ?_ (w_cons ?_ (w_cons ?_ (w_cons ?_ (w_cons ?_ (w_cons ?_ (w_cons ?_ w_nil))))))))) ?_) (w_go (w_block f29 ?_))))) ?_) (w_go (w_reg (w_cons ?_ (w_cons ?_ w_nil)) ?_))))))) ?_)
      all_goals (first | (simp only [nz, rn, nzIns, nzFun, h3, f5, f5o, f6, f8, f8o, f9, Int.reduceLT, Int.reduceEq, List.contains_cons, List.contains_nil, Option.map_some, Option.map_none, reduceIte, reduceCtorEq, Nat.reduceEqDiff, Nat.reduceLT, Nat.reduceBEq, Nat.reduceAdd, Nat.reduceMul, Nat.reduceLeDiff, Nat.reduceSub, Bool.false_eq_true]; try rfl) | skip)
  · refine sim_some ?_
    refine' (w_fgt (w_seq (w_reg (w_cons ?_ w_nil) ?_) (w_go (w_seq (w_condf ?_ (w_exit ?_) ?_) w_gox))) ?_)
    all_goals (first | (simp only [nz, rn, nzIns, nzFun, h3, Int.reduceLT, Int.reduceEq, List.contains_cons, List.contains_nil, Option.map_some, Option.map_none, reduceIte, reduceCtorEq, Nat.reduceEqDiff, Nat.reduceLT, Nat.reduceBEq, Nat.reduceAdd, Nat.reduceMul, Nat.reduceLeDiff, Nat.reduceSub, Bool.false_eq_true]; try rfl) | skip)
theorem graph_Succs_l21_ok (p0 : Fun) (s : List (List Int) × Int) : Sim (graph_Succs_l21 p0 s) fun r => evX (evI T) (.loop x13_3 [1, 3, 13, 14, 15]) [(1, .box [.str p0.Name, .sl p0.Params.length (p0.Params.flatMap (cint .i64)), .int .i64 p0.Ret, .sl p0.Blocks.length (p0.Blocks.flatMap (csl cIns)), .int .i64 p0.At]), (3, mkOwn 1 s.1.length (s.1.flatMap (cow 1 (cint .i64)))), (13, .sl p0.Blocks.length (p0.Blocks.flatMap (csl cIns))), (14, .int .i64 ((p0.Blocks.length : Int))), (15, .int .i64 s.2)] = some (.exit 0, [(3, mkOwn 1 r.length (r.flatMap (cow 1 (cint .i64))))]) := by
  unfold graph_Succs_l21
  exact loop_rule (C := evI T) (b := x13_3) (ks := [1, 3, 13, 14, 15]) (σ := List (List Int) × Int) (ρ := List (List Int)) (body := fun s => graph_Succs_l21_b p0 s.1 s.2) (E := fun s => [(1, .box [.str p0.Name, .sl p0.Params.length (p0.Params.flatMap (cint .i64)), .int .i64 p0.Ret, .sl p0.Blocks.length (p0.Blocks.flatMap (csl cIns)), .int .i64 p0.At]), (3, mkOwn 1 s.1.length (s.1.flatMap (cow 1 (cint .i64)))), (13, .sl p0.Blocks.length (p0.Blocks.flatMap (csl cIns))), (14, .int .i64 ((p0.Blocks.length : Int))), (15, .int .i64 s.2)]) (R := fun r => (.exit 0, [(3, mkOwn 1 r.length (r.flatMap (cow 1 (cint .i64))))])) (fun r h => nomatch h) (fun s => graph_Succs_l21_bok p0 s.1 s.2) s
theorem graph_Succs_ok (p0 : Fun) : Sim (graph_Succs p0) fun r => evI T 13 [.agg [.str p0.Name, .sl p0.Params.length (p0.Params.flatMap (cint .i64)), .int .i64 p0.Ret, .sl p0.Blocks.length (p0.Blocks.flatMap (csl cIns)), .int .i64 p0.At]] = some (.sl r.length (r.flatMap (csl (cint .i64))), [.none]) := by
  unfold graph_Succs
  refine sim_bind (fun l_1 h1 => ?_)
  have f2 := mk_cond h1
  have f2a : mkOwn 1 ((p0.Blocks.length : Int)).toNat (rep ((p0.Blocks.length : Int)).toNat [.nils]) = mkOwn 1 l_1.length (l_1.flatMap (cow 1 (cint .i64))) := mk_own h1 (cow 1 (cint .i64)) 1
  refine sim_bind (fun out15 h30 => ?_)
  have f31 := graph_Succs_l21_ok p0 (l_1, 0) _ h30
  dsimp only at f31
  refine sim_some ?_
  refine evI_ret (x := x13) rfl rfl rfl ?_
  rcases own_cases l_1 with rfl | o_l_1
  · rcases own_cases out15 with rfl | o_out15
    · try simp only [nz, nzIns, nzFun] at f31
      all_goals
        refine' (w_fn rfl rfl (w_seq (w_reg (w_cons ?_ (w_cons ?_ w_nil)) ?_) (w_go (w_seq (w_reg (w_cons ?_ (w_cons ?_ (w_cons ?_ (w_cons ?_ (w_cons ?_ w_nil))))) ?_) (w_go (w_seq (w_seq (w_reg (w_cons ?_ (w_cons ?_ (w_cons ?_ (w_cons ?_ w_nil)))) ?_) (w_go (w_block f31 ?_))) (w_go (w_seq (w_reg (w_cons ?_ (w_cons ?_ w_nil)) ?_) (w_go w_ret)))))))) ?_)
        all_goals (first | (simp only [x13, nz, rn, nzIns, nzFun, f2, f2a, Int.reduceLT, Int.reduceEq, List.contains_cons, List.contains_nil, Option.map_some, Option.map_none, reduceIte, reduceCtorEq, Nat.reduceEqDiff, Nat.reduceLT, Nat.reduceBEq, Nat.reduceAdd, Nat.reduceMul, Nat.reduceLeDiff, Nat.reduceSub, Bool.false_eq_true]; try rfl) | skip)
    · try simp only [nz, nzIns, nzFun, o_out15] at f31
      all_goals
        refine' (w_fn rfl rfl (w_seq (w_reg (w_cons ?_ (w_cons ?_ w_nil)) ?_) (w_go (w_seq (w_reg (w_cons ?_ (w_cons ?_ (w_cons ?_ (w_cons ?_ (w_cons ?_ w_nil))))) ?_) (w_go (w_seq (w_seq (w_reg (w_cons ?_ (w_cons ?_ (w_cons ?_ (w_cons ?_ w_nil)))) ?_) (w_go (w_block f31 ?_))) (w_go (w_seq (w_reg (w_cons ?_ (w_cons ?_ w_nil)) ?_) (w_go w_ret)))))))) ?_)
        all_goals (first | (simp only [x13, nz, rn, nzIns, nzFun, f2, f2a, o_out15, Int.reduceLT, Int.reduceEq, List.contains_cons, List.contains_nil, Option.map_some, Option.map_none, reduceIte, reduceCtorEq, Nat.reduceEqDiff, Nat.reduceLT, Nat.reduceBEq, Nat.reduceAdd, Nat.reduceMul, Nat.reduceLeDiff, Nat.reduceSub, Bool.false_eq_true]; try rfl) | skip)
  · rcases own_cases out15 with rfl | o_out15
    · try simp only [nz, nzIns, nzFun, o_l_1] at f31
      all_goals
        refine' (w_fn rfl rfl (w_seq (w_reg (w_cons ?_ (w_cons ?_ w_nil)) ?_) (w_go (w_seq (w_reg (w_cons ?_ (w_cons ?_ (w_cons ?_ (w_cons ?_ (w_cons ?_ w_nil))))) ?_) (w_go (w_seq (w_seq (w_reg (w_cons ?_ (w_cons ?_ (w_cons ?_ (w_cons ?_ w_nil)))) ?_) (w_go (w_block f31 ?_))) (w_go (w_seq (w_reg (w_cons ?_ (w_cons ?_ w_nil)) ?_) (w_go w_ret)))))))) ?_)
        all_goals (first | (simp only [x13, nz, rn, nzIns, nzFun, f2, f2a, o_l_1, Int.reduceLT, Int.reduceEq, List.contains_cons, List.contains_nil, Option.map_some, Option.map_none, reduceIte, reduceCtorEq, Nat.reduceEqDiff, Nat.reduceLT, Nat.reduceBEq, Nat.reduceAdd, Nat.reduceMul, Nat.reduceLeDiff, Nat.reduceSub, Bool.false_eq_true]; try rfl) | skip)
    · try simp only [nz, nzIns, nzFun, o_l_1, o_out15] at f31
      all_goals
        refine' (w_fn rfl rfl (w_seq (w_reg (w_cons ?_ (w_cons ?_ w_nil)) ?_) (w_go (w_seq (w_reg (w_cons ?_ (w_cons ?_ (w_cons ?_ (w_cons ?_ (w_cons ?_ w_nil))))) ?_) (w_go (w_seq (w_seq (w_reg (w_cons ?_ (w_cons ?_ (w_cons ?_ (w_cons ?_ w_nil)))) ?_) (w_go (w_block f31 ?_))) (w_go (w_seq (w_reg (w_cons ?_ (w_cons ?_ w_nil)) ?_) (w_go w_ret)))))))) ?_)
        all_goals (first | (simp only [x13, nz, rn, nzIns, nzFun, f2, f2a, o_l_1, o_out15, Int.reduceLT, Int.reduceEq, List.contains_cons, List.contains_nil, Option.map_some, Option.map_none, reduceIte, reduceCtorEq, Nat.reduceEqDiff, Nat.reduceLT, Nat.reduceBEq, Nat.reduceAdd, Nat.reduceMul, Nat.reduceLeDiff, Nat.reduceSub, Bool.false_eq_true]; try rfl) | skip)
theorem graph_Succs_okN (p0 : Fun) : Sim (graph_Succs p0) fun r => ∀ ws, ws.map normA = [.agg [.str p0.Name, .sl p0.Params.length (p0.Params.flatMap (cint .i64)), .int .i64 p0.Ret, .sl p0.Blocks.length (p0.Blocks.flatMap (csl cIns)), .int .i64 p0.At]] → evI T 13 ws = some (.sl r.length (r.flatMap (csl (cint .i64))), [.none]) := fun r h => evI_okN (x := x13) rfl rfl rfl (graph_Succs_ok p0 r h)
end Go.Ab

/-
  Printed by gen.py.
-/
namespace Go.Ab
open Go
set_option linter.unusedVariables false
set_option linter.unusedSimpArgs false
set_option maxRecDepth 100000
set_option maxHeartbeats 4000000
theorem graph_Reached_j7_ok (p0 : List (List Int)) (p1 : List Int) (p2 : Int) (v2 : List Bool) (v3 : List Int) (v4 : Int) (x_5 : Int) : Sim (graph_Reached_j7 p0 p1 p2 v2 v3 v4 x_5) fun r => evX (evI T) x24_1 [(0, .sl p0.length (p0.flatMap (csl (cint .i64)))), (1, .sl p1.length (p1.flatMap (cint .i64))), (2, .int .i64 p2), (7, mkOwn 1 v2.length (v2.flatMap cbool)), (8, mkOwn 1 v3.length (v3.flatMap (cint .i64))), (10, .int .i64 x_5), (19, .sl p1.length (p1.flatMap (cint .i64))), (20, .int .i64 ((p1.length : Int))), (21, .int .i64 v4)] = some (.norm, [(0, .sl p0.length (p0.flatMap (csl (cint .i64)))), (1, .sl p1.length (p1.flatMap (cint .i64))), (2, .int .i64 p2), (7, mkOwn 1 v2.length (v2.flatMap cbool)), (8, mkOwn 1 v3.length (v3.flatMap (cint .i64))), (10, .int .i64 x_5), (19, .sl p1.length (p1.flatMap (cint .i64))), (20, .int .i64 ((p1.length : Int))), (21, .int .i64 v4), (34, .bool r)]) := by
  unfold graph_Reached_j7
  refine sim_if (fun h7 => ?_) (fun h7 => ?_)
  · refine sim_bind (fun x_6 h8 => ?_)
    have f9 := ix_ok h8
    have f9o := ix_own2 h8
    have f10 : (v2.flatMap cbool)[x_5.toNat * 1]? = some (.bool x_6) := ix_cell0 sz_bool h8 rfl
    have f10a : (x_5.toNat * 1 + 1 ≤ v2.length * 1) = True := ix_le0 sz_bool h8 (by decide)
    refine sim_some ?_
    refine' (w_reg (w_cons ?_ (w_cons ?_ (w_cons ?_ (w_cons ?_ (w_cons ?_ (w_cons ?_ (w_cons ?_ (w_cons ?_ (w_cons ?_ (w_cons ?_ w_nil)))))))))) ?_)
    all_goals (first | (simp only [nz, rn, h7, f9, f9o, f10, f10a, Int.reduceLT, Int.reduceEq, List.contains_cons, List.contains_nil, Option.map_some, Option.map_none, reduceIte, reduceCtorEq, Nat.reduceEqDiff, Nat.reduceLT, Nat.reduceBEq, Nat.reduceAdd, Nat.reduceMul, Nat.reduceLeDiff, Nat.reduceSub, Bool.false_eq_true]; try rfl) | skip)
  · refine sim_some ?_
    refine' (w_reg (w_cons ?_ (w_cons ?_ (w_cons ?_ (w_cons ?_ (w_cons ?_ (w_cons ?_ (w_cons ?_ (w_cons ?_ (w_cons ?_ (w_cons ?_ w_nil)))))))))) ?_)
    all_goals (first | (simp only [nz, rn, h7, Int.reduceLT, Int.reduceEq, List.contains_cons, List.contains_nil, Option.map_some, Option.map_none, reduceIte, reduceCtorEq, Nat.reduceEqDiff, Nat.reduceLT, Nat.reduceBEq, Nat.reduceAdd, Nat.reduceMul, Nat.reduceLeDiff, Nat.reduceSub, Bool.false_eq_true]; try rfl) | skip)
theorem graph_Reached_j8_ok (p0 : List (List Int)) (p1 : List Int) (p2 : Int) (v2 : List Bool) (v3 : List Int) (v4 : Int) (x_5 : Int) (v7 : Bool) : Sim (graph_Reached_j8 p0 p1 p2 v2 v3 v4 x_5 v7) fun r => evX (evI T) x24_2 [(0, .sl p0.length (p0.flatMap (csl (cint .i64)))), (1, .sl p1.length (p1.flatMap (cint .i64))), (2, .int .i64 p2), (7, mkOwn 1 v2.length (v2.flatMap cbool)), (8, mkOwn 1 v3.length (v3.flatMap (cint .i64))), (10, .int .i64 x_5), (19, .sl p1.length (p1.flatMap (cint .i64))), (20, .int .i64 ((p1.length : Int))), (21, .int .i64 v4), (34, .bool v7)] = some (.norm, [(0, .sl p0.length (p0.flatMap (csl (cint .i64)))), (1, .sl p1.length (p1.flatMap (cint .i64))), (2, .int .i64 p2), (7, mkOwn 1 r.1.length (r.1.flatMap cbool)), (8, mkOwn 1 r.2.length (r.2.flatMap (cint .i64))), (19, .sl p1.length (p1.flatMap (cint .i64))), (20, .int .i64 ((p1.length : Int))), (21, .int .i64 v4)]) := by
  unfold graph_Reached_j8
  refine sim_if (fun h13 => ?_) (fun h13 => ?_)
  · refine sim_bind (fun x_8 h14 => ?_)
    have f15 := ix_ok h14
    have f15o := ix_own2 h14
    have f16 : setCells (v2.flatMap cbool) (x_5.toNat * 1) [.bool true] = (v2.set x_5.toNat true).flatMap cbool := ix_set sz_bool h14 _
    have f16a := ix_le sz_bool h14
    refine sim_bind (fun l_9 h17 => ?_)
    have f18 := app1_cond h17
    try simp only [nz, Nat.reduceLeDiff, Nat.reduceAdd, Nat.reduceMul, Nat.reduceSub] at f18
    have f18a : PV.own 1 (v3.length + 1) (v3.flatMap (cint .i64) ++ [.int .i64 x_5]) = .own 1 l_9.length (l_9.flatMap (cint .i64)) := app1_own h17 (cint .i64) 1
    have f18o := app1_own2 h17
    refine sim_some ?_
    rcases own_cases v3 with rfl | o_v3
    · obtain rfl := app_eq h17
      refine' (w_condt ?_ (w_seq (w_reg (w_cons ?_ (w_cons ?_ (w_cons ?_ (w_cons ?_ w_nil)))) ?_) (w_go (w_reg (w_cons ?_ (w_cons ?_ (w_cons ?_ (w_cons ?_ (w_cons ?_ w_nil))))) ?_))) ?_)
      all_goals (first | (simp only [nz, rn, h13, f15, f15o, f16, f16a, Int.reduceLT, Int.reduceEq, List.contains_cons, List.contains_nil, Option.map_some, Option.map_none, reduceIte, reduceCtorEq, Nat.reduceEqDiff, Nat.reduceLT, Nat.reduceBEq, Nat.reduceAdd, Nat.reduceMul, Nat.reduceLeDiff, Nat.reduceSub, Bool.false_eq_true]; try rfl) | skip)
    · refine' (w_condt ?_ (w_seq (w_reg (w_cons ?_ (w_cons ?_ (w_cons ?_ (w_cons ?_ w_nil)))) ?_) (w_go (w_reg (w_cons ?_ (w_cons ?_ (w_cons ?_ (w_cons ?_ (w_cons ?_ w_nil))))) ?_))) ?_)
      all_goals (first | (simp only [nz, rn, h13, f15, f15o, f16, f16a, f18, f18a, f18o, o_v3, Int.reduceLT, Int.reduceEq, List.contains_cons, List.contains_nil, Option.map_some, Option.map_none, reduceIte, reduceCtorEq, Nat.reduceEqDiff, Nat.reduceLT, Nat.reduceBEq, Nat.reduceAdd, Nat.reduceMul, Nat.reduceLeDiff, Nat.reduceSub, Bool.false_eq_true]; try rfl) | skip)
  · refine sim_some ?_
    refine' (w_condf ?_ w_skip ?_)
    all_goals (first | (simp only [nz, rn, h13, Int.reduceLT, Int.reduceEq, List.contains_cons, List.contains_nil, Option.map_some, Option.map_none, reduceIte, reduceCtorEq, Nat.reduceEqDiff, Nat.reduceLT, Nat.reduceBEq, Nat.reduceAdd, Nat.reduceMul, Nat.reduceLeDiff, Nat.reduceSub, Bool.false_eq_true]; try rfl) | skip)
theorem graph_Reached_l9_bok (p0 : List (List Int)) (p1 : List Int) (p2 : Int) (v2 : List Bool) (v3 : List Int) (v4 : Int) : Sim (graph_Reached_l9_b p0 p1 p2 v2 v3 v4) fun x => fgt [0, 1, 2, 7, 8, 19, 20, 21] (evX (evI T) x24_3 [(0, .sl p0.length (p0.flatMap (csl (cint .i64)))), (1, .sl p1.length (p1.flatMap (cint .i64))), (2, .int .i64 p2), (7, mkOwn 1 v2.length (v2.flatMap cbool)), (8, mkOwn 1 v3.length (v3.flatMap (cint .i64))), (19, .sl p1.length (p1.flatMap (cint .i64))), (20, .int .i64 ((p1.length : Int))), (21, .int .i64 v4)]) = some (stpK (fun s => (.norm, [(0, .sl p0.length (p0.flatMap (csl (cint .i64)))), (1, .sl p1.length (p1.flatMap (cint .i64))), (2, .int .i64 p2), (7, mkOwn 1 s.1.length (s.1.flatMap cbool)), (8, mkOwn 1 s.2.1.length (s.2.1.flatMap (cint .i64))), (19, .sl p1.length (p1.flatMap (cint .i64))), (20, .int .i64 ((p1.length : Int))), (21, .int .i64 s.2.2)])) (fun r => (.exit 0, [(0, .sl p0.length (p0.flatMap (csl (cint .i64)))), (2, .int .i64 p2), (7, mkOwn 1 r.1.length (r.1.flatMap cbool)), (8, mkOwn 1 r.2.length (r.2.flatMap (cint .i64)))])) x) := by
  unfold graph_Reached_l9_b
  refine sim_if (fun h3 => ?_) (fun h3 => ?_)
  · refine sim_bind (fun x_5 h4 => ?_)
    have f5 := ix_ok h4
    have f5o := ix_own2 h4
    have f6 := ix_cells (sz_int .i64) h4
    simp only [nz] at f6
    refine sim_bind (fun v7 h11 => ?_)
    have f12 := graph_Reached_j7_ok p0 p1 p2 v2 v3 v4 x_5 _ h11
    dsimp only at f12
    refine sim_bind (fun qh19 h19 => ?_)
    obtain ⟨v10, v11⟩ := qh19
    dsimp only
    have f20 := graph_Reached_j8_ok p0 p1 p2 v2 v3 v4 x_5 v7 _ h19
    dsimp only at f20
    refine sim_some ?_
    try simp only [nz, f5o] at f12
    try simp only [nz, f5o] at f20
    all_goals
      refine' (w_fgt (w_seq (w_reg (w_cons ?_ w_nil) ?_) (w_go (w_seq (w_condt ?_ w_skip ?_) (w_go (w_seq (w_block (w_seq (w_reg (w_cons ?_ (w_cons ?_ (w_cons ?_ w_nil))) ?_) (w_go (w_seq f12 (w_go f20)))) ?_) (w_go (w_reg (w_cons ?_ (w_cons ?_ w_nil)) ?_))))))) ?_)
      all_goals (first | (simp only [nz, rn, h3, f5, f5o, f6, Int.reduceLT, Int.reduceEq, List.contains_cons, List.contains_nil, Option.map_some, Option.map_none, reduceIte, reduceCtorEq, Nat.reduceEqDiff, Nat.reduceLT, Nat.reduceBEq, Nat.reduceAdd, Nat.reduceMul, Nat.reduceLeDiff, Nat.reduceSub, Bool.false_eq_true]; try rfl) | skip)
  · refine sim_some ?_
    refine' (w_fgt (w_seq (w_reg (w_cons ?_ w_nil) ?_) (w_go (w_seq (w_condf ?_ (w_exit ?_) ?_) w_gox))) ?_)
    all_goals (first | (simp only [nz, rn, h3, Int.reduceLT, Int.reduceEq, List.contains_cons, List.contains_nil, Option.map_some, Option.map_none, reduceIte, reduceCtorEq, Nat.reduceEqDiff, Nat.reduceLT, Nat.reduceBEq, Nat.reduceAdd, Nat.reduceMul, Nat.reduceLeDiff, Nat.reduceSub, Bool.false_eq_true]; try rfl) | skip)
theorem graph_Reached_l9_ok (p0 : List (List Int)) (p1 : List Int) (p2 : Int) (s : List Bool × List Int × Int) : Sim (graph_Reached_l9 p0 p1 p2 s) fun r => evX (evI T) (.loop x24_3 [0, 1, 2, 7, 8, 19, 20, 21]) [(0, .sl p0.length (p0.flatMap (csl (cint .i64)))), (1, .sl p1.length (p1.flatMap (cint .i64))), (2, .int .i64 p2), (7, mkOwn 1 s.1.length (s.1.flatMap cbool)), (8, mkOwn 1 s.2.1.length (s.2.1.flatMap (cint .i64))), (19, .sl p1.length (p1.flatMap (cint .i64))), (20, .int .i64 ((p1.length : Int))), (21, .int .i64 s.2.2)] = some (.exit 0, [(0, .sl p0.length (p0.flatMap (csl (cint .i64)))), (2, .int .i64 p2), (7, mkOwn 1 r.1.length (r.1.flatMap cbool)), (8, mkOwn 1 r.2.length (r.2.flatMap (cint .i64)))]) := by
  unfold graph_Reached_l9
  exact loop_rule (C := evI T) (b := x24_3) (ks := [0, 1, 2, 7, 8, 19, 20, 21]) (σ := List Bool × List Int × Int) (ρ := List Bool × List Int) (body := fun s => graph_Reached_l9_b p0 p1 p2 s.1 s.2.1 s.2.2) (E := fun s => [(0, .sl p0.length (p0.flatMap (csl (cint .i64)))), (1, .sl p1.length (p1.flatMap (cint .i64))), (2, .int .i64 p2), (7, mkOwn 1 s.1.length (s.1.flatMap cbool)), (8, mkOwn 1 s.2.1.length (s.2.1.flatMap (cint .i64))), (19, .sl p1.length (p1.flatMap (cint .i64))), (20, .int .i64 ((p1.length : Int))), (21, .int .i64 s.2.2)]) (R := fun r => (.exit 0, [(0, .sl p0.length (p0.flatMap (csl (cint .i64)))), (2, .int .i64 p2), (7, mkOwn 1 r.1.length (r.1.flatMap cbool)), (8, mkOwn 1 r.2.length (r.2.flatMap (cint .i64)))])) (fun r h => nomatch h) (fun s => graph_Reached_l9_bok p0 p1 p2 s.1 s.2.1 s.2.2) s
theorem graph_Reached_j154_ok (p0 : List (List Int)) (p2 : Int) (v15 : List Int) (v16 : Int) (v19 : Int) (x_21 : List Int) (v22 : List Bool) (v23 : List Int) (v24 : Int) (x_25 : Int) : Sim (graph_Reached_j154 p0 p2 v15 v16 v19 x_21 v22 v23 v24 x_25) fun r => evX (evI T) x24_4 [(0, .sl p0.length (p0.flatMap (csl (cint .i64)))), (2, .int .i64 p2), (7, mkOwn 1 v22.length (v22.flatMap cbool)), (8, mkOwn 1 v15.length (v15.flatMap (cint .i64))), (11, mkOwn 1 v23.length (v23.flatMap (cint .i64))), (15, .int .i64 x_25), (44, .int .i64 ((p0.length : Int))), (45, .int .i64 v16), (50, mkView 8 [] v15.length 1), (51, .int .i64 ((v15.length : Int))), (52, .int .i64 v19), (59, .sl x_21.length (x_21.flatMap (cint .i64))), (60, .int .i64 ((x_21.length : Int))), (61, .int .i64 v24)] = some (.norm, [(0, .sl p0.length (p0.flatMap (csl (cint .i64)))), (2, .int .i64 p2), (7, mkOwn 1 v22.length (v22.flatMap cbool)), (8, mkOwn 1 v15.length (v15.flatMap (cint .i64))), (11, mkOwn 1 v23.length (v23.flatMap (cint .i64))), (15, .int .i64 x_25), (44, .int .i64 ((p0.length : Int))), (45, .int .i64 v16), (50, mkView 8 [] v15.length 1), (51, .int .i64 ((v15.length : Int))), (52, .int .i64 v19), (59, .sl x_21.length (x_21.flatMap (cint .i64))), (60, .int .i64 ((x_21.length : Int))), (61, .int .i64 v24), (74, .bool r)]) := by
  unfold graph_Reached_j154
  refine sim_if (fun h36 => ?_) (fun h36 => ?_)
  · refine sim_bind (fun x_26 h37 => ?_)
    have f38 := ix_ok h37
    have f38o := ix_own2 h37
    have f39 : (v22.flatMap cbool)[x_25.toNat * 1]? = some (.bool x_26) := ix_cell0 sz_bool h37 rfl
    have f39a : (x_25.toNat * 1 + 1 ≤ v22.length * 1) = True := ix_le0 sz_bool h37 (by decide)
    refine sim_some ?_
    rcases own_cases v15 with rfl | o_v15
    · refine' (w_reg (w_cons ?_ (w_cons ?_ (w_cons ?_ (w_cons ?_ (w_cons ?_ (w_cons ?_ (w_cons ?_ (w_cons ?_ (w_cons ?_ (w_cons ?_ w_nil)))))))))) ?_)
      all_goals (first | (simp only [nz, rn, h36, f38, f38o, f39, f39a, Int.reduceLT, Int.reduceEq, List.contains_cons, List.contains_nil, Option.map_some, Option.map_none, reduceIte, reduceCtorEq, Nat.reduceEqDiff, Nat.reduceLT, Nat.reduceBEq, Nat.reduceAdd, Nat.reduceMul, Nat.reduceLeDiff, Nat.reduceSub, Bool.false_eq_true]; try rfl) | skip)
    · refine' (w_reg (w_cons ?_ (w_cons ?_ (w_cons ?_ (w_cons ?_ (w_cons ?_ (w_cons ?_ (w_cons ?_ (w_cons ?_ (w_cons ?_ (w_cons ?_ w_nil)))))))))) ?_)
      all_goals (first | (simp only [nz, rn, h36, f38, f38o, f39, f39a, o_v15, Int.reduceLT, Int.reduceEq, List.contains_cons, List.contains_nil, Option.map_some, Option.map_none, reduceIte, reduceCtorEq, Nat.reduceEqDiff, Nat.reduceLT, Nat.reduceBEq, Nat.reduceAdd, Nat.reduceMul, Nat.reduceLeDiff, Nat.reduceSub, Bool.false_eq_true]; try rfl) | skip)
  · refine sim_some ?_
    rcases own_cases v15 with rfl | o_v15
    · refine' (w_reg (w_cons ?_ (w_cons ?_ (w_cons ?_ (w_cons ?_ (w_cons ?_ (w_cons ?_ (w_cons ?_ (w_cons ?_ (w_cons ?_ (w_cons ?_ w_nil)))))))))) ?_)
      all_goals (first | (simp only [nz, rn, h36, Int.reduceLT, Int.reduceEq, List.contains_cons, List.contains_nil, Option.map_some, Option.map_none, reduceIte, reduceCtorEq, Nat.reduceEqDiff, Nat.reduceLT, Nat.reduceBEq, Nat.reduceAdd, Nat.reduceMul, Nat.reduceLeDiff, Nat.reduceSub, Bool.false_eq_true]; try rfl) | skip)
    · refine' (w_reg (w_cons ?_ (w_cons ?_ (w_cons ?_ (w_cons ?_ (w_cons ?_ (w_cons ?_ (w_cons ?_ (w_cons ?_ (w_cons ?_ (w_cons ?_ w_nil)))))))))) ?_)
      all_goals (first | (simp only [nz, rn, h36, o_v15, Int.reduceLT, Int.reduceEq, List.contains_cons, List.contains_nil, Option.map_some, Option.map_none, reduceIte, reduceCtorEq, Nat.reduceEqDiff, Nat.reduceLT, Nat.reduceBEq, Nat.reduceAdd, Nat.reduceMul, Nat.reduceLeDiff, Nat.reduceSub, Bool.false_eq_true]; try rfl) | skip)
theorem graph_Reached_j155_ok (p0 : List (List Int)) (p2 : Int) (v15 : List Int) (v16 : Int) (v19 : Int) (x_21 : List Int) (v22 : List Bool) (v23 : List Int) (v24 : Int) (x_25 : Int) (v27 : Bool) : Sim (graph_Reached_j155 p0 p2 v15 v16 v19 x_21 v22 v23 v24 x_25 v27) fun r => evX (evI T) x24_5 [(0, .sl p0.length (p0.flatMap (csl (cint .i64)))), (2, .int .i64 p2), (7, mkOwn 1 v22.length (v22.flatMap cbool)), (8, mkOwn 1 v15.length (v15.flatMap (cint .i64))), (11, mkOwn 1 v23.length (v23.flatMap (cint .i64))), (15, .int .i64 x_25), (44, .int .i64 ((p0.length : Int))), (45, .int .i64 v16), (50, mkView 8 [] v15.length 1), (51, .int .i64 ((v15.length : Int))), (52, .int .i64 v19), (59, .sl x_21.length (x_21.flatMap (cint .i64))), (60, .int .i64 ((x_21.length : Int))), (61, .int .i64 v24), (74, .bool v27)] = some (.norm, [(0, .sl p0.length (p0.flatMap (csl (cint .i64)))), (2, .int .i64 p2), (7, mkOwn 1 r.1.length (r.1.flatMap cbool)), (8, mkOwn 1 v15.length (v15.flatMap (cint .i64))), (11, mkOwn 1 r.2.length (r.2.flatMap (cint .i64))), (44, .int .i64 ((p0.length : Int))), (45, .int .i64 v16), (50, mkView 8 [] v15.length 1), (51, .int .i64 ((v15.length : Int))), (52, .int .i64 v19), (59, .sl x_21.length (x_21.flatMap (cint .i64))), (60, .int .i64 ((x_21.length : Int))), (61, .int .i64 v24)]) := by
  unfold graph_Reached_j155
  refine sim_if (fun h42 => ?_) (fun h42 => ?_)
  · refine sim_bind (fun x_28 h43 => ?_)
    have f44 := ix_ok h43
    have f44o := ix_own2 h43
    have f45 : setCells (v22.flatMap cbool) (x_25.toNat * 1) [.bool true] = (v22.set x_25.toNat true).flatMap cbool := ix_set sz_bool h43 _
    have f45a := ix_le sz_bool h43
    refine sim_bind (fun l_29 h46 => ?_)
    have f47 := app1_cond h46
    try simp only [nz, Nat.reduceLeDiff, Nat.reduceAdd, Nat.reduceMul, Nat.reduceSub] at f47
    have f47a : PV.own 1 (v23.length + 1) (v23.flatMap (cint .i64) ++ [.int .i64 x_25]) = .own 1 l_29.length (l_29.flatMap (cint .i64)) := app1_own h46 (cint .i64) 1
    have f47o := app1_own2 h46
    refine sim_some ?_
    rcases own_cases v15 with rfl | o_v15
    · rcases own_cases v23 with rfl | o_v23
      · obtain rfl := app_eq h46
        refine' (w_condt ?_ (w_seq (w_reg (w_cons ?_ (w_cons ?_ (w_cons ?_ (w_cons ?_ w_nil)))) ?_) (w_go (w_reg (w_cons ?_ (w_cons ?_ (w_cons ?_ (w_cons ?_ (w_cons ?_ w_nil))))) ?_))) ?_)
        all_goals (first | (simp only [nz, rn, h42, f44, f44o, f45, f45a, Int.reduceLT, Int.reduceEq, List.contains_cons, List.contains_nil, Option.map_some, Option.map_none, reduceIte, reduceCtorEq, Nat.reduceEqDiff, Nat.reduceLT, Nat.reduceBEq, Nat.reduceAdd, Nat.reduceMul, Nat.reduceLeDiff, Nat.reduceSub, Bool.false_eq_true]; try rfl) | skip)
      · try simp only [nz, o_v23, f44o, f47o] at f47a
        all_goals
          refine' (w_condt ?_ (w_seq (w_reg (w_cons ?_ (w_cons ?_ (w_cons ?_ (w_cons ?_ w_nil)))) ?_) (w_go (w_reg (w_cons ?_ (w_cons ?_ (w_cons ?_ (w_cons ?_ (w_cons ?_ w_nil))))) ?_))) ?_)
          all_goals (first | (simp only [nz, rn, h42, f44, f44o, f45, f45a, f47, f47a, f47o, o_v23, Int.reduceLT, Int.reduceEq, List.contains_cons, List.contains_nil, Option.map_some, Option.map_none, reduceIte, reduceCtorEq, Nat.reduceEqDiff, Nat.reduceLT, Nat.reduceBEq, Nat.reduceAdd, Nat.reduceMul, Nat.reduceLeDiff, Nat.reduceSub, Bool.false_eq_true]; try rfl) | skip)
    · rcases own_cases v23 with rfl | o_v23
      · obtain rfl := app_eq h46
        refine' (w_condt ?_ (w_seq (w_reg (w_cons ?_ (w_cons ?_ (w_cons ?_ (w_cons ?_ w_nil)))) ?_) (w_go (w_reg (w_cons ?_ (w_cons ?_ (w_cons ?_ (w_cons ?_ (w_cons ?_ w_nil))))) ?_))) ?_)
        all_goals (first | (simp only [nz, rn, h42, f44, f44o, f45, f45a, o_v15, Int.reduceLT, Int.reduceEq, List.contains_cons, List.contains_nil, Option.map_some, Option.map_none, reduceIte, reduceCtorEq, Nat.reduceEqDiff, Nat.reduceLT, Nat.reduceBEq, Nat.reduceAdd, Nat.reduceMul, Nat.reduceLeDiff, Nat.reduceSub, Bool.false_eq_true]; try rfl) | skip)
      · refine' (w_condt ?_ (w_seq (w_reg (w_cons ?_ (w_cons ?_ (w_cons ?_ (w_cons ?_ w_nil)))) ?_) (w_go (w_reg (w_cons ?_ (w_cons ?_ (w_cons ?_ (w_cons ?_ (w_cons ?_ w_nil))))) ?_))) ?_)
        all_goals (first | (simp only [nz, rn, h42, f44, f44o, f45, f45a, f47, f47a, f47o, o_v15, o_v23, Int.reduceLT, Int.reduceEq, List.contains_cons, List.contains_nil, Option.map_some, Option.map_none, reduceIte, reduceCtorEq, Nat.reduceEqDiff, Nat.reduceLT, Nat.reduceBEq, Nat.reduceAdd, Nat.reduceMul, Nat.reduceLeDiff, Nat.reduceSub, Bool.false_eq_true]; try rfl) | skip)
  · refine sim_some ?_
    rcases own_cases v15 with rfl | o_v15
    · refine' (w_condf ?_ w_skip ?_)
      all_goals (first | (simp only [nz, rn, h42, Int.reduceLT, Int.reduceEq, List.contains_cons, List.contains_nil, Option.map_some, Option.map_none, reduceIte, reduceCtorEq, Nat.reduceEqDiff, Nat.reduceLT, Nat.reduceBEq, Nat.reduceAdd, Nat.reduceMul, Nat.reduceLeDiff, Nat.reduceSub, Bool.false_eq_true]; try rfl) | skip)
    · refine' (w_condf ?_ w_skip ?_)
      all_goals (first | (simp only [nz, rn, h42, o_v15, Int.reduceLT, Int.reduceEq, List.contains_cons, List.contains_nil, Option.map_some, Option.map_none, reduceIte, reduceCtorEq, Nat.reduceEqDiff, Nat.reduceLT, Nat.reduceBEq, Nat.reduceAdd, Nat.reduceMul, Nat.reduceLeDiff, Nat.reduceSub, Bool.false_eq_true]; try rfl) | skip)
theorem graph_Reached_l156_bok (p0 : List (List Int)) (p2 : Int) (v15 : List Int) (v16 : Int) (v19 : Int) (x_21 : List Int) (v22 : List Bool) (v23 : List Int) (v24 : Int) : Sim (graph_Reached_l156_b p0 p2 v15 v16 v19 x_21 v22 v23 v24) fun x => fgt [0, 2, 7, 8, 11, 44, 45, 50, 51, 52, 59, 60, 61] (evX (evI T) x24_6 [(0, .sl p0.length (p0.flatMap (csl (cint .i64)))), (2, .int .i64 p2), (7, mkOwn 1 v22.length (v22.flatMap cbool)), (8, mkOwn 1 v15.length (v15.flatMap (cint .i64))), (11, mkOwn 1 v23.length (v23.flatMap (cint .i64))), (44, .int .i64 ((p0.length : Int))), (45, .int .i64 v16), (50, mkView 8 [] v15.length 1), (51, .int .i64 ((v15.length : Int))), (52, .int .i64 v19), (59, .sl x_21.length (x_21.flatMap (cint .i64))), (60, .int .i64 ((x_21.length : Int))), (61, .int .i64 v24)]) = some (stpK (fun s => (.norm, [(0, .sl p0.length (p0.flatMap (csl (cint .i64)))), (2, .int .i64 p2), (7, mkOwn 1 s.1.length (s.1.flatMap cbool)), (8, mkOwn 1 v15.length (v15.flatMap (cint .i64))), (11, mkOwn 1 s.2.1.length (s.2.1.flatMap (cint .i64))), (44, .int .i64 ((p0.length : Int))), (45, .int .i64 v16), (50, mkView 8 [] v15.length 1), (51, .int .i64 ((v15.length : Int))), (52, .int .i64 v19), (59, .sl x_21.length (x_21.flatMap (cint .i64))), (60, .int .i64 ((x_21.length : Int))), (61, .int .i64 s.2.2)])) (fun r => (.exit 6, [(0, .sl p0.length (p0.flatMap (csl (cint .i64)))), (2, .int .i64 p2), (7, mkOwn 1 r.1.length (r.1.flatMap cbool)), (8, mkOwn 1 v15.length (v15.flatMap (cint .i64))), (11, mkOwn 1 r.2.length (r.2.flatMap (cint .i64))), (44, .int .i64 ((p0.length : Int))), (45, .int .i64 v16), (50, mkView 8 [] v15.length 1), (51, .int .i64 ((v15.length : Int))), (52, .int .i64 v19)])) x) := by
  unfold graph_Reached_l156_b
  refine sim_if (fun h32 => ?_) (fun h32 => ?_)
  · refine sim_bind (fun x_25 h33 => ?_)
    have f34 := ix_ok h33
    have f34o := ix_own2 h33
    have f35 := ix_cells (sz_int .i64) h33
    simp only [nz] at f35
    refine sim_bind (fun v27 h40 => ?_)
    have f41 := graph_Reached_j154_ok p0 p2 v15 v16 v19 x_21 v22 v23 v24 x_25 _ h40
    dsimp only at f41
    refine sim_bind (fun qh48 h48 => ?_)
    obtain ⟨v30, v31⟩ := qh48
    dsimp only
    have f49 := graph_Reached_j155_ok p0 p2 v15 v16 v19 x_21 v22 v23 v24 x_25 v27 _ h48
    dsimp only at f49
    refine sim_some ?_
    rcases own_cases v15 with rfl | o_v15
    · try simp only [nz, f34o] at f41
      try simp only [nz, f34o] at f49
      all_goals
        refine' (w_fgt (w_seq (w_reg (w_cons ?_ w_nil) ?_) (w_go (w_seq (w_condt ?_ w_skip ?_) (w_go (w_seq (w_block (w_seq (w_reg (w_cons ?_ (w_cons ?_ (w_cons ?_ w_nil))) ?_) (w_go (w_seq f41 (w_go f49)))) ?_) (w_go (w_reg (w_cons ?_ (w_cons ?_ w_nil)) ?_))))))) ?_)
        all_goals (first | (simp only [nz, rn, h32, f34, f34o, f35, Int.reduceLT, Int.reduceEq, List.contains_cons, List.contains_nil, Option.map_some, Option.map_none, reduceIte, reduceCtorEq, Nat.reduceEqDiff, Nat.reduceLT, Nat.reduceBEq, Nat.reduceAdd, Nat.reduceMul, Nat.reduceLeDiff, Nat.reduceSub, Bool.false_eq_true]; try rfl) | skip)
    · try simp only [nz, o_v15, f34o] at f41
      try simp only [nz, o_v15, f34o] at f49
      all_goals
        refine' (w_fgt (w_seq (w_reg (w_cons ?_ w_nil) ?_) (w_go (w_seq (w_condt ?_ w_skip ?_) (w_go (w_seq (w_block (w_seq (w_reg (w_cons ?_ (w_cons ?_ (w_cons ?_ w_nil))) ?_) (w_go (w_seq f41 (w_go f49)))) ?_) (w_go (w_reg (w_cons ?_ (w_cons ?_ w_nil)) ?_))))))) ?_)
        all_goals (first | (simp only [nz, rn, h32, f34, f34o, f35, o_v15, Int.reduceLT, Int.reduceEq, List.contains_cons, List.contains_nil, Option.map_some, Option.map_none, reduceIte, reduceCtorEq, Nat.reduceEqDiff, Nat.reduceLT, Nat.reduceBEq, Nat.reduceAdd, Nat.reduceMul, Nat.reduceLeDiff, Nat.reduceSub, Bool.false_eq_true]; try rfl) | skip)
  · refine sim_some ?_
    rcases own_cases v15 with rfl | o_v15
    · refine' (w_fgt (w_seq (w_reg (w_cons ?_ w_nil) ?_) (w_go (w_seq (w_condf ?_ (w_exit ?_) ?_) w_gox))) ?_)
      all_goals (first | (simp only [nz, rn, h32, Int.reduceLT, Int.reduceEq, List.contains_cons, List.contains_nil, Option.map_some, Option.map_none, reduceIte, reduceCtorEq, Nat.reduceEqDiff, Nat.reduceLT, Nat.reduceBEq, Nat.reduceAdd, Nat.reduceMul, Nat.reduceLeDiff, Nat.reduceSub, Bool.false_eq_true]; try rfl) | skip)
    · refine' (w_fgt (w_seq (w_reg (w_cons ?_ w_nil) ?_) (w_go (w_seq (w_condf ?_ (w_exit ?_) ?_) w_gox))) ?_)
      all_goals (first | (simp only [nz, rn, h32, o_v15, Int.reduceLT, Int.reduceEq, List.contains_cons, List.contains_nil, Option.map_some, Option.map_none, reduceIte, reduceCtorEq, Nat.reduceEqDiff, Nat.reduceLT, Nat.reduceBEq, Nat.reduceAdd, Nat.reduceMul, Nat.reduceLeDiff, Nat.reduceSub, Bool.false_eq_true]; try rfl) | skip)
theorem graph_Reached_l156_ok (p0 : List (List Int)) (p2 : Int) (v15 : List Int) (v16 : Int) (v19 : Int) (x_21 : List Int) (s : List Bool × List Int × Int) : Sim (graph_Reached_l156 p0 p2 v15 v16 v19 x_21 s) fun r => evX (evI T) (.loop x24_6 [0, 2, 7, 8, 11, 44, 45, 50, 51, 52, 59, 60, 61]) [(0, .sl p0.length (p0.flatMap (csl (cint .i64)))), (2, .int .i64 p2), (7, mkOwn 1 s.1.length (s.1.flatMap cbool)), (8, mkOwn 1 v15.length (v15.flatMap (cint .i64))), (11, mkOwn 1 s.2.1.length (s.2.1.flatMap (cint .i64))), (44, .int .i64 ((p0.length : Int))), (45, .int .i64 v16), (50, mkView 8 [] v15.length 1), (51, .int .i64 ((v15.length : Int))), (52, .int .i64 v19), (59, .sl x_21.length (x_21.flatMap (cint .i64))), (60, .int .i64 ((x_21.length : Int))), (61, .int .i64 s.2.2)] = some (.exit 6, [(0, .sl p0.length (p0.flatMap (csl (cint .i64)))), (2, .int .i64 p2), (7, mkOwn 1 r.1.length (r.1.flatMap cbool)), (8, mkOwn 1 v15.length (v15.flatMap (cint .i64))), (11, mkOwn 1 r.2.length (r.2.flatMap (cint .i64))), (44, .int .i64 ((p0.length : Int))), (45, .int .i64 v16), (50, mkView 8 [] v15.length 1), (51, .int .i64 ((v15.length : Int))), (52, .int .i64 v19)]) := by
  unfold graph_Reached_l156
  exact loop_rule (C := evI T) (b := x24_6) (ks := [0, 2, 7, 8, 11, 44, 45, 50, 51, 52, 59, 60, 61]) (σ := List Bool × List Int × Int) (ρ := List Bool × List Int) (body := fun s => graph_Reached_l156_b p0 p2 v15 v16 v19 x_21 s.1 s.2.1 s.2.2) (E := fun s => [(0, .sl p0.length (p0.flatMap (csl (cint .i64)))), (2, .int .i64 p2), (7, mkOwn 1 s.1.length (s.1.flatMap cbool)), (8, mkOwn 1 v15.length (v15.flatMap (cint .i64))), (11, mkOwn 1 s.2.1.length (s.2.1.flatMap (cint .i64))), (44, .int .i64 ((p0.length : Int))), (45, .int .i64 v16), (50, mkView 8 [] v15.length 1), (51, .int .i64 ((v15.length : Int))), (52, .int .i64 v19), (59, .sl x_21.length (x_21.flatMap (cint .i64))), (60, .int .i64 ((x_21.length : Int))), (61, .int .i64 s.2.2)]) (R := fun r => (.exit 6, [(0, .sl p0.length (p0.flatMap (csl (cint .i64)))), (2, .int .i64 p2), (7, mkOwn 1 r.1.length (r.1.flatMap cbool)), (8, mkOwn 1 v15.length (v15.flatMap (cint .i64))), (11, mkOwn 1 r.2.length (r.2.flatMap (cint .i64))), (44, .int .i64 ((p0.length : Int))), (45, .int .i64 v16), (50, mkView 8 [] v15.length 1), (51, .int .i64 ((v15.length : Int))), (52, .int .i64 v19)])) (fun r h => nomatch h) (fun s => graph_Reached_l156_bok p0 p2 v15 v16 v19 x_21 s.1 s.2.1 s.2.2) s
theorem graph_Reached_l157_bok (p0 : List (List Int)) (p2 : Int) (v15 : List Int) (v16 : Int) (v17 : List Bool) (v18 : List Int) (v19 : Int) : Sim (graph_Reached_l157_b p0 p2 v15 v16 v17 v18 v19) fun x => fgt [0, 2, 7, 8, 11, 44, 45, 50, 51, 52] (evX (evI T) x24_7 [(0, .sl p0.length (p0.flatMap (csl (cint .i64)))), (2, .int .i64 p2), (7, mkOwn 1 v17.length (v17.flatMap cbool)), (8, mkOwn 1 v15.length (v15.flatMap (cint .i64))), (11, mkOwn 1 v18.length (v18.flatMap (cint .i64))), (44, .int .i64 ((p0.length : Int))), (45, .int .i64 v16), (50, mkView 8 [] v15.length 1), (51, .int .i64 ((v15.length : Int))), (52, .int .i64 v19)]) = some (stpK (fun s => (.norm, [(0, .sl p0.length (p0.flatMap (csl (cint .i64)))), (2, .int .i64 p2), (7, mkOwn 1 s.1.length (s.1.flatMap cbool)), (8, mkOwn 1 v15.length (v15.flatMap (cint .i64))), (11, mkOwn 1 s.2.1.length (s.2.1.flatMap (cint .i64))), (44, .int .i64 ((p0.length : Int))), (45, .int .i64 v16), (50, mkView 8 [] v15.length 1), (51, .int .i64 ((v15.length : Int))), (52, .int .i64 s.2.2)])) (fun r => (.exit 4, [(0, .sl p0.length (p0.flatMap (csl (cint .i64)))), (2, .int .i64 p2), (7, mkOwn 1 r.1.length (r.1.flatMap cbool)), (11, mkOwn 1 r.2.length (r.2.flatMap (cint .i64))), (44, .int .i64 ((p0.length : Int))), (45, .int .i64 v16)])) x) := by
  unfold graph_Reached_l157_b
  refine sim_if (fun h25 => ?_) (fun h25 => ?_)
  · refine sim_bind (fun x_20 h26 => ?_)
    have f27 := ix_ok h26
    have f27o := ix_own2 h26
    have f28 : (v15.flatMap (cint .i64))[v19.toNat * 1]? = some (.int .i64 x_20) := ix_cell0 (sz_int .i64) h26 rfl
    have f28a : (v19.toNat * 1 + 1 ≤ v15.length * 1) = True := ix_le0 (sz_int .i64) h26 (by decide)
    refine sim_bind (fun x_21 h29 => ?_)
    have f30 := ix_ok h29
    have f30o := ix_own2 h29
    have f31 := ix_cells (sz_sl (cint .i64)) h29
    simp only [nz] at f31
    refine sim_bind (fun qh50 h50 => ?_)
    obtain ⟨v32, v33⟩ := qh50
    dsimp only
    have f51 := graph_Reached_l156_ok p0 p2 v15 v16 v19 x_21 (v17, v18, 0) _ h50
    dsimp only at f51
    refine sim_some ?_
    try simp only [nz, f27o, f30o] at f51
    all_goals
      refine' (w_fgt (w_seq (w_reg (w_cons ?_ w_nil) ?_) (w_go (w_seq (w_condt ?_ w_skip ?_) (w_go (w_seq (w_block (w_seq (w_reg (w_cons ?_ (w_cons ?_ (w_cons ?_ w_nil))) ?_) (w_go (w_seq (w_reg (w_cons ?_ (w_cons ?_ (w_cons ?_ (w_cons ?_ (w_cons ?_ (w_cons ?_ w_nil)))))) ?_) (w_go (w_block f51 ?_))))) ?_) (w_go (w_reg (w_cons ?_ (w_cons ?_ w_nil)) ?_))))))) ?_)
      all_goals (first | (simp only [nz, rn, h25, f27, f27o, f28, f28a, f30, f30o, f31, Int.reduceLT, Int.reduceEq, List.contains_cons, List.contains_nil, Option.map_some, Option.map_none, reduceIte, reduceCtorEq, Nat.reduceEqDiff, Nat.reduceLT, Nat.reduceBEq, Nat.reduceAdd, Nat.reduceMul, Nat.reduceLeDiff, Nat.reduceSub, Bool.false_eq_true]; try rfl) | skip)
  · refine sim_some ?_
    rcases own_cases v15 with rfl | o_v15
    · try simp only [nz] at h25
      all_goals
        refine' (w_fgt (w_seq (w_reg (w_cons ?_ w_nil) ?_) (w_go (w_seq (w_condf ?_ (w_exit ?_) ?_) w_gox))) ?_)
        all_goals (first | (simp only [nz, rn, h25, Int.reduceLT, Int.reduceEq, List.contains_cons, List.contains_nil, Option.map_some, Option.map_none, reduceIte, reduceCtorEq, Nat.reduceEqDiff, Nat.reduceLT, Nat.reduceBEq, Nat.reduceAdd, Nat.reduceMul, Nat.reduceLeDiff, Nat.reduceSub, Bool.false_eq_true]; try rfl) | skip)
    · refine' (w_fgt (w_seq (w_reg (w_cons ?_ w_nil) ?_) (w_go (w_seq (w_condf ?_ (w_exit ?_) ?_) w_gox))) ?_)
      all_goals (first | (simp only [nz, rn, h25, o_v15, Int.reduceLT, Int.reduceEq, List.contains_cons, List.contains_nil, Option.map_some, Option.map_none, reduceIte, reduceCtorEq, Nat.reduceEqDiff, Nat.reduceLT, Nat.reduceBEq, Nat.reduceAdd, Nat.reduceMul, Nat.reduceLeDiff, Nat.reduceSub, Bool.false_eq_true]; try rfl) | skip)
theorem graph_Reached_l157_ok (p0 : List (List Int)) (p2 : Int) (v15 : List Int) (v16 : Int) (s : List Bool × List Int × Int) : Sim (graph_Reached_l157 p0 p2 v15 v16 s) fun r => evX (evI T) (.loop x24_7 [0, 2, 7, 8, 11, 44, 45, 50, 51, 52]) [(0, .sl p0.length (p0.flatMap (csl (cint .i64)))), (2, .int .i64 p2), (7, mkOwn 1 s.1.length (s.1.flatMap cbool)), (8, mkOwn 1 v15.length (v15.flatMap (cint .i64))), (11, mkOwn 1 s.2.1.length (s.2.1.flatMap (cint .i64))), (44, .int .i64 ((p0.length : Int))), (45, .int .i64 v16), (50, mkView 8 [] v15.length 1), (51, .int .i64 ((v15.length : Int))), (52, .int .i64 s.2.2)] = some (.exit 4, [(0, .sl p0.length (p0.flatMap (csl (cint .i64)))), (2, .int .i64 p2), (7, mkOwn 1 r.1.length (r.1.flatMap cbool)), (11, mkOwn 1 r.2.length (r.2.flatMap (cint .i64))), (44, .int .i64 ((p0.length : Int))), (45, .int .i64 v16)]) := by
  unfold graph_Reached_l157
  exact loop_rule (C := evI T) (b := x24_7) (ks := [0, 2, 7, 8, 11, 44, 45, 50, 51, 52]) (σ := List Bool × List Int × Int) (ρ := List Bool × List Int) (body := fun s => graph_Reached_l157_b p0 p2 v15 v16 s.1 s.2.1 s.2.2) (E := fun s => [(0, .sl p0.length (p0.flatMap (csl (cint .i64)))), (2, .int .i64 p2), (7, mkOwn 1 s.1.length (s.1.flatMap cbool)), (8, mkOwn 1 v15.length (v15.flatMap (cint .i64))), (11, mkOwn 1 s.2.1.length (s.2.1.flatMap (cint .i64))), (44, .int .i64 ((p0.length : Int))), (45, .int .i64 v16), (50, mkView 8 [] v15.length 1), (51, .int .i64 ((v15.length : Int))), (52, .int .i64 s.2.2)]) (R := fun r => (.exit 4, [(0, .sl p0.length (p0.flatMap (csl (cint .i64)))), (2, .int .i64 p2), (7, mkOwn 1 r.1.length (r.1.flatMap cbool)), (11, mkOwn 1 r.2.length (r.2.flatMap (cint .i64))), (44, .int .i64 ((p0.length : Int))), (45, .int .i64 v16)])) (fun r h => nomatch h) (fun s => graph_Reached_l157_bok p0 p2 v15 v16 s.1 s.2.1 s.2.2) s
theorem graph_Reached_l158_bok (p0 : List (List Int)) (p2 : Int) (v14 : List Bool) (v15 : List Int) (v16 : Int) : Sim (graph_Reached_l158_b p0 p2 v14 v15 v16) fun x => fgt [0, 2, 7, 8, 44, 45] (evX (evI T) x24_8 [(0, .sl p0.length (p0.flatMap (csl (cint .i64)))), (2, .int .i64 p2), (7, mkOwn 1 v14.length (v14.flatMap cbool)), (8, mkOwn 1 v15.length (v15.flatMap (cint .i64))), (44, .int .i64 ((p0.length : Int))), (45, .int .i64 v16)]) = some (stpK (fun s => (.norm, [(0, .sl p0.length (p0.flatMap (csl (cint .i64)))), (2, .int .i64 p2), (7, mkOwn 1 s.1.length (s.1.flatMap cbool)), (8, mkOwn 1 s.2.1.length (s.2.1.flatMap (cint .i64))), (44, .int .i64 ((p0.length : Int))), (45, .int .i64 s.2.2)])) (fun r => (.exit 2, [(7, mkOwn 1 r.length (r.flatMap cbool))])) x) := by
  unfold graph_Reached_l158_b
  refine sim_if (fun h23 => ?_) (fun h23 => ?_)
  · refine sim_if (fun h24 => ?_) (fun h24 => ?_)
    · refine sim_some ?_
      rcases own_cases v15 with rfl | o_v15
      · try simp only [nz] at h24
        all_goals
          refine' (w_fgt (w_seq (w_reg (w_cons ?_ w_nil) ?_) (w_go (w_seq (w_condt ?_ w_skip ?_) (w_go (w_seq (w_block (w_seq (w_seq (w_reg (w_cons ?_ (w_cons ?_ (w_cons ?_ w_nil))) ?_) (w_go (w_condt ?_ (w_exit ?_) ?_))) w_gox) ?_) w_gox))))) ?_)
          all_goals (first | (simp only [nz, rn, h23, h24, Int.reduceLT, Int.reduceEq, List.contains_cons, List.contains_nil, Option.map_some, Option.map_none, reduceIte, reduceCtorEq, Nat.reduceEqDiff, Nat.reduceLT, Nat.reduceBEq, Nat.reduceAdd, Nat.reduceMul, Nat.reduceLeDiff, Nat.reduceSub, Bool.false_eq_true]; try rfl) | skip)
      · refine' (w_fgt (w_seq (w_reg (w_cons ?_ w_nil) ?_) (w_go (w_seq (w_condt ?_ w_skip ?_) (w_go (w_seq (w_block (w_seq (w_seq (w_reg (w_cons ?_ (w_cons ?_ (w_cons ?_ w_nil))) ?_) (w_go (w_condt ?_ (w_exit ?_) ?_))) w_gox) ?_) w_gox))))) ?_)
        all_goals (first | (simp only [nz, rn, h23, h24, o_v15, Int.reduceLT, Int.reduceEq, List.contains_cons, List.contains_nil, Option.map_some, Option.map_none, reduceIte, reduceCtorEq, Nat.reduceEqDiff, Nat.reduceLT, Nat.reduceBEq, Nat.reduceAdd, Nat.reduceMul, Nat.reduceLeDiff, Nat.reduceSub, Bool.false_eq_true]; try rfl) | skip)
    · refine sim_bind (fun qh52 h52 => ?_)
      obtain ⟨v34, v35⟩ := qh52
      dsimp only
      have f53 := graph_Reached_l157_ok p0 p2 v15 v16 (v14, [], 0) _ h52
      dsimp only at f53
      refine sim_some ?_
      rcases own_cases v15 with rfl | o_v15
      · try simp only [nz] at h24
        all_goals
          rcases own_cases v35 with rfl | o_v35
          · try simp only [nz] at h24
            all_goals
              try simp only [nz] at f53
              all_goals
                refine' (w_fgt (w_seq (w_reg (w_cons ?_ w_nil) ?_) (w_go (w_seq (w_condt ?_ w_skip ?_) (w_go (w_seq (w_block (w_seq (w_seq (w_reg (w_cons ?_ (w_cons ?_ (w_cons ?_ w_nil))) ?_) (w_go (w_condf ?_ w_skip ?_))) (w_go (w_seq (w_reg (w_cons ?_ w_nil) ?_) (w_go (w_seq (w_seq (w_reg (w_cons ?_ (w_cons ?_ (w_cons ?_ w_nil))) ?_) (w_go (w_block f53 ?_))) (w_go (w_reg (w_cons ?_ (w_cons ?_ w_nil)) ?_))))))) ?_) (w_go (w_reg (w_cons ?_ (w_cons ?_ w_nil)) ?_))))))) ?_)
                all_goals (first | (simp only [nz, rn, h23, h24, Int.reduceLT, Int.reduceEq, List.contains_cons, List.contains_nil, Option.map_some, Option.map_none, reduceIte, reduceCtorEq, Nat.reduceEqDiff, Nat.reduceLT, Nat.reduceBEq, Nat.reduceAdd, Nat.reduceMul, Nat.reduceLeDiff, Nat.reduceSub, Bool.false_eq_true]; try rfl) | skip)
          · try simp only [nz, o_v35] at f53
            all_goals
              refine' (w_fgt (w_seq (w_reg (w_cons ?_ w_nil) ?_) (w_go (w_seq (w_condt ?_ w_skip ?_) (w_go (w_seq (w_block (w_seq (w_seq (w_reg (w_cons ?_ (w_cons ?_ (w_cons ?_ w_nil))) ?_) (w_go (w_condf ?_ w_skip ?_))) (w_go (w_seq (w_reg (w_cons ?_ w_nil) ?_) (w_go (w_seq (w_seq (w_reg (w_cons ?_ (w_cons ?_ (w_cons ?_ w_nil))) ?_) (w_go (w_block f53 ?_))) (w_go (w_reg (w_cons ?_ (w_cons ?_ w_nil)) ?_))))))) ?_) (w_go (w_reg (w_cons ?_ (w_cons ?_ w_nil)) ?_))))))) ?_)
              all_goals (first | (simp only [nz, rn, h23, h24, o_v35, Int.reduceLT, Int.reduceEq, List.contains_cons, List.contains_nil, Option.map_some, Option.map_none, reduceIte, reduceCtorEq, Nat.reduceEqDiff, Nat.reduceLT, Nat.reduceBEq, Nat.reduceAdd, Nat.reduceMul, Nat.reduceLeDiff, Nat.reduceSub, Bool.false_eq_true]; try rfl) | skip)
      · rcases own_cases v35 with rfl | o_v35
        · try simp only [nz, o_v15] at f53
          all_goals
            refine' (w_fgt (w_seq (w_reg (w_cons ?_ w_nil) ?_) (w_go (w_seq (w_condt ?_ w_skip ?_) (w_go (w_seq (w_block (w_seq (w_seq (w_reg (w_cons ?_ (w_cons ?_ (w_cons ?_ w_nil))) ?_) (w_go (w_condf ?_ w_skip ?_))) (w_go (w_seq (w_reg (w_cons ?_ w_nil) ?_) (w_go (w_seq (w_seq (w_reg (w_cons ?_ (w_cons ?_ (w_cons ?_ w_nil))) ?_) (w_go (w_block f53 ?_))) (w_go (w_reg (w_cons ?_ (w_cons ?_ w_nil)) ?_))))))) ?_) (w_go (w_reg (w_cons ?_ (w_cons ?_ w_nil)) ?_))))))) ?_)
            all_goals (first | (simp only [nz, rn, h23, h24, o_v15, Int.reduceLT, Int.reduceEq, List.contains_cons, List.contains_nil, Option.map_some, Option.map_none, reduceIte, reduceCtorEq, Nat.reduceEqDiff, Nat.reduceLT, Nat.reduceBEq, Nat.reduceAdd, Nat.reduceMul, Nat.reduceLeDiff, Nat.reduceSub, Bool.false_eq_true]; try rfl) | skip)
        · try simp only [nz, o_v15, o_v35] at f53
          all_goals
            refine' (w_fgt (w_seq (w_reg (w_cons ?_ w_nil) ?_) (w_go (w_seq (w_condt ?_ w_skip ?_) (w_go (w_seq (w_block (w_seq (w_seq (w_reg (w_cons ?_ (w_cons ?_ (w_cons ?_ w_nil))) ?_) (w_go (w_condf ?_ w_skip ?_))) (w_go (w_seq (w_reg (w_cons ?_ w_nil) ?_) (w_go (w_seq (w_seq (w_reg (w_cons ?_ (w_cons ?_ (w_cons ?_ w_nil))) ?_) (w_go (w_block f53 ?_))) (w_go (w_reg (w_cons ?_ (w_cons ?_ w_nil)) ?_))))))) ?_) (w_go (w_reg (w_cons ?_ (w_cons ?_ w_nil)) ?_))))))) ?_)
            all_goals (first | (simp only [nz, rn, h23, h24, o_v15, o_v35, Int.reduceLT, Int.reduceEq, List.contains_cons, List.contains_nil, Option.map_some, Option.map_none, reduceIte, reduceCtorEq, Nat.reduceEqDiff, Nat.reduceLT, Nat.reduceBEq, Nat.reduceAdd, Nat.reduceMul, Nat.reduceLeDiff, Nat.reduceSub, Bool.false_eq_true]; try rfl) | skip)
  · refine sim_some ?_
    refine' (w_fgt (w_seq (w_reg (w_cons ?_ w_nil) ?_) (w_go (w_seq (w_condf ?_ (w_exit ?_) ?_) w_gox))) ?_)
    all_goals (first | (simp only [nz, rn, h23, Int.reduceLT, Int.reduceEq, List.contains_cons, List.contains_nil, Option.map_some, Option.map_none, reduceIte, reduceCtorEq, Nat.reduceEqDiff, Nat.reduceLT, Nat.reduceBEq, Nat.reduceAdd, Nat.reduceMul, Nat.reduceLeDiff, Nat.reduceSub, Bool.false_eq_true]; try rfl) | skip)
theorem graph_Reached_l158_ok (p0 : List (List Int)) (p2 : Int) (s : List Bool × List Int × Int) : Sim (graph_Reached_l158 p0 p2 s) fun r => evX (evI T) (.loop x24_8 [0, 2, 7, 8, 44, 45]) [(0, .sl p0.length (p0.flatMap (csl (cint .i64)))), (2, .int .i64 p2), (7, mkOwn 1 s.1.length (s.1.flatMap cbool)), (8, mkOwn 1 s.2.1.length (s.2.1.flatMap (cint .i64))), (44, .int .i64 ((p0.length : Int))), (45, .int .i64 s.2.2)] = some (.exit 2, [(7, mkOwn 1 r.length (r.flatMap cbool))]) := by
  unfold graph_Reached_l158
  exact loop_rule (C := evI T) (b := x24_8) (ks := [0, 2, 7, 8, 44, 45]) (σ := List Bool × List Int × Int) (ρ := List Bool) (body := fun s => graph_Reached_l158_b p0 p2 s.1 s.2.1 s.2.2) (E := fun s => [(0, .sl p0.length (p0.flatMap (csl (cint .i64)))), (2, .int .i64 p2), (7, mkOwn 1 s.1.length (s.1.flatMap cbool)), (8, mkOwn 1 s.2.1.length (s.2.1.flatMap (cint .i64))), (44, .int .i64 ((p0.length : Int))), (45, .int .i64 s.2.2)]) (R := fun r => (.exit 2, [(7, mkOwn 1 r.length (r.flatMap cbool))])) (fun r h => nomatch h) (fun s => graph_Reached_l158_bok p0 p2 s.1 s.2.1 s.2.2) s
theorem graph_Reached_ok (p0 : List (List Int)) (p1 : List Int) (p2 : Int) : Sim (graph_Reached p0 p1 p2) fun r => evI T 24 [.sl p0.length (p0.flatMap (csl (cint .i64))), .sl p1.length (p1.flatMap (cint .i64)), .int .i64 p2] = some (.sl r.length (r.flatMap cbool), [.none, .none, .none]) := by
  unfold graph_Reached
  refine sim_bind (fun l_1 h1 => ?_)
  have f2 := mk_cond h1
  have f2a : mkOwn 1 ((p0.length : Int)).toNat (rep ((p0.length : Int)).toNat [.bool false]) = mkOwn 1 l_1.length (l_1.flatMap cbool) := mk_own h1 cbool 1
  refine sim_bind (fun qh21 h21 => ?_)
  obtain ⟨v12, v13⟩ := qh21
  dsimp only
  have f22 := graph_Reached_l9_ok p0 p1 p2 (l_1, [], 0) _ h21
  dsimp only at f22
  refine sim_bind (fun v36 h54 => ?_)
  have f55 := graph_Reached_l158_ok p0 p2 (v12, v13, 0) _ h54
  dsimp only at f55
  refine sim_some ?_
  refine evI_ret (x := x24) rfl rfl rfl ?_
  rcases own_cases l_1 with rfl | o_l_1
  · rcases own_cases v36 with rfl | o_v36
    · try simp only [nz] at f22
      try simp only [nz] at f55
      all_goals
        refine' (w_fn rfl rfl (w_seq (w_reg (w_cons ?_ w_nil) ?_) (w_go (w_seq (w_reg (w_cons ?_ (w_cons ?_ (w_cons ?_ (w_cons ?_ w_nil)))) ?_) (w_go (w_seq (w_reg (w_cons ?_ w_nil) ?_) (w_go (w_seq (w_seq (w_reg (w_cons ?_ (w_cons ?_ (w_cons ?_ w_nil))) ?_) (w_go (w_block f22 ?_))) (w_go (w_seq (w_seq (w_reg (w_cons ?_ (w_cons ?_ (w_cons ?_ w_nil))) ?_) (w_go (w_block f55 ?_))) (w_go (w_seq (w_reg (w_cons ?_ (w_cons ?_ w_nil)) ?_) (w_go w_ret)))))))))))) ?_)
        all_goals (first | (simp only [x24, nz, rn, f2, f2a, Int.reduceLT, Int.reduceEq, List.contains_cons, List.contains_nil, Option.map_some, Option.map_none, reduceIte, reduceCtorEq, Nat.reduceEqDiff, Nat.reduceLT, Nat.reduceBEq, Nat.reduceAdd, Nat.reduceMul, Nat.reduceLeDiff, Nat.reduceSub, Bool.false_eq_true]; try rfl) | skip)
    · try simp only [nz, o_v36] at f22
      try simp only [nz, o_v36] at f55
      all_goals
        refine' (w_fn rfl rfl (w_seq (w_reg (w_cons ?_ w_nil) ?_) (w_go (w_seq (w_reg (w_cons ?_ (w_cons ?_ (w_cons ?_ (w_cons ?_ w_nil)))) ?_) (w_go (w_seq (w_reg (w_cons ?_ w_nil) ?_) (w_go (w_seq (w_seq (w_reg (w_cons ?_ (w_cons ?_ (w_cons ?_ w_nil))) ?_) (w_go (w_block f22 ?_))) (w_go (w_seq (w_seq (w_reg (w_cons ?_ (w_cons ?_ (w_cons ?_ w_nil))) ?_) (w_go (w_block f55 ?_))) (w_go (w_seq (w_reg (w_cons ?_ (w_cons ?_ w_nil)) ?_) (w_go w_ret)))))))))))) ?_)
        all_goals (first | (simp only [x24, nz, rn, f2, f2a, o_v36, Int.reduceLT, Int.reduceEq, List.contains_cons, List.contains_nil, Option.map_some, Option.map_none, reduceIte, reduceCtorEq, Nat.reduceEqDiff, Nat.reduceLT, Nat.reduceBEq, Nat.reduceAdd, Nat.reduceMul, Nat.reduceLeDiff, Nat.reduceSub, Bool.false_eq_true]; try rfl) | skip)
  · rcases own_cases v36 with rfl | o_v36
    · try simp only [nz, o_l_1] at f22
      try simp only [nz, o_l_1] at f55
      all_goals
        refine' (w_fn rfl rfl (w_seq (w_reg (w_cons ?_ w_nil) ?_) (w_go (w_seq (w_reg (w_cons ?_ (w_cons ?_ (w_cons ?_ (w_cons ?_ w_nil)))) ?_) (w_go (w_seq (w_reg (w_cons ?_ w_nil) ?_) (w_go (w_seq (w_seq (w_reg (w_cons ?_ (w_cons ?_ (w_cons ?_ w_nil))) ?_) (w_go (w_block f22 ?_))) (w_go (w_seq (w_seq (w_reg (w_cons ?_ (w_cons ?_ (w_cons ?_ w_nil))) ?_) (w_go (w_block f55 ?_))) (w_go (w_seq (w_reg (w_cons ?_ (w_cons ?_ w_nil)) ?_) (w_go w_ret)))))))))))) ?_)
        all_goals (first | (simp only [x24, nz, rn, f2, f2a, o_l_1, Int.reduceLT, Int.reduceEq, List.contains_cons, List.contains_nil, Option.map_some, Option.map_none, reduceIte, reduceCtorEq, Nat.reduceEqDiff, Nat.reduceLT, Nat.reduceBEq, Nat.reduceAdd, Nat.reduceMul, Nat.reduceLeDiff, Nat.reduceSub, Bool.false_eq_true]; try rfl) | skip)
    · try simp only [nz, o_l_1, o_v36] at f22
      try simp only [nz, o_l_1, o_v36] at f55
      all_goals
        refine' (w_fn rfl rfl (w_seq (w_reg (w_cons ?_ w_nil) ?_) (w_go (w_seq (w_reg (w_cons ?_ (w_cons ?_ (w_cons ?_ (w_cons ?_ w_nil)))) ?_) (w_go (w_seq (w_reg (w_cons ?_ w_nil) ?_) (w_go (w_seq (w_seq (w_reg (w_cons ?_ (w_cons ?_ (w_cons ?_ w_nil))) ?_) (w_go (w_block f22 ?_))) (w_go (w_seq (w_seq (w_reg (w_cons ?_ (w_cons ?_ (w_cons ?_ w_nil))) ?_) (w_go (w_block f55 ?_))) (w_go (w_seq (w_reg (w_cons ?_ (w_cons ?_ w_nil)) ?_) (w_go w_ret)))))))))))) ?_)
        all_goals (first | (simp only [x24, nz, rn, f2, f2a, o_l_1, o_v36, Int.reduceLT, Int.reduceEq, List.contains_cons, List.contains_nil, Option.map_some, Option.map_none, reduceIte, reduceCtorEq, Nat.reduceEqDiff, Nat.reduceLT, Nat.reduceBEq, Nat.reduceAdd, Nat.reduceMul, Nat.reduceLeDiff, Nat.reduceSub, Bool.false_eq_true]; try rfl) | skip)
theorem graph_Reached_okN (p0 : List (List Int)) (p1 : List Int) (p2 : Int) : Sim (graph_Reached p0 p1 p2) fun r => ∀ ws, ws.map normA = [.sl p0.length (p0.flatMap (csl (cint .i64))), .sl p1.length (p1.flatMap (cint .i64)), .int .i64 p2] → evI T 24 ws = some (.sl r.length (r.flatMap cbool), [.none, .none, .none]) := fun r h => evI_okN (x := x24) rfl rfl rfl (graph_Reached_ok p0 p1 p2 r h)
end Go.Ab

/-
  Printed by gen.py.
-/
namespace Go.Ab
open Go
set_option linter.unusedVariables false
set_option linter.unusedSimpArgs false
set_option maxRecDepth 100000
set_option maxHeartbeats 4000000
theorem r08_Has_l1_bok (p0 : List Int) (p1 : Int) (i1 : Int) : Sim (r08_Has_l1_b p0 p1 i1) fun x => fgt [0, 1, 5] (evX (evI T) x33_1 [(0, .sl p0.length (p0.flatMap (cint .i64))), (1, .int .i64 p1), (5, .int .i64 i1)]) = some (stpK (fun s => (.norm, [(0, .sl p0.length (p0.flatMap (cint .i64))), (1, .int .i64 p1), (5, .int .i64 s)])) (fun r => (stpK (fun t0 => (.exit 0, [])) (fun u0 => (.ret, [(4, .bool true)])) r)) x) := by
  unfold r08_Has_l1_b
  refine sim_if (fun h1 => ?_) (fun h1 => ?_)
  · refine sim_bind (fun x_2 h2 => ?_)
    have f3 := ix_ok h2
    have f3o := ix_own2 h2
    have f4 := ix_cells (sz_int .i64) h2
    simp only [nz] at f4
    refine sim_if (fun h5 => ?_) (fun h5 => ?_)
    · refine sim_some ?_
      refine' (w_fgt (w_seq (w_seq (w_reg (w_cons ?_ (w_cons ?_ (w_cons ?_ (w_cons ?_ w_nil)))) ?_) (w_go (w_condt ?_ w_skip ?_))) (w_go (w_seq (w_block (w_seq (w_reg (w_cons ?_ (w_cons ?_ (w_cons ?_ (w_cons ?_ (w_cons ?_ (w_cons ?_ w_nil)))))) ?_) (w_go (w_condt ?_ (w_seq (w_reg (w_cons ?_ w_nil) ?_) (w_go w_ret)) ?_))) ?_) w_gor))) ?_)
      all_goals (first | (simp only [nz, rn, h1, f3, f3o, f4, h5, Int.reduceLT, Int.reduceEq, List.contains_cons, List.contains_nil, Option.map_some, Option.map_none, reduceIte, reduceCtorEq, Nat.reduceEqDiff, Nat.reduceLT, Nat.reduceBEq, Nat.reduceAdd, Nat.reduceMul, Nat.reduceLeDiff, Nat.reduceSub, Bool.false_eq_true]; try rfl) | skip)
    · refine sim_some ?_
      refine' (w_fgt (w_seq (w_seq (w_reg (w_cons ?_ (w_cons ?_ (w_cons ?_ (w_cons ?_ w_nil)))) ?_) (w_go (w_condt ?_ w_skip ?_))) (w_go (w_seq (w_block (w_seq (w_reg (w_cons ?_ (w_cons ?_ (w_cons ?_ (w_cons ?_ (w_cons ?_ (w_cons ?_ w_nil)))))) ?_) (w_go (w_condf ?_ w_skip ?_))) ?_) (w_go (w_reg (w_cons ?_ (w_cons ?_ (w_cons ?_ w_nil))) ?_))))) ?_)
      all_goals (first | (simp only [nz, rn, h1, f3, f3o, f4, h5, Int.reduceLT, Int.reduceEq, List.contains_cons, List.contains_nil, Option.map_some, Option.map_none, reduceIte, reduceCtorEq, Nat.reduceEqDiff, Nat.reduceLT, Nat.reduceBEq, Nat.reduceAdd, Nat.reduceMul, Nat.reduceLeDiff, Nat.reduceSub, Bool.false_eq_true]; try rfl) | skip)
  · refine sim_some ?_
    refine' (w_fgt (w_seq (w_seq (w_reg (w_cons ?_ (w_cons ?_ (w_cons ?_ (w_cons ?_ w_nil)))) ?_) (w_go (w_condf ?_ (w_exit ?_) ?_))) w_gox) ?_)
    all_goals (first | (simp only [nz, rn, h1, Int.reduceLT, Int.reduceEq, List.contains_cons, List.contains_nil, Option.map_some, Option.map_none, reduceIte, reduceCtorEq, Nat.reduceEqDiff, Nat.reduceLT, Nat.reduceBEq, Nat.reduceAdd, Nat.reduceMul, Nat.reduceLeDiff, Nat.reduceSub, Bool.false_eq_true]; try rfl) | skip)
theorem r08_Has_l1_ok (p0 : List Int) (p1 : Int) (s : Int) : Sim (r08_Has_l1 p0 p1 s) fun r => evX (evI T) (.loop x33_1 [0, 1, 5]) [(0, .sl p0.length (p0.flatMap (cint .i64))), (1, .int .i64 p1), (5, .int .i64 s)] = some (stpK (fun t0 => (.exit 0, [])) (fun u0 => (.ret, [(4, .bool true)])) r) := by
  unfold r08_Has_l1
  exact loop_rule (C := evI T) (b := x33_1) (ks := [0, 1, 5]) (σ := Int) (ρ := Stp Unit Unit) (body := fun s => r08_Has_l1_b p0 p1 s) (E := fun s => [(0, .sl p0.length (p0.flatMap (cint .i64))), (1, .int .i64 p1), (5, .int .i64 s)]) (R := fun r => (stpK (fun t0 => (.exit 0, [])) (fun u0 => (.ret, [(4, .bool true)])) r)) (fun r h => by rcases r with _ | _ <;> cases h) (fun s => r08_Has_l1_bok p0 p1 s) s
theorem r08_Has_ok (p0 : List Int) (p1 : Int) : Sim (r08_Has p0 p1) fun r => evI T 33 [.sl p0.length (p0.flatMap (cint .i64)), .int .i64 p1] = some (.bool r, [.none, .none]) := by
  unfold r08_Has
  refine sim_bind (fun qh6 h6 => ?_)
  rcases qh6 with ⟨_⟩ | ⟨_⟩
  · dsimp only
    have f7 := r08_Has_l1_ok p0 p1 0 _ h6
    dsimp only at f7
    refine sim_some ?_
    refine evI_ret (x := x33) rfl rfl rfl ?_
    try simp only [nz] at f7
    all_goals
      refine' (w_fn rfl rfl (w_seq (w_reg (w_cons ?_ w_nil) ?_) (w_go (w_seq (w_seq (w_reg (w_cons ?_ w_nil) ?_) (w_go (w_block f7 ?_))) (w_go (w_seq (w_reg (w_cons ?_ w_nil) ?_) (w_go w_ret)))))) ?_)
      all_goals (first | (simp only [x33, nz, rn, Int.reduceLT, Int.reduceEq, List.contains_cons, List.contains_nil, Option.map_some, Option.map_none, reduceIte, reduceCtorEq, Nat.reduceEqDiff, Nat.reduceLT, Nat.reduceBEq, Nat.reduceAdd, Nat.reduceMul, Nat.reduceLeDiff, Nat.reduceSub, Bool.false_eq_true]; try rfl) | skip)
  · dsimp only
    have f7 := r08_Has_l1_ok p0 p1 0 _ h6
    dsimp only at f7
    refine sim_some ?_
    refine evI_ret (x := x33) rfl rfl rfl ?_
    try simp only [nz] at f7
    all_goals
      refine' (w_fn rfl rfl (w_seq (w_reg (w_cons ?_ w_nil) ?_) (w_go (w_seq (w_seq (w_reg (w_cons ?_ w_nil) ?_) (w_go (w_block f7 ?_))) w_gor))) ?_)
      all_goals (first | (simp only [x33, nz, rn, Int.reduceLT, Int.reduceEq, List.contains_cons, List.contains_nil, Option.map_some, Option.map_none, reduceIte, reduceCtorEq, Nat.reduceEqDiff, Nat.reduceLT, Nat.reduceBEq, Nat.reduceAdd, Nat.reduceMul, Nat.reduceLeDiff, Nat.reduceSub, Bool.false_eq_true]; try rfl) | skip)
theorem r08_Has_okN (p0 : List Int) (p1 : Int) : Sim (r08_Has p0 p1) fun r => ∀ ws, ws.map normA = [.sl p0.length (p0.flatMap (cint .i64)), .int .i64 p1] → evI T 33 ws = some (.bool r, [.none, .none]) := fun r h => evI_okN (x := x33) rfl rfl rfl (r08_Has_ok p0 p1 r h)
end Go.Ab

/-
  Printed by gen.py.
-/
namespace Go.Ab
open Go
set_option linter.unusedVariables false
set_option linter.unusedSimpArgs false
set_option maxRecDepth 100000
set_option maxHeartbeats 4000000
theorem r08_Next_j4_ok (x_2 : Ins) (out3 : List Int) (i4 : Int) (r6 : Bool) : Sim (r08_Next_j4 x_2 out3 i4 r6) fun r => evX (evI T) x26_1 [(5, mkOwn 1 out3.length (out3.flatMap (cint .i64))), (6, .sl x_2.To.length (x_2.To.flatMap (cint .i64))), (7, .int .i64 i4), (35, .bool ((!r6)))] = some (.norm, [(5, mkOwn 1 r.length (r.flatMap (cint .i64))), (6, .sl x_2.To.length (x_2.To.flatMap (cint .i64))), (7, .int .i64 i4)]) := by
  unfold r08_Next_j4
  refine sim_if (fun h14 => ?_) (fun h14 => ?_)
  · refine sim_bind (fun x_7 h15 => ?_)
    have f16 := ix_ok h15
    have f16o := ix_own2 h15
    have f17 := ix_cells (sz_int .i64) h15
    simp only [nz, nzIns] at f17
    refine sim_bind (fun l_8 h18 => ?_)
    have f19 := app1_cond h18
    try simp only [nz, Nat.reduceLeDiff, Nat.reduceAdd, Nat.reduceMul, Nat.reduceSub] at f19
    have f19a : PV.own 1 (out3.length + 1) (out3.flatMap (cint .i64) ++ [.int .i64 x_7]) = .own 1 l_8.length (l_8.flatMap (cint .i64)) := app1_own h18 (cint .i64) 1
    have f19o := app1_own2 h18
    refine sim_some ?_
    rcases own_cases out3 with rfl | o_out3
    · obtain rfl := app_eq h18
      refine' (w_condt ?_ (w_reg (w_cons ?_ (w_cons ?_ (w_cons ?_ (w_cons ?_ (w_cons ?_ (w_cons ?_ (w_cons ?_ (w_cons ?_ w_nil)))))))) ?_) ?_)
      all_goals (first | (simp only [nz, rn, nzIns, h14, f16, f16o, f17, Int.reduceLT, Int.reduceEq, List.contains_cons, List.contains_nil, Option.map_some, Option.map_none, reduceIte, reduceCtorEq, Nat.reduceEqDiff, Nat.reduceLT, Nat.reduceBEq, Nat.reduceAdd, Nat.reduceMul, Nat.reduceLeDiff, Nat.reduceSub, Bool.false_eq_true]; try rfl) | skip)
    · refine' (w_condt ?_ (w_reg (w_cons ?_ (w_cons ?_ (w_cons ?_ (w_cons ?_ (w_cons ?_ (w_cons ?_ (w_cons ?_ (w_cons ?_ w_nil)))))))) ?_) ?_)
      all_goals (first | (simp only [nz, rn, nzIns, h14, f16, f16o, f17, f19, f19a, f19o, o_out3, Int.reduceLT, Int.reduceEq, List.contains_cons, List.contains_nil, Option.map_some, Option.map_none, reduceIte, reduceCtorEq, Nat.reduceEqDiff, Nat.reduceLT, Nat.reduceBEq, Nat.reduceAdd, Nat.reduceMul, Nat.reduceLeDiff, Nat.reduceSub, Bool.false_eq_true]; try rfl) | skip)
  · refine sim_some ?_
    refine' (w_condf ?_ w_skip ?_)
    all_goals (first | (simp only [nz, rn, nzIns, h14, Int.reduceLT, Int.reduceEq, List.contains_cons, List.contains_nil, Option.map_some, Option.map_none, reduceIte, reduceCtorEq, Nat.reduceEqDiff, Nat.reduceLT, Nat.reduceBEq, Nat.reduceAdd, Nat.reduceMul, Nat.reduceLeDiff, Nat.reduceSub, Bool.false_eq_true]; try rfl) | skip)
theorem r08_Next_l5_bok (x_2 : Ins) (out3 : List Int) (i4 : Int) : Sim (r08_Next_l5_b x_2 out3 i4) fun x => fgt [5, 6, 7] (evX (evI T) x26_2 [(5, mkOwn 1 out3.length (out3.flatMap (cint .i64))), (6, .sl x_2.To.length (x_2.To.flatMap (cint .i64))), (7, .int .i64 i4)]) = some (stpK (fun s => (.norm, [(5, mkOwn 1 s.1.length (s.1.flatMap (cint .i64))), (6, .sl x_2.To.length (x_2.To.flatMap (cint .i64))), (7, .int .i64 s.2)])) (fun r => (.exit 0, [(5, mkOwn 1 r.length (r.flatMap (cint .i64)))])) x) := by
  unfold r08_Next_l5_b
  refine sim_if (fun h8 => ?_) (fun h8 => ?_)
  · refine sim_bind (fun x_5 h9 => ?_)
    have f10 := ix_ok h9
    have f10o := ix_own2 h9
    have f11 := ix_cells (sz_int .i64) h9
    simp only [nz, nzIns] at f11
    refine sim_bind (fun r6 h12 => ?_)
    have f13 := r08_Has_okN out3 x_5 _ h12
    dsimp only at f13
    refine sim_bind (fun out9 h20 => ?_)
    have f21 := r08_Next_j4_ok x_2 out3 i4 r6 _ h20
    dsimp only at f21
    refine sim_some ?_
    rcases own_cases out3 with rfl | o_out3
    · try simp only [nz, nzIns] at f13
      try simp only [nz, nzIns] at f21
      all_goals
        refine' (w_fgt (w_seq (w_seq (w_reg (w_cons ?_ (w_cons ?_ (w_cons ?_ (w_cons ?_ w_nil)))) ?_) (w_go (w_condt ?_ w_skip ?_))) (w_go (w_seq (w_block (w_seq (w_reg (w_cons ?_ (w_cons ?_ (w_cons ?_ (w_cons ?_ (w_cons ?_ (w_cons ?_ (w_cons ?_ w_nil))))))) ?_) (w_go f21)) ?_) (w_go (w_reg (w_cons ?_ (w_cons ?_ (w_cons ?_ w_nil))) ?_))))) ?_)
        all_goals (first | (simp only [nz, rn, nzIns, h8, f10, f10o, f11, f13, Int.reduceLT, Int.reduceEq, List.contains_cons, List.contains_nil, Option.map_some, Option.map_none, reduceIte, reduceCtorEq, Nat.reduceEqDiff, Nat.reduceLT, Nat.reduceBEq, Nat.reduceAdd, Nat.reduceMul, Nat.reduceLeDiff, Nat.reduceSub, Bool.false_eq_true]; try rfl) | skip)
    · try simp only [nz, nzIns, o_out3] at f13
      try simp only [nz, nzIns, o_out3] at f21
      all_goals
        refine' (w_fgt (w_seq (w_seq (w_reg (w_cons ?_ (w_cons ?_ (w_cons ?_ (w_cons ?_ w_nil)))) ?_) (w_go (w_condt ?_ w_skip ?_))) (w_go (w_seq (w_block (w_seq (w_reg (w_cons ?_ (w_cons ?_ (w_cons ?_ (w_cons ?_ (w_cons ?_ (w_cons ?_ (w_cons ?_ w_nil))))))) ?_) (w_go f21)) ?_) (w_go (w_reg (w_cons ?_ (w_cons ?_ (w_cons ?_ w_nil))) ?_))))) ?_)
        all_goals (first | (simp only [nz, rn, nzIns, h8, f10, f10o, f11, f13, o_out3, Int.reduceLT, Int.reduceEq, List.contains_cons, List.contains_nil, Option.map_some, Option.map_none, reduceIte, reduceCtorEq, Nat.reduceEqDiff, Nat.reduceLT, Nat.reduceBEq, Nat.reduceAdd, Nat.reduceMul, Nat.reduceLeDiff, Nat.reduceSub, Bool.false_eq_true]; try rfl) | skip)
  · refine sim_some ?_
    refine' (w_fgt (w_seq (w_seq (w_reg (w_cons ?_ (w_cons ?_ (w_cons ?_ (w_cons ?_ w_nil)))) ?_) (w_go (w_condf ?_ (w_exit ?_) ?_))) w_gox) ?_)
    all_goals (first | (simp only [nz, rn, nzIns, h8, Int.reduceLT, Int.reduceEq, List.contains_cons, List.contains_nil, Option.map_some, Option.map_none, reduceIte, reduceCtorEq, Nat.reduceEqDiff, Nat.reduceLT, Nat.reduceBEq, Nat.reduceAdd, Nat.reduceMul, Nat.reduceLeDiff, Nat.reduceSub, Bool.false_eq_true]; try rfl) | skip)
theorem r08_Next_l5_ok (x_2 : Ins) (s : List Int × Int) : Sim (r08_Next_l5 x_2 s) fun r => evX (evI T) (.loop x26_2 [5, 6, 7]) [(5, mkOwn 1 s.1.length (s.1.flatMap (cint .i64))), (6, .sl x_2.To.length (x_2.To.flatMap (cint .i64))), (7, .int .i64 s.2)] = some (.exit 0, [(5, mkOwn 1 r.length (r.flatMap (cint .i64)))]) := by
  unfold r08_Next_l5
  exact loop_rule (C := evI T) (b := x26_2) (ks := [5, 6, 7]) (σ := List Int × Int) (ρ := List Int) (body := fun s => r08_Next_l5_b x_2 s.1 s.2) (E := fun s => [(5, mkOwn 1 s.1.length (s.1.flatMap (cint .i64))), (6, .sl x_2.To.length (x_2.To.flatMap (cint .i64))), (7, .int .i64 s.2)]) (R := fun r => (.exit 0, [(5, mkOwn 1 r.length (r.flatMap (cint .i64)))])) (fun r h => nomatch h) (fun s => r08_Next_l5_bok x_2 s.1 s.2) s
theorem r08_Next_ok (p0 : Fun) (p1 : Int) : Sim (r08_Next p0 p1) fun r => evI T 26 [.agg [.str p0.Name, .sl p0.Params.length (p0.Params.flatMap (cint .i64)), .int .i64 p0.Ret, .sl p0.Blocks.length (p0.Blocks.flatMap (csl cIns)), .int .i64 p0.At], .int .i64 p1] = some (.sl r.length (r.flatMap (cint .i64)), [.none, .none]) := by
  unfold r08_Next
  refine sim_bind (fun x_1 h1 => ?_)
  have f2 := ix_ok h1
  have f2o := ix_own2 h1
  have f3 := ix_cells (sz_sl cIns) h1
  simp only [nz, nzIns, nzFun] at f3
  have f4 := ix_cells (sz_sl cIns) h1
  simp only [nz, nzIns, nzFun] at f4
  refine sim_bind (fun x_2 h5 => ?_)
  have f6 := ix_ok h5
  have f6o := ix_own2 h5
  have f7 := ix_cells szIns h5
  simp only [nz, nzIns, nzFun] at f7
  refine sim_bind (fun out10 h22 => ?_)
  have f23 := r08_Next_l5_ok x_2 ([], 0) _ h22
  dsimp only at f23
  refine sim_some ?_
  refine evI_ret (x := x26) rfl rfl rfl ?_
  rcases own_cases out10 with rfl | o_out10
  · try simp only [nz, nzIns, nzFun, f6o] at f23
    all_goals
      refine' (w_fn rfl rfl (w_seq (w_reg (w_cons ?_ (w_cons ?_ w_nil)) ?_) (w_go (w_seq (w_reg (w_cons ?_ w_nil) ?_) (w_go (w_seq (w_regD ?_ ?_ (w_consD rfl ?_ ?_ ?_ (w_consD rfl ?_ ?_ ?_ (w_consD rfl ?_ ?_ ?_ (w_consD rfl ?_ ?_ ?_ (w_consD rfl ?_ ?_ ?_ (w_consD rfl ?_ ?_ ?_ (w_consD rfl ?_ ?_ ?_ (w_consD rfl ?_ ?_ ?_ (w_consD rfl ?_ ?_ ?_ (w_consD rfl ?_ ?_ ?_ (w_consD rfl ?_ ?_ ?_ (w_consD rfl ?_ ?_ ?_ (w_barD rfl rfl (w_cons ?_ (w_cons ?_ (w_cons ?_ (w_cons ?_ w_nil))))))))))))))))) ?_) (w_go (w_seq (w_seq (w_reg (w_cons ?_ w_nil) ?_) (w_go (w_block f23 ?_))) (w_go (w_seq (w_reg (w_cons ?_ (w_cons ?_ w_nil)) ?_) (w_go w_ret)))))))))) ?_)
      all_goals (first | (simp only [x26, nz, rn, nzIns, nzFun, f2, f2o, f3, f4, f6, f6o, f7, Int.reduceLT, Int.reduceEq, List.contains_cons, List.contains_nil, Option.map_some, Option.map_none, reduceIte, reduceCtorEq, Nat.reduceEqDiff, Nat.reduceLT, Nat.reduceBEq, Nat.reduceAdd, Nat.reduceMul, Nat.reduceLeDiff, Nat.reduceSub, Bool.false_eq_true]; try rfl) | skip)
  · try simp only [nz, nzIns, nzFun, o_out10, f6o] at f23
    all_goals
      refine' (w_fn rfl rfl (w_seq (w_reg (w_cons ?_ (w_cons ?_ w_nil)) ?_) (w_go (w_seq (w_reg (w_cons ?_ w_nil) ?_) (w_go (w_seq (w_regD ?_ ?_ (w_consD rfl ?_ ?_ ?_ (w_consD rfl ?_ ?_ ?_ (w_consD rfl ?_ ?_ ?_ (w_consD rfl ?_ ?_ ?_ (w_consD rfl ?_ ?_ ?_ (w_consD rfl ?_ ?_ ?_ (w_consD rfl ?_ ?_ ?_ (w_consD rfl ?_ ?_ ?_ (w_consD rfl ?_ ?_ ?_ (w_consD rfl ?_ ?_ ?_ (w_consD rfl ?_ ?_ ?_ (w_consD rfl ?_ ?_ ?_ (w_barD rfl rfl (w_cons ?_ (w_cons ?_ (w_cons ?_ (w_cons ?_ w_nil))))))))))))))))) ?_) (w_go (w_seq (w_seq (w_reg (w_cons ?_ w_nil) ?_) (w_go (w_block f23 ?_))) (w_go (w_seq (w_reg (w_cons ?_ (w_cons ?_ w_nil)) ?_) (w_go w_ret)))))))))) ?_)
      all_goals (first | (simp only [x26, nz, rn, nzIns, nzFun, f2, f2o, f3, f4, f6, f6o, f7, o_out10, Int.reduceLT, Int.reduceEq, List.contains_cons, List.contains_nil, Option.map_some, Option.map_none, reduceIte, reduceCtorEq, Nat.reduceEqDiff, Nat.reduceLT, Nat.reduceBEq, Nat.reduceAdd, Nat.reduceMul, Nat.reduceLeDiff, Nat.reduceSub, Bool.false_eq_true]; try rfl) | skip)
theorem r08_Next_okN (p0 : Fun) (p1 : Int) : Sim (r08_Next p0 p1) fun r => ∀ ws, ws.map normA = [.agg [.str p0.Name, .sl p0.Params.length (p0.Params.flatMap (cint .i64)), .int .i64 p0.Ret, .sl p0.Blocks.length (p0.Blocks.flatMap (csl cIns)), .int .i64 p0.At], .int .i64 p1] → evI T 26 ws = some (.sl r.length (r.flatMap (cint .i64)), [.none, .none]) := fun r h => evI_okN (x := x26) rfl rfl rfl (r08_Next_ok p0 p1 r h)
end Go.Ab

/-
  Printed by gen.py.
-/
namespace Go.Ab
open Go
set_option linter.unusedVariables false
set_option linter.unusedSimpArgs false
set_option maxRecDepth 100000
set_option maxHeartbeats 4000000
theorem r08_Succs_l1_bok (p0 : Fun) (out1 : List (List Int)) (k2 : Int) : Sim (r08_Succs_l1_b p0 out1 k2) fun x => fgt [1, 3, 4] (evX (evI T) x14_1 [(1, .box [.str p0.Name, .sl p0.Params.length (p0.Params.flatMap (cint .i64)), .int .i64 p0.Ret, .sl p0.Blocks.length (p0.Blocks.flatMap (csl cIns)), .int .i64 p0.At]), (3, mkOwn 1 out1.length (out1.flatMap (csl (cint .i64)))), (4, .int .i64 k2)]) = some (stpK (fun s => (.norm, [(1, .box [.str p0.Name, .sl p0.Params.length (p0.Params.flatMap (cint .i64)), .int .i64 p0.Ret, .sl p0.Blocks.length (p0.Blocks.flatMap (csl cIns)), .int .i64 p0.At]), (3, mkOwn 1 s.1.length (s.1.flatMap (csl (cint .i64)))), (4, .int .i64 s.2)])) (fun r => (.exit 0, [(3, mkOwn 1 r.length (r.flatMap (csl (cint .i64))))])) x) := by
  unfold r08_Succs_l1_b
  refine sim_if (fun h1 => ?_) (fun h1 => ?_)
  · refine sim_bind (fun r3 h2 => ?_)
    have f3 := r08_Next_okN p0 k2 _ h2
    dsimp only at f3
    refine sim_bind (fun l_4 h4 => ?_)
    have f5 := app1_cond h4
    try simp only [nz, Nat.reduceLeDiff, Nat.reduceAdd, Nat.reduceMul, Nat.reduceSub] at f5
    have f5a : PV.own 1 (out1.length + 1) (out1.flatMap (csl (cint .i64)) ++ [.sl r3.length (r3.flatMap (cint .i64))]) = .own 1 l_4.length (l_4.flatMap (csl (cint .i64))) := app1_own h4 (csl (cint .i64)) 1
    have f5o := app1_own2 h4
    refine sim_some ?_
    rcases own_cases out1 with rfl | o_out1
    · obtain rfl := app_eq h4
      try simp only [nz, nzIns, nzFun, f5o] at f3
      all_goals
        refine' (w_fgt (w_seq (w_seq (w_reg (w_cons ?_ (w_cons ?_ (w_cons ?_ (w_cons ?_ (w_cons ?_ w_nil))))) ?_) (w_go (w_condt ?_ w_skip ?_))) (w_go (w_seq (w_block (w_reg (w_cons ?_ (w_cons ?_ (w_cons ?_ (w_cons ?_ (w_cons ?_ (w_cons ?_ (w_cons ?_ w_nil))))))) ?_) ?_) (w_go (w_reg (w_cons ?_ (w_cons ?_ (w_cons ?_ w_nil))) ?_))))) ?_)
        all_goals (first | (simp only [nz, rn, nzIns, nzFun, h1, f3, Int.reduceLT, Int.reduceEq, List.contains_cons, List.contains_nil, Option.map_some, Option.map_none, reduceIte, reduceCtorEq, Nat.reduceEqDiff, Nat.reduceLT, Nat.reduceBEq, Nat.reduceAdd, Nat.reduceMul, Nat.reduceLeDiff, Nat.reduceSub, Bool.false_eq_true]; try rfl) | skip)
    · try simp only [nz, nzIns, nzFun, o_out1, f5o] at f3
      all_goals
        refine' (w_fgt (w_seq (w_seq (w_reg (w_cons ?_ (w_cons ?_ (w_cons ?_ (w_cons ?_ (w_cons ?_ w_nil))))) ?_) (w_go (w_condt ?_ w_skip ?_))) (w_go (w_seq (w_block (w_reg (w_cons ?_ (w_cons ?_ (w_cons ?_ (w_cons ?_ (w_cons ?_ (w_cons ?_ (w_cons ?_ w_nil))))))) ?_) ?_) (w_go (w_reg (w_cons ?_ (w_cons ?_ (w_cons ?_ w_nil))) ?_))))) ?_)
        all_goals (first | (simp only [nz, rn, nzIns, nzFun, h1, f3, f5, f5a, f5o, o_out1, Int.reduceLT, Int.reduceEq, List.contains_cons, List.contains_nil, Option.map_some, Option.map_none, reduceIte, reduceCtorEq, Nat.reduceEqDiff, Nat.reduceLT, Nat.reduceBEq, Nat.reduceAdd, Nat.reduceMul, Nat.reduceLeDiff, Nat.reduceSub, Bool.false_eq_true]; try rfl) | skip)
  · refine sim_some ?_
    refine' (w_fgt (w_seq (w_seq (w_reg (w_cons ?_ (w_cons ?_ (w_cons ?_ (w_cons ?_ (w_cons ?_ w_nil))))) ?_) (w_go (w_condf ?_ (w_exit ?_) ?_))) w_gox) ?_)
    all_goals (first | (simp only [nz, rn, nzIns, nzFun, h1, Int.reduceLT, Int.reduceEq, List.contains_cons, List.contains_nil, Option.map_some, Option.map_none, reduceIte, reduceCtorEq, Nat.reduceEqDiff, Nat.reduceLT, Nat.reduceBEq, Nat.reduceAdd, Nat.reduceMul, Nat.reduceLeDiff, Nat.reduceSub, Bool.false_eq_true]; try rfl) | skip)
theorem r08_Succs_l1_ok (p0 : Fun) (s : List (List Int) × Int) : Sim (r08_Succs_l1 p0 s) fun r => evX (evI T) (.loop x14_1 [1, 3, 4]) [(1, .box [.str p0.Name, .sl p0.Params.length (p0.Params.flatMap (cint .i64)), .int .i64 p0.Ret, .sl p0.Blocks.length (p0.Blocks.flatMap (csl cIns)), .int .i64 p0.At]), (3, mkOwn 1 s.1.length (s.1.flatMap (csl (cint .i64)))), (4, .int .i64 s.2)] = some (.exit 0, [(3, mkOwn 1 r.length (r.flatMap (csl (cint .i64))))]) := by
  unfold r08_Succs_l1
  exact loop_rule (C := evI T) (b := x14_1) (ks := [1, 3, 4]) (σ := List (List Int) × Int) (ρ := List (List Int)) (body := fun s => r08_Succs_l1_b p0 s.1 s.2) (E := fun s => [(1, .box [.str p0.Name, .sl p0.Params.length (p0.Params.flatMap (cint .i64)), .int .i64 p0.Ret, .sl p0.Blocks.length (p0.Blocks.flatMap (csl cIns)), .int .i64 p0.At]), (3, mkOwn 1 s.1.length (s.1.flatMap (csl (cint .i64)))), (4, .int .i64 s.2)]) (R := fun r => (.exit 0, [(3, mkOwn 1 r.length (r.flatMap (csl (cint .i64))))])) (fun r h => nomatch h) (fun s => r08_Succs_l1_bok p0 s.1 s.2) s
theorem r08_Succs_ok (p0 : Fun) : Sim (r08_Succs p0) fun r => evI T 14 [.agg [.str p0.Name, .sl p0.Params.length (p0.Params.flatMap (cint .i64)), .int .i64 p0.Ret, .sl p0.Blocks.length (p0.Blocks.flatMap (csl cIns)), .int .i64 p0.At]] = some (.sl r.length (r.flatMap (csl (cint .i64))), [.none]) := by
  unfold r08_Succs
  refine sim_bind (fun out5 h6 => ?_)
  have f7 := r08_Succs_l1_ok p0 ([], 0) _ h6
  dsimp only at f7
  refine sim_some ?_
  refine evI_ret (x := x14) rfl rfl rfl ?_
  rcases own_cases out5 with rfl | o_out5
  · try simp only [nz, nzIns, nzFun] at f7
    all_goals
      refine' (w_fn rfl rfl (w_seq (w_reg (w_cons ?_ (w_cons ?_ w_nil)) ?_) (w_go (w_seq (w_reg (w_cons ?_ w_nil) ?_) (w_go (w_seq (w_seq (w_reg (w_cons ?_ w_nil) ?_) (w_go (w_block f7 ?_))) (w_go (w_seq (w_reg (w_cons ?_ (w_cons ?_ w_nil)) ?_) (w_go w_ret)))))))) ?_)
      all_goals (first | (simp only [x14, nz, rn, nzIns, nzFun, Int.reduceLT, Int.reduceEq, List.contains_cons, List.contains_nil, Option.map_some, Option.map_none, reduceIte, reduceCtorEq, Nat.reduceEqDiff, Nat.reduceLT, Nat.reduceBEq, Nat.reduceAdd, Nat.reduceMul, Nat.reduceLeDiff, Nat.reduceSub, Bool.false_eq_true]; try rfl) | skip)
  · try simp only [nz, nzIns, nzFun, o_out5] at f7
    all_goals
      refine' (w_fn rfl rfl (w_seq (w_reg (w_cons ?_ (w_cons ?_ w_nil)) ?_) (w_go (w_seq (w_reg (w_cons ?_ w_nil) ?_) (w_go (w_seq (w_seq (w_reg (w_cons ?_ w_nil) ?_) (w_go (w_block f7 ?_))) (w_go (w_seq (w_reg (w_cons ?_ (w_cons ?_ w_nil)) ?_) (w_go w_ret)))))))) ?_)
      all_goals (first | (simp only [x14, nz, rn, nzIns, nzFun, o_out5, Int.reduceLT, Int.reduceEq, List.contains_cons, List.contains_nil, Option.map_some, Option.map_none, reduceIte, reduceCtorEq, Nat.reduceEqDiff, Nat.reduceLT, Nat.reduceBEq, Nat.reduceAdd, Nat.reduceMul, Nat.reduceLeDiff, Nat.reduceSub, Bool.false_eq_true]; try rfl) | skip)
theorem r08_Succs_okN (p0 : Fun) : Sim (r08_Succs p0) fun r => ∀ ws, ws.map normA = [.agg [.str p0.Name, .sl p0.Params.length (p0.Params.flatMap (cint .i64)), .int .i64 p0.Ret, .sl p0.Blocks.length (p0.Blocks.flatMap (csl cIns)), .int .i64 p0.At]] → evI T 14 ws = some (.sl r.length (r.flatMap (csl (cint .i64))), [.none]) := fun r h => evI_okN (x := x14) rfl rfl rfl (r08_Succs_ok p0 r h)
end Go.Ab

/-
  Printed by gen.py.
-/
namespace Go.Ab
open Go
set_option linter.unusedVariables false
set_option linter.unusedSimpArgs false
set_option maxRecDepth 100000
set_option maxHeartbeats 4000000
theorem r08_Path_j7_ok (p0 : List (List Int)) (p1 : List Int) (p2 : Int) (p3 : Int) (v1 : List Int) (v2 : Int) : Sim (r08_Path_j7 p0 p1 p2 p3 v1 v2) fun r => evX (evI T) x25_1 [(0, .sl p0.length (p0.flatMap (csl (cint .i64)))), (1, .sl p1.length (p1.flatMap (cint .i64))), (2, .int .i64 p2), (3, .int .i64 p3), (9, mkOwn 1 v1.length (v1.flatMap (cint .i64))), (10, .int .i64 v2)] = some (.norm, [(0, .sl p0.length (p0.flatMap (csl (cint .i64)))), (1, .sl p1.length (p1.flatMap (cint .i64))), (2, .int .i64 p2), (3, .int .i64 p3), (9, mkOwn 1 v1.length (v1.flatMap (cint .i64))), (10, .int .i64 v2), (34, .bool r)]) := by
  unfold r08_Path_j7
  refine sim_bind (fun x_3 h2 => ?_)
  have f3 := ix_ok h2
  have f3o := ix_own2 h2
  have f4 := ix_cells (sz_int .i64) h2
  simp only [nz] at f4
  refine sim_if (fun h5 => ?_) (fun h5 => ?_)
  · have f6 := ix_cells (sz_int .i64) h2
    simp only [nz] at f6
    refine sim_bind (fun r4 h7 => ?_)
    have f8 := r08_Has_okN v1 x_3 _ h7
    dsimp only at f8
    refine sim_some ?_
    rcases own_cases v1 with rfl | o_v1
    · try simp only [nz, f3o] at f8
      all_goals
        refine' (w_reg (w_cons ?_ (w_cons ?_ (w_cons ?_ (w_cons ?_ (w_cons ?_ (w_cons ?_ (w_cons ?_ (w_cons ?_ (w_cons ?_ (w_cons ?_ (w_cons ?_ (w_cons ?_ (w_cons ?_ (w_cons ?_ (w_cons ?_ w_nil))))))))))))))) ?_)
        all_goals (first | (simp only [nz, rn, f3, f3o, f4, h5, f6, f8, Int.reduceLT, Int.reduceEq, List.contains_cons, List.contains_nil, Option.map_some, Option.map_none, reduceIte, reduceCtorEq, Nat.reduceEqDiff, Nat.reduceLT, Nat.reduceBEq, Nat.reduceAdd, Nat.reduceMul, Nat.reduceLeDiff, Nat.reduceSub, Bool.false_eq_true]; try rfl) | skip)
    · try simp only [nz, o_v1, f3o] at f8
      all_goals
        refine' (w_reg (w_cons ?_ (w_cons ?_ (w_cons ?_ (w_cons ?_ (w_cons ?_ (w_cons ?_ (w_cons ?_ (w_cons ?_ (w_cons ?_ (w_cons ?_ (w_cons ?_ (w_cons ?_ (w_cons ?_ (w_cons ?_ (w_cons ?_ w_nil))))))))))))))) ?_)
        all_goals (first | (simp only [nz, rn, f3, f3o, f4, h5, f6, f8, o_v1, Int.reduceLT, Int.reduceEq, List.contains_cons, List.contains_nil, Option.map_some, Option.map_none, reduceIte, reduceCtorEq, Nat.reduceEqDiff, Nat.reduceLT, Nat.reduceBEq, Nat.reduceAdd, Nat.reduceMul, Nat.reduceLeDiff, Nat.reduceSub, Bool.false_eq_true]; try rfl) | skip)
  · refine sim_some ?_
    refine' (w_reg (w_cons ?_ (w_cons ?_ (w_cons ?_ (w_cons ?_ (w_cons ?_ (w_cons ?_ (w_cons ?_ (w_cons ?_ (w_cons ?_ (w_cons ?_ (w_cons ?_ (w_cons ?_ (w_cons ?_ (w_cons ?_ (w_cons ?_ w_nil))))))))))))))) ?_)
    all_goals (first | (simp only [nz, rn, f3, f3o, f4, h5, Int.reduceLT, Int.reduceEq, List.contains_cons, List.contains_nil, Option.map_some, Option.map_none, reduceIte, reduceCtorEq, Nat.reduceEqDiff, Nat.reduceLT, Nat.reduceBEq, Nat.reduceAdd, Nat.reduceMul, Nat.reduceLeDiff, Nat.reduceSub, Bool.false_eq_true]; try rfl) | skip)
theorem r08_Path_j8_ok (p0 : List (List Int)) (p1 : List Int) (p2 : Int) (p3 : Int) (v1 : List Int) (v2 : Int) (v5 : Bool) : Sim (r08_Path_j8 p0 p1 p2 p3 v1 v2 v5) fun r => evX (evI T) x25_2 [(0, .sl p0.length (p0.flatMap (csl (cint .i64)))), (1, .sl p1.length (p1.flatMap (cint .i64))), (2, .int .i64 p2), (3, .int .i64 p3), (9, mkOwn 1 v1.length (v1.flatMap (cint .i64))), (10, .int .i64 v2), (34, .bool v5)] = some (.norm, [(0, .sl p0.length (p0.flatMap (csl (cint .i64)))), (1, .sl p1.length (p1.flatMap (cint .i64))), (2, .int .i64 p2), (3, .int .i64 p3), (9, mkOwn 1 r.length (r.flatMap (cint .i64))), (10, .int .i64 v2)]) := by
  unfold r08_Path_j8
  refine sim_if (fun h11 => ?_) (fun h11 => ?_)
  · refine sim_bind (fun x_6 h12 => ?_)
    have f13 := ix_ok h12
    have f13o := ix_own2 h12
    have f14 := ix_cells (sz_int .i64) h12
    simp only [nz] at f14
    refine sim_bind (fun l_7 h15 => ?_)
    have f16 := app1_cond h15
    try simp only [nz, Nat.reduceLeDiff, Nat.reduceAdd, Nat.reduceMul, Nat.reduceSub] at f16
    have f16a : PV.own 1 (v1.length + 1) (v1.flatMap (cint .i64) ++ [.int .i64 x_6]) = .own 1 l_7.length (l_7.flatMap (cint .i64)) := app1_own h15 (cint .i64) 1
    have f16o := app1_own2 h15
    refine sim_some ?_
    rcases own_cases v1 with rfl | o_v1
    · obtain rfl := app_eq h15
      refine' (w_condt ?_ (w_reg (w_cons ?_ (w_cons ?_ (w_cons ?_ (w_cons ?_ (w_cons ?_ (w_cons ?_ (w_cons ?_ (w_cons ?_ w_nil)))))))) ?_) ?_)
      all_goals (first | (simp only [nz, rn, h11, f13, f13o, f14, Int.reduceLT, Int.reduceEq, List.contains_cons, List.contains_nil, Option.map_some, Option.map_none, reduceIte, reduceCtorEq, Nat.reduceEqDiff, Nat.reduceLT, Nat.reduceBEq, Nat.reduceAdd, Nat.reduceMul, Nat.reduceLeDiff, Nat.reduceSub, Bool.false_eq_true]; try rfl) | skip)
    · refine' (w_condt ?_ (w_reg (w_cons ?_ (w_cons ?_ (w_cons ?_ (w_cons ?_ (w_cons ?_ (w_cons ?_ (w_cons ?_ (w_cons ?_ w_nil)))))))) ?_) ?_)
      all_goals (first | (simp only [nz, rn, h11, f13, f13o, f14, f16, f16a, f16o, o_v1, Int.reduceLT, Int.reduceEq, List.contains_cons, List.contains_nil, Option.map_some, Option.map_none, reduceIte, reduceCtorEq, Nat.reduceEqDiff, Nat.reduceLT, Nat.reduceBEq, Nat.reduceAdd, Nat.reduceMul, Nat.reduceLeDiff, Nat.reduceSub, Bool.false_eq_true]; try rfl) | skip)
  · refine sim_some ?_
    refine' (w_condf ?_ w_skip ?_)
    all_goals (first | (simp only [nz, rn, h11, Int.reduceLT, Int.reduceEq, List.contains_cons, List.contains_nil, Option.map_some, Option.map_none, reduceIte, reduceCtorEq, Nat.reduceEqDiff, Nat.reduceLT, Nat.reduceBEq, Nat.reduceAdd, Nat.reduceMul, Nat.reduceLeDiff, Nat.reduceSub, Bool.false_eq_true]; try rfl) | skip)
theorem r08_Path_l9_bok (p0 : List (List Int)) (p1 : List Int) (p2 : Int) (p3 : Int) (v1 : List Int) (v2 : Int) : Sim (r08_Path_l9_b p0 p1 p2 p3 v1 v2) fun x => fgt [0, 1, 2, 3, 9, 10] (evX (evI T) x25_3 [(0, .sl p0.length (p0.flatMap (csl (cint .i64)))), (1, .sl p1.length (p1.flatMap (cint .i64))), (2, .int .i64 p2), (3, .int .i64 p3), (9, mkOwn 1 v1.length (v1.flatMap (cint .i64))), (10, .int .i64 v2)]) = some (stpK (fun s => (.norm, [(0, .sl p0.length (p0.flatMap (csl (cint .i64)))), (1, .sl p1.length (p1.flatMap (cint .i64))), (2, .int .i64 p2), (3, .int .i64 p3), (9, mkOwn 1 s.1.length (s.1.flatMap (cint .i64))), (10, .int .i64 s.2)])) (fun r => (.exit 0, [(0, .sl p0.length (p0.flatMap (csl (cint .i64)))), (2, .int .i64 p2), (3, .int .i64 p3), (9, mkOwn 1 r.length (r.flatMap (cint .i64)))])) x) := by
  unfold r08_Path_l9_b
  refine sim_if (fun h1 => ?_) (fun h1 => ?_)
  · refine sim_bind (fun v5 h9 => ?_)
    have f10 := r08_Path_j7_ok p0 p1 p2 p3 v1 v2 _ h9
    dsimp only at f10
    refine sim_bind (fun v8 h17 => ?_)
    have f18 := r08_Path_j8_ok p0 p1 p2 p3 v1 v2 v5 _ h17
    dsimp only at f18
    refine sim_some ?_
    try simp only [nz] at f10
    try simp only [nz] at f18
    all_goals
      refine' (w_fgt (w_seq (w_seq (w_reg (w_cons ?_ (w_cons ?_ (w_cons ?_ (w_cons ?_ w_nil)))) ?_) (w_go (w_condt ?_ w_skip ?_))) (w_go (w_seq (w_block (w_seq f10 (w_go f18)) ?_) (w_go (w_reg (w_cons ?_ (w_cons ?_ (w_cons ?_ w_nil))) ?_))))) ?_)
      all_goals (first | (simp only [nz, rn, h1, Int.reduceLT, Int.reduceEq, List.contains_cons, List.contains_nil, Option.map_some, Option.map_none, reduceIte, reduceCtorEq, Nat.reduceEqDiff, Nat.reduceLT, Nat.reduceBEq, Nat.reduceAdd, Nat.reduceMul, Nat.reduceLeDiff, Nat.reduceSub, Bool.false_eq_true]; try rfl) | skip)
  · refine sim_some ?_
    refine' (w_fgt (w_seq (w_seq (w_reg (w_cons ?_ (w_cons ?_ (w_cons ?_ (w_cons ?_ w_nil)))) ?_) (w_go (w_condf ?_ (w_exit ?_) ?_))) w_gox) ?_)
    all_goals (first | (simp only [nz, rn, h1, Int.reduceLT, Int.reduceEq, List.contains_cons, List.contains_nil, Option.map_some, Option.map_none, reduceIte, reduceCtorEq, Nat.reduceEqDiff, Nat.reduceLT, Nat.reduceBEq, Nat.reduceAdd, Nat.reduceMul, Nat.reduceLeDiff, Nat.reduceSub, Bool.false_eq_true]; try rfl) | skip)
theorem r08_Path_l9_ok (p0 : List (List Int)) (p1 : List Int) (p2 : Int) (p3 : Int) (s : List Int × Int) : Sim (r08_Path_l9 p0 p1 p2 p3 s) fun r => evX (evI T) (.loop x25_3 [0, 1, 2, 3, 9, 10]) [(0, .sl p0.length (p0.flatMap (csl (cint .i64)))), (1, .sl p1.length (p1.flatMap (cint .i64))), (2, .int .i64 p2), (3, .int .i64 p3), (9, mkOwn 1 s.1.length (s.1.flatMap (cint .i64))), (10, .int .i64 s.2)] = some (.exit 0, [(0, .sl p0.length (p0.flatMap (csl (cint .i64)))), (2, .int .i64 p2), (3, .int .i64 p3), (9, mkOwn 1 r.length (r.flatMap (cint .i64)))]) := by
  unfold r08_Path_l9
  exact loop_rule (C := evI T) (b := x25_3) (ks := [0, 1, 2, 3, 9, 10]) (σ := List Int × Int) (ρ := List Int) (body := fun s => r08_Path_l9_b p0 p1 p2 p3 s.1 s.2) (E := fun s => [(0, .sl p0.length (p0.flatMap (csl (cint .i64)))), (1, .sl p1.length (p1.flatMap (cint .i64))), (2, .int .i64 p2), (3, .int .i64 p3), (9, mkOwn 1 s.1.length (s.1.flatMap (cint .i64))), (10, .int .i64 s.2)]) (R := fun r => (.exit 0, [(0, .sl p0.length (p0.flatMap (csl (cint .i64)))), (2, .int .i64 p2), (3, .int .i64 p3), (9, mkOwn 1 r.length (r.flatMap (cint .i64)))])) (fun r h => nomatch h) (fun s => r08_Path_l9_bok p0 p1 p2 p3 s.1 s.2) s
theorem r08_Path_j43_ok (p0 : List (List Int)) (p2 : Int) (p3 : Int) (v11 : Int) (x_13 : List Int) (v14 : List Int) (v15 : Int) : Sim (r08_Path_j43 p0 p2 p3 v11 x_13 v14 v15) fun r => evX (evI T) x25_4 [(0, .sl p0.length (p0.flatMap (csl (cint .i64)))), (2, .int .i64 p2), (3, .int .i64 p3), (9, mkOwn 1 v14.length (v14.flatMap (cint .i64))), (11, .int .i64 v11), (12, .sl x_13.length (x_13.flatMap (cint .i64))), (13, .int .i64 v15)] = some (.norm, [(0, .sl p0.length (p0.flatMap (csl (cint .i64)))), (2, .int .i64 p2), (3, .int .i64 p3), (9, mkOwn 1 v14.length (v14.flatMap (cint .i64))), (11, .int .i64 v11), (12, .sl x_13.length (x_13.flatMap (cint .i64))), (13, .int .i64 v15), (75, .bool r)]) := by
  unfold r08_Path_j43
  refine sim_bind (fun x_16 h29 => ?_)
  have f30 := ix_ok h29
  have f30o := ix_own2 h29
  have f31 := ix_cells (sz_int .i64) h29
  simp only [nz] at f31
  refine sim_if (fun h32 => ?_) (fun h32 => ?_)
  · have f33 := ix_cells (sz_int .i64) h29
    simp only [nz] at f33
    refine sim_bind (fun r17 h34 => ?_)
    have f35 := r08_Has_okN v14 x_16 _ h34
    dsimp only at f35
    refine sim_some ?_
    rcases own_cases v14 with rfl | o_v14
    · try simp only [nz, f30o] at f35
      all_goals
        refine' (w_reg (w_cons ?_ (w_cons ?_ (w_cons ?_ (w_cons ?_ (w_cons ?_ (w_cons ?_ (w_cons ?_ (w_cons ?_ (w_cons ?_ (w_cons ?_ (w_cons ?_ (w_cons ?_ (w_cons ?_ (w_cons ?_ (w_cons ?_ w_nil))))))))))))))) ?_)
        all_goals (first | (simp only [nz, rn, f30, f30o, f31, h32, f33, f35, Int.reduceLT, Int.reduceEq, List.contains_cons, List.contains_nil, Option.map_some, Option.map_none, reduceIte, reduceCtorEq, Nat.reduceEqDiff, Nat.reduceLT, Nat.reduceBEq, Nat.reduceAdd, Nat.reduceMul, Nat.reduceLeDiff, Nat.reduceSub, Bool.false_eq_true]; try rfl) | skip)
    · try simp only [nz, o_v14, f30o] at f35
      all_goals
        refine' (w_reg (w_cons ?_ (w_cons ?_ (w_cons ?_ (w_cons ?_ (w_cons ?_ (w_cons ?_ (w_cons ?_ (w_cons ?_ (w_cons ?_ (w_cons ?_ (w_cons ?_ (w_cons ?_ (w_cons ?_ (w_cons ?_ (w_cons ?_ w_nil))))))))))))))) ?_)
        all_goals (first | (simp only [nz, rn, f30, f30o, f31, h32, f33, f35, o_v14, Int.reduceLT, Int.reduceEq, List.contains_cons, List.contains_nil, Option.map_some, Option.map_none, reduceIte, reduceCtorEq, Nat.reduceEqDiff, Nat.reduceLT, Nat.reduceBEq, Nat.reduceAdd, Nat.reduceMul, Nat.reduceLeDiff, Nat.reduceSub, Bool.false_eq_true]; try rfl) | skip)
  · refine sim_some ?_
    refine' (w_reg (w_cons ?_ (w_cons ?_ (w_cons ?_ (w_cons ?_ (w_cons ?_ (w_cons ?_ (w_cons ?_ (w_cons ?_ (w_cons ?_ (w_cons ?_ (w_cons ?_ (w_cons ?_ (w_cons ?_ (w_cons ?_ (w_cons ?_ w_nil))))))))))))))) ?_)
    all_goals (first | (simp only [nz, rn, f30, f30o, f31, h32, Int.reduceLT, Int.reduceEq, List.contains_cons, List.contains_nil, Option.map_some, Option.map_none, reduceIte, reduceCtorEq, Nat.reduceEqDiff, Nat.reduceLT, Nat.reduceBEq, Nat.reduceAdd, Nat.reduceMul, Nat.reduceLeDiff, Nat.reduceSub, Bool.false_eq_true]; try rfl) | skip)
theorem r08_Path_j44_ok (p0 : List (List Int)) (p2 : Int) (p3 : Int) (v11 : Int) (x_13 : List Int) (v14 : List Int) (v15 : Int) (v18 : Bool) : Sim (r08_Path_j44 p0 p2 p3 v11 x_13 v14 v15 v18) fun r => evX (evI T) x25_5 [(0, .sl p0.length (p0.flatMap (csl (cint .i64)))), (2, .int .i64 p2), (3, .int .i64 p3), (9, mkOwn 1 v14.length (v14.flatMap (cint .i64))), (11, .int .i64 v11), (12, .sl x_13.length (x_13.flatMap (cint .i64))), (13, .int .i64 v15), (75, .bool v18)] = some (.norm, [(0, .sl p0.length (p0.flatMap (csl (cint .i64)))), (2, .int .i64 p2), (3, .int .i64 p3), (9, mkOwn 1 r.length (r.flatMap (cint .i64))), (11, .int .i64 v11), (12, .sl x_13.length (x_13.flatMap (cint .i64))), (13, .int .i64 v15)]) := by
  unfold r08_Path_j44
  refine sim_if (fun h38 => ?_) (fun h38 => ?_)
  · refine sim_bind (fun x_19 h39 => ?_)
    have f40 := ix_ok h39
    have f40o := ix_own2 h39
    have f41 := ix_cells (sz_int .i64) h39
    simp only [nz] at f41
    refine sim_bind (fun l_20 h42 => ?_)
    have f43 := app1_cond h42
    try simp only [nz, Nat.reduceLeDiff, Nat.reduceAdd, Nat.reduceMul, Nat.reduceSub] at f43
    have f43a : PV.own 1 (v14.length + 1) (v14.flatMap (cint .i64) ++ [.int .i64 x_19]) = .own 1 l_20.length (l_20.flatMap (cint .i64)) := app1_own h42 (cint .i64) 1
    have f43o := app1_own2 h42
    refine sim_some ?_
    rcases own_cases v14 with rfl | o_v14
    · obtain rfl := app_eq h42
      refine' (w_condt ?_ (w_reg (w_cons ?_ (w_cons ?_ (w_cons ?_ (w_cons ?_ (w_cons ?_ (w_cons ?_ (w_cons ?_ (w_cons ?_ w_nil)))))))) ?_) ?_)
      all_goals (first | (simp only [nz, rn, h38, f40, f40o, f41, Int.reduceLT, Int.reduceEq, List.contains_cons, List.contains_nil, Option.map_some, Option.map_none, reduceIte, reduceCtorEq, Nat.reduceEqDiff, Nat.reduceLT, Nat.reduceBEq, Nat.reduceAdd, Nat.reduceMul, Nat.reduceLeDiff, Nat.reduceSub, Bool.false_eq_true]; try rfl) | skip)
    · refine' (w_condt ?_ (w_reg (w_cons ?_ (w_cons ?_ (w_cons ?_ (w_cons ?_ (w_cons ?_ (w_cons ?_ (w_cons ?_ (w_cons ?_ w_nil)))))))) ?_) ?_)
      all_goals (first | (simp only [nz, rn, h38, f40, f40o, f41, f43, f43a, f43o, o_v14, Int.reduceLT, Int.reduceEq, List.contains_cons, List.contains_nil, Option.map_some, Option.map_none, reduceIte, reduceCtorEq, Nat.reduceEqDiff, Nat.reduceLT, Nat.reduceBEq, Nat.reduceAdd, Nat.reduceMul, Nat.reduceLeDiff, Nat.reduceSub, Bool.false_eq_true]; try rfl) | skip)
  · refine sim_some ?_
    refine' (w_condf ?_ w_skip ?_)
    all_goals (first | (simp only [nz, rn, h38, Int.reduceLT, Int.reduceEq, List.contains_cons, List.contains_nil, Option.map_some, Option.map_none, reduceIte, reduceCtorEq, Nat.reduceEqDiff, Nat.reduceLT, Nat.reduceBEq, Nat.reduceAdd, Nat.reduceMul, Nat.reduceLeDiff, Nat.reduceSub, Bool.false_eq_true]; try rfl) | skip)
theorem r08_Path_l45_bok (p0 : List (List Int)) (p2 : Int) (p3 : Int) (v11 : Int) (x_13 : List Int) (v14 : List Int) (v15 : Int) : Sim (r08_Path_l45_b p0 p2 p3 v11 x_13 v14 v15) fun x => fgt [0, 2, 3, 9, 11, 12, 13] (evX (evI T) x25_6 [(0, .sl p0.length (p0.flatMap (csl (cint .i64)))), (2, .int .i64 p2), (3, .int .i64 p3), (9, mkOwn 1 v14.length (v14.flatMap (cint .i64))), (11, .int .i64 v11), (12, .sl x_13.length (x_13.flatMap (cint .i64))), (13, .int .i64 v15)]) = some (stpK (fun s => (.norm, [(0, .sl p0.length (p0.flatMap (csl (cint .i64)))), (2, .int .i64 p2), (3, .int .i64 p3), (9, mkOwn 1 s.1.length (s.1.flatMap (cint .i64))), (11, .int .i64 v11), (12, .sl x_13.length (x_13.flatMap (cint .i64))), (13, .int .i64 s.2)])) (fun r => (.exit 4, [(0, .sl p0.length (p0.flatMap (csl (cint .i64)))), (2, .int .i64 p2), (3, .int .i64 p3), (9, mkOwn 1 r.length (r.flatMap (cint .i64))), (11, .int .i64 v11)])) x) := by
  unfold r08_Path_l45_b
  refine sim_if (fun h28 => ?_) (fun h28 => ?_)
  · refine sim_bind (fun v18 h36 => ?_)
    have f37 := r08_Path_j43_ok p0 p2 p3 v11 x_13 v14 v15 _ h36
    dsimp only at f37
    refine sim_bind (fun v21 h44 => ?_)
    have f45 := r08_Path_j44_ok p0 p2 p3 v11 x_13 v14 v15 v18 _ h44
    dsimp only at f45
    refine sim_some ?_
    try simp only [nz] at f37
    try simp only [nz] at f45
    all_goals
      refine' (w_fgt (w_seq (w_seq (w_reg (w_cons ?_ (w_cons ?_ (w_cons ?_ (w_cons ?_ w_nil)))) ?_) (w_go (w_condt ?_ w_skip ?_))) (w_go (w_seq (w_block (w_seq f37 (w_go f45)) ?_) (w_go (w_reg (w_cons ?_ (w_cons ?_ (w_cons ?_ w_nil))) ?_))))) ?_)
      all_goals (first | (simp only [nz, rn, h28, Int.reduceLT, Int.reduceEq, List.contains_cons, List.contains_nil, Option.map_some, Option.map_none, reduceIte, reduceCtorEq, Nat.reduceEqDiff, Nat.reduceLT, Nat.reduceBEq, Nat.reduceAdd, Nat.reduceMul, Nat.reduceLeDiff, Nat.reduceSub, Bool.false_eq_true]; try rfl) | skip)
  · refine sim_some ?_
    refine' (w_fgt (w_seq (w_seq (w_reg (w_cons ?_ (w_cons ?_ (w_cons ?_ (w_cons ?_ w_nil)))) ?_) (w_go (w_condf ?_ (w_exit ?_) ?_))) w_gox) ?_)
    all_goals (first | (simp only [nz, rn, h28, Int.reduceLT, Int.reduceEq, List.contains_cons, List.contains_nil, Option.map_some, Option.map_none, reduceIte, reduceCtorEq, Nat.reduceEqDiff, Nat.reduceLT, Nat.reduceBEq, Nat.reduceAdd, Nat.reduceMul, Nat.reduceLeDiff, Nat.reduceSub, Bool.false_eq_true]; try rfl) | skip)
theorem r08_Path_l45_ok (p0 : List (List Int)) (p2 : Int) (p3 : Int) (v11 : Int) (x_13 : List Int) (s : List Int × Int) : Sim (r08_Path_l45 p0 p2 p3 v11 x_13 s) fun r => evX (evI T) (.loop x25_6 [0, 2, 3, 9, 11, 12, 13]) [(0, .sl p0.length (p0.flatMap (csl (cint .i64)))), (2, .int .i64 p2), (3, .int .i64 p3), (9, mkOwn 1 s.1.length (s.1.flatMap (cint .i64))), (11, .int .i64 v11), (12, .sl x_13.length (x_13.flatMap (cint .i64))), (13, .int .i64 s.2)] = some (.exit 4, [(0, .sl p0.length (p0.flatMap (csl (cint .i64)))), (2, .int .i64 p2), (3, .int .i64 p3), (9, mkOwn 1 r.length (r.flatMap (cint .i64))), (11, .int .i64 v11)]) := by
  unfold r08_Path_l45
  exact loop_rule (C := evI T) (b := x25_6) (ks := [0, 2, 3, 9, 11, 12, 13]) (σ := List Int × Int) (ρ := List Int) (body := fun s => r08_Path_l45_b p0 p2 p3 v11 x_13 s.1 s.2) (E := fun s => [(0, .sl p0.length (p0.flatMap (csl (cint .i64)))), (2, .int .i64 p2), (3, .int .i64 p3), (9, mkOwn 1 s.1.length (s.1.flatMap (cint .i64))), (11, .int .i64 v11), (12, .sl x_13.length (x_13.flatMap (cint .i64))), (13, .int .i64 s.2)]) (R := fun r => (.exit 4, [(0, .sl p0.length (p0.flatMap (csl (cint .i64)))), (2, .int .i64 p2), (3, .int .i64 p3), (9, mkOwn 1 r.length (r.flatMap (cint .i64))), (11, .int .i64 v11)])) (fun r h => nomatch h) (fun s => r08_Path_l45_bok p0 p2 p3 v11 x_13 s.1 s.2) s
theorem r08_Path_l46_bok (p0 : List (List Int)) (p2 : Int) (p3 : Int) (v10 : List Int) (v11 : Int) : Sim (r08_Path_l46_b p0 p2 p3 v10 v11) fun x => fgt [0, 2, 3, 9, 11] (evX (evI T) x25_7 [(0, .sl p0.length (p0.flatMap (csl (cint .i64)))), (2, .int .i64 p2), (3, .int .i64 p3), (9, mkOwn 1 v10.length (v10.flatMap (cint .i64))), (11, .int .i64 v11)]) = some (stpK (fun s => (.norm, [(0, .sl p0.length (p0.flatMap (csl (cint .i64)))), (2, .int .i64 p2), (3, .int .i64 p3), (9, mkOwn 1 s.1.length (s.1.flatMap (cint .i64))), (11, .int .i64 s.2)])) (fun r => (.exit 2, [(2, .int .i64 p2), (9, mkOwn 1 r.length (r.flatMap (cint .i64)))])) x) := by
  unfold r08_Path_l46_b
  refine sim_if (fun h21 => ?_) (fun h21 => ?_)
  · refine sim_bind (fun x_12 h22 => ?_)
    have f23 := ix_ok h22
    have f23o := ix_own2 h22
    have f24 : (v10.flatMap (cint .i64))[v11.toNat * 1]? = some (.int .i64 x_12) := ix_cell0 (sz_int .i64) h22 rfl
    have f24a : (v11.toNat * 1 + 1 ≤ v10.length * 1) = True := ix_le0 (sz_int .i64) h22 (by decide)
    refine sim_bind (fun x_13 h25 => ?_)
    have f26 := ix_ok h25
    have f26o := ix_own2 h25
    have f27 := ix_cells (sz_sl (cint .i64)) h25
    simp only [nz] at f27
    refine sim_bind (fun v22 h46 => ?_)
    have f47 := r08_Path_l45_ok p0 p2 p3 v11 x_13 (v10, 0) _ h46
    dsimp only at f47
    refine sim_some ?_
    try simp only [nz, f23o, f26o] at f47
    all_goals
      refine' (w_fgt (w_seq (w_seq (w_reg (w_cons ?_ (w_cons ?_ (w_cons ?_ (w_cons ?_ w_nil)))) ?_) (w_go (w_condt ?_ w_skip ?_))) (w_go (w_seq (w_block (w_seq (w_reg (w_cons ?_ (w_cons ?_ (w_cons ?_ (w_cons ?_ (w_cons ?_ (w_cons ?_ (w_cons ?_ (w_cons ?_ w_nil)))))))) ?_) (w_go (w_seq (w_reg (w_cons ?_ w_nil) ?_) (w_go (w_block f47 ?_))))) ?_) (w_go (w_reg (w_cons ?_ (w_cons ?_ (w_cons ?_ w_nil))) ?_))))) ?_)
      all_goals (first | (simp only [nz, rn, h21, f23, f23o, f24, f24a, f26, f26o, f27, Int.reduceLT, Int.reduceEq, List.contains_cons, List.contains_nil, Option.map_some, Option.map_none, reduceIte, reduceCtorEq, Nat.reduceEqDiff, Nat.reduceLT, Nat.reduceBEq, Nat.reduceAdd, Nat.reduceMul, Nat.reduceLeDiff, Nat.reduceSub, Bool.false_eq_true]; try rfl) | skip)
  · refine sim_some ?_
    rcases own_cases v10 with rfl | o_v10
    · try simp only [nz] at h21
      all_goals
        refine' (w_fgt (w_seq (w_seq (w_reg (w_cons ?_ (w_cons ?_ (w_cons ?_ (w_cons ?_ w_nil)))) ?_) (w_go (w_condf ?_ (w_exit ?_) ?_))) w_gox) ?_)
        all_goals (first | (simp only [nz, rn, h21, Int.reduceLT, Int.reduceEq, List.contains_cons, List.contains_nil, Option.map_some, Option.map_none, reduceIte, reduceCtorEq, Nat.reduceEqDiff, Nat.reduceLT, Nat.reduceBEq, Nat.reduceAdd, Nat.reduceMul, Nat.reduceLeDiff, Nat.reduceSub, Bool.false_eq_true]; try rfl) | skip)
    · refine' (w_fgt (w_seq (w_seq (w_reg (w_cons ?_ (w_cons ?_ (w_cons ?_ (w_cons ?_ w_nil)))) ?_) (w_go (w_condf ?_ (w_exit ?_) ?_))) w_gox) ?_)
      all_goals (first | (simp only [nz, rn, h21, o_v10, Int.reduceLT, Int.reduceEq, List.contains_cons, List.contains_nil, Option.map_some, Option.map_none, reduceIte, reduceCtorEq, Nat.reduceEqDiff, Nat.reduceLT, Nat.reduceBEq, Nat.reduceAdd, Nat.reduceMul, Nat.reduceLeDiff, Nat.reduceSub, Bool.false_eq_true]; try rfl) | skip)
theorem r08_Path_l46_ok (p0 : List (List Int)) (p2 : Int) (p3 : Int) (s : List Int × Int) : Sim (r08_Path_l46 p0 p2 p3 s) fun r => evX (evI T) (.loop x25_7 [0, 2, 3, 9, 11]) [(0, .sl p0.length (p0.flatMap (csl (cint .i64)))), (2, .int .i64 p2), (3, .int .i64 p3), (9, mkOwn 1 s.1.length (s.1.flatMap (cint .i64))), (11, .int .i64 s.2)] = some (.exit 2, [(2, .int .i64 p2), (9, mkOwn 1 r.length (r.flatMap (cint .i64)))]) := by
  unfold r08_Path_l46
  exact loop_rule (C := evI T) (b := x25_7) (ks := [0, 2, 3, 9, 11]) (σ := List Int × Int) (ρ := List Int) (body := fun s => r08_Path_l46_b p0 p2 p3 s.1 s.2) (E := fun s => [(0, .sl p0.length (p0.flatMap (csl (cint .i64)))), (2, .int .i64 p2), (3, .int .i64 p3), (9, mkOwn 1 s.1.length (s.1.flatMap (cint .i64))), (11, .int .i64 s.2)]) (R := fun r => (.exit 2, [(2, .int .i64 p2), (9, mkOwn 1 r.length (r.flatMap (cint .i64)))])) (fun r h => nomatch h) (fun s => r08_Path_l46_bok p0 p2 p3 s.1 s.2) s
theorem r08_Path_ok (p0 : List (List Int)) (p1 : List Int) (p2 : Int) (p3 : Int) : Sim (r08_Path p0 p1 p2 p3) fun r => evI T 25 [.sl p0.length (p0.flatMap (csl (cint .i64))), .sl p1.length (p1.flatMap (cint .i64)), .int .i64 p2, .int .i64 p3] = some (.bool r, [.none, .none, .none, .none]) := by
  unfold r08_Path
  refine sim_bind (fun v9 h19 => ?_)
  have f20 := r08_Path_l9_ok p0 p1 p2 p3 ([], 0) _ h19
  dsimp only at f20
  refine sim_bind (fun v23 h48 => ?_)
  have f49 := r08_Path_l46_ok p0 p2 p3 (v9, 0) _ h48
  dsimp only at f49
  refine sim_bind (fun r24 h50 => ?_)
  have f51 := r08_Has_okN v23 p2 _ h50
  dsimp only at f51
  refine sim_some ?_
  refine evI_ret (x := x25) rfl rfl rfl ?_
  rcases own_cases v23 with rfl | o_v23
  · try simp only [nz] at f20
    try simp only [nz] at f49
    try simp only [nz] at f51
    all_goals
      refine' (w_fn rfl rfl (w_seq (w_reg (w_cons ?_ w_nil) ?_) (w_go (w_seq (w_reg (w_cons ?_ w_nil) ?_) (w_go (w_seq (w_seq (w_reg (w_cons ?_ w_nil) ?_) (w_go (w_block f20 ?_))) (w_go (w_seq (w_seq (w_reg (w_cons ?_ w_nil) ?_) (w_go (w_block f49 ?_))) (w_go (w_seq (w_reg (w_cons ?_ (w_cons ?_ (w_cons ?_ (w_cons ?_ w_nil)))) ?_) (w_go w_ret)))))))))) ?_)
      all_goals (first | (simp only [x25, nz, rn, f51, Int.reduceLT, Int.reduceEq, List.contains_cons, List.contains_nil, Option.map_some, Option.map_none, reduceIte, reduceCtorEq, Nat.reduceEqDiff, Nat.reduceLT, Nat.reduceBEq, Nat.reduceAdd, Nat.reduceMul, Nat.reduceLeDiff, Nat.reduceSub, Bool.false_eq_true]; try rfl) | skip)
  · try simp only [nz, o_v23] at f20
    try simp only [nz, o_v23] at f49
    try simp only [nz, o_v23] at f51
    all_goals
      refine' (w_fn rfl rfl (w_seq (w_reg (w_cons ?_ w_nil) ?_) (w_go (w_seq (w_reg (w_cons ?_ w_nil) ?_) (w_go (w_seq (w_seq (w_reg (w_cons ?_ w_nil) ?_) (w_go (w_block f20 ?_))) (w_go (w_seq (w_seq (w_reg (w_cons ?_ w_nil) ?_) (w_go (w_block f49 ?_))) (w_go (w_seq (w_reg (w_cons ?_ (w_cons ?_ (w_cons ?_ (w_cons ?_ w_nil)))) ?_) (w_go w_ret)))))))))) ?_)
      all_goals (first | (simp only [x25, nz, rn, f51, o_v23, Int.reduceLT, Int.reduceEq, List.contains_cons, List.contains_nil, Option.map_some, Option.map_none, reduceIte, reduceCtorEq, Nat.reduceEqDiff, Nat.reduceLT, Nat.reduceBEq, Nat.reduceAdd, Nat.reduceMul, Nat.reduceLeDiff, Nat.reduceSub, Bool.false_eq_true]; try rfl) | skip)
theorem r08_Path_okN (p0 : List (List Int)) (p1 : List Int) (p2 : Int) (p3 : Int) : Sim (r08_Path p0 p1 p2 p3) fun r => ∀ ws, ws.map normA = [.sl p0.length (p0.flatMap (csl (cint .i64))), .sl p1.length (p1.flatMap (cint .i64)), .int .i64 p2, .int .i64 p3] → evI T 25 ws = some (.bool r, [.none, .none, .none, .none]) := fun r h => evI_okN (x := x25) rfl rfl rfl (r08_Path_ok p0 p1 p2 p3 r h)
end Go.Ab

/-
  Long computations in pieces: calls whose answers are known already.
-/
namespace Go.Ab
open Go
set_option linter.unusedVariables false
set_option linter.unusedSimpArgs false

mutual
def pvEq : PV → PV → Bool
  | .none, .none => true
  | .bool a, .bool b => a == b
  | .int k a, .int k' b => decide (k = k') && decide (a = b)
  | .str s, .str t => decide (s = t)
  | .nilp, .nilp => true
  | .nils, .nils => true
  | .nilf, .nilf => true
  | .box a, .box b => pvEqL a b
  | .own s n a, .own s' n' b => Nat.beq s s' && Nat.beq n n' && pvEqL a b
  | .sl n a, .sl n' b => Nat.beq n n' && pvEqL a b
  | .sp a, .sp b => pvEqL a b
  | .agg a, .agg b => pvEqL a b
  | .tup a, .tup b => pvEqL a b
  | .fn f a, .fn g b => Nat.beq f g && pvEqL a b
  | _, _ => false
def pvEqL : List PV → List PV → Bool
  | [], [] => true
  | a :: l, b :: m => pvEq a b && pvEqL l m
  | _, _ => false
end
mutual
theorem pvEq_eq : ∀ {a b : PV}, pvEq a b = true → a = b := fun {a b} h => by
  unfold pvEq at h
  split at h <;> simp_all
  all_goals first
    | exact pvEqL_eq h
    | exact pvEqL_eq h.2
theorem pvEqL_eq : ∀ {a b : List PV}, pvEqL a b = true → a = b := fun {a b} h => by
  unfold pvEqL at h
  split at h
  · rfl
  · simp only [Bool.and_eq_true] at h
    rw [pvEq_eq h.1, pvEqL_eq h.2]
  · cases h
end

abbrev Tab := List (Nat × List PV × (PV × List PV))
def tabC : Tab → Calls'
  | [], _, _ => Option.none
  | (g, vs, r) :: M, f, ws => match Nat.beq g f && pvEqL vs ws with
    | true => some r
    | false => tabC M f ws
def TabOk (T : Nat → Option XF) : Tab → Prop
  | [] => True
  | (g, vs, r) :: M => evI T g vs = some r ∧ TabOk T M
theorem tabC_le {T : Nat → Option XF} : ∀ {M : Tab}, TabOk T M → CLe (tabC M) (evI T)
  | [], _ => fun f ws r h => by simp [tabC] at h
  | (g, vs, q) :: M, hM => fun f ws r h => by
    simp only [tabC] at h
    split at h
    · rename_i hb
      simp only [Bool.and_eq_true] at hb
      obtain rfl := Nat.eq_of_beq_eq_true hb.1
      obtain rfl := pvEqL_eq hb.2
      rw [← h]; exact hM.1
    · exact tabC_le hM.2 f ws r h
/-- a call whose calls are answered by a table -/
def call1 (C : Calls') (n : Nat) (x : XF) (ws : List PV) : Option (PV × List PV) :=
  match x.ext with
  | some k => extSem k ws
  | Option.none => match Nat.beq ws.length x.np with
    | true => retK x ws (evC C n x.body (params 0 (argsIn x.nk ws)))
    | false => Option.none
theorem call1_ok {T : Nat → Option XF} {M : Tab} (hM : TabOk T M) {n f : Nat} {x : XF} {ws : List PV} {r : PV × List PV} (hx : T f = some x) (h : call1 (tabC M) n x ws = some r) : evI T f ws = some r := by
  unfold call1 at h
  split at h
  · rename_i k he
    rw [evI_ext hx he]; exact h
  · rename_i he
    split at h
    · rename_i hl
      refine evI_ret hx he (Nat.eq_of_beq_eq_true hl) ?_
      cases hb : evC (tabC M) n x.body (params 0 (argsIn x.nk ws)) with
      | none => rw [hb] at h; cases h
      | some q =>
        rw [hb] at h
        rw [evX_some.2 (by
          obtain ⟨m, hm⟩ := evC_lim (T := T) (n := n) (c := x.body) (e := params 0 (argsIn x.nk ws)) (x := q) (evC_mono (tabC_le hM) (Nat.le_refl n) hb)
          exact ⟨n, evC_mono (evF_le m) (Nat.le_refl n) hm⟩)]
        exact h
    · cases h
end Go.Ab
namespace Go.Ab
open Go
/-- a table, and else another way -/
def memoC (M : Tab) (C : Calls') : Calls' := fun f ws => match tabC M f ws with
  | some r => some r
  | Option.none => C f ws
theorem memoC_le {T : Nat → Option XF} {M : Tab} (hM : TabOk T M) (n : Nat) : CLe (memoC M (evF T n)) (evI T) := fun f ws r h => by
  unfold memoC at h
  split at h
  · rename_i q hq
    rw [← h]; exact tabC_le hM f ws _ hq
  · exact evF_le n f ws r h
theorem call2_ok {T : Nat → Option XF} {M : Tab} (hM : TabOk T M) {m n f : Nat} {x : XF} {ws : List PV} {r : PV × List PV} (hx : T f = some x) (h : call1 (memoC M (evF T m)) n x ws = some r) : evI T f ws = some r := by
  unfold call1 at h
  split at h
  · rename_i k he
    rw [evI_ext hx he]; exact h
  · rename_i he
    split at h
    · rename_i hl
      refine evI_ret hx he (Nat.eq_of_beq_eq_true hl) ?_
      cases hb : evC (memoC M (evF T m)) n x.body (params 0 (argsIn x.nk ws)) with
      | none => rw [hb] at h; cases h
      | some q =>
        rw [hb] at h
        rw [evX_some.2 (by
          obtain ⟨m', hm⟩ := evC_lim (T := T) (n := n) (c := x.body) (e := params 0 (argsIn x.nk ws)) (x := q) (evC_mono (memoC_le hM m) (Nat.le_refl n) hb)
          exact ⟨n, evC_mono (evF_le m') (Nat.le_refl n) hm⟩)]
        exact h
    · cases h
end Go.Ab
