/-
  Functions that are known by their contracts: slices.Reverse at numbers.
-/
import Derived.Test.YtebfbfgighmedaaC
import Derived.Shelf.Slices.Cells
import Derived.Ground.NamesProg
import Derived.Test.YtebfbfgighmedaaRows
import Derived.Test.YtebfbfgighmedaaE
import Derived.Test.YtebfbfgighmedaaD
namespace Go.Ab
open Go Go.Proofs Go.Shelf
set_option linter.unusedVariables false
set_option linter.unusedSimpArgs false

theorem wrote_setCells {b : Nat} : ∀ (vs : List Value) (o : Nat) (w : World), (∃ c t fr, w.heap[b]? = some (.cells c t fr) ∧ o + vs.length ≤ c.size) → Wrote w (w.setCells b o vs) b o vs
  | [], o, w, ⟨c, t, fr, hc, hle⟩ => ⟨rfl, rfl, rfl, rfl, fun _ _ => rfl, c, c, t, fr, hc, hc, rfl, fun j => by simp; intro h1 h2; omega⟩
  | v :: vs, o, w, ⟨c, t, fr, hc, hle⟩ => by
    simp only [List.length_cons] at hle
    let w1 := w.setCell ⟨b, o, Option.none⟩ v
    have hlt : b < w.heap.size := by
      rcases Nat.lt_or_ge b w.heap.size with h | h
      · exact h
      · rw [Array.getElem?_eq_none h] at hc; cases hc
    have h1 : w1.heap[b]? = some (.cells (c.setIfInBounds o v) t fr) := by
      simp only [w1, World.setCell, Array.getElem?_modify, if_true, hc, Option.map_some]
      simp
    have W := wrote_setCells vs (o + 1) w1 ⟨_, _, _, h1, by simp; omega⟩
    refine ⟨W.os.trans rfl, W.tape.trans rfl, W.output.trans rfl, by rw [show w.setCells b o (v :: vs) = w1.setCells b (o + 1) vs from rfl, W.size]; simp [w1, World.setCell], fun b' hb' => ?_, ?_⟩
    · rw [show w.setCells b o (v :: vs) = w1.setCells b (o + 1) vs from rfl, W.other b' hb']
      simp only [w1, World.setCell, Array.getElem?_modify]
      rw [if_neg (by simpa using Ne.symm hb')]
    · obtain ⟨c1, c', t1, fr1, e1, e2, e3, e4⟩ := W.blk
      rw [h1] at e1
      simp only [Option.some.injEq, Obj.cells.injEq] at e1
      obtain ⟨rfl, rfl, rfl⟩ := e1
      refine ⟨c, c', _, _, hc, e2, by simpa using e3, fun j => ?_⟩
      rw [e4 j]
      simp only [List.length_cons]
      by_cases ha : o + 1 ≤ j ∧ j < o + 1 + vs.length
      · rw [if_pos ha, if_pos (by omega)]
        rw [show j - o = (j - (o + 1)) + 1 by omega]
        simp
      · rw [if_neg ha]
        by_cases hb : j = o
        · subst hb
          rw [if_pos (by omega)]
          simp [show j < c.size by omega]
        · rw [if_neg (by omega)]
          simp [Array.getElem?_setIfInBounds, Ne.symm hb]

theorem intsOf_some : ∀ {cs : List PV} {zs : List Int}, intsOf cs = some zs → cs = zs.map (PV.int .i64)
  | [], zs, h => by simp [intsOf] at h; subst h; rfl
  | c :: cs, zs, h => by
    unfold intsOf at h
    split at h
    · rename_i h1; cases h1
    · rename_i n r h1
      simp only [List.cons.injEq] at h1
      obtain ⟨rfl, rfl⟩ := h1
      simp only [Option.map_eq_some_iff] at h
      obtain ⟨zs', h2, rfl⟩ := h
      rw [intsOf_some h2]; rfl
    · cases h

def upL : Lab → Lab
  | .own q (k :: s) i => .own q ((k + 1) :: s) i
  | l => l

theorem upL_own {l : Lab} {q : Nat} {p : List Nat} {i : Nat} (h : upL l = .own q p i) (hn : ∀ q' i', l ≠ .own q' [] i') : ∃ k s, l = .own q (k :: s) i ∧ p = (k + 1) :: s := by
  cases l with
  | out => cases h
  | sh => cases h
  | own q' s j =>
    cases s with
    | nil => exact absurd rfl (hn q' j)
    | cons k s =>
      simp only [upL, Lab.own.injEq] at h
      obtain ⟨rfl, rfl, rfl⟩ := h
      exact ⟨k, s, rfl, rfl⟩

section
variable {P : Program} {ρ : Ren}

theorem ext_reverse (L : Lays.n112 P ρ) {f : Nat} (hf : ρ.f 112 = f) (hfn : ∃ fn, P.funcs[f]? = some fn ∧ (fn.name == "runtime.NumGoroutine") = false ∧ fn.body.isNone = false) : CallOk1 P f (extSem 0) := by
  subst hf
  intro ws r outs h
  refine ⟨hfn, fun args w L0 hsz W bd H => ?_⟩
  unfold extSem at h
  split at h
  · rename_i sz n cs
    split at h
    · rename_i hc0
      obtain ⟨rfl, hn⟩ := hc0
      simp only [Option.map_eq_some_iff, Prod.mk.injEq] at h
      obtain ⟨zs, hzs, rfl, rfl⟩ := h
      have hcs := intsOf_some hzs
      subst hcs
      obtain ⟨H0, -⟩ := H 0 (by simp)
      simp only [List.getElem_cons_zero] at H0
      have hargs : args = #[args.getD 0 undef] := by
        have hs : args.size = 1 := by simpa using hsz
        apply Array.ext
        · simp [hs]
        · intro i h1 h2
          have : i = 0 := by omega
          subst this
          simp [Array.getD, hs]
      generalize args.getD 0 undef = u at hargs H0
      subst hargs
      cases H0 with
      | own _ _ _ _ _ b cap hlen hle hp ho hk hc =>
        simp only [Nat.mul_one, List.length_map] at hlen hp ho
        subst hlen
        have hcell : ∀ j, j < zs.length → w.cell? ⟨b, 0 + j, Option.none⟩ = some (.int .i64 (zs.getD j 0)) := fun j hj => by
          obtain ⟨v, hv⟩ := W.ex b j (by rw [ho j (by omega)]; simp)
          have := hc j (by simpa using hj)
          simp only [cv, hv, Option.getD_some, List.getElem_map] at this
          cases this
          rw [Nat.zero_add, hv]
          simp [hj]
        have hfr : ∀ j, j < zs.length → w.frozen? ⟨b, 0 + j, Option.none⟩ = false := fun j hj => by
          rw [Nat.zero_add]; exact W.thaw _ _ _ _ _ (ho j (by omega))
        have hbig : zs.length ≤ 9223372036854775807 := Nat.le_trans hn (by decide)
        refine (Any.slices_Reverse_int_cells L b 0 zs.length cap zs w (Nat.le_refl _) hbig hcell hfr).mono ?_
        rintro e w' ⟨rfl, q, rfl⟩
        rw [List.take_length]
        -- the cells that were written
        have hblk : ∃ c t fr, (w.drewN q).heap[b]? = some (.cells c t fr) ∧ 0 + (zs.reverse.map (Value.int .i64)).length ≤ c.size := by
          obtain ⟨v0, hv0⟩ := W.ex b 0 (by rw [ho 0 hp]; simp)
          show ∃ c t fr, w.heap[b]? = some (.cells c t fr) ∧ _
          have hv1 := hv0
          unfold World.cell? at hv1
          split at hv1
          · rename_i c t fr hcc
            refine ⟨c, t, fr, hcc, ?_⟩
            simp only [List.length_map, List.length_reverse, Nat.zero_add]
            rcases Nat.lt_or_ge 0 zs.length with h0 | h0
            · have := hcell (zs.length - 1) (by omega)
              simp only [World.cell?, hcc, Nat.zero_add] at this
              rcases Nat.lt_or_ge (zs.length - 1) c.size with h1 | h1
              · omega
              · simp [Array.getElem?_eq_none h1] at this
            · omega
          all_goals simp_all
        have WW0 := wrote_setCells (zs.reverse.map (Value.int .i64)) 0 (w.drewN q) hblk
        have WW : Wrote w ((w.drewN q).setCells b 0 (zs.reverse.map (Value.int .i64))) b 0 (zs.reverse.map (Value.int .i64)) := ⟨WW0.os, WW0.tape, WW0.output, WW0.size, WW0.other, WW0.blk⟩
        generalize (w.drewN q).setCells b 0 (zs.reverse.map (Value.int .i64)) = w' at WW
        clear WW0
        have hnl : ∀ b j q' i', L0 b j ≠ .own q' [] i' := fun b j q' i' hh => by
          obtain ⟨_, k, s, hh2, _⟩ := bd _ _ _ _ _ hh
          cases hh2
        refine ⟨fun b j => upL (L0 b j), ⟨fun b1 j1 b2 j2 r p i h1 h2 => ?_, fun b1 j1 h1 => ?_, fun b1 j1 r p i h1 => ?_⟩, WW.ext (fun j h1 h2 => ?_) (fun b1 j1 h1 => ?_), fun b1 j1 q' p i h1 => ?_, .tup _ _ _ rfl (fun i hi => by cases hi), rfl, fun i hi => ?_⟩
        · obtain ⟨k1, s1, e1, e2⟩ := upL_own h1 (hnl _ _)
          obtain ⟨k2, s2, e3, e4⟩ := upL_own h2 (hnl _ _)
          rw [e2] at e4
          simp only [List.cons.injEq, Nat.add_right_cancel_iff] at e4
          obtain ⟨rfl, rfl⟩ := e4
          exact W.inj _ _ _ _ _ _ _ e1 e3
        · obtain ⟨v, hv⟩ := W.ex b1 j1 fun e => h1 (by rw [e]; rfl)
          exact WW.ex hv
        · obtain ⟨k1, s1, e1, e2⟩ := upL_own h1 (hnl _ _)
          rw [WW.frozen]
          exact W.thaw _ _ _ _ _ e1
        · simp only [List.length_map, List.length_reverse, Nat.zero_add] at h2
          exact ⟨_, _, _, ho j (by omega)⟩
        · rcases h1 with h1 | h1 <;> rw [h1] <;> rfl
        · obtain ⟨k1, s1, e1, e2⟩ := upL_own h1 (hnl _ _)
          obtain ⟨h3, k, s, h4, h5⟩ := bd _ _ _ _ _ e1
          simp only [List.cons.injEq] at h4
          obtain ⟨rfl, rfl⟩ := h4
          simp only [List.length_cons, List.length_nil] at h5
          exact ⟨h3, _, _, e2, by simp only [List.length_cons, List.length_nil]; omega⟩
        · simp only [List.length_cons, List.length_nil, Nat.zero_add, Nat.lt_one_iff] at hi
          subst hi
          refine ⟨?_, rfl, rfl⟩
          simp only [List.getElem_cons_zero]
          show RepV w' _ _ _ ((#[_] : Array Value).getD 0 undef)
          refine .own _ _ _ _ _ _ _ (by simp) hle (by simpa using hp) (fun j hj => ?_) (fun i hi => ?_) fun i hi => ?_
          · rw [ho j (by simpa using hj)]; rfl
          · simp only [List.getElem_map]; rfl
          · have hi' : i < (zs.reverse.map (Value.int .i64)).length := by simpa using hi
            have := WW.cell_new hi'
            rw [Nat.zero_add] at this
            rw [this]
            simp only [List.getElem_map]
            exact .int _ _ _
    · cases h
  · simp only [Option.some.injEq, Prod.mk.injEq] at h
    obtain ⟨rfl, rfl⟩ := h
    obtain ⟨H0, -⟩ := H 0 (by simp)
    simp only [List.getElem_cons_zero] at H0
    have hargs : args = #[args.getD 0 undef] := by
      have hs : args.size = 1 := by simpa using hsz
      apply Array.ext
      · simp [hs]
      · intro i h1 h2
        have : i = 0 := by omega
        subst this
        simp [Array.getD, hs]
    generalize args.getD 0 undef = u at hargs H0
    subst hargs
    cases H0 with
    | nils _ a =>
      refine (Any.slices_Reverse_int_empty L a 0 w).mono ?_
      rintro e w' ⟨rfl, rfl⟩
      refine ⟨L0, W, .refl _ _, fun b j q p i hh => ?_, .tup _ _ _ rfl (fun i hi => by cases hi), rfl, fun i hi => ?_⟩
      · obtain ⟨h1, k, s, h2, h3⟩ := bd _ _ _ _ _ hh
        exact ⟨h1, k, s, h2, by simp only [List.length_cons, List.length_nil] at h3 ⊢; omega⟩
      · simp only [List.length_cons, List.length_nil, Nat.zero_add, Nat.lt_one_iff] at hi
        subst hi
        exact ⟨.none _ _, rfl, rfl⟩
  · cases h

end
end Go.Ab

/-
  Contracts of the library laid at this program (text pasted by the kit's own tool).
-/
namespace Go.Proofs
open Go.Shelf
def Try.lays35_ren : Go.Shelf.Ren := ⟨fun | 112 => 35 | n => n, fun | 28 => 22 | 3 => 3 | 4 => 4 | 0 => 0 | n => n, fun | n => n⟩
theorem Try.lays35 : Go.Proofs.Lays.n112 Try.prog Try.lays35_ren := {
  mixed := by kernel_rfl
  f112 := Try.func35.trans (congrArg some (by kernel_rfl))
  t0 := Try.underlying0
  a0 := Try.isAgg0
  z0 := Try.sizeOf0
  v0 := Try.zeroValue0
  t3 := Try.underlying3
  a3 := Try.isAgg3
  z3 := Try.sizeOf3
  v3 := Try.zeroValue3
  t4 := Try.underlying4
  a4 := Try.isAgg4
  z4 := Try.sizeOf4
  v4 := Try.zeroValue4
  t28 := Try.underlying22
  a28 := Try.isAgg22
  z28 := Try.sizeOf22
  v28 := Try.zeroValue22 }
end Go.Proofs

/-
  Printed by gen.py.
-/
namespace Go.Ab
open Go
set_option linter.unusedVariables false
set_option linter.unusedSimpArgs false
set_option maxRecDepth 100000
set_option maxHeartbeats 4000000
/-- function f of the program is x -/
def Ok1 (P : Program) (f : Nat) (x : XF) : Prop := x.ext = Option.none ∧ ∃ fn code hints, P.funcs[f]? = some fn ∧ (fn.name == "runtime.NumGoroutine") = false ∧ fn.body = some code ∧ x.np ≤ fn.ntmps ∧ trC P (fun d => decide (d < fn.ntmps) && !x.prot.contains d) code hints = some (x.body, []) ∧ trRs P fn.results.toList = some x.res
theorem tok3 : Ok1 Go.Proofs.Try.prog 3 x3 := ⟨rfl, Go.Proofs.Try.f3, _, hintsOf 3, Go.Proofs.Try.func3, by kernel_rfl, rfl, by decide, by kernel_rfl, by kernel_rfl⟩
theorem tok4 : Ok1 Go.Proofs.Try.prog 4 x4 := ⟨rfl, Go.Proofs.Try.f4, _, hintsOf 4, Go.Proofs.Try.func4, by kernel_rfl, rfl, by decide, by kernel_rfl, by kernel_rfl⟩
theorem tok5 : Ok1 Go.Proofs.Try.prog 5 x5 := ⟨rfl, Go.Proofs.Try.f5, _, hintsOf 5, Go.Proofs.Try.func5, by kernel_rfl, rfl, by decide, by kernel_rfl, by kernel_rfl⟩
theorem tok6 : Ok1 Go.Proofs.Try.prog 6 x6 := ⟨rfl, Go.Proofs.Try.f6, _, hintsOf 6, Go.Proofs.Try.func6, by kernel_rfl, rfl, by decide, by kernel_rfl, by kernel_rfl⟩
theorem tok7 : Ok1 Go.Proofs.Try.prog 7 x7 := ⟨rfl, Go.Proofs.Try.f7, _, hintsOf 7, Go.Proofs.Try.func7, by kernel_rfl, rfl, by decide, by kernel_rfl, by kernel_rfl⟩
theorem tok8 : Ok1 Go.Proofs.Try.prog 8 x8 := ⟨rfl, Go.Proofs.Try.f8, _, hintsOf 8, Go.Proofs.Try.func8, by kernel_rfl, rfl, by decide, by kernel_rfl, by kernel_rfl⟩
theorem tok9 : Ok1 Go.Proofs.Try.prog 9 x9 := ⟨rfl, Go.Proofs.Try.f9, _, hintsOf 9, Go.Proofs.Try.func9, by kernel_rfl, rfl, by decide, by kernel_rfl, by kernel_rfl⟩
theorem tok10 : Ok1 Go.Proofs.Try.prog 10 x10 := ⟨rfl, Go.Proofs.Try.f10, _, hintsOf 10, Go.Proofs.Try.func10, by kernel_rfl, rfl, by decide, by kernel_rfl, by kernel_rfl⟩
theorem tok11 : Ok1 Go.Proofs.Try.prog 11 x11 := ⟨rfl, Go.Proofs.Try.f11, _, hintsOf 11, Go.Proofs.Try.func11, by kernel_rfl, rfl, by decide, by kernel_rfl, by kernel_rfl⟩
theorem tok12 : Ok1 Go.Proofs.Try.prog 12 x12 := ⟨rfl, Go.Proofs.Try.f12, _, hintsOf 12, Go.Proofs.Try.func12, by kernel_rfl, rfl, by decide, by kernel_rfl, by kernel_rfl⟩
theorem tok13 : Ok1 Go.Proofs.Try.prog 13 x13 := ⟨rfl, Go.Proofs.Try.f13, _, hintsOf 13, Go.Proofs.Try.func13, by kernel_rfl, rfl, by decide, by kernel_rfl, by kernel_rfl⟩
theorem tok14 : Ok1 Go.Proofs.Try.prog 14 x14 := ⟨rfl, Go.Proofs.Try.f14, _, hintsOf 14, Go.Proofs.Try.func14, by kernel_rfl, rfl, by decide, by kernel_rfl, by kernel_rfl⟩
theorem tok15 : Ok1 Go.Proofs.Try.prog 15 x15 := ⟨rfl, Go.Proofs.Try.f15, _, hintsOf 15, Go.Proofs.Try.func15, by kernel_rfl, rfl, by decide, by kernel_rfl, by kernel_rfl⟩
theorem tok16 : Ok1 Go.Proofs.Try.prog 16 x16 := ⟨rfl, Go.Proofs.Try.f16, _, hintsOf 16, Go.Proofs.Try.func16, by kernel_rfl, rfl, by decide, by kernel_rfl, by kernel_rfl⟩
theorem tok17 : Ok1 Go.Proofs.Try.prog 17 x17 := ⟨rfl, Go.Proofs.Try.f17, _, hintsOf 17, Go.Proofs.Try.func17, by kernel_rfl, rfl, by decide, by kernel_rfl, by kernel_rfl⟩
theorem tok18 : Ok1 Go.Proofs.Try.prog 18 x18 := ⟨rfl, Go.Proofs.Try.f18, _, hintsOf 18, Go.Proofs.Try.func18, by kernel_rfl, rfl, by decide, by kernel_rfl, by kernel_rfl⟩
theorem tok19 : Ok1 Go.Proofs.Try.prog 19 x19 := ⟨rfl, Go.Proofs.Try.f19, _, hintsOf 19, Go.Proofs.Try.func19, by kernel_rfl, rfl, by decide, by kernel_rfl, by kernel_rfl⟩
theorem tok20 : Ok1 Go.Proofs.Try.prog 20 x20 := ⟨rfl, Go.Proofs.Try.f20, _, hintsOf 20, Go.Proofs.Try.func20, by kernel_rfl, rfl, by decide, by kernel_rfl, by kernel_rfl⟩
theorem tok21 : Ok1 Go.Proofs.Try.prog 21 x21 := ⟨rfl, Go.Proofs.Try.f21, _, hintsOf 21, Go.Proofs.Try.func21, by kernel_rfl, rfl, by decide, by kernel_rfl, by kernel_rfl⟩
theorem tok22 : Ok1 Go.Proofs.Try.prog 22 x22 := ⟨rfl, Go.Proofs.Try.f22, _, hintsOf 22, Go.Proofs.Try.func22, by kernel_rfl, rfl, by decide, by kernel_rfl, by kernel_rfl⟩
theorem tok23 : Ok1 Go.Proofs.Try.prog 23 x23 := ⟨rfl, Go.Proofs.Try.f23, _, hintsOf 23, Go.Proofs.Try.func23, by kernel_rfl, rfl, by decide, by kernel_rfl, by kernel_rfl⟩
theorem tok24 : Ok1 Go.Proofs.Try.prog 24 x24 := ⟨rfl, Go.Proofs.Try.f24, _, hintsOf 24, Go.Proofs.Try.func24, by kernel_rfl, rfl, by decide, by kernel_rfl, by kernel_rfl⟩
theorem tok25 : Ok1 Go.Proofs.Try.prog 25 x25 := ⟨rfl, Go.Proofs.Try.f25, _, hintsOf 25, Go.Proofs.Try.func25, by kernel_rfl, rfl, by decide, by kernel_rfl, by kernel_rfl⟩
theorem tok26 : Ok1 Go.Proofs.Try.prog 26 x26 := ⟨rfl, Go.Proofs.Try.f26, _, hintsOf 26, Go.Proofs.Try.func26, by kernel_rfl, rfl, by decide, by kernel_rfl, by kernel_rfl⟩
theorem tok27 : Ok1 Go.Proofs.Try.prog 27 x27 := ⟨rfl, Go.Proofs.Try.f27, _, hintsOf 27, Go.Proofs.Try.func27, by kernel_rfl, rfl, by decide, by kernel_rfl, by kernel_rfl⟩
theorem tok28 : Ok1 Go.Proofs.Try.prog 28 x28 := ⟨rfl, Go.Proofs.Try.f28, _, hintsOf 28, Go.Proofs.Try.func28, by kernel_rfl, rfl, by decide, by kernel_rfl, by kernel_rfl⟩
theorem tok29 : Ok1 Go.Proofs.Try.prog 29 x29 := ⟨rfl, Go.Proofs.Try.f29, _, hintsOf 29, Go.Proofs.Try.func29, by kernel_rfl, rfl, by decide, by kernel_rfl, by kernel_rfl⟩
theorem tok30 : Ok1 Go.Proofs.Try.prog 30 x30 := ⟨rfl, Go.Proofs.Try.f30, _, hintsOf 30, Go.Proofs.Try.func30, by kernel_rfl, rfl, by decide, by kernel_rfl, by kernel_rfl⟩
theorem tok31 : Ok1 Go.Proofs.Try.prog 31 x31 := ⟨rfl, Go.Proofs.Try.f31, _, hintsOf 31, Go.Proofs.Try.func31, by kernel_rfl, rfl, by decide, by kernel_rfl, by kernel_rfl⟩
theorem tok32 : Ok1 Go.Proofs.Try.prog 32 x32 := ⟨rfl, Go.Proofs.Try.f32, _, hintsOf 32, Go.Proofs.Try.func32, by kernel_rfl, rfl, by decide, by kernel_rfl, by kernel_rfl⟩
theorem tok33 : Ok1 Go.Proofs.Try.prog 33 x33 := ⟨rfl, Go.Proofs.Try.f33, _, hintsOf 33, Go.Proofs.Try.func33, by kernel_rfl, rfl, by decide, by kernel_rfl, by kernel_rfl⟩
theorem tok34 : Ok1 Go.Proofs.Try.prog 34 x34 := ⟨rfl, Go.Proofs.Try.f34, _, hintsOf 34, Go.Proofs.Try.func34, by kernel_rfl, rfl, by decide, by kernel_rfl, by kernel_rfl⟩
theorem tok35 : CallOk1 Go.Proofs.Try.prog 35 (extSem 0) := ext_reverse Go.Proofs.Try.lays35 rfl ⟨Go.Proofs.Try.f35, Go.Proofs.Try.func35, by kernel_rfl, by kernel_rfl⟩
theorem tok36 : Ok1 Go.Proofs.Try.prog 36 x36 := ⟨rfl, Go.Proofs.Try.f36, _, hintsOf 36, Go.Proofs.Try.func36, by kernel_rfl, rfl, by decide, by kernel_rfl, by kernel_rfl⟩
theorem tok37 : Ok1 Go.Proofs.Try.prog 37 x37 := ⟨rfl, Go.Proofs.Try.f37, _, hintsOf 37, Go.Proofs.Try.func37, by kernel_rfl, rfl, by decide, by kernel_rfl, by kernel_rfl⟩
theorem tok38 : Ok1 Go.Proofs.Try.prog 38 x38 := ⟨rfl, Go.Proofs.Try.f38, _, hintsOf 38, Go.Proofs.Try.func38, by kernel_rfl, rfl, by decide, by kernel_rfl, by kernel_rfl⟩
theorem tok39 : Ok1 Go.Proofs.Try.prog 39 x39 := ⟨rfl, Go.Proofs.Try.f39, _, hintsOf 39, Go.Proofs.Try.func39, by kernel_rfl, rfl, by decide, by kernel_rfl, by kernel_rfl⟩
theorem tok40 : Ok1 Go.Proofs.Try.prog 40 x40 := ⟨rfl, Go.Proofs.Try.f40, _, hintsOf 40, Go.Proofs.Try.func40, by kernel_rfl, rfl, by decide, by kernel_rfl, by kernel_rfl⟩
theorem tok41 : Ok1 Go.Proofs.Try.prog 41 x41 := ⟨rfl, Go.Proofs.Try.f41, _, hintsOf 41, Go.Proofs.Try.func41, by kernel_rfl, rfl, by decide, by kernel_rfl, by kernel_rfl⟩
theorem tok42 : Ok1 Go.Proofs.Try.prog 42 x42 := ⟨rfl, Go.Proofs.Try.f42, _, hintsOf 42, Go.Proofs.Try.func42, by kernel_rfl, rfl, by decide, by kernel_rfl, by kernel_rfl⟩
theorem tok43 : Ok1 Go.Proofs.Try.prog 43 x43 := ⟨rfl, Go.Proofs.Try.f43, _, hintsOf 43, Go.Proofs.Try.func43, by kernel_rfl, rfl, by decide, by kernel_rfl, by kernel_rfl⟩
theorem tok44 : Ok1 Go.Proofs.Try.prog 44 x44 := ⟨rfl, Go.Proofs.Try.f44, _, hintsOf 44, Go.Proofs.Try.func44, by kernel_rfl, rfl, by decide, by kernel_rfl, by kernel_rfl⟩
theorem tok45 : Ok1 Go.Proofs.Try.prog 45 x45 := ⟨rfl, Go.Proofs.Try.f45, _, hintsOf 45, Go.Proofs.Try.func45, by kernel_rfl, rfl, by decide, by kernel_rfl, by kernel_rfl⟩
theorem tok46 : Ok1 Go.Proofs.Try.prog 46 x46 := ⟨rfl, Go.Proofs.Try.f46, _, hintsOf 46, Go.Proofs.Try.func46, by kernel_rfl, rfl, by decide, by kernel_rfl, by kernel_rfl⟩
theorem tok47 : Ok1 Go.Proofs.Try.prog 47 x47 := ⟨rfl, Go.Proofs.Try.f47, _, hintsOf 47, Go.Proofs.Try.func47, by kernel_rfl, rfl, by decide, by kernel_rfl, by kernel_rfl⟩
theorem tok48 : Ok1 Go.Proofs.Try.prog 48 x48 := ⟨rfl, Go.Proofs.Try.f48, _, hintsOf 48, Go.Proofs.Try.func48, by kernel_rfl, rfl, by decide, by kernel_rfl, by kernel_rfl⟩
theorem tok49 : Ok1 Go.Proofs.Try.prog 49 x49 := ⟨rfl, Go.Proofs.Try.f49, _, hintsOf 49, Go.Proofs.Try.func49, by kernel_rfl, rfl, by decide, by kernel_rfl, by kernel_rfl⟩
theorem tok50 : Ok1 Go.Proofs.Try.prog 50 x50 := ⟨rfl, Go.Proofs.Try.f50, _, hintsOf 50, Go.Proofs.Try.func50, by kernel_rfl, rfl, by decide, by kernel_rfl, by kernel_rfl⟩
theorem tok51 : Ok1 Go.Proofs.Try.prog 51 x51 := ⟨rfl, Go.Proofs.Try.f51, _, hintsOf 51, Go.Proofs.Try.func51, by kernel_rfl, rfl, by decide, by kernel_rfl, by kernel_rfl⟩
theorem tok52 : Ok1 Go.Proofs.Try.prog 52 x52 := ⟨rfl, Go.Proofs.Try.f52, _, hintsOf 52, Go.Proofs.Try.func52, by kernel_rfl, rfl, by decide, by kernel_rfl, by kernel_rfl⟩
theorem tok53 : Ok1 Go.Proofs.Try.prog 53 x53 := ⟨rfl, Go.Proofs.Try.f53, _, hintsOf 53, Go.Proofs.Try.func53, by kernel_rfl, rfl, by decide, by kernel_rfl, by kernel_rfl⟩
theorem tok54 : Ok1 Go.Proofs.Try.prog 54 x54 := ⟨rfl, Go.Proofs.Try.f54, _, hintsOf 54, Go.Proofs.Try.func54, by kernel_rfl, rfl, by decide, by kernel_rfl, by kernel_rfl⟩
theorem tok55 : Ok1 Go.Proofs.Try.prog 55 x55 := ⟨rfl, Go.Proofs.Try.f55, _, hintsOf 55, Go.Proofs.Try.func55, by kernel_rfl, rfl, by decide, by kernel_rfl, by kernel_rfl⟩
theorem tok56 : Ok1 Go.Proofs.Try.prog 56 x56 := ⟨rfl, Go.Proofs.Try.f56, _, hintsOf 56, Go.Proofs.Try.func56, by kernel_rfl, rfl, by decide, by kernel_rfl, by kernel_rfl⟩
theorem tok57 : Ok1 Go.Proofs.Try.prog 57 x57 := ⟨rfl, Go.Proofs.Try.f57, _, hintsOf 57, Go.Proofs.Try.func57, by kernel_rfl, rfl, by decide, by kernel_rfl, by kernel_rfl⟩
theorem tok58 : Ok1 Go.Proofs.Try.prog 58 x58 := ⟨rfl, Go.Proofs.Try.f58, _, hintsOf 58, Go.Proofs.Try.func58, by kernel_rfl, rfl, by decide, by kernel_rfl, by kernel_rfl⟩
theorem tok59 : Ok1 Go.Proofs.Try.prog 59 x59 := ⟨rfl, Go.Proofs.Try.f59, _, hintsOf 59, Go.Proofs.Try.func59, by kernel_rfl, rfl, by decide, by kernel_rfl, by kernel_rfl⟩
theorem tok60 : Ok1 Go.Proofs.Try.prog 60 x60 := ⟨rfl, Go.Proofs.Try.f60, _, hintsOf 60, Go.Proofs.Try.func60, by kernel_rfl, rfl, by decide, by kernel_rfl, by kernel_rfl⟩
theorem tok61 : Ok1 Go.Proofs.Try.prog 61 x61 := ⟨rfl, Go.Proofs.Try.f61, _, hintsOf 61, Go.Proofs.Try.func61, by kernel_rfl, rfl, by decide, by kernel_rfl, by kernel_rfl⟩
theorem tok62 : Ok1 Go.Proofs.Try.prog 62 x62 := ⟨rfl, Go.Proofs.Try.f62, _, hintsOf 62, Go.Proofs.Try.func62, by kernel_rfl, rfl, by decide, by kernel_rfl, by kernel_rfl⟩
theorem tok63 : Ok1 Go.Proofs.Try.prog 63 x63 := ⟨rfl, Go.Proofs.Try.f63, _, hintsOf 63, Go.Proofs.Try.func63, by kernel_rfl, rfl, by decide, by kernel_rfl, by kernel_rfl⟩
theorem tok64 : Ok1 Go.Proofs.Try.prog 64 x64 := ⟨rfl, Go.Proofs.Try.f64, _, hintsOf 64, Go.Proofs.Try.func64, by kernel_rfl, rfl, by decide, by kernel_rfl, by kernel_rfl⟩
theorem tok65 : Ok1 Go.Proofs.Try.prog 65 x65 := ⟨rfl, Go.Proofs.Try.f65, _, hintsOf 65, Go.Proofs.Try.func65, by kernel_rfl, rfl, by decide, by kernel_rfl, by kernel_rfl⟩
theorem tok66 : Ok1 Go.Proofs.Try.prog 66 x66 := ⟨rfl, Go.Proofs.Try.f66, _, hintsOf 66, Go.Proofs.Try.func66, by kernel_rfl, rfl, by decide, by kernel_rfl, by kernel_rfl⟩
theorem tok67 : Ok1 Go.Proofs.Try.prog 67 x67 := ⟨rfl, Go.Proofs.Try.f67, _, hintsOf 67, Go.Proofs.Try.func67, by kernel_rfl, rfl, by decide, by kernel_rfl, by kernel_rfl⟩
theorem tok68 : Ok1 Go.Proofs.Try.prog 68 x68 := ⟨rfl, Go.Proofs.Try.f68, _, hintsOf 68, Go.Proofs.Try.func68, by kernel_rfl, rfl, by decide, by kernel_rfl, by kernel_rfl⟩
theorem tok69 : Ok1 Go.Proofs.Try.prog 69 x69 := ⟨rfl, Go.Proofs.Try.f69, _, hintsOf 69, Go.Proofs.Try.func69, by kernel_rfl, rfl, by decide, by kernel_rfl, by kernel_rfl⟩
theorem tok70 : Ok1 Go.Proofs.Try.prog 70 x70 := ⟨rfl, Go.Proofs.Try.f70, _, hintsOf 70, Go.Proofs.Try.func70, by kernel_rfl, rfl, by decide, by kernel_rfl, by kernel_rfl⟩
theorem tok71 : Ok1 Go.Proofs.Try.prog 71 x71 := ⟨rfl, Go.Proofs.Try.f71, _, hintsOf 71, Go.Proofs.Try.func71, by kernel_rfl, rfl, by decide, by kernel_rfl, by kernel_rfl⟩
theorem tok72 : Ok1 Go.Proofs.Try.prog 72 x72 := ⟨rfl, Go.Proofs.Try.f72, _, hintsOf 72, Go.Proofs.Try.func72, by kernel_rfl, rfl, by decide, by kernel_rfl, by kernel_rfl⟩
theorem tok73 : Ok1 Go.Proofs.Try.prog 73 x73 := ⟨rfl, Go.Proofs.Try.f73, _, hintsOf 73, Go.Proofs.Try.func73, by kernel_rfl, rfl, by decide, by kernel_rfl, by kernel_rfl⟩
theorem tok74 : Ok1 Go.Proofs.Try.prog 74 x74 := ⟨rfl, Go.Proofs.Try.f74, _, hintsOf 74, Go.Proofs.Try.func74, by kernel_rfl, rfl, by decide, by kernel_rfl, by kernel_rfl⟩
theorem tok75 : Ok1 Go.Proofs.Try.prog 75 x75 := ⟨rfl, Go.Proofs.Try.f75, _, hintsOf 75, Go.Proofs.Try.func75, by kernel_rfl, rfl, by decide, by kernel_rfl, by kernel_rfl⟩
theorem tok76 : Ok1 Go.Proofs.Try.prog 76 x76 := ⟨rfl, Go.Proofs.Try.f76, _, hintsOf 76, Go.Proofs.Try.func76, by kernel_rfl, rfl, by decide, by kernel_rfl, by kernel_rfl⟩
theorem tok77 : Ok1 Go.Proofs.Try.prog 77 x77 := ⟨rfl, Go.Proofs.Try.f77, _, hintsOf 77, Go.Proofs.Try.func77, by kernel_rfl, rfl, by decide, by kernel_rfl, by kernel_rfl⟩
theorem tok78 : Ok1 Go.Proofs.Try.prog 78 x78 := ⟨rfl, Go.Proofs.Try.f78, _, hintsOf 78, Go.Proofs.Try.func78, by kernel_rfl, rfl, by decide, by kernel_rfl, by kernel_rfl⟩
theorem tok79 : Ok1 Go.Proofs.Try.prog 79 x79 := ⟨rfl, Go.Proofs.Try.f79, _, hintsOf 79, Go.Proofs.Try.func79, by kernel_rfl, rfl, by decide, by kernel_rfl, by kernel_rfl⟩
theorem tok80 : Ok1 Go.Proofs.Try.prog 80 x80 := ⟨rfl, Go.Proofs.Try.f80, _, hintsOf 80, Go.Proofs.Try.func80, by kernel_rfl, rfl, by decide, by kernel_rfl, by kernel_rfl⟩
theorem tok81 : Ok1 Go.Proofs.Try.prog 81 x81 := ⟨rfl, Go.Proofs.Try.f81, _, hintsOf 81, Go.Proofs.Try.func81, by kernel_rfl, rfl, by decide, by kernel_rfl, by kernel_rfl⟩
theorem tok : TOk Go.Proofs.Try.prog T := fun f x hx => TT.get_all (t := tt) (Q := fun f x => (∃ k, x.ext = some k ∧ CallOk1 Go.Proofs.Try.prog f (extSem k)) ∨ Ok1 Go.Proofs.Try.prog f x) ⟨.inr tok42, ⟨.inr tok22, ⟨.inr tok12, ⟨.inr tok7, ⟨.inr tok5, ⟨.inr tok4, ⟨.inr tok3, trivial, trivial⟩, trivial⟩, ⟨.inr tok6, trivial, trivial⟩⟩, ⟨.inr tok10, ⟨.inr tok9, ⟨.inr tok8, trivial, trivial⟩, trivial⟩, ⟨.inr tok11, trivial, trivial⟩⟩⟩, ⟨.inr tok17, ⟨.inr tok15, ⟨.inr tok14, ⟨.inr tok13, trivial, trivial⟩, trivial⟩, ⟨.inr tok16, trivial, trivial⟩⟩, ⟨.inr tok20, ⟨.inr tok19, ⟨.inr tok18, trivial, trivial⟩, trivial⟩, ⟨.inr tok21, trivial, trivial⟩⟩⟩⟩, ⟨.inr tok32, ⟨.inr tok27, ⟨.inr tok25, ⟨.inr tok24, ⟨.inr tok23, trivial, trivial⟩, trivial⟩, ⟨.inr tok26, trivial, trivial⟩⟩, ⟨.inr tok30, ⟨.inr tok29, ⟨.inr tok28, trivial, trivial⟩, trivial⟩, ⟨.inr tok31, trivial, trivial⟩⟩⟩, ⟨.inr tok37, ⟨.inl ⟨_, rfl, tok35⟩, ⟨.inr tok34, ⟨.inr tok33, trivial, trivial⟩, trivial⟩, ⟨.inr tok36, trivial, trivial⟩⟩, ⟨.inr tok40, ⟨.inr tok39, ⟨.inr tok38, trivial, trivial⟩, trivial⟩, ⟨.inr tok41, trivial, trivial⟩⟩⟩⟩⟩, ⟨.inr tok62, ⟨.inr tok52, ⟨.inr tok47, ⟨.inr tok45, ⟨.inr tok44, ⟨.inr tok43, trivial, trivial⟩, trivial⟩, ⟨.inr tok46, trivial, trivial⟩⟩, ⟨.inr tok50, ⟨.inr tok49, ⟨.inr tok48, trivial, trivial⟩, trivial⟩, ⟨.inr tok51, trivial, trivial⟩⟩⟩, ⟨.inr tok57, ⟨.inr tok55, ⟨.inr tok54, ⟨.inr tok53, trivial, trivial⟩, trivial⟩, ⟨.inr tok56, trivial, trivial⟩⟩, ⟨.inr tok60, ⟨.inr tok59, ⟨.inr tok58, trivial, trivial⟩, trivial⟩, ⟨.inr tok61, trivial, trivial⟩⟩⟩⟩, ⟨.inr tok72, ⟨.inr tok67, ⟨.inr tok65, ⟨.inr tok64, ⟨.inr tok63, trivial, trivial⟩, trivial⟩, ⟨.inr tok66, trivial, trivial⟩⟩, ⟨.inr tok70, ⟨.inr tok69, ⟨.inr tok68, trivial, trivial⟩, trivial⟩, ⟨.inr tok71, trivial, trivial⟩⟩⟩, ⟨.inr tok77, ⟨.inr tok75, ⟨.inr tok74, ⟨.inr tok73, trivial, trivial⟩, trivial⟩, ⟨.inr tok76, trivial, trivial⟩⟩, ⟨.inr tok80, ⟨.inr tok79, ⟨.inr tok78, trivial, trivial⟩, trivial⟩, ⟨.inr tok81, trivial, trivial⟩⟩⟩⟩⟩⟩ f x hx
theorem mixed : Go.Proofs.Try.prog.follows .mixedOrders = true := by kernel_rfl
end Go.Ab

/-
  Printed by gen.py.
-/
namespace Go.Ab
open Go
set_option linter.unusedVariables false
set_option linter.unusedSimpArgs false
set_option maxRecDepth 100000
set_option maxHeartbeats 4000000
open Go.ChangeShapes Go.WideShapes Go.ChangeAt Go.RowKit
theorem own : ownKnob Go.Proofs.Try.prog.godebug = none := by kernel_rfl
theorem laidOut : laidOutB Go.Proofs.Try.prog = true := by kernel_rfl
def RIns (x : Ins) : Prop := Rng .i64 x.Op ∧ Rng .i64 x.Id ∧ Rng .i64 x.N ∧ Rng .i64 (x.Type') ∧ (x.Args.length < 140737488355328 ∧ ∀ y ∈ x.Args, Rng .i64 y) ∧ (x.To.length < 140737488355328 ∧ ∀ y ∈ x.To, Rng .i64 y) ∧ x.Name.length < 140737488355328 ∧ Rng .i64 x.At
theorem opnIns (n : Nat) : Opn Go.Proofs.Try.prog (n + 3) 53 cIns RIns := by
  intro H d pvs h hw
  obtain ⟨ds, g0⟩ := pv_struct Go.Proofs.Try.underlying53 h hw
  clear h hw
  obtain ⟨d1, ds1, a1, b1, rfl, h1, g1, rfl⟩ := zipL_cons g0
  obtain ⟨d2, ds2, a2, b2, rfl, h2, g2, rfl⟩ := zipL_cons g1
  obtain ⟨d3, ds3, a3, b3, rfl, h3, g3, rfl⟩ := zipL_cons g2
  obtain ⟨d4, ds4, a4, b4, rfl, h4, g4, rfl⟩ := zipL_cons g3
  obtain ⟨d5, ds5, a5, b5, rfl, h5, g5, rfl⟩ := zipL_cons g4
  obtain ⟨d6, ds6, a6, b6, rfl, h6, g6, rfl⟩ := zipL_cons g5
  obtain ⟨d7, ds7, a7, b7, rfl, h7, g7, rfl⟩ := zipL_cons g6
  obtain ⟨d8, ds8, a8, b8, rfl, h8, g8, rfl⟩ := zipL_cons g7
  obtain rfl := zipL_nil g8
  obtain ⟨x1, rfl, r1⟩ := (opn_int (n := n + 1) Go.Proofs.Try.underlying3 : Opn Go.Proofs.Try.prog (n + 2) 3 (cint .i64) (Rng .i64)) H d1 a1 h1.1 h1.2
  obtain ⟨x2, rfl, r2⟩ := (opn_int (n := n + 1) Go.Proofs.Try.underlying3 : Opn Go.Proofs.Try.prog (n + 2) 3 (cint .i64) (Rng .i64)) H d2 a2 h2.1 h2.2
  obtain ⟨x3, rfl, r3⟩ := (opn_int (n := n + 1) Go.Proofs.Try.underlying2 : Opn Go.Proofs.Try.prog (n + 2) 2 (cint .i64) (Rng .i64)) H d3 a3 h3.1 h3.2
  obtain ⟨x4, rfl, r4⟩ := (opn_int (n := n + 1) Go.Proofs.Try.underlying3 : Opn Go.Proofs.Try.prog (n + 2) 3 (cint .i64) (Rng .i64)) H d4 a4 h4.1 h4.2
  obtain ⟨x5, rfl, r5⟩ := (opn_sl (n := n + 1) Go.Proofs.Try.underlying22 (by decide +kernel) (opn_int (n := n + 0) Go.Proofs.Try.underlying3) : Opn Go.Proofs.Try.prog (n + 2) 22 (csl (cint .i64)) (fun xs => xs.length < 140737488355328 ∧ ∀ x ∈ xs, (Rng .i64) x)) H d5 a5 h5.1 h5.2
  obtain ⟨x6, rfl, r6⟩ := (opn_sl (n := n + 1) Go.Proofs.Try.underlying22 (by decide +kernel) (opn_int (n := n + 0) Go.Proofs.Try.underlying3) : Opn Go.Proofs.Try.prog (n + 2) 22 (csl (cint .i64)) (fun xs => xs.length < 140737488355328 ∧ ∀ x ∈ xs, (Rng .i64) x)) H d6 a6 h6.1 h6.2
  obtain ⟨x7, rfl, r7⟩ := (opn_str (n := n + 1) Go.Proofs.Try.underlying9 : Opn Go.Proofs.Try.prog (n + 2) 9 cstr (fun s => s.length < 140737488355328)) H d7 a7 h7.1 h7.2
  obtain ⟨x8, rfl, r8⟩ := (opn_int (n := n + 1) Go.Proofs.Try.underlying3 : Opn Go.Proofs.Try.prog (n + 2) 3 (cint .i64) (Rng .i64)) H d8 a8 h8.1 h8.2
  exact ⟨⟨x1, x2, x3, x4, x5, x6, x7, x8⟩, rfl, r1, r2, r3, r4, r5, r6, r7, r8⟩
def RFun (x : Fun) : Prop := x.Name.length < 140737488355328 ∧ (x.Params.length < 140737488355328 ∧ ∀ y ∈ x.Params, Rng .i64 y) ∧ Rng .i64 x.Ret ∧ (x.Blocks.length < 140737488355328 ∧ ∀ y ∈ x.Blocks, y.length < 140737488355328 ∧ ∀ y1 ∈ y, RIns y1) ∧ Rng .i64 x.At
theorem opnFun (n : Nat) : Opn Go.Proofs.Try.prog (n + 6) 25 cFun RFun := by
  intro H d pvs h hw
  obtain ⟨ds, g0⟩ := pv_struct Go.Proofs.Try.underlying25 h hw
  clear h hw
  obtain ⟨d1, ds1, a1, b1, rfl, h1, g1, rfl⟩ := zipL_cons g0
  obtain ⟨d2, ds2, a2, b2, rfl, h2, g2, rfl⟩ := zipL_cons g1
  obtain ⟨d3, ds3, a3, b3, rfl, h3, g3, rfl⟩ := zipL_cons g2
  obtain ⟨d4, ds4, a4, b4, rfl, h4, g4, rfl⟩ := zipL_cons g3
  obtain ⟨d5, ds5, a5, b5, rfl, h5, g5, rfl⟩ := zipL_cons g4
  obtain rfl := zipL_nil g5
  obtain ⟨x1, rfl, r1⟩ := (opn_str (n := n + 4) Go.Proofs.Try.underlying9 : Opn Go.Proofs.Try.prog (n + 5) 9 cstr (fun s => s.length < 140737488355328)) H d1 a1 h1.1 h1.2
  obtain ⟨x2, rfl, r2⟩ := (opn_sl (n := n + 4) Go.Proofs.Try.underlying22 (by decide +kernel) (opn_int (n := n + 3) Go.Proofs.Try.underlying3) : Opn Go.Proofs.Try.prog (n + 5) 22 (csl (cint .i64)) (fun xs => xs.length < 140737488355328 ∧ ∀ x ∈ xs, (Rng .i64) x)) H d2 a2 h2.1 h2.2
  obtain ⟨x3, rfl, r3⟩ := (opn_int (n := n + 4) Go.Proofs.Try.underlying3 : Opn Go.Proofs.Try.prog (n + 5) 3 (cint .i64) (Rng .i64)) H d3 a3 h3.1 h3.2
  obtain ⟨x4, rfl, r4⟩ := (opn_sl (n := n + 4) Go.Proofs.Try.underlying23 (by decide +kernel) (opn_sl (n := n + 3) Go.Proofs.Try.underlying51 (by decide +kernel) (opnIns (n + 0))) : Opn Go.Proofs.Try.prog (n + 5) 23 (csl (csl cIns)) (fun xs => xs.length < 140737488355328 ∧ ∀ x ∈ xs, (fun xs => xs.length < 140737488355328 ∧ ∀ x ∈ xs, RIns x) x)) H d4 a4 h4.1 h4.2
  obtain ⟨x5, rfl, r5⟩ := (opn_int (n := n + 4) Go.Proofs.Try.underlying3 : Opn Go.Proofs.Try.prog (n + 5) 3 (cint .i64) (Rng .i64)) H d5 a5 h5.1 h5.2
  exact ⟨⟨x1, x2, x3, x4, x5⟩, rfl, r1, r2, r3, r4, r5⟩
theorem readGraphShapes (H : Type) (ds : List (DataW H)) (ws : List PV) (h : argsPV Go.Proofs.Try.prog 12 [25] ds = some ws ∧ ∀ x ∈ DataW.weightsEach Go.Proofs.Try.prog [25] ds, x ≤ reachBytes) : ∃ (x1 : Fun), (RFun x1) ∧ ws = [.agg [.str x1.Name, .sl x1.Params.length (x1.Params.flatMap (cint .i64)), .int .i64 x1.Ret, .sl x1.Blocks.length (x1.Blocks.flatMap (csl cIns)), .int .i64 x1.At]] := by
  obtain ⟨d1, ds1, w1, ws1, rfl, rfl, h1, h⟩ := args_cons h
  obtain ⟨rfl, rfl⟩ := args_nil h
  obtain ⟨x1, rfl, r1⟩ := arg_agg (by kernel_rfl) (opnFun 6) h1
  exact ⟨x1, r1, rfl⟩
theorem readGraphFollows (H : Type) (ds : List (DataW H)) (ws : List PV) (h : argsPV Go.Proofs.Try.prog 12 [25] ds = some ws ∧ ∀ x ∈ DataW.weightsEach Go.Proofs.Try.prog [25] ds, x ≤ reachBytes) : ∃ (x1 : Fun), (RFun x1) ∧ ws = [.agg [.str x1.Name, .sl x1.Params.length (x1.Params.flatMap (cint .i64)), .int .i64 x1.Ret, .sl x1.Blocks.length (x1.Blocks.flatMap (csl cIns)), .int .i64 x1.At]] := by
  obtain ⟨d1, ds1, w1, ws1, rfl, rfl, h1, h⟩ := args_cons h
  obtain ⟨rfl, rfl⟩ := args_nil h
  obtain ⟨x1, rfl, r1⟩ := arg_agg (by kernel_rfl) (opnFun 6) h1
  exact ⟨x1, r1, rfl⟩
theorem readGraphReaches (H : Type) (ds : List (DataW H)) (ws : List PV) (h : argsPV Go.Proofs.Try.prog 12 [25, 45, 3] ds = some ws ∧ ∀ x ∈ DataW.weightsEach Go.Proofs.Try.prog [25, 45, 3] ds, x ≤ reachBytes) : ∃ (x1 : Fun) (x2 : List Int) (x3 : Int), (RFun x1) ∧ (x2.length < 140737488355328 ∧ ∀ y ∈ x2, Rng .u8 y) ∧ (Rng .i64 x3) ∧ ws = [.agg [.str x1.Name, .sl x1.Params.length (x1.Params.flatMap (cint .i64)), .int .i64 x1.Ret, .sl x1.Blocks.length (x1.Blocks.flatMap (csl cIns)), .int .i64 x1.At], .sl x2.length (x2.flatMap (cint .u8)), .int .i64 x3] := by
  obtain ⟨d1, ds1, w1, ws1, rfl, rfl, h1, h⟩ := args_cons h
  obtain ⟨d2, ds2, w2, ws2, rfl, rfl, h2, h⟩ := args_cons h
  obtain ⟨d3, ds3, w3, ws3, rfl, rfl, h3, h⟩ := args_cons h
  obtain ⟨rfl, rfl⟩ := args_nil h
  obtain ⟨x1, rfl, r1⟩ := arg_agg (by kernel_rfl) (opnFun 6) h1
  obtain ⟨x2, rfl, r2⟩ := arg_one (by kernel_rfl) (opn_sl (n := 11) Go.Proofs.Try.underlying45 (by decide +kernel) (opn_int (n := 10) Go.Proofs.Try.underlying5)) h2
  obtain ⟨x3, rfl, r3⟩ := arg_one (by kernel_rfl) (opn_int (n := 11) Go.Proofs.Try.underlying3) h3
  exact ⟨x1, x2, x3, r1, r2, r3, rfl⟩
theorem readGraphRounds (H : Type) (ds : List (DataW H)) (ws : List PV) (h : argsPV Go.Proofs.Try.prog 12 [25] ds = some ws ∧ ∀ x ∈ DataW.weightsEach Go.Proofs.Try.prog [25] ds, x ≤ reachBytes) : ∃ (x1 : Fun), (RFun x1) ∧ ws = [.agg [.str x1.Name, .sl x1.Params.length (x1.Params.flatMap (cint .i64)), .int .i64 x1.Ret, .sl x1.Blocks.length (x1.Blocks.flatMap (csl cIns)), .int .i64 x1.At]] := by
  obtain ⟨d1, ds1, w1, ws1, rfl, rfl, h1, h⟩ := args_cons h
  obtain ⟨rfl, rfl⟩ := args_nil h
  obtain ⟨x1, rfl, r1⟩ := arg_agg (by kernel_rfl) (opnFun 6) h1
  exact ⟨x1, r1, rfl⟩
end Go.Ab

/-
  Going through code step by step.
-/
namespace Go.Ab
open Go
set_option linter.unusedVariables false
section
variable {C : Calls'} {E E1 E2 E3 : Env} {ex : Ex} {k : List Nat}

theorem w_seq {a b : XC} {R : Option (Ex × Env)} (h : evX C a E = some (ex, E1)) (h2 : seqK (some (ex, E1)) (evX C b) = R) : evX C (.seq a b) E = R := by
  rw [evX_seq, h]; exact h2
theorem w_go {f : Env → Option (Ex × Env)} {R : Option (Ex × Env)} (h : f E = R) : seqK (some (.norm, E)) f = R := h
theorem w_gox {f : Env → Option (Ex × Env)} {i : Nat} : seqK (some (.exit i, E)) f = some (.exit i, E) := rfl
theorem w_gor {f : Env → Option (Ex × Env)} : seqK (some (.ret, E)) f = some (.ret, E) := rfl
theorem w_skip : evX C .skip E = some (.norm, E) := evX_skip
theorem w_ret : evX C .ret E = some (.ret, E) := evX_ret
theorem w_exit {i : Nat} (h : E.keep k = E1) : evX C (.exit i k) E = some (.exit i, E1) := by rw [evX_exit, h]
theorem w_reg {ops : List XI} (h : steps C E ops = some E1) (h2 : E1.keep k = E2) : evX C (.reg ops false k) E = some (.norm, E2) := by
  rw [evX_reg, h]; simp [h2]
theorem w_nil : steps C E [] = some E := rfl
theorem w_cons {o : XI} {r : List XI} (h : step C E o = some E1) (h2 : steps C E1 r = some E2) : steps C E (o :: r) = some E2 := by
  simp only [steps, h]; exact h2
theorem w_regD {ops : List XI} {ds : List Nat} (h0 : dstsOf ops = ds) (h1 : (E.all fun x => noRefs ds x.2 && !ds.contains x.1) = true) (h : stepsD C E.sub ds E ops = some E1) (h2 : E1.keep k = E2) : evX C (.reg ops true k) E = some (.norm, E2) := by
  subst h0
  rw [evX_regD]
  simp only [regD]
  rw [if_pos h1, h]; simp [h2]
theorem w_nilD {S : Subs} {ds : List Nat} : stepsD C S ds E [] = some E := rfl
theorem w_consD {S : Subs} {ds : List Nat} {o : XI} {r : List XI} {d : Nat} {v : PV} (hb : o.bar = false) (h : stepD C S ds E o = some (d, v)) (hg : E.get d = .none) (hs : E.set d v = E1) (h2 : stepsD C S ds E1 r = some E2) : stepsD C S ds E (o :: r) = some E2 := by
  simp only [stepsD, hb, Bool.false_eq_true, if_false, h, hg, hs]; exact h2
theorem w_barD {S : Subs} {ds : List Nat} {o : XI} {r : List XI} (hb : o.bar = true) (ha : r.all (·.bar) = true) (h : steps C E (o :: r) = some E2) : stepsD C S ds E (o :: r) = some E2 := by
  simp only [stepsD, hb, if_true, ha]; exact h
theorem w_condt {c : XO} {a b : XC} {R : Option (Ex × Env)} (h : look E c = .bool true) (h1 : evX C a E = some (ex, E1)) (h2 : fgt k (some (ex, E1)) = R) : evX C (.cond c a b k) E = R := by
  rw [evX_cond, h, condK, h1]; exact h2
theorem w_condf {c : XO} {a b : XC} {R : Option (Ex × Env)} (h : look E c = .bool false) (h1 : evX C b E = some (ex, E1)) (h2 : fgt k (some (ex, E1)) = R) : evX C (.cond c a b k) E = R := by
  rw [evX_cond, h, condK, h1]; exact h2
theorem w_block {b : XC} {i : Nat} {R : Option (Ex × Env)} (h1 : evX C b E = some (ex, E1)) (h2 : fgt k (blockK i (some (ex, E1))) = R) : evX C (.block i b k) E = R := by
  rw [evX_block, h1]; exact h2
theorem w_fgt {b : XC} {R : Option (Ex × Env)} (h1 : evX C b E = some (ex, E1)) (h2 : fgt k (some (ex, E1)) = R) : fgt k (evX C b E) = R := by
  rw [h1]; exact h2
theorem w_fn {x : XF} {ws : List PV} {c : XC} {r : Option (PV × List PV)} (hc : x.body = c) (hp : params 0 (argsIn x.nk ws) = E) (h : evX C c E = some (ex, E1)) (h2 : retK x ws (some (ex, E1)) = r) : retK x ws (evX C x.body (params 0 (argsIn x.nk ws))) = r := by
  rw [hc, hp, h]; exact h2
end
end Go.Ab

/-
  Printed by gen.py.
-/
namespace Go.Ab
open Go
set_option linter.unusedVariables false
set_option linter.unusedSimpArgs false
set_option maxRecDepth 100000
set_option maxHeartbeats 4000000
theorem r05_Size_j32_ok (p0 : Prg) (p1 : Int) (v1 : Int) (v2 : Int) : evX (evI T) x7_1 [(1, .int .i64 p1), (2, .box [.sl p0.Funcs.length (p0.Funcs.flatMap cFun)]), (5, .int .i64 v1), (6, .int .i64 v2)] = some (.norm, [(1, .int .i64 p1), (2, .box [.sl p0.Funcs.length (p0.Funcs.flatMap cFun)]), (5, .int .i64 v1), (6, .int .i64 v2), (23, .bool (((decide (v2 < ((p0.Funcs.length : Int)))) && (decide (v1 ≤ p1)))))]) := by
  rcases Bool.eq_false_or_eq_true (decide (v2 < ((p0.Funcs.length : Int)))) with h1 | h1
  · refine' (w_reg (w_cons ?_ (w_cons ?_ (w_cons ?_ (w_cons ?_ (w_cons ?_ (w_cons ?_ (w_cons ?_ (w_cons ?_ (w_cons ?_ (w_cons ?_ w_nil)))))))))) ?_)
    all_goals (first | (simp only [nz, rn, nzFun, nzPrg, h1, Int.reduceLT, Int.reduceEq, List.contains_cons, List.contains_nil, Option.map_some, Option.map_none, reduceIte, reduceCtorEq, Nat.reduceEqDiff, Nat.reduceLT, Nat.reduceBEq, Nat.reduceAdd, Nat.reduceMul, Nat.reduceLeDiff, Nat.reduceSub, Bool.false_eq_true]; try rfl) | skip)
  · refine' (w_reg (w_cons ?_ (w_cons ?_ (w_cons ?_ (w_cons ?_ (w_cons ?_ (w_cons ?_ (w_cons ?_ (w_cons ?_ (w_cons ?_ (w_cons ?_ w_nil)))))))))) ?_)
    all_goals (first | (simp only [nz, rn, nzFun, nzPrg, h1, Int.reduceLT, Int.reduceEq, List.contains_cons, List.contains_nil, Option.map_some, Option.map_none, reduceIte, reduceCtorEq, Nat.reduceEqDiff, Nat.reduceLT, Nat.reduceBEq, Nat.reduceAdd, Nat.reduceMul, Nat.reduceLeDiff, Nat.reduceSub, Bool.false_eq_true]; try rfl) | skip)
theorem r05_Size_j55_ok (p0 : Prg) (p1 : Int) (v2 : Int) (x_4 : Fun) (v5 : Int) (v6 : Int) : evX (evI T) x7_2 [(1, .int .i64 p1), (2, .box [.sl p0.Funcs.length (p0.Funcs.flatMap cFun)]), (5, .int .i64 v5), (6, .int .i64 v2), (7, .box [.str x_4.Name, .sl x_4.Params.length (x_4.Params.flatMap (cint .i64)), .int .i64 x_4.Ret, .sl x_4.Blocks.length (x_4.Blocks.flatMap (csl cIns)), .int .i64 x_4.At]), (8, .int .i64 v6)] = some (.norm, [(1, .int .i64 p1), (2, .box [.sl p0.Funcs.length (p0.Funcs.flatMap cFun)]), (5, .int .i64 v5), (6, .int .i64 v2), (7, .box [.str x_4.Name, .sl x_4.Params.length (x_4.Params.flatMap (cint .i64)), .int .i64 x_4.Ret, .sl x_4.Blocks.length (x_4.Blocks.flatMap (csl cIns)), .int .i64 x_4.At]), (8, .int .i64 v6), (54, .bool (((decide (v6 < ((x_4.Blocks.length : Int)))) && (decide (v5 ≤ p1)))))]) := by
  rcases Bool.eq_false_or_eq_true (decide (v6 < ((x_4.Blocks.length : Int)))) with h8 | h8
  · refine' (w_reg (w_cons ?_ (w_cons ?_ (w_cons ?_ (w_cons ?_ (w_cons ?_ (w_cons ?_ (w_cons ?_ (w_cons ?_ (w_cons ?_ (w_cons ?_ w_nil)))))))))) ?_)
    all_goals (first | (simp only [nz, rn, nzIns, nzFun, nzPrg, h8, Int.reduceLT, Int.reduceEq, List.contains_cons, List.contains_nil, Option.map_some, Option.map_none, reduceIte, reduceCtorEq, Nat.reduceEqDiff, Nat.reduceLT, Nat.reduceBEq, Nat.reduceAdd, Nat.reduceMul, Nat.reduceLeDiff, Nat.reduceSub, Bool.false_eq_true]; try rfl) | skip)
  · refine' (w_reg (w_cons ?_ (w_cons ?_ (w_cons ?_ (w_cons ?_ (w_cons ?_ (w_cons ?_ (w_cons ?_ (w_cons ?_ (w_cons ?_ (w_cons ?_ w_nil)))))))))) ?_)
    all_goals (first | (simp only [nz, rn, nzIns, nzFun, nzPrg, h8, Int.reduceLT, Int.reduceEq, List.contains_cons, List.contains_nil, Option.map_some, Option.map_none, reduceIte, reduceCtorEq, Nat.reduceEqDiff, Nat.reduceLT, Nat.reduceBEq, Nat.reduceAdd, Nat.reduceMul, Nat.reduceLeDiff, Nat.reduceSub, Bool.false_eq_true]; try rfl) | skip)
theorem r05_Size_j60_ok (p0 : Prg) (p1 : Int) (v2 : Int) (x_4 : Fun) (v6 : Int) (v8 : Int) (v9 : Int) : Sim (r05_Size_j60 p0 p1 v2 x_4 v6 v8 v9) fun r => evX (evI T) x7_3 [(1, .int .i64 p1), (2, .box [.sl p0.Funcs.length (p0.Funcs.flatMap cFun)]), (5, .int .i64 v8), (6, .int .i64 v2), (7, .box [.str x_4.Name, .sl x_4.Params.length (x_4.Params.flatMap (cint .i64)), .int .i64 x_4.Ret, .sl x_4.Blocks.length (x_4.Blocks.flatMap (csl cIns)), .int .i64 x_4.At]), (8, .int .i64 v6), (9, .int .i64 v9)] = some (.norm, [(1, .int .i64 p1), (2, .box [.sl p0.Funcs.length (p0.Funcs.flatMap cFun)]), (5, .int .i64 v8), (6, .int .i64 v2), (7, .box [.str x_4.Name, .sl x_4.Params.length (x_4.Params.flatMap (cint .i64)), .int .i64 x_4.Ret, .sl x_4.Blocks.length (x_4.Blocks.flatMap (csl cIns)), .int .i64 x_4.At]), (8, .int .i64 v6), (9, .int .i64 v9), (69, .bool r)]) := by
  unfold r05_Size_j60
  refine sim_bind (fun x_10 h12 => ?_)
  have f13 := ix_ok h12
  have f13o := ix_own2 h12
  have f14 := ix_cells (sz_sl cIns) h12
  simp only [nz, nzIns, nzFun, nzPrg] at f14
  refine sim_if (fun h15 => ?_) (fun h15 => ?_)
  · refine sim_some ?_
    refine' (w_reg (w_cons ?_ (w_cons ?_ (w_cons ?_ (w_cons ?_ (w_cons ?_ (w_cons ?_ (w_cons ?_ (w_cons ?_ (w_cons ?_ (w_cons ?_ (w_cons ?_ (w_cons ?_ (w_cons ?_ w_nil))))))))))))) ?_)
    all_goals (first | (simp only [nz, rn, nzIns, nzFun, nzPrg, f13, f13o, f14, h15, Int.reduceLT, Int.reduceEq, List.contains_cons, List.contains_nil, Option.map_some, Option.map_none, reduceIte, reduceCtorEq, Nat.reduceEqDiff, Nat.reduceLT, Nat.reduceBEq, Nat.reduceAdd, Nat.reduceMul, Nat.reduceLeDiff, Nat.reduceSub, Bool.false_eq_true]; try rfl) | skip)
  · refine sim_some ?_
    refine' (w_reg (w_cons ?_ (w_cons ?_ (w_cons ?_ (w_cons ?_ (w_cons ?_ (w_cons ?_ (w_cons ?_ (w_cons ?_ (w_cons ?_ (w_cons ?_ (w_cons ?_ (w_cons ?_ (w_cons ?_ w_nil))))))))))))) ?_)
    all_goals (first | (simp only [nz, rn, nzIns, nzFun, nzPrg, f13, f13o, f14, h15, Int.reduceLT, Int.reduceEq, List.contains_cons, List.contains_nil, Option.map_some, Option.map_none, reduceIte, reduceCtorEq, Nat.reduceEqDiff, Nat.reduceLT, Nat.reduceBEq, Nat.reduceAdd, Nat.reduceMul, Nat.reduceLeDiff, Nat.reduceSub, Bool.false_eq_true]; try rfl) | skip)
theorem r05_Size_l61_bok (p0 : Prg) (p1 : Int) (v2 : Int) (x_4 : Fun) (v6 : Int) (v8 : Int) (v9 : Int) : Sim (r05_Size_l61_b p0 p1 v2 x_4 v6 v8 v9) fun x => fgt [1, 2, 5, 6, 7, 8, 9] (evX (evI T) x7_4 [(1, .int .i64 p1), (2, .box [.sl p0.Funcs.length (p0.Funcs.flatMap cFun)]), (5, .int .i64 v8), (6, .int .i64 v2), (7, .box [.str x_4.Name, .sl x_4.Params.length (x_4.Params.flatMap (cint .i64)), .int .i64 x_4.Ret, .sl x_4.Blocks.length (x_4.Blocks.flatMap (csl cIns)), .int .i64 x_4.At]), (8, .int .i64 v6), (9, .int .i64 v9)]) = some (stpK (fun s => (.norm, [(1, .int .i64 p1), (2, .box [.sl p0.Funcs.length (p0.Funcs.flatMap cFun)]), (5, .int .i64 s.1), (6, .int .i64 v2), (7, .box [.str x_4.Name, .sl x_4.Params.length (x_4.Params.flatMap (cint .i64)), .int .i64 x_4.Ret, .sl x_4.Blocks.length (x_4.Blocks.flatMap (csl cIns)), .int .i64 x_4.At]), (8, .int .i64 v6), (9, .int .i64 s.2)])) (fun r => (.exit 4, [(1, .int .i64 p1), (2, .box [.sl p0.Funcs.length (p0.Funcs.flatMap cFun)]), (5, .int .i64 r), (6, .int .i64 v2), (7, .box [.str x_4.Name, .sl x_4.Params.length (x_4.Params.flatMap (cint .i64)), .int .i64 x_4.Ret, .sl x_4.Blocks.length (x_4.Blocks.flatMap (csl cIns)), .int .i64 x_4.At]), (8, .int .i64 v6)])) x) := by
  unfold r05_Size_l61_b
  refine sim_bind (fun v11 h16 => ?_)
  have f17 := r05_Size_j60_ok p0 p1 v2 x_4 v6 v8 v9 _ h16
  dsimp only at f17
  refine sim_if (fun h18 => ?_) (fun h18 => ?_)
  · refine sim_bind (fun x_12 h19 => ?_)
    have f20 := ix_ok h19
    have f20o := ix_own2 h19
    have f21 := ix_cells (sz_sl cIns) h19
    simp only [nz, nzIns, nzFun, nzPrg] at f21
    refine sim_bind (fun x_13 h22 => ?_)
    have f23 := ix_ok h22
    have f23o := ix_own2 h22
    have f24 := ix_cells szIns h22
    simp only [nz, nzIns, nzFun, nzPrg] at f24
    refine sim_some ?_
    try simp only [nz, nzIns, nzFun, nzPrg, f23o] at f17
    all_goals
      refine' (w_fgt (w_seq (w_seq f17 (w_go (w_condt ?_ w_skip ?_))) (w_go (w_seq (w_block (w_seq (w_reg (w_cons ?_ (w_cons ?_ (w_cons ?_ (w_cons ?_ (w_cons ?_ (w_cons ?_ (w_cons ?_ (w_cons ?_ (w_cons ?_ (w_cons ?_ w_nil)))))))))) ?_) (w_go (w_reg (w_cons ?_ (w_cons ?_ (w_cons ?_ (w_cons ?_ (w_cons ?_ (w_cons ?_ (w_cons ?_ (w_cons ?_ (w_cons ?_ (w_cons ?_ (w_cons ?_ (w_cons ?_ (w_cons ?_ (w_cons ?_ (w_cons ?_ (w_cons ?_ (w_cons ?_ (w_cons ?_ w_nil)))))))))))))))))) ?_))) ?_) (w_go (w_reg (w_cons ?_ (w_cons ?_ (w_cons ?_ w_nil))) ?_))))) ?_)
      all_goals (first | (simp only [nz, rn, nzIns, nzFun, nzPrg, h18, f20, f20o, f21, f23, f23o, f24, Int.reduceLT, Int.reduceEq, List.contains_cons, List.contains_nil, Option.map_some, Option.map_none, reduceIte, reduceCtorEq, Nat.reduceEqDiff, Nat.reduceLT, Nat.reduceBEq, Nat.reduceAdd, Nat.reduceMul, Nat.reduceLeDiff, Nat.reduceSub, Bool.false_eq_true]; try rfl) | skip)
  · refine sim_some ?_
    try simp only [nz, nzIns, nzFun, nzPrg] at f17
    all_goals
      refine' (w_fgt (w_seq (w_seq f17 (w_go (w_condf ?_ (w_exit ?_) ?_))) w_gox) ?_)
      all_goals (first | (simp only [nz, rn, nzIns, nzFun, nzPrg, h18, Int.reduceLT, Int.reduceEq, List.contains_cons, List.contains_nil, Option.map_some, Option.map_none, reduceIte, reduceCtorEq, Nat.reduceEqDiff, Nat.reduceLT, Nat.reduceBEq, Nat.reduceAdd, Nat.reduceMul, Nat.reduceLeDiff, Nat.reduceSub, Bool.false_eq_true]; try rfl) | skip)
theorem r05_Size_l61_ok (p0 : Prg) (p1 : Int) (v2 : Int) (x_4 : Fun) (v6 : Int) (s : Int × Int) : Sim (r05_Size_l61 p0 p1 v2 x_4 v6 s) fun r => evX (evI T) (.loop x7_4 [1, 2, 5, 6, 7, 8, 9]) [(1, .int .i64 p1), (2, .box [.sl p0.Funcs.length (p0.Funcs.flatMap cFun)]), (5, .int .i64 s.1), (6, .int .i64 v2), (7, .box [.str x_4.Name, .sl x_4.Params.length (x_4.Params.flatMap (cint .i64)), .int .i64 x_4.Ret, .sl x_4.Blocks.length (x_4.Blocks.flatMap (csl cIns)), .int .i64 x_4.At]), (8, .int .i64 v6), (9, .int .i64 s.2)] = some (.exit 4, [(1, .int .i64 p1), (2, .box [.sl p0.Funcs.length (p0.Funcs.flatMap cFun)]), (5, .int .i64 r), (6, .int .i64 v2), (7, .box [.str x_4.Name, .sl x_4.Params.length (x_4.Params.flatMap (cint .i64)), .int .i64 x_4.Ret, .sl x_4.Blocks.length (x_4.Blocks.flatMap (csl cIns)), .int .i64 x_4.At]), (8, .int .i64 v6)]) := by
  unfold r05_Size_l61
  exact loop_rule (C := evI T) (b := x7_4) (ks := [1, 2, 5, 6, 7, 8, 9]) (σ := Int × Int) (ρ := Int) (body := fun s => r05_Size_l61_b p0 p1 v2 x_4 v6 s.1 s.2) (E := fun s => [(1, .int .i64 p1), (2, .box [.sl p0.Funcs.length (p0.Funcs.flatMap cFun)]), (5, .int .i64 s.1), (6, .int .i64 v2), (7, .box [.str x_4.Name, .sl x_4.Params.length (x_4.Params.flatMap (cint .i64)), .int .i64 x_4.Ret, .sl x_4.Blocks.length (x_4.Blocks.flatMap (csl cIns)), .int .i64 x_4.At]), (8, .int .i64 v6), (9, .int .i64 s.2)]) (R := fun r => (.exit 4, [(1, .int .i64 p1), (2, .box [.sl p0.Funcs.length (p0.Funcs.flatMap cFun)]), (5, .int .i64 r), (6, .int .i64 v2), (7, .box [.str x_4.Name, .sl x_4.Params.length (x_4.Params.flatMap (cint .i64)), .int .i64 x_4.Ret, .sl x_4.Blocks.length (x_4.Blocks.flatMap (csl cIns)), .int .i64 x_4.At]), (8, .int .i64 v6)])) (fun r h => nomatch h) (fun s => r05_Size_l61_bok p0 p1 v2 x_4 v6 s.1 s.2) s
theorem r05_Size_l62_bok (p0 : Prg) (p1 : Int) (v2 : Int) (x_4 : Fun) (v5 : Int) (v6 : Int) : Sim (r05_Size_l62_b p0 p1 v2 x_4 v5 v6) fun x => fgt [1, 2, 5, 6, 7, 8] (evX (evI T) x7_5 [(1, .int .i64 p1), (2, .box [.sl p0.Funcs.length (p0.Funcs.flatMap cFun)]), (5, .int .i64 v5), (6, .int .i64 v2), (7, .box [.str x_4.Name, .sl x_4.Params.length (x_4.Params.flatMap (cint .i64)), .int .i64 x_4.Ret, .sl x_4.Blocks.length (x_4.Blocks.flatMap (csl cIns)), .int .i64 x_4.At]), (8, .int .i64 v6)]) = some (stpK (fun s => (.norm, [(1, .int .i64 p1), (2, .box [.sl p0.Funcs.length (p0.Funcs.flatMap cFun)]), (5, .int .i64 s.1), (6, .int .i64 v2), (7, .box [.str x_4.Name, .sl x_4.Params.length (x_4.Params.flatMap (cint .i64)), .int .i64 x_4.Ret, .sl x_4.Blocks.length (x_4.Blocks.flatMap (csl cIns)), .int .i64 x_4.At]), (8, .int .i64 s.2)])) (fun r => (.exit 2, [(1, .int .i64 p1), (2, .box [.sl p0.Funcs.length (p0.Funcs.flatMap cFun)]), (5, .int .i64 r), (6, .int .i64 v2)])) x) := by
  unfold r05_Size_l62_b
  have f10 := r05_Size_j55_ok p0 p1 v2 x_4 v5 v6
  refine sim_if (fun h11 => ?_) (fun h11 => ?_)
  · refine sim_bind (fun v14 h25 => ?_)
    have f26 := r05_Size_l61_ok p0 p1 v2 x_4 v6 (v5, 0) _ h25
    dsimp only at f26
    refine sim_some ?_
    try simp only [nz, nzIns, nzFun, nzPrg] at f10
    try simp only [nz, nzIns, nzFun, nzPrg] at f26
    all_goals
      refine' (w_fgt (w_seq (w_seq f10 (w_go (w_condt ?_ w_skip ?_))) (w_go (w_seq (w_block (w_seq (w_reg (w_cons ?_ w_nil) ?_) (w_go (w_block f26 ?_))) ?_) (w_go (w_reg (w_cons ?_ (w_cons ?_ (w_cons ?_ w_nil))) ?_))))) ?_)
      all_goals (first | (simp only [nz, rn, nzIns, nzFun, nzPrg, h11, Int.reduceLT, Int.reduceEq, List.contains_cons, List.contains_nil, Option.map_some, Option.map_none, reduceIte, reduceCtorEq, Nat.reduceEqDiff, Nat.reduceLT, Nat.reduceBEq, Nat.reduceAdd, Nat.reduceMul, Nat.reduceLeDiff, Nat.reduceSub, Bool.false_eq_true]; try rfl) | skip)
  · refine sim_some ?_
    try simp only [nz, nzIns, nzFun, nzPrg] at f10
    all_goals
      refine' (w_fgt (w_seq (w_seq f10 (w_go (w_condf ?_ (w_exit ?_) ?_))) w_gox) ?_)
      all_goals (first | (simp only [nz, rn, nzIns, nzFun, nzPrg, h11, Int.reduceLT, Int.reduceEq, List.contains_cons, List.contains_nil, Option.map_some, Option.map_none, reduceIte, reduceCtorEq, Nat.reduceEqDiff, Nat.reduceLT, Nat.reduceBEq, Nat.reduceAdd, Nat.reduceMul, Nat.reduceLeDiff, Nat.reduceSub, Bool.false_eq_true]; try rfl) | skip)
theorem r05_Size_l62_ok (p0 : Prg) (p1 : Int) (v2 : Int) (x_4 : Fun) (s : Int × Int) : Sim (r05_Size_l62 p0 p1 v2 x_4 s) fun r => evX (evI T) (.loop x7_5 [1, 2, 5, 6, 7, 8]) [(1, .int .i64 p1), (2, .box [.sl p0.Funcs.length (p0.Funcs.flatMap cFun)]), (5, .int .i64 s.1), (6, .int .i64 v2), (7, .box [.str x_4.Name, .sl x_4.Params.length (x_4.Params.flatMap (cint .i64)), .int .i64 x_4.Ret, .sl x_4.Blocks.length (x_4.Blocks.flatMap (csl cIns)), .int .i64 x_4.At]), (8, .int .i64 s.2)] = some (.exit 2, [(1, .int .i64 p1), (2, .box [.sl p0.Funcs.length (p0.Funcs.flatMap cFun)]), (5, .int .i64 r), (6, .int .i64 v2)]) := by
  unfold r05_Size_l62
  exact loop_rule (C := evI T) (b := x7_5) (ks := [1, 2, 5, 6, 7, 8]) (σ := Int × Int) (ρ := Int) (body := fun s => r05_Size_l62_b p0 p1 v2 x_4 s.1 s.2) (E := fun s => [(1, .int .i64 p1), (2, .box [.sl p0.Funcs.length (p0.Funcs.flatMap cFun)]), (5, .int .i64 s.1), (6, .int .i64 v2), (7, .box [.str x_4.Name, .sl x_4.Params.length (x_4.Params.flatMap (cint .i64)), .int .i64 x_4.Ret, .sl x_4.Blocks.length (x_4.Blocks.flatMap (csl cIns)), .int .i64 x_4.At]), (8, .int .i64 s.2)]) (R := fun r => (.exit 2, [(1, .int .i64 p1), (2, .box [.sl p0.Funcs.length (p0.Funcs.flatMap cFun)]), (5, .int .i64 r), (6, .int .i64 v2)])) (fun r h => nomatch h) (fun s => r05_Size_l62_bok p0 p1 v2 x_4 s.1 s.2) s
theorem r05_Size_l63_bok (p0 : Prg) (p1 : Int) (v1 : Int) (v2 : Int) : Sim (r05_Size_l63_b p0 p1 v1 v2) fun x => fgt [1, 2, 5, 6] (evX (evI T) x7_6 [(1, .int .i64 p1), (2, .box [.sl p0.Funcs.length (p0.Funcs.flatMap cFun)]), (5, .int .i64 v1), (6, .int .i64 v2)]) = some (stpK (fun s => (.norm, [(1, .int .i64 p1), (2, .box [.sl p0.Funcs.length (p0.Funcs.flatMap cFun)]), (5, .int .i64 s.1), (6, .int .i64 s.2)])) (fun r => (.exit 0, [(5, .int .i64 r)])) x) := by
  unfold r05_Size_l63_b
  have f3 := r05_Size_j32_ok p0 p1 v1 v2
  refine sim_if (fun h4 => ?_) (fun h4 => ?_)
  · refine sim_bind (fun x_4 h5 => ?_)
    have f6 := ix_ok h5
    have f6o := ix_own2 h5
    have f7 := ix_cells szFun h5
    simp only [nz, nzFun, nzPrg] at f7
    refine sim_bind (fun v15 h27 => ?_)
    have f28 := r05_Size_l62_ok p0 p1 v2 x_4 (IntKind.wrap .i64 ((IntKind.wrap .i64 ((IntKind.wrap .i64 (v1 + ((x_4.Blocks.length : Int)))) + ((x_4.Params.length : Int)))) + (IntKind.wrap .i64 (Int.tdiv ((x_4.Name.length : Int)) 30))), 0) _ h27
    dsimp only at f28
    refine sim_some ?_
    try simp only [nz, nzFun, nzPrg] at f3
    try simp only [nz, nzFun, nzPrg] at f28
    all_goals
      refine' (w_fgt (w_seq (w_seq f3 (w_go (w_condt ?_ w_skip ?_))) (w_go (w_seq (w_block (w_seq (w_reg (w_cons ?_ (w_cons ?_ (w_cons ?_ (w_cons ?_ (w_cons ?_ (w_cons ?_ (w_cons ?_ w_nil))))))) ?_) (w_go (w_seq (w_reg (w_cons ?_ (w_cons ?_ (w_cons ?_ (w_cons ?_ (w_cons ?_ (w_cons ?_ (w_cons ?_ (w_cons ?_ (w_cons ?_ (w_cons ?_ (w_cons ?_ (w_cons ?_ (w_cons ?_ (w_cons ?_ (w_cons ?_ w_nil))))))))))))))) ?_) (w_go (w_seq (w_reg (w_cons ?_ w_nil) ?_) (w_go (w_block f28 ?_))))))) ?_) (w_go (w_reg (w_cons ?_ (w_cons ?_ (w_cons ?_ w_nil))) ?_))))) ?_)
      all_goals (first | (simp only [nz, rn, nzFun, nzPrg, h4, f6, f6o, f7, Int.reduceLT, Int.reduceEq, List.contains_cons, List.contains_nil, Option.map_some, Option.map_none, reduceIte, reduceCtorEq, Nat.reduceEqDiff, Nat.reduceLT, Nat.reduceBEq, Nat.reduceAdd, Nat.reduceMul, Nat.reduceLeDiff, Nat.reduceSub, Bool.false_eq_true]; try rfl) | skip)
  · refine sim_some ?_
    try simp only [nz, nzFun, nzPrg] at f3
    all_goals
      refine' (w_fgt (w_seq (w_seq f3 (w_go (w_condf ?_ (w_exit ?_) ?_))) w_gox) ?_)
      all_goals (first | (simp only [nz, rn, nzFun, nzPrg, h4, Int.reduceLT, Int.reduceEq, List.contains_cons, List.contains_nil, Option.map_some, Option.map_none, reduceIte, reduceCtorEq, Nat.reduceEqDiff, Nat.reduceLT, Nat.reduceBEq, Nat.reduceAdd, Nat.reduceMul, Nat.reduceLeDiff, Nat.reduceSub, Bool.false_eq_true]; try rfl) | skip)
theorem r05_Size_l63_ok (p0 : Prg) (p1 : Int) (s : Int × Int) : Sim (r05_Size_l63 p0 p1 s) fun r => evX (evI T) (.loop x7_6 [1, 2, 5, 6]) [(1, .int .i64 p1), (2, .box [.sl p0.Funcs.length (p0.Funcs.flatMap cFun)]), (5, .int .i64 s.1), (6, .int .i64 s.2)] = some (.exit 0, [(5, .int .i64 r)]) := by
  unfold r05_Size_l63
  exact loop_rule (C := evI T) (b := x7_6) (ks := [1, 2, 5, 6]) (σ := Int × Int) (ρ := Int) (body := fun s => r05_Size_l63_b p0 p1 s.1 s.2) (E := fun s => [(1, .int .i64 p1), (2, .box [.sl p0.Funcs.length (p0.Funcs.flatMap cFun)]), (5, .int .i64 s.1), (6, .int .i64 s.2)]) (R := fun r => (.exit 0, [(5, .int .i64 r)])) (fun r h => nomatch h) (fun s => r05_Size_l63_bok p0 p1 s.1 s.2) s
theorem r05_Size_ok (p0 : Prg) (p1 : Int) : Sim (r05_Size p0 p1) fun r => evI T 7 [.agg [.sl p0.Funcs.length (p0.Funcs.flatMap cFun)], .int .i64 p1] = some (.int .i64 r, [.none, .none]) := by
  unfold r05_Size
  refine sim_bind (fun v16 h29 => ?_)
  have f30 := r05_Size_l63_ok p0 p1 ((p0.Funcs.length : Int), 0) _ h29
  dsimp only at f30
  refine sim_some ?_
  refine evI_ret (x := x7) rfl rfl rfl ?_
  try simp only [nz, nzFun, nzPrg] at f30
  all_goals
    refine' (w_fn rfl rfl (w_seq (w_reg (w_cons ?_ (w_cons ?_ w_nil)) ?_) (w_go (w_seq (w_reg (w_cons ?_ (w_cons ?_ (w_cons ?_ (w_cons ?_ w_nil)))) ?_) (w_go (w_seq (w_seq (w_reg (w_cons ?_ w_nil) ?_) (w_go (w_block f30 ?_))) (w_go (w_seq (w_reg (w_cons ?_ (w_cons ?_ w_nil)) ?_) (w_go w_ret)))))))) ?_)
    all_goals (first | (simp only [x7, nz, rn, nzFun, nzPrg, Int.reduceLT, Int.reduceEq, List.contains_cons, List.contains_nil, Option.map_some, Option.map_none, reduceIte, reduceCtorEq, Nat.reduceEqDiff, Nat.reduceLT, Nat.reduceBEq, Nat.reduceAdd, Nat.reduceMul, Nat.reduceLeDiff, Nat.reduceSub, Bool.false_eq_true]; try rfl) | skip)
theorem r05_Size_okN (p0 : Prg) (p1 : Int) : Sim (r05_Size p0 p1) fun r => ∀ ws, ws.map normA = [.agg [.sl p0.Funcs.length (p0.Funcs.flatMap cFun)], .int .i64 p1] → evI T 7 ws = some (.int .i64 r, [.none, .none]) := fun r h => evI_okN (x := x7) rfl rfl rfl (r05_Size_ok p0 p1 r h)
end Go.Ab

/-
  Printed by gen.py.
-/
namespace Go.Ab
open Go
set_option linter.unusedVariables false
set_option linter.unusedSimpArgs false
set_option maxRecDepth 100000
set_option maxHeartbeats 4000000
theorem ops_rows_ok : Sim (ops_rows) fun r => evI T 45 [] = some (.agg (r.flatMap cops_row), []) := by
  unfold ops_rows
  refine sim_some ?_
  refine evI_ret (x := x45) rfl rfl rfl ?_
  refine' (w_fn rfl rfl (w_seq (w_reg (w_cons ?_ w_nil) ?_) (w_go (w_seq (w_reg (w_cons ?_ (w_cons ?_ (w_cons ?_ (w_cons ?_ (w_cons ?_ (w_cons ?_ (w_cons ?_ (w_cons ?_ (w_cons ?_ (w_cons ?_ (w_cons ?_ (w_cons ?_ (w_cons ?_ (w_cons ?_ (w_cons ?_ (w_cons ?_ (w_cons ?_ (w_cons ?_ (w_cons ?_ (w_cons ?_ (w_cons ?_ (w_cons ?_ (w_cons ?_ (w_cons ?_ (w_cons ?_ (w_cons ?_ (w_cons ?_ (w_cons ?_ (w_cons ?_ (w_cons ?_ (w_cons ?_ (w_cons ?_ (w_cons ?_ (w_cons ?_ (w_cons ?_ (w_cons ?_ (w_cons ?_ (w_cons ?_ (w_cons ?_ (w_cons ?_ (w_cons ?_ (w_cons ?_ (w_cons ?_ (w_cons ?_ (w_cons ?_ (w_cons ?_ (w_cons ?_ (w_cons ?_ (w_cons ?_ (w_cons ?_ w_nil)))))))))))))))))))))))))))))))))))))))))))))))))) ?_) (w_go w_ret)))) ?_)
  all_goals (first | (simp only [x45, nz, rn, nzops_row, Int.reduceLT, Int.reduceEq, List.contains_cons, List.contains_nil, Option.map_some, Option.map_none, reduceIte, reduceCtorEq, Nat.reduceEqDiff, Nat.reduceLT, Nat.reduceBEq, Nat.reduceAdd, Nat.reduceMul, Nat.reduceLeDiff, Nat.reduceSub, Bool.false_eq_true]; try rfl) | skip)
theorem ops_rows_okN : Sim (ops_rows) fun r => ∀ ws, ws.map normA = [] → evI T 45 ws = some (.agg (r.flatMap cops_row), []) := fun r h => evI_okN (x := x45) rfl rfl rfl (ops_rows_ok r h)
end Go.Ab

/-
  Printed by gen.py.
-/
namespace Go.Ab
open Go
set_option linter.unusedVariables false
set_option linter.unusedSimpArgs false
set_option maxRecDepth 100000
set_option maxHeartbeats 4000000
theorem ops_of_j1_ok (p0 : Int) : evX (evI T) x39_1 [(0, .int .i64 p0), (2, .box [.str [], .int .i64 0, .int .i64 0, .int .i64 0, .bool false, .bool false, .bool false, .bool false, .bool false])] = some (.norm, [(0, .int .i64 p0), (2, .box [.str [], .int .i64 0, .int .i64 0, .int .i64 0, .bool false, .bool false, .bool false, .bool false, .bool false]), (8, .bool (((decide (p0 < 1)) || (decide (29 < p0)))))]) := by
  rcases Bool.eq_false_or_eq_true (decide (p0 < 1)) with h1 | h1
  · refine' (w_reg (w_cons ?_ (w_cons ?_ (w_cons ?_ (w_cons ?_ (w_cons ?_ (w_cons ?_ w_nil)))))) ?_)
    all_goals (first | (simp only [nz, rn, h1, Int.reduceLT, Int.reduceEq, List.contains_cons, List.contains_nil, Option.map_some, Option.map_none, reduceIte, reduceCtorEq, Nat.reduceEqDiff, Nat.reduceLT, Nat.reduceBEq, Nat.reduceAdd, Nat.reduceMul, Nat.reduceLeDiff, Nat.reduceSub, Bool.false_eq_true]; try rfl) | skip)
  · refine' (w_reg (w_cons ?_ (w_cons ?_ (w_cons ?_ (w_cons ?_ (w_cons ?_ (w_cons ?_ w_nil)))))) ?_)
    all_goals (first | (simp only [nz, rn, h1, Int.reduceLT, Int.reduceEq, List.contains_cons, List.contains_nil, Option.map_some, Option.map_none, reduceIte, reduceCtorEq, Nat.reduceEqDiff, Nat.reduceLT, Nat.reduceBEq, Nat.reduceAdd, Nat.reduceMul, Nat.reduceLeDiff, Nat.reduceSub, Bool.false_eq_true]; try rfl) | skip)
theorem ops_of_ok (p0 : Int) : Sim (ops_of p0) fun r => evI T 39 [.int .i64 p0] = some (.agg [.str r.word, .int .i64 r.takes.a0, .int .i64 r.takes.a1, .int .i64 r.makes, .bool r.traps, .bool r.reads, .bool r.writes, .bool r.seen, .bool r.ends], [.none]) := by
  unfold ops_of
  have f3 := ops_of_j1_ok p0
  refine sim_if (fun h4 => ?_) (fun h4 => ?_)
  · refine sim_some ?_
    refine evI_ret (x := x39) rfl rfl rfl ?_
    try simp only [nz, nzops_row] at f3
    all_goals
      refine' (w_fn rfl rfl (w_seq (w_reg (w_cons ?_ w_nil) ?_) (w_go (w_seq (w_seq f3 (w_go (w_condt ?_ (w_seq (w_reg (w_cons ?_ (w_cons ?_ w_nil)) ?_) (w_go w_ret)) ?_))) w_gor))) ?_)
      all_goals (first | (simp only [x39, nz, rn, nzops_row, h4, Int.reduceLT, Int.reduceEq, List.contains_cons, List.contains_nil, Option.map_some, Option.map_none, reduceIte, reduceCtorEq, Nat.reduceEqDiff, Nat.reduceLT, Nat.reduceBEq, Nat.reduceAdd, Nat.reduceMul, Nat.reduceLeDiff, Nat.reduceSub, Bool.false_eq_true]; try rfl) | skip)
  · refine sim_bind (fun r2 h5 => ?_)
    have f6 := ops_rows_okN  _ h5
    dsimp only at f6
    refine sim_bind (fun x_3 h7 => ?_)
    have f8 := ixa_ok h7
    have f8a := ix_cells szops_row (ixa_ix h7)
    have f8b := ix_le szops_row (ixa_ix h7)
    simp only [nz, nzops_row] at f8a
    refine sim_some ?_
    refine evI_ret (x := x39) rfl rfl rfl ?_
    try simp only [nz, nzops_row] at f3
    try simp only [nz, nzops_row] at f6
    all_goals
      refine' (w_fn rfl rfl (w_seq (w_reg (w_cons ?_ w_nil) ?_) (w_go (w_seq (w_seq f3 (w_go (w_condf ?_ w_skip ?_))) (w_go (w_seq (w_reg (w_cons ?_ (w_cons ?_ (w_cons ?_ (w_cons ?_ w_nil)))) ?_) (w_go w_ret)))))) ?_)
      all_goals (first | (simp only [x39, nz, rn, nzops_row, h4, f6, f8, f8a, f8b, Int.reduceLT, Int.reduceEq, List.contains_cons, List.contains_nil, Option.map_some, Option.map_none, reduceIte, reduceCtorEq, Nat.reduceEqDiff, Nat.reduceLT, Nat.reduceBEq, Nat.reduceAdd, Nat.reduceMul, Nat.reduceLeDiff, Nat.reduceSub, Bool.false_eq_true]; try rfl) | skip)
theorem ops_of_okN (p0 : Int) : Sim (ops_of p0) fun r => ∀ ws, ws.map normA = [.int .i64 p0] → evI T 39 ws = some (.agg [.str r.word, .int .i64 r.takes.a0, .int .i64 r.takes.a1, .int .i64 r.makes, .bool r.traps, .bool r.reads, .bool r.writes, .bool r.seen, .bool r.ends], [.none]) := fun r h => evI_okN (x := x39) rfl rfl rfl (ops_of_ok p0 r h)
end Go.Ab

/-
  Printed by gen.py.
-/
namespace Go.Ab
open Go
set_option linter.unusedVariables false
set_option linter.unusedSimpArgs false
set_option maxRecDepth 100000
set_option maxHeartbeats 4000000
theorem ops_Ends_ok (p0 : Int) : Sim (ops_Ends p0) fun r => evI T 28 [.int .i64 p0] = some (.bool r, [.none]) := by
  unfold ops_Ends
  refine sim_bind (fun r1 h1 => ?_)
  have f2 := ops_of_okN p0 _ h1
  dsimp only at f2
  refine sim_some ?_
  refine evI_ret (x := x28) rfl rfl rfl ?_
  try simp only [nz] at f2
  all_goals
    refine' (w_fn rfl rfl (w_seq (w_reg (w_cons ?_ w_nil) ?_) (w_go (w_seq (w_reg (w_cons ?_ (w_cons ?_ (w_cons ?_ (w_cons ?_ w_nil)))) ?_) (w_go w_ret)))) ?_)
    all_goals (first | (simp only [x28, nz, rn, f2, Int.reduceLT, Int.reduceEq, List.contains_cons, List.contains_nil, Option.map_some, Option.map_none, reduceIte, reduceCtorEq, Nat.reduceEqDiff, Nat.reduceLT, Nat.reduceBEq, Nat.reduceAdd, Nat.reduceMul, Nat.reduceLeDiff, Nat.reduceSub, Bool.false_eq_true]; try rfl) | skip)
theorem ops_Ends_okN (p0 : Int) : Sim (ops_Ends p0) fun r => ∀ ws, ws.map normA = [.int .i64 p0] → evI T 28 ws = some (.bool r, [.none]) := fun r h => evI_okN (x := x28) rfl rfl rfl (ops_Ends_ok p0 r h)
end Go.Ab

/-
  Printed by gen.py.
-/
namespace Go.Ab
open Go
set_option linter.unusedVariables false
set_option linter.unusedSimpArgs false
set_option maxRecDepth 100000
set_option maxHeartbeats 4000000
theorem graph_Shaped__d1_s1_j1_ok (p0 : Int) (p1_0 : Str) (p1_1 : List Int) (p1_2 : Int) (p1_3 : List (List Ins)) (p1_4 : Int) : evX (evI T) x30_1 [(0, .int .i64 p0), (1, .sp [.str p1_0, .sl p1_1.length (p1_1.flatMap (cint .i64)), .int .i64 p1_2, .sl p1_3.length (p1_3.flatMap (csl cIns)), .int .i64 p1_4])] = some (.norm, [(1, .sp [.str p1_0, .sl p1_1.length (p1_1.flatMap (cint .i64)), .int .i64 p1_2, .sl p1_3.length (p1_3.flatMap (csl cIns)), .int .i64 p1_4]), (3, .bool (((decide (p0 < 0)) || (decide (((p1_3.length : Int)) ≤ p0)))))]) := by
  rcases Bool.eq_false_or_eq_true (decide (p0 < 0)) with h1 | h1
  · refine' (w_reg (w_cons ?_ (w_cons ?_ (w_cons ?_ (w_cons ?_ (w_cons ?_ (w_cons ?_ (w_cons ?_ (w_cons ?_ (w_cons ?_ (w_cons ?_ w_nil)))))))))) ?_)
    all_goals (first | (simp only [nz, rn, nzIns, h1, Int.reduceLT, Int.reduceEq, List.contains_cons, List.contains_nil, Option.map_some, Option.map_none, reduceIte, reduceCtorEq, Nat.reduceEqDiff, Nat.reduceLT, Nat.reduceBEq, Nat.reduceAdd, Nat.reduceMul, Nat.reduceLeDiff, Nat.reduceSub, Bool.false_eq_true]; try rfl) | skip)
  · refine' (w_reg (w_cons ?_ (w_cons ?_ (w_cons ?_ (w_cons ?_ (w_cons ?_ (w_cons ?_ (w_cons ?_ (w_cons ?_ (w_cons ?_ (w_cons ?_ w_nil)))))))))) ?_)
    all_goals (first | (simp only [nz, rn, nzIns, h1, Int.reduceLT, Int.reduceEq, List.contains_cons, List.contains_nil, Option.map_some, Option.map_none, reduceIte, reduceCtorEq, Nat.reduceEqDiff, Nat.reduceLT, Nat.reduceBEq, Nat.reduceAdd, Nat.reduceMul, Nat.reduceLeDiff, Nat.reduceSub, Bool.false_eq_true]; try rfl) | skip)
theorem graph_Shaped__d1_s1_ok (p0 : Int) (p1_0 : Str) (p1_1 : List Int) (p1_2 : Int) (p1_3 : List (List Ins)) (p1_4 : Int) : Sim (graph_Shaped__d1_s1 p0 p1_0 p1_1 p1_2 p1_3 p1_4) fun r => evI T 30 [.int .i64 p0, .sp [.str p1_0, .sl p1_1.length (p1_1.flatMap (cint .i64)), .int .i64 p1_2, .sl p1_3.length (p1_3.flatMap (csl cIns)), .int .i64 p1_4]] = some (.bool r, [.none, .none]) := by
  unfold graph_Shaped__d1_s1
  have f3 := graph_Shaped__d1_s1_j1_ok p0 p1_0 p1_1 p1_2 p1_3 p1_4
  refine sim_some ?_
  refine evI_ret (x := x30) rfl rfl rfl ?_
  try simp only [nz, nzIns] at f3
  all_goals
    refine' (w_fn rfl rfl (w_seq (w_reg (w_cons ?_ w_nil) ?_) (w_go (w_seq f3 (w_go w_ret)))) ?_)
    all_goals (first | (simp only [x30, nz, rn, nzIns, Int.reduceLT, Int.reduceEq, List.contains_cons, List.contains_nil, Option.map_some, Option.map_none, reduceIte, reduceCtorEq, Nat.reduceEqDiff, Nat.reduceLT, Nat.reduceBEq, Nat.reduceAdd, Nat.reduceMul, Nat.reduceLeDiff, Nat.reduceSub, Bool.false_eq_true]; try rfl) | skip)
theorem graph_Shaped__d1_s1_okN (p0 : Int) (p1_0 : Str) (p1_1 : List Int) (p1_2 : Int) (p1_3 : List (List Ins)) (p1_4 : Int) : Sim (graph_Shaped__d1_s1 p0 p1_0 p1_1 p1_2 p1_3 p1_4) fun r => ∀ ws, ws.map normA = [.int .i64 p0, .sp [.str p1_0, .sl p1_1.length (p1_1.flatMap (cint .i64)), .int .i64 p1_2, .sl p1_3.length (p1_3.flatMap (csl cIns)), .int .i64 p1_4]] → evI T 30 ws = some (.bool r, [.none, .none]) := fun r h => evI_okN (x := x30) rfl rfl rfl (graph_Shaped__d1_s1_ok p0 p1_0 p1_1 p1_2 p1_3 p1_4 r h)
end Go.Ab

/-
  Printed by gen.py.
-/
namespace Go.Ab
open Go
set_option linter.unusedVariables false
set_option linter.unusedSimpArgs false
set_option maxRecDepth 100000
set_option maxHeartbeats 4000000
theorem slices_IndexFunc_intint_s1_l1_bok (p0 : List Int) (p1_0_0 : Str) (p1_0_1 : List Int) (p1_0_2 : Int) (p1_0_3 : List (List Ins)) (p1_0_4 : Int) (v1 : Int) : Sim (slices_IndexFunc_intint_s1_l1_b p0 p1_0_0 p1_0_1 p1_0_2 p1_0_3 p1_0_4 v1) fun x => fgt [0, 1, 7, 8] (evX (evI T) x40_1 [(0, .sl p0.length (p0.flatMap (cint .i64))), (1, .fn 30 [.sp [.str p1_0_0, .sl p1_0_1.length (p1_0_1.flatMap (cint .i64)), .int .i64 p1_0_2, .sl p1_0_3.length (p1_0_3.flatMap (csl cIns)), .int .i64 p1_0_4]]), (7, .int .i64 ((p0.length : Int))), (8, .int .i64 v1)]) = some (stpK (fun s => (.norm, [(0, .sl p0.length (p0.flatMap (cint .i64))), (1, .fn 30 [.sp [.str p1_0_0, .sl p1_0_1.length (p1_0_1.flatMap (cint .i64)), .int .i64 p1_0_2, .sl p1_0_3.length (p1_0_3.flatMap (csl cIns)), .int .i64 p1_0_4]]), (7, .int .i64 ((p0.length : Int))), (8, .int .i64 s)])) (fun r => (stpK (fun t0 => (.exit 0, [])) (fun u0 => (.ret, [(4, .int .i64 u0)])) r)) x) := by
  unfold slices_IndexFunc_intint_s1_l1_b
  refine sim_if (fun h1 => ?_) (fun h1 => ?_)
  · refine sim_bind (fun x_2 h2 => ?_)
    have f3 := ix_ok h2
    have f3o := ix_own2 h2
    have f4 := ix_cells (sz_int .i64) h2
    simp only [nz, nzIns] at f4
    refine sim_bind (fun r3 h5 => ?_)
    have f6 := graph_Shaped__d1_s1_okN x_2 p1_0_0 p1_0_1 p1_0_2 p1_0_3 p1_0_4 _ h5
    dsimp only at f6
    refine sim_if (fun h7 => ?_) (fun h7 => ?_)
    · refine sim_some ?_
      try simp only [nz, nzIns, f3o] at f6
      all_goals
        refine' (w_fgt (w_seq (w_reg (w_cons ?_ w_nil) ?_) (w_go (w_seq (w_condt ?_ w_skip ?_) (w_go (w_seq (w_block (w_seq (w_reg (w_cons ?_ (w_cons ?_ w_nil)) ?_) (w_go (w_seq (w_reg (w_cons ?_ (w_cons ?_ (w_cons ?_ (w_cons ?_ (w_cons ?_ (w_cons ?_ w_nil)))))) ?_) (w_go (w_condt ?_ (w_seq (w_reg (w_cons ?_ (w_cons ?_ w_nil)) ?_) (w_go w_ret)) ?_))))) ?_) w_gor))))) ?_)
        all_goals (first | (simp only [nz, rn, nzIns, h1, f3, f3o, f4, f6, h7, Int.reduceLT, Int.reduceEq, List.contains_cons, List.contains_nil, Option.map_some, Option.map_none, reduceIte, reduceCtorEq, Nat.reduceEqDiff, Nat.reduceLT, Nat.reduceBEq, Nat.reduceAdd, Nat.reduceMul, Nat.reduceLeDiff, Nat.reduceSub, Bool.false_eq_true]; try rfl) | skip)
    · refine sim_some ?_
      try simp only [nz, nzIns, f3o] at f6
      all_goals
        refine' (w_fgt (w_seq (w_reg (w_cons ?_ w_nil) ?_) (w_go (w_seq (w_condt ?_ w_skip ?_) (w_go (w_seq (w_block (w_seq (w_reg (w_cons ?_ (w_cons ?_ w_nil)) ?_) (w_go (w_seq (w_reg (w_cons ?_ (w_cons ?_ (w_cons ?_ (w_cons ?_ (w_cons ?_ (w_cons ?_ w_nil)))))) ?_) (w_go (w_condf ?_ w_skip ?_))))) ?_) (w_go (w_reg (w_cons ?_ (w_cons ?_ w_nil)) ?_))))))) ?_)
        all_goals (first | (simp only [nz, rn, nzIns, h1, f3, f3o, f4, f6, h7, Int.reduceLT, Int.reduceEq, List.contains_cons, List.contains_nil, Option.map_some, Option.map_none, reduceIte, reduceCtorEq, Nat.reduceEqDiff, Nat.reduceLT, Nat.reduceBEq, Nat.reduceAdd, Nat.reduceMul, Nat.reduceLeDiff, Nat.reduceSub, Bool.false_eq_true]; try rfl) | skip)
  · refine sim_some ?_
    refine' (w_fgt (w_seq (w_reg (w_cons ?_ w_nil) ?_) (w_go (w_seq (w_condf ?_ (w_exit ?_) ?_) w_gox))) ?_)
    all_goals (first | (simp only [nz, rn, nzIns, h1, Int.reduceLT, Int.reduceEq, List.contains_cons, List.contains_nil, Option.map_some, Option.map_none, reduceIte, reduceCtorEq, Nat.reduceEqDiff, Nat.reduceLT, Nat.reduceBEq, Nat.reduceAdd, Nat.reduceMul, Nat.reduceLeDiff, Nat.reduceSub, Bool.false_eq_true]; try rfl) | skip)
theorem slices_IndexFunc_intint_s1_l1_ok (p0 : List Int) (p1_0_0 : Str) (p1_0_1 : List Int) (p1_0_2 : Int) (p1_0_3 : List (List Ins)) (p1_0_4 : Int) (s : Int) : Sim (slices_IndexFunc_intint_s1_l1 p0 p1_0_0 p1_0_1 p1_0_2 p1_0_3 p1_0_4 s) fun r => evX (evI T) (.loop x40_1 [0, 1, 7, 8]) [(0, .sl p0.length (p0.flatMap (cint .i64))), (1, .fn 30 [.sp [.str p1_0_0, .sl p1_0_1.length (p1_0_1.flatMap (cint .i64)), .int .i64 p1_0_2, .sl p1_0_3.length (p1_0_3.flatMap (csl cIns)), .int .i64 p1_0_4]]), (7, .int .i64 ((p0.length : Int))), (8, .int .i64 s)] = some (stpK (fun t0 => (.exit 0, [])) (fun u0 => (.ret, [(4, .int .i64 u0)])) r) := by
  unfold slices_IndexFunc_intint_s1_l1
  exact loop_rule (C := evI T) (b := x40_1) (ks := [0, 1, 7, 8]) (σ := Int) (ρ := Stp Unit Int) (body := fun s => slices_IndexFunc_intint_s1_l1_b p0 p1_0_0 p1_0_1 p1_0_2 p1_0_3 p1_0_4 s) (E := fun s => [(0, .sl p0.length (p0.flatMap (cint .i64))), (1, .fn 30 [.sp [.str p1_0_0, .sl p1_0_1.length (p1_0_1.flatMap (cint .i64)), .int .i64 p1_0_2, .sl p1_0_3.length (p1_0_3.flatMap (csl cIns)), .int .i64 p1_0_4]]), (7, .int .i64 ((p0.length : Int))), (8, .int .i64 s)]) (R := fun r => (stpK (fun t0 => (.exit 0, [])) (fun u0 => (.ret, [(4, .int .i64 u0)])) r)) (fun r h => by rcases r with _ | _ <;> cases h) (fun s => slices_IndexFunc_intint_s1_l1_bok p0 p1_0_0 p1_0_1 p1_0_2 p1_0_3 p1_0_4 s) s
theorem slices_IndexFunc_intint_s1_ok (p0 : List Int) (p1_0_0 : Str) (p1_0_1 : List Int) (p1_0_2 : Int) (p1_0_3 : List (List Ins)) (p1_0_4 : Int) : Sim (slices_IndexFunc_intint_s1 p0 p1_0_0 p1_0_1 p1_0_2 p1_0_3 p1_0_4) fun r => evI T 40 [.sl p0.length (p0.flatMap (cint .i64)), .fn 30 [.sp [.str p1_0_0, .sl p1_0_1.length (p1_0_1.flatMap (cint .i64)), .int .i64 p1_0_2, .sl p1_0_3.length (p1_0_3.flatMap (csl cIns)), .int .i64 p1_0_4]]] = some (.int .i64 r, [.none, .none]) := by
  unfold slices_IndexFunc_intint_s1
  refine sim_bind (fun qh8 h8 => ?_)
  rcases qh8 with ⟨_⟩ | ⟨v4⟩
  · dsimp only
    have f9 := slices_IndexFunc_intint_s1_l1_ok p0 p1_0_0 p1_0_1 p1_0_2 p1_0_3 p1_0_4 0 _ h8
    dsimp only at f9
    refine sim_some ?_
    refine evI_ret (x := x40) rfl rfl rfl ?_
    try simp only [nz, nzIns] at f9
    all_goals
      refine' (w_fn rfl rfl (w_seq (w_reg (w_cons ?_ w_nil) ?_) (w_go (w_seq (w_seq (w_reg (w_cons ?_ (w_cons ?_ (w_cons ?_ w_nil))) ?_) (w_go (w_block f9 ?_))) (w_go (w_seq (w_reg (w_cons ?_ w_nil) ?_) (w_go w_ret)))))) ?_)
      all_goals (first | (simp only [x40, nz, rn, nzIns, Int.reduceLT, Int.reduceEq, List.contains_cons, List.contains_nil, Option.map_some, Option.map_none, reduceIte, reduceCtorEq, Nat.reduceEqDiff, Nat.reduceLT, Nat.reduceBEq, Nat.reduceAdd, Nat.reduceMul, Nat.reduceLeDiff, Nat.reduceSub, Bool.false_eq_true]; try rfl) | skip)
  · dsimp only
    have f9 := slices_IndexFunc_intint_s1_l1_ok p0 p1_0_0 p1_0_1 p1_0_2 p1_0_3 p1_0_4 0 _ h8
    dsimp only at f9
    refine sim_some ?_
    refine evI_ret (x := x40) rfl rfl rfl ?_
    try simp only [nz, nzIns] at f9
    all_goals
      refine' (w_fn rfl rfl (w_seq (w_reg (w_cons ?_ w_nil) ?_) (w_go (w_seq (w_seq (w_reg (w_cons ?_ (w_cons ?_ (w_cons ?_ w_nil))) ?_) (w_go (w_block f9 ?_))) w_gor))) ?_)
      all_goals (first | (simp only [x40, nz, rn, nzIns, Int.reduceLT, Int.reduceEq, List.contains_cons, List.contains_nil, Option.map_some, Option.map_none, reduceIte, reduceCtorEq, Nat.reduceEqDiff, Nat.reduceLT, Nat.reduceBEq, Nat.reduceAdd, Nat.reduceMul, Nat.reduceLeDiff, Nat.reduceSub, Bool.false_eq_true]; try rfl) | skip)
theorem slices_IndexFunc_intint_s1_okN (p0 : List Int) (p1_0_0 : Str) (p1_0_1 : List Int) (p1_0_2 : Int) (p1_0_3 : List (List Ins)) (p1_0_4 : Int) : Sim (slices_IndexFunc_intint_s1 p0 p1_0_0 p1_0_1 p1_0_2 p1_0_3 p1_0_4) fun r => ∀ ws, ws.map normA = [.sl p0.length (p0.flatMap (cint .i64)), .fn 30 [.sp [.str p1_0_0, .sl p1_0_1.length (p1_0_1.flatMap (cint .i64)), .int .i64 p1_0_2, .sl p1_0_3.length (p1_0_3.flatMap (csl cIns)), .int .i64 p1_0_4]]] → evI T 40 ws = some (.int .i64 r, [.none, .none]) := fun r h => evI_okN (x := x40) rfl rfl rfl (slices_IndexFunc_intint_s1_ok p0 p1_0_0 p1_0_1 p1_0_2 p1_0_3 p1_0_4 r h)
end Go.Ab

/-
  Printed by gen.py.
-/
namespace Go.Ab
open Go
set_option linter.unusedVariables false
set_option linter.unusedSimpArgs false
set_option maxRecDepth 100000
set_option maxHeartbeats 4000000
theorem slices_ContainsFunc_intint_s1_ok (p0 : List Int) (p1_0_0 : Str) (p1_0_1 : List Int) (p1_0_2 : Int) (p1_0_3 : List (List Ins)) (p1_0_4 : Int) : Sim (slices_ContainsFunc_intint_s1 p0 p1_0_0 p1_0_1 p1_0_2 p1_0_3 p1_0_4) fun r => evI T 29 [.sl p0.length (p0.flatMap (cint .i64)), .fn 30 [.sp [.str p1_0_0, .sl p1_0_1.length (p1_0_1.flatMap (cint .i64)), .int .i64 p1_0_2, .sl p1_0_3.length (p1_0_3.flatMap (csl cIns)), .int .i64 p1_0_4]]] = some (.bool r, [.none, .none]) := by
  unfold slices_ContainsFunc_intint_s1
  refine sim_bind (fun r1 h1 => ?_)
  have f2 := slices_IndexFunc_intint_s1_okN p0 p1_0_0 p1_0_1 p1_0_2 p1_0_3 p1_0_4 _ h1
  dsimp only at f2
  refine sim_some ?_
  refine evI_ret (x := x29) rfl rfl rfl ?_
  try simp only [nz, nzIns] at f2
  all_goals
    refine' (w_fn rfl rfl (w_seq (w_reg (w_cons ?_ w_nil) ?_) (w_go (w_seq (w_reg (w_cons ?_ (w_cons ?_ (w_cons ?_ (w_cons ?_ (w_cons ?_ w_nil))))) ?_) (w_go w_ret)))) ?_)
    all_goals (first | (simp only [x29, nz, rn, nzIns, f2, Int.reduceLT, Int.reduceEq, List.contains_cons, List.contains_nil, Option.map_some, Option.map_none, reduceIte, reduceCtorEq, Nat.reduceEqDiff, Nat.reduceLT, Nat.reduceBEq, Nat.reduceAdd, Nat.reduceMul, Nat.reduceLeDiff, Nat.reduceSub, Bool.false_eq_true]; try rfl) | skip)
theorem slices_ContainsFunc_intint_s1_okN (p0 : List Int) (p1_0_0 : Str) (p1_0_1 : List Int) (p1_0_2 : Int) (p1_0_3 : List (List Ins)) (p1_0_4 : Int) : Sim (slices_ContainsFunc_intint_s1 p0 p1_0_0 p1_0_1 p1_0_2 p1_0_3 p1_0_4) fun r => ∀ ws, ws.map normA = [.sl p0.length (p0.flatMap (cint .i64)), .fn 30 [.sp [.str p1_0_0, .sl p1_0_1.length (p1_0_1.flatMap (cint .i64)), .int .i64 p1_0_2, .sl p1_0_3.length (p1_0_3.flatMap (csl cIns)), .int .i64 p1_0_4]]] → evI T 29 ws = some (.bool r, [.none, .none]) := fun r h => evI_okN (x := x29) rfl rfl rfl (slices_ContainsFunc_intint_s1_ok p0 p1_0_0 p1_0_1 p1_0_2 p1_0_3 p1_0_4 r h)
end Go.Ab

/-
  Printed by gen.py.
-/
namespace Go.Ab
open Go
set_option linter.unusedVariables false
set_option linter.unusedSimpArgs false
set_option maxRecDepth 100000
set_option maxHeartbeats 4000000
theorem graph_Shaped_j19_ok (p0 : Fun) (v1 : Int) (x_2 : List Ins) (v3 : Int) (x_4 : Ins) : Sim (graph_Shaped_j19 p0 v1 x_2 v3 x_4) fun r => evX (evI T) x9_1 [(1, .box [.str p0.Name, .sl p0.Params.length (p0.Params.flatMap (cint .i64)), .int .i64 p0.Ret, .sl p0.Blocks.length (p0.Blocks.flatMap (csl cIns)), .int .i64 p0.At]), (2, .box [.int .i64 0, .int .i64 0]), (3, .int .i64 v1), (4, .sl x_2.length (x_2.flatMap cIns)), (6, .box [.int .i64 x_4.Op, .int .i64 x_4.Id, .int .i64 x_4.N, .int .i64 (x_4.Type'), .sl x_4.Args.length (x_4.Args.flatMap (cint .i64)), .sl x_4.To.length (x_4.To.flatMap (cint .i64)), .str x_4.Name, .int .i64 x_4.At]), (13, .sl p0.Blocks.length (p0.Blocks.flatMap (csl cIns))), (14, .int .i64 ((p0.Blocks.length : Int))), (15, .int .i64 v1), (20, .sl x_2.length (x_2.flatMap cIns)), (21, .int .i64 ((x_2.length : Int))), (22, .int .i64 v3)] = some (.norm, [(1, .box [.str p0.Name, .sl p0.Params.length (p0.Params.flatMap (cint .i64)), .int .i64 p0.Ret, .sl p0.Blocks.length (p0.Blocks.flatMap (csl cIns)), .int .i64 p0.At]), (2, .box [.int .i64 0, .int .i64 0]), (3, .int .i64 v1), (4, .sl x_2.length (x_2.flatMap cIns)), (13, .sl p0.Blocks.length (p0.Blocks.flatMap (csl cIns))), (14, .int .i64 ((p0.Blocks.length : Int))), (15, .int .i64 v1), (20, .sl x_2.length (x_2.flatMap cIns)), (21, .int .i64 ((x_2.length : Int))), (22, .int .i64 v3), (46, .bool r)]) := by
  unfold graph_Shaped_j19
  refine sim_if (fun h13 => ?_) (fun h13 => ?_)
  · refine sim_bind (fun r6 h14 => ?_)
    have f15 := slices_ContainsFunc_intint_s1_okN x_4.To p0.Name p0.Params p0.Ret p0.Blocks p0.At _ h14
    dsimp only at f15
    refine sim_some ?_
    try simp only [nz, nzIns, nzFun] at f15
    all_goals
      refine' (w_reg (w_cons ?_ (w_cons ?_ (w_cons ?_ (w_cons ?_ (w_cons ?_ (w_cons ?_ (w_cons ?_ (w_cons ?_ (w_cons ?_ w_nil))))))))) ?_)
      all_goals (first | (simp only [nz, rn, nzIns, nzFun, h13, f15, Int.reduceLT, Int.reduceEq, List.contains_cons, List.contains_nil, Option.map_some, Option.map_none, reduceIte, reduceCtorEq, Nat.reduceEqDiff, Nat.reduceLT, Nat.reduceBEq, Nat.reduceAdd, Nat.reduceMul, Nat.reduceLeDiff, Nat.reduceSub, Bool.false_eq_true]; try rfl) | skip)
  · refine sim_some ?_
    refine' (w_reg (w_cons ?_ (w_cons ?_ (w_cons ?_ (w_cons ?_ (w_cons ?_ (w_cons ?_ (w_cons ?_ (w_cons ?_ (w_cons ?_ w_nil))))))))) ?_)
    all_goals (first | (simp only [nz, rn, nzIns, nzFun, h13, Int.reduceLT, Int.reduceEq, List.contains_cons, List.contains_nil, Option.map_some, Option.map_none, reduceIte, reduceCtorEq, Nat.reduceEqDiff, Nat.reduceLT, Nat.reduceBEq, Nat.reduceAdd, Nat.reduceMul, Nat.reduceLeDiff, Nat.reduceSub, Bool.false_eq_true]; try rfl) | skip)
theorem graph_Shaped_l20_bok (p0 : Fun) (v1 : Int) (x_2 : List Ins) (v3 : Int) : Sim (graph_Shaped_l20_b p0 v1 x_2 v3) fun x => fgt [1, 2, 3, 4, 13, 14, 15, 20, 21, 22] (evX (evI T) x9_2 [(1, .box [.str p0.Name, .sl p0.Params.length (p0.Params.flatMap (cint .i64)), .int .i64 p0.Ret, .sl p0.Blocks.length (p0.Blocks.flatMap (csl cIns)), .int .i64 p0.At]), (2, .box [.int .i64 0, .int .i64 0]), (3, .int .i64 v1), (4, .sl x_2.length (x_2.flatMap cIns)), (13, .sl p0.Blocks.length (p0.Blocks.flatMap (csl cIns))), (14, .int .i64 ((p0.Blocks.length : Int))), (15, .int .i64 v1), (20, .sl x_2.length (x_2.flatMap cIns)), (21, .int .i64 ((x_2.length : Int))), (22, .int .i64 v3)]) = some (stpK (fun s => (.norm, [(1, .box [.str p0.Name, .sl p0.Params.length (p0.Params.flatMap (cint .i64)), .int .i64 p0.Ret, .sl p0.Blocks.length (p0.Blocks.flatMap (csl cIns)), .int .i64 p0.At]), (2, .box [.int .i64 0, .int .i64 0]), (3, .int .i64 v1), (4, .sl x_2.length (x_2.flatMap cIns)), (13, .sl p0.Blocks.length (p0.Blocks.flatMap (csl cIns))), (14, .int .i64 ((p0.Blocks.length : Int))), (15, .int .i64 v1), (20, .sl x_2.length (x_2.flatMap cIns)), (21, .int .i64 ((x_2.length : Int))), (22, .int .i64 s)])) (fun r => (stpK (fun t0 => (.exit 2, [(1, .box [.str p0.Name, .sl p0.Params.length (p0.Params.flatMap (cint .i64)), .int .i64 p0.Ret, .sl p0.Blocks.length (p0.Blocks.flatMap (csl cIns)), .int .i64 p0.At]), (2, .box [.int .i64 0, .int .i64 0]), (3, .int .i64 v1), (4, .sl x_2.length (x_2.flatMap cIns)), (13, .sl p0.Blocks.length (p0.Blocks.flatMap (csl cIns))), (14, .int .i64 ((p0.Blocks.length : Int))), (15, .int .i64 v1)])) (fun u0 => (.ret, [(2, .box [.int .i64 u0, .int .i64 v1])])) r)) x) := by
  unfold graph_Shaped_l20_b
  refine sim_if (fun h6 => ?_) (fun h6 => ?_)
  · refine sim_bind (fun x_4 h7 => ?_)
    have f8 := ix_ok h7
    have f8o := ix_own2 h7
    have f9 := ix_cells szIns h7
    simp only [nz, nzIns, nzFun] at f9
    refine sim_bind (fun r5 h10 => ?_)
    have f11 := ops_Ends_okN x_4.Op _ h10
    dsimp only at f11
    refine sim_if (fun h12 => ?_) (fun h12 => ?_)
    · refine sim_some ?_
      try simp only [nz, nzIns, nzFun, f8o] at f11
      all_goals
        refine' (w_fgt (w_seq (w_reg (w_cons ?_ w_nil) ?_) (w_go (w_seq (w_condt ?_ w_skip ?_) (w_go (w_seq (w_block (w_seq (w_reg (w_cons ?_ (w_cons ?_ (w_cons ?_ (w_cons ?_ (w_cons ?_ (w_cons ?_ w_nil)))))) ?_) (w_go (w_seq (w_seq (w_reg (w_cons ?_ (w_cons ?_ (w_cons ?_ (w_cons ?_ (w_cons ?_ (w_cons ?_ (w_cons ?_ (w_cons ?_ (w_cons ?_ w_nil))))))))) ?_) (w_go (w_condt ?_ (w_seq (w_reg (w_cons ?_ (w_cons ?_ (w_cons ?_ w_nil))) ?_) (w_go w_ret)) ?_))) w_gor))) ?_) w_gor))))) ?_)
        all_goals (first | (simp only [nz, rn, nzIns, nzFun, h6, f8, f8o, f9, f11, h12, Int.reduceLT, Int.reduceEq, List.contains_cons, List.contains_nil, Option.map_some, Option.map_none, reduceIte, reduceCtorEq, Nat.reduceEqDiff, Nat.reduceLT, Nat.reduceBEq, Nat.reduceAdd, Nat.reduceMul, Nat.reduceLeDiff, Nat.reduceSub, Bool.false_eq_true]; try rfl) | skip)
    · refine sim_bind (fun v7 h16 => ?_)
      have f17 := graph_Shaped_j19_ok p0 v1 x_2 v3 x_4 _ h16
      dsimp only at f17
      refine sim_if (fun h18 => ?_) (fun h18 => ?_)
      · refine sim_some ?_
        try simp only [nz, nzIns, nzFun, f8o] at f11
        try simp only [nz, nzIns, nzFun, f8o] at f17
        all_goals
          refine' (w_fgt (w_seq (w_reg (w_cons ?_ w_nil) ?_) (w_go (w_seq (w_condt ?_ w_skip ?_) (w_go (w_seq (w_block (w_seq (w_reg (w_cons ?_ (w_cons ?_ (w_cons ?_ (w_cons ?_ (w_cons ?_ (w_cons ?_ w_nil)))))) ?_) (w_go (w_seq (w_seq (w_reg (w_cons ?_ (w_cons ?_ (w_cons ?_ (w_cons ?_ (w_cons ?_ (w_cons ?_ (w_cons ?_ (w_cons ?_ (w_cons ?_ w_nil))))))))) ?_) (w_go (w_condf ?_ w_skip ?_))) (w_go (w_seq f17 (w_go (w_condt ?_ (w_seq (w_reg (w_cons ?_ (w_cons ?_ (w_cons ?_ w_nil))) ?_) (w_go w_ret)) ?_))))))) ?_) w_gor))))) ?_)
          all_goals (first | (simp only [nz, rn, nzIns, nzFun, h6, f8, f8o, f9, f11, h12, h18, Int.reduceLT, Int.reduceEq, List.contains_cons, List.contains_nil, Option.map_some, Option.map_none, reduceIte, reduceCtorEq, Nat.reduceEqDiff, Nat.reduceLT, Nat.reduceBEq, Nat.reduceAdd, Nat.reduceMul, Nat.reduceLeDiff, Nat.reduceSub, Bool.false_eq_true]; try rfl) | skip)
      · refine sim_some ?_
        try simp only [nz, nzIns, nzFun, f8o] at f11
        try simp only [nz, nzIns, nzFun, f8o] at f17
        all_goals
          refine' (w_fgt (w_seq (w_reg (w_cons ?_ w_nil) ?_) (w_go (w_seq (w_condt ?_ w_skip ?_) (w_go (w_seq (w_block (w_seq (w_reg (w_cons ?_ (w_cons ?_ (w_cons ?_ (w_cons ?_ (w_cons ?_ (w_cons ?_ w_nil)))))) ?_) (w_go (w_seq (w_seq (w_reg (w_cons ?_ (w_cons ?_ (w_cons ?_ (w_cons ?_ (w_cons ?_ (w_cons ?_ (w_cons ?_ (w_cons ?_ (w_cons ?_ w_nil))))))))) ?_) (w_go (w_condf ?_ w_skip ?_))) (w_go (w_seq f17 (w_go (w_condf ?_ w_skip ?_))))))) ?_) (w_go (w_reg (w_cons ?_ (w_cons ?_ w_nil)) ?_))))))) ?_)
          all_goals (first | (simp only [nz, rn, nzIns, nzFun, h6, f8, f8o, f9, f11, h12, h18, Int.reduceLT, Int.reduceEq, List.contains_cons, List.contains_nil, Option.map_some, Option.map_none, reduceIte, reduceCtorEq, Nat.reduceEqDiff, Nat.reduceLT, Nat.reduceBEq, Nat.reduceAdd, Nat.reduceMul, Nat.reduceLeDiff, Nat.reduceSub, Bool.false_eq_true]; try rfl) | skip)
  · refine sim_some ?_
    refine' (w_fgt (w_seq (w_reg (w_cons ?_ w_nil) ?_) (w_go (w_seq (w_condf ?_ (w_exit ?_) ?_) w_gox))) ?_)
    all_goals (first | (simp only [nz, rn, nzIns, nzFun, h6, Int.reduceLT, Int.reduceEq, List.contains_cons, List.contains_nil, Option.map_some, Option.map_none, reduceIte, reduceCtorEq, Nat.reduceEqDiff, Nat.reduceLT, Nat.reduceBEq, Nat.reduceAdd, Nat.reduceMul, Nat.reduceLeDiff, Nat.reduceSub, Bool.false_eq_true]; try rfl) | skip)
theorem graph_Shaped_l20_ok (p0 : Fun) (v1 : Int) (x_2 : List Ins) (s : Int) : Sim (graph_Shaped_l20 p0 v1 x_2 s) fun r => evX (evI T) (.loop x9_2 [1, 2, 3, 4, 13, 14, 15, 20, 21, 22]) [(1, .box [.str p0.Name, .sl p0.Params.length (p0.Params.flatMap (cint .i64)), .int .i64 p0.Ret, .sl p0.Blocks.length (p0.Blocks.flatMap (csl cIns)), .int .i64 p0.At]), (2, .box [.int .i64 0, .int .i64 0]), (3, .int .i64 v1), (4, .sl x_2.length (x_2.flatMap cIns)), (13, .sl p0.Blocks.length (p0.Blocks.flatMap (csl cIns))), (14, .int .i64 ((p0.Blocks.length : Int))), (15, .int .i64 v1), (20, .sl x_2.length (x_2.flatMap cIns)), (21, .int .i64 ((x_2.length : Int))), (22, .int .i64 s)] = some (stpK (fun t0 => (.exit 2, [(1, .box [.str p0.Name, .sl p0.Params.length (p0.Params.flatMap (cint .i64)), .int .i64 p0.Ret, .sl p0.Blocks.length (p0.Blocks.flatMap (csl cIns)), .int .i64 p0.At]), (2, .box [.int .i64 0, .int .i64 0]), (3, .int .i64 v1), (4, .sl x_2.length (x_2.flatMap cIns)), (13, .sl p0.Blocks.length (p0.Blocks.flatMap (csl cIns))), (14, .int .i64 ((p0.Blocks.length : Int))), (15, .int .i64 v1)])) (fun u0 => (.ret, [(2, .box [.int .i64 u0, .int .i64 v1])])) r) := by
  unfold graph_Shaped_l20
  exact loop_rule (C := evI T) (b := x9_2) (ks := [1, 2, 3, 4, 13, 14, 15, 20, 21, 22]) (σ := Int) (ρ := Stp Unit Int) (body := fun s => graph_Shaped_l20_b p0 v1 x_2 s) (E := fun s => [(1, .box [.str p0.Name, .sl p0.Params.length (p0.Params.flatMap (cint .i64)), .int .i64 p0.Ret, .sl p0.Blocks.length (p0.Blocks.flatMap (csl cIns)), .int .i64 p0.At]), (2, .box [.int .i64 0, .int .i64 0]), (3, .int .i64 v1), (4, .sl x_2.length (x_2.flatMap cIns)), (13, .sl p0.Blocks.length (p0.Blocks.flatMap (csl cIns))), (14, .int .i64 ((p0.Blocks.length : Int))), (15, .int .i64 v1), (20, .sl x_2.length (x_2.flatMap cIns)), (21, .int .i64 ((x_2.length : Int))), (22, .int .i64 s)]) (R := fun r => (stpK (fun t0 => (.exit 2, [(1, .box [.str p0.Name, .sl p0.Params.length (p0.Params.flatMap (cint .i64)), .int .i64 p0.Ret, .sl p0.Blocks.length (p0.Blocks.flatMap (csl cIns)), .int .i64 p0.At]), (2, .box [.int .i64 0, .int .i64 0]), (3, .int .i64 v1), (4, .sl x_2.length (x_2.flatMap cIns)), (13, .sl p0.Blocks.length (p0.Blocks.flatMap (csl cIns))), (14, .int .i64 ((p0.Blocks.length : Int))), (15, .int .i64 v1)])) (fun u0 => (.ret, [(2, .box [.int .i64 u0, .int .i64 v1])])) r)) (fun r h => by rcases r with _ | _ <;> cases h) (fun s => graph_Shaped_l20_bok p0 v1 x_2 s) s
theorem graph_Shaped_l21_bok (p0 : Fun) (v1 : Int) : Sim (graph_Shaped_l21_b p0 v1) fun x => fgt [1, 2, 13, 14, 15] (evX (evI T) x9_3 [(1, .box [.str p0.Name, .sl p0.Params.length (p0.Params.flatMap (cint .i64)), .int .i64 p0.Ret, .sl p0.Blocks.length (p0.Blocks.flatMap (csl cIns)), .int .i64 p0.At]), (2, .box [.int .i64 0, .int .i64 0]), (13, .sl p0.Blocks.length (p0.Blocks.flatMap (csl cIns))), (14, .int .i64 ((p0.Blocks.length : Int))), (15, .int .i64 v1)]) = some (stpK (fun s => (.norm, [(1, .box [.str p0.Name, .sl p0.Params.length (p0.Params.flatMap (cint .i64)), .int .i64 p0.Ret, .sl p0.Blocks.length (p0.Blocks.flatMap (csl cIns)), .int .i64 p0.At]), (2, .box [.int .i64 0, .int .i64 0]), (13, .sl p0.Blocks.length (p0.Blocks.flatMap (csl cIns))), (14, .int .i64 ((p0.Blocks.length : Int))), (15, .int .i64 s)])) (fun r => (stpK (fun t0 => (.exit 0, [(2, .box [.int .i64 0, .int .i64 0])])) (fun u0 => (.ret, [(2, .box [.int .i64 u0.1, .int .i64 u0.2])])) r)) x) := by
  unfold graph_Shaped_l21_b
  refine sim_if (fun h2 => ?_) (fun h2 => ?_)
  · refine sim_bind (fun x_2 h3 => ?_)
    have f4 := ix_ok h3
    have f4o := ix_own2 h3
    have f5 := ix_cells (sz_sl cIns) h3
    simp only [nz, nzIns, nzFun] at f5
    refine sim_bind (fun qh19 h19 => ?_)
    rcases qh19 with ⟨_⟩ | ⟨v8⟩
    · dsimp only
      have f20 := graph_Shaped_l20_ok p0 v1 x_2 0 _ h19
      dsimp only at f20
      refine sim_if (fun h21 => ?_) (fun h21 => ?_)
      · refine sim_some ?_
        try simp only [nz, nzIns, nzFun] at f20
        all_goals
          refine' (w_fgt (w_seq (w_reg (w_cons ?_ w_nil) ?_) (w_go (w_seq (w_condt ?_ w_skip ?_) (w_go (w_seq (w_block (w_seq (w_reg (w_cons ?_ (w_cons ?_ (w_cons ?_ (w_cons ?_ (w_cons ?_ w_nil))))) ?_) (w_go (w_seq (w_seq (w_reg (w_cons ?_ (w_cons ?_ (w_cons ?_ w_nil))) ?_) (w_go (w_block f20 ?_))) (w_go (w_seq (w_reg (w_cons ?_ (w_cons ?_ (w_cons ?_ w_nil))) ?_) (w_go (w_condt ?_ (w_seq (w_reg (w_cons ?_ (w_cons ?_ (w_cons ?_ w_nil))) ?_) (w_go w_ret)) ?_))))))) ?_) w_gor))))) ?_)
          all_goals (first | (simp only [nz, rn, nzIns, nzFun, h2, f4, f4o, f5, h21, Int.reduceLT, Int.reduceEq, List.contains_cons, List.contains_nil, Option.map_some, Option.map_none, reduceIte, reduceCtorEq, Nat.reduceEqDiff, Nat.reduceLT, Nat.reduceBEq, Nat.reduceAdd, Nat.reduceMul, Nat.reduceLeDiff, Nat.reduceSub, Bool.false_eq_true]; try rfl) | skip)
      · refine sim_some ?_
        try simp only [nz, nzIns, nzFun] at f20
        all_goals
          refine' (w_fgt (w_seq (w_reg (w_cons ?_ w_nil) ?_) (w_go (w_seq (w_condt ?_ w_skip ?_) (w_go (w_seq (w_block (w_seq (w_reg (w_cons ?_ (w_cons ?_ (w_cons ?_ (w_cons ?_ (w_cons ?_ w_nil))))) ?_) (w_go (w_seq (w_seq (w_reg (w_cons ?_ (w_cons ?_ (w_cons ?_ w_nil))) ?_) (w_go (w_block f20 ?_))) (w_go (w_seq (w_reg (w_cons ?_ (w_cons ?_ (w_cons ?_ w_nil))) ?_) (w_go (w_condf ?_ w_skip ?_))))))) ?_) (w_go (w_reg (w_cons ?_ (w_cons ?_ w_nil)) ?_))))))) ?_)
          all_goals (first | (simp only [nz, rn, nzIns, nzFun, h2, f4, f4o, f5, h21, Int.reduceLT, Int.reduceEq, List.contains_cons, List.contains_nil, Option.map_some, Option.map_none, reduceIte, reduceCtorEq, Nat.reduceEqDiff, Nat.reduceLT, Nat.reduceBEq, Nat.reduceAdd, Nat.reduceMul, Nat.reduceLeDiff, Nat.reduceSub, Bool.false_eq_true]; try rfl) | skip)
    · dsimp only
      have f20 := graph_Shaped_l20_ok p0 v1 x_2 0 _ h19
      dsimp only at f20
      refine sim_some ?_
      try simp only [nz, nzIns, nzFun] at f20
      all_goals
        refine' (w_fgt (w_seq (w_reg (w_cons ?_ w_nil) ?_) (w_go (w_seq (w_condt ?_ w_skip ?_) (w_go (w_seq (w_block (w_seq (w_reg (w_cons ?_ (w_cons ?_ (w_cons ?_ (w_cons ?_ (w_cons ?_ w_nil))))) ?_) (w_go (w_seq (w_seq (w_reg (w_cons ?_ (w_cons ?_ (w_cons ?_ w_nil))) ?_) (w_go (w_block f20 ?_))) w_gor))) ?_) w_gor))))) ?_)
        all_goals (first | (simp only [nz, rn, nzIns, nzFun, h2, f4, f4o, f5, Int.reduceLT, Int.reduceEq, List.contains_cons, List.contains_nil, Option.map_some, Option.map_none, reduceIte, reduceCtorEq, Nat.reduceEqDiff, Nat.reduceLT, Nat.reduceBEq, Nat.reduceAdd, Nat.reduceMul, Nat.reduceLeDiff, Nat.reduceSub, Bool.false_eq_true]; try rfl) | skip)
  · refine sim_some ?_
    refine' (w_fgt (w_seq (w_reg (w_cons ?_ w_nil) ?_) (w_go (w_seq (w_condf ?_ (w_exit ?_) ?_) w_gox))) ?_)
    all_goals (first | (simp only [nz, rn, nzIns, nzFun, h2, Int.reduceLT, Int.reduceEq, List.contains_cons, List.contains_nil, Option.map_some, Option.map_none, reduceIte, reduceCtorEq, Nat.reduceEqDiff, Nat.reduceLT, Nat.reduceBEq, Nat.reduceAdd, Nat.reduceMul, Nat.reduceLeDiff, Nat.reduceSub, Bool.false_eq_true]; try rfl) | skip)
theorem graph_Shaped_l21_ok (p0 : Fun) (s : Int) : Sim (graph_Shaped_l21 p0 s) fun r => evX (evI T) (.loop x9_3 [1, 2, 13, 14, 15]) [(1, .box [.str p0.Name, .sl p0.Params.length (p0.Params.flatMap (cint .i64)), .int .i64 p0.Ret, .sl p0.Blocks.length (p0.Blocks.flatMap (csl cIns)), .int .i64 p0.At]), (2, .box [.int .i64 0, .int .i64 0]), (13, .sl p0.Blocks.length (p0.Blocks.flatMap (csl cIns))), (14, .int .i64 ((p0.Blocks.length : Int))), (15, .int .i64 s)] = some (stpK (fun t0 => (.exit 0, [(2, .box [.int .i64 0, .int .i64 0])])) (fun u0 => (.ret, [(2, .box [.int .i64 u0.1, .int .i64 u0.2])])) r) := by
  unfold graph_Shaped_l21
  exact loop_rule (C := evI T) (b := x9_3) (ks := [1, 2, 13, 14, 15]) (σ := Int) (ρ := Stp Unit (Int × Int)) (body := fun s => graph_Shaped_l21_b p0 s) (E := fun s => [(1, .box [.str p0.Name, .sl p0.Params.length (p0.Params.flatMap (cint .i64)), .int .i64 p0.Ret, .sl p0.Blocks.length (p0.Blocks.flatMap (csl cIns)), .int .i64 p0.At]), (2, .box [.int .i64 0, .int .i64 0]), (13, .sl p0.Blocks.length (p0.Blocks.flatMap (csl cIns))), (14, .int .i64 ((p0.Blocks.length : Int))), (15, .int .i64 s)]) (R := fun r => (stpK (fun t0 => (.exit 0, [(2, .box [.int .i64 0, .int .i64 0])])) (fun u0 => (.ret, [(2, .box [.int .i64 u0.1, .int .i64 u0.2])])) r)) (fun r h => by rcases r with _ | _ <;> cases h) (fun s => graph_Shaped_l21_bok p0 s) s
theorem graph_Shaped_ok (p0 : Fun) : Sim (graph_Shaped p0) fun r => evI T 9 [.agg [.str p0.Name, .sl p0.Params.length (p0.Params.flatMap (cint .i64)), .int .i64 p0.Ret, .sl p0.Blocks.length (p0.Blocks.flatMap (csl cIns)), .int .i64 p0.At]] = some (.agg [.int .i64 r.Code, .int .i64 r.At], [.none]) := by
  unfold graph_Shaped
  refine sim_if (fun h1 => ?_) (fun h1 => ?_)
  · refine sim_some ?_
    refine evI_ret (x := x9) rfl rfl rfl ?_
    refine' (w_fn rfl rfl (w_seq (w_reg (w_cons ?_ (w_cons ?_ w_nil)) ?_) (w_go (w_seq (w_seq (w_reg (w_cons ?_ (w_cons ?_ (w_cons ?_ (w_cons ?_ w_nil)))) ?_) (w_go (w_condt ?_ (w_seq (w_reg (w_cons ?_ (w_cons ?_ w_nil)) ?_) (w_go w_ret)) ?_))) w_gor))) ?_)
    all_goals (first | (simp only [x9, nz, rn, nzIns, nzFun, h1, Int.reduceLT, Int.reduceEq, List.contains_cons, List.contains_nil, Option.map_some, Option.map_none, reduceIte, reduceCtorEq, Nat.reduceEqDiff, Nat.reduceLT, Nat.reduceBEq, Nat.reduceAdd, Nat.reduceMul, Nat.reduceLeDiff, Nat.reduceSub, Bool.false_eq_true]; try rfl) | skip)
  · refine sim_bind (fun qh22 h22 => ?_)
    rcases qh22 with ⟨_⟩ | ⟨⟨v9, v10⟩⟩
    · dsimp only
      have f23 := graph_Shaped_l21_ok p0 0 _ h22
      dsimp only at f23
      refine sim_some ?_
      refine evI_ret (x := x9) rfl rfl rfl ?_
      try simp only [nz, nzIns, nzFun] at f23
      all_goals
        refine' (w_fn rfl rfl (w_seq (w_reg (w_cons ?_ (w_cons ?_ w_nil)) ?_) (w_go (w_seq (w_seq (w_reg (w_cons ?_ (w_cons ?_ (w_cons ?_ (w_cons ?_ w_nil)))) ?_) (w_go (w_condf ?_ w_skip ?_))) (w_go (w_seq (w_seq (w_reg (w_cons ?_ (w_cons ?_ (w_cons ?_ (w_cons ?_ w_nil)))) ?_) (w_go (w_block f23 ?_))) (w_go (w_seq (w_reg (w_cons ?_ (w_cons ?_ w_nil)) ?_) (w_go w_ret)))))))) ?_)
        all_goals (first | (simp only [x9, nz, rn, nzIns, nzFun, h1, Int.reduceLT, Int.reduceEq, List.contains_cons, List.contains_nil, Option.map_some, Option.map_none, reduceIte, reduceCtorEq, Nat.reduceEqDiff, Nat.reduceLT, Nat.reduceBEq, Nat.reduceAdd, Nat.reduceMul, Nat.reduceLeDiff, Nat.reduceSub, Bool.false_eq_true]; try rfl) | skip)
    · dsimp only
      have f23 := graph_Shaped_l21_ok p0 0 _ h22
      dsimp only at f23
      refine sim_some ?_
      refine evI_ret (x := x9) rfl rfl rfl ?_
      try simp only [nz, nzIns, nzFun] at f23
      all_goals
        refine' (w_fn rfl rfl (w_seq (w_reg (w_cons ?_ (w_cons ?_ w_nil)) ?_) (w_go (w_seq (w_seq (w_reg (w_cons ?_ (w_cons ?_ (w_cons ?_ (w_cons ?_ w_nil)))) ?_) (w_go (w_condf ?_ w_skip ?_))) (w_go (w_seq (w_seq (w_reg (w_cons ?_ (w_cons ?_ (w_cons ?_ (w_cons ?_ w_nil)))) ?_) (w_go (w_block f23 ?_))) w_gor))))) ?_)
        all_goals (first | (simp only [x9, nz, rn, nzIns, nzFun, h1, Int.reduceLT, Int.reduceEq, List.contains_cons, List.contains_nil, Option.map_some, Option.map_none, reduceIte, reduceCtorEq, Nat.reduceEqDiff, Nat.reduceLT, Nat.reduceBEq, Nat.reduceAdd, Nat.reduceMul, Nat.reduceLeDiff, Nat.reduceSub, Bool.false_eq_true]; try rfl) | skip)
theorem graph_Shaped_okN (p0 : Fun) : Sim (graph_Shaped p0) fun r => ∀ ws, ws.map normA = [.agg [.str p0.Name, .sl p0.Params.length (p0.Params.flatMap (cint .i64)), .int .i64 p0.Ret, .sl p0.Blocks.length (p0.Blocks.flatMap (csl cIns)), .int .i64 p0.At]] → evI T 9 ws = some (.agg [.int .i64 r.Code, .int .i64 r.At], [.none]) := fun r h => evI_okN (x := x9) rfl rfl rfl (graph_Shaped_ok p0 r h)
end Go.Ab

/-
  Printed by gen.py.
-/
namespace Go.Ab
open Go
set_option linter.unusedVariables false
set_option linter.unusedSimpArgs false
set_option maxRecDepth 100000
set_option maxHeartbeats 4000000
theorem r05_Ends_j1_ok (p0 : Int) : evX (evI T) x31_1 [(0, .int .i64 p0)] = some (.norm, [(2, .bool (((decide (26 ≤ p0)) && (decide (p0 ≤ 29)))))]) := by
  rcases Bool.eq_false_or_eq_true (decide (26 ≤ p0)) with h1 | h1
  · refine' (w_reg (w_cons ?_ (w_cons ?_ (w_cons ?_ (w_cons ?_ (w_cons ?_ (w_cons ?_ (w_cons ?_ w_nil))))))) ?_)
    all_goals (first | (simp only [nz, rn, h1, Int.reduceLT, Int.reduceEq, List.contains_cons, List.contains_nil, Option.map_some, Option.map_none, reduceIte, reduceCtorEq, Nat.reduceEqDiff, Nat.reduceLT, Nat.reduceBEq, Nat.reduceAdd, Nat.reduceMul, Nat.reduceLeDiff, Nat.reduceSub, Bool.false_eq_true]; try rfl) | skip)
  · refine' (w_reg (w_cons ?_ (w_cons ?_ (w_cons ?_ (w_cons ?_ (w_cons ?_ (w_cons ?_ (w_cons ?_ w_nil))))))) ?_)
    all_goals (first | (simp only [nz, rn, h1, Int.reduceLT, Int.reduceEq, List.contains_cons, List.contains_nil, Option.map_some, Option.map_none, reduceIte, reduceCtorEq, Nat.reduceEqDiff, Nat.reduceLT, Nat.reduceBEq, Nat.reduceAdd, Nat.reduceMul, Nat.reduceLeDiff, Nat.reduceSub, Bool.false_eq_true]; try rfl) | skip)
theorem r05_Ends_ok (p0 : Int) : Sim (r05_Ends p0) fun r => evI T 31 [.int .i64 p0] = some (.bool r, [.none]) := by
  unfold r05_Ends
  have f3 := r05_Ends_j1_ok p0
  refine sim_some ?_
  refine evI_ret (x := x31) rfl rfl rfl ?_
  try simp only [nz] at f3
  all_goals
    refine' (w_fn rfl rfl (w_seq (w_reg (w_cons ?_ w_nil) ?_) (w_go (w_seq f3 (w_go w_ret)))) ?_)
    all_goals (first | (simp only [x31, nz, rn, Int.reduceLT, Int.reduceEq, List.contains_cons, List.contains_nil, Option.map_some, Option.map_none, reduceIte, reduceCtorEq, Nat.reduceEqDiff, Nat.reduceLT, Nat.reduceBEq, Nat.reduceAdd, Nat.reduceMul, Nat.reduceLeDiff, Nat.reduceSub, Bool.false_eq_true]; try rfl) | skip)
theorem r05_Ends_okN (p0 : Int) : Sim (r05_Ends p0) fun r => ∀ ws, ws.map normA = [.int .i64 p0] → evI T 31 ws = some (.bool r, [.none]) := fun r h => evI_okN (x := x31) rfl rfl rfl (r05_Ends_ok p0 r h)
end Go.Ab

/-
  Printed by gen.py.
-/
namespace Go.Ab
open Go
set_option linter.unusedVariables false
set_option linter.unusedSimpArgs false
set_option maxRecDepth 100000
set_option maxHeartbeats 4000000
theorem r08_Shaped_j112_ok (p0 : Fun) (v1 : Int) (x_2 : List Ins) (v3 : Int) (x_5 : Ins) (v7 : Int) : evX (evI T) x10_1 [(1, .box [.str p0.Name, .sl p0.Params.length (p0.Params.flatMap (cint .i64)), .int .i64 p0.Ret, .sl p0.Blocks.length (p0.Blocks.flatMap (csl cIns)), .int .i64 p0.At]), (2, .box [.int .i64 0, .int .i64 0]), (3, .int .i64 v1), (4, .int .i64 ((x_2.length : Int))), (5, .int .i64 v3), (6, .box [.int .i64 x_5.Op, .int .i64 x_5.Id, .int .i64 x_5.N, .int .i64 (x_5.Type'), .sl x_5.Args.length (x_5.Args.flatMap (cint .i64)), .sl x_5.To.length (x_5.To.flatMap (cint .i64)), .str x_5.Name, .int .i64 x_5.At]), (7, .int .i64 v7)] = some (.norm, [(1, .box [.str p0.Name, .sl p0.Params.length (p0.Params.flatMap (cint .i64)), .int .i64 p0.Ret, .sl p0.Blocks.length (p0.Blocks.flatMap (csl cIns)), .int .i64 p0.At]), (2, .box [.int .i64 0, .int .i64 0]), (3, .int .i64 v1), (4, .int .i64 ((x_2.length : Int))), (5, .int .i64 v3), (6, .box [.int .i64 x_5.Op, .int .i64 x_5.Id, .int .i64 x_5.N, .int .i64 (x_5.Type'), .sl x_5.Args.length (x_5.Args.flatMap (cint .i64)), .sl x_5.To.length (x_5.To.flatMap (cint .i64)), .str x_5.Name, .int .i64 x_5.At]), (7, .int .i64 v7), (58, .bool (((decide (v7 < ((x_5.To.length : Int)))) && ((x_5.Op != 20)))))]) := by
  rcases Bool.eq_false_or_eq_true (decide (v7 < ((x_5.To.length : Int)))) with h16 | h16
  · refine' (w_reg (w_cons ?_ (w_cons ?_ (w_cons ?_ (w_cons ?_ (w_cons ?_ (w_cons ?_ (w_cons ?_ (w_cons ?_ (w_cons ?_ (w_cons ?_ w_nil)))))))))) ?_)
    all_goals (first | (simp only [nz, rn, nzIns, nzFun, h16, Int.reduceLT, Int.reduceEq, List.contains_cons, List.contains_nil, Option.map_some, Option.map_none, reduceIte, reduceCtorEq, Nat.reduceEqDiff, Nat.reduceLT, Nat.reduceBEq, Nat.reduceAdd, Nat.reduceMul, Nat.reduceLeDiff, Nat.reduceSub, Bool.false_eq_true]; try rfl) | skip)
  · refine' (w_reg (w_cons ?_ (w_cons ?_ (w_cons ?_ (w_cons ?_ (w_cons ?_ (w_cons ?_ (w_cons ?_ (w_cons ?_ (w_cons ?_ (w_cons ?_ w_nil)))))))))) ?_)
    all_goals (first | (simp only [nz, rn, nzIns, nzFun, h16, Int.reduceLT, Int.reduceEq, List.contains_cons, List.contains_nil, Option.map_some, Option.map_none, reduceIte, reduceCtorEq, Nat.reduceEqDiff, Nat.reduceLT, Nat.reduceBEq, Nat.reduceAdd, Nat.reduceMul, Nat.reduceLeDiff, Nat.reduceSub, Bool.false_eq_true]; try rfl) | skip)
theorem r08_Shaped_j114_ok (p0 : Fun) (v1 : Int) (x_2 : List Ins) (v3 : Int) (x_5 : Ins) (v7 : Int) : Sim (r08_Shaped_j114 p0 v1 x_2 v3 x_5 v7) fun r => evX (evI T) x10_2 [(1, .box [.str p0.Name, .sl p0.Params.length (p0.Params.flatMap (cint .i64)), .int .i64 p0.Ret, .sl p0.Blocks.length (p0.Blocks.flatMap (csl cIns)), .int .i64 p0.At]), (2, .box [.int .i64 0, .int .i64 0]), (3, .int .i64 v1), (4, .int .i64 ((x_2.length : Int))), (5, .int .i64 v3), (6, .box [.int .i64 x_5.Op, .int .i64 x_5.Id, .int .i64 x_5.N, .int .i64 (x_5.Type'), .sl x_5.Args.length (x_5.Args.flatMap (cint .i64)), .sl x_5.To.length (x_5.To.flatMap (cint .i64)), .str x_5.Name, .int .i64 x_5.At]), (7, .int .i64 v7)] = some (.norm, [(1, .box [.str p0.Name, .sl p0.Params.length (p0.Params.flatMap (cint .i64)), .int .i64 p0.Ret, .sl p0.Blocks.length (p0.Blocks.flatMap (csl cIns)), .int .i64 p0.At]), (2, .box [.int .i64 0, .int .i64 0]), (3, .int .i64 v1), (4, .int .i64 ((x_2.length : Int))), (5, .int .i64 v3), (6, .box [.int .i64 x_5.Op, .int .i64 x_5.Id, .int .i64 x_5.N, .int .i64 (x_5.Type'), .sl x_5.Args.length (x_5.Args.flatMap (cint .i64)), .sl x_5.To.length (x_5.To.flatMap (cint .i64)), .str x_5.Name, .int .i64 x_5.At]), (7, .int .i64 v7), (77, .bool r)]) := by
  unfold r08_Shaped_j114
  refine sim_bind (fun x_9 h20 => ?_)
  have f21 := ix_ok h20
  have f21o := ix_own2 h20
  have f22 := ix_cells (sz_int .i64) h20
  simp only [nz, nzIns, nzFun] at f22
  refine sim_if (fun h23 => ?_) (fun h23 => ?_)
  · refine sim_some ?_
    refine' (w_regD ?_ ?_ (w_consD rfl ?_ ?_ ?_ (w_consD rfl ?_ ?_ ?_ (w_consD rfl ?_ ?_ ?_ (w_consD rfl ?_ ?_ ?_ (w_consD rfl ?_ ?_ ?_ (w_consD rfl ?_ ?_ ?_ (w_consD rfl ?_ ?_ ?_ (w_consD rfl ?_ ?_ ?_ (w_consD rfl ?_ ?_ ?_ (w_consD rfl ?_ ?_ ?_ (w_consD rfl ?_ ?_ ?_ (w_consD rfl ?_ ?_ ?_ (w_consD rfl ?_ ?_ ?_ (w_consD rfl ?_ ?_ ?_ (w_consD rfl ?_ ?_ ?_ (w_barD rfl rfl (w_cons ?_ (w_cons ?_ w_nil)))))))))))))))))) ?_)
    all_goals (first | (simp only [nz, rn, nzIns, nzFun, f21, f21o, f22, h23, Int.reduceLT, Int.reduceEq, List.contains_cons, List.contains_nil, Option.map_some, Option.map_none, reduceIte, reduceCtorEq, Nat.reduceEqDiff, Nat.reduceLT, Nat.reduceBEq, Nat.reduceAdd, Nat.reduceMul, Nat.reduceLeDiff, Nat.reduceSub, Bool.false_eq_true]; try rfl) | skip)
  · have f24 := ix_cells (sz_int .i64) h20
    simp only [nz, nzIns, nzFun] at f24
    refine sim_some ?_
    refine' (w_regD ?_ ?_ (w_consD rfl ?_ ?_ ?_ (w_consD rfl ?_ ?_ ?_ (w_consD rfl ?_ ?_ ?_ (w_consD rfl ?_ ?_ ?_ (w_consD rfl ?_ ?_ ?_ (w_consD rfl ?_ ?_ ?_ (w_consD rfl ?_ ?_ ?_ (w_consD rfl ?_ ?_ ?_ (w_consD rfl ?_ ?_ ?_ (w_consD rfl ?_ ?_ ?_ (w_consD rfl ?_ ?_ ?_ (w_consD rfl ?_ ?_ ?_ (w_consD rfl ?_ ?_ ?_ (w_consD rfl ?_ ?_ ?_ (w_consD rfl ?_ ?_ ?_ (w_barD rfl rfl (w_cons ?_ (w_cons ?_ w_nil)))))))))))))))))) ?_)
    all_goals (first | (simp only [nz, rn, nzIns, nzFun, f21, f21o, f22, h23, f24, Int.reduceLT, Int.reduceEq, List.contains_cons, List.contains_nil, Option.map_some, Option.map_none, reduceIte, reduceCtorEq, Nat.reduceEqDiff, Nat.reduceLT, Nat.reduceBEq, Nat.reduceAdd, Nat.reduceMul, Nat.reduceLeDiff, Nat.reduceSub, Bool.false_eq_true]; try rfl) | skip)
theorem r08_Shaped_l115_bok (p0 : Fun) (v1 : Int) (x_2 : List Ins) (v3 : Int) (x_5 : Ins) (v7 : Int) : Sim (r08_Shaped_l115_b p0 v1 x_2 v3 x_5 v7) fun x => fgt [1, 2, 3, 4, 5, 6, 7] (evX (evI T) x10_3 [(1, .box [.str p0.Name, .sl p0.Params.length (p0.Params.flatMap (cint .i64)), .int .i64 p0.Ret, .sl p0.Blocks.length (p0.Blocks.flatMap (csl cIns)), .int .i64 p0.At]), (2, .box [.int .i64 0, .int .i64 0]), (3, .int .i64 v1), (4, .int .i64 ((x_2.length : Int))), (5, .int .i64 v3), (6, .box [.int .i64 x_5.Op, .int .i64 x_5.Id, .int .i64 x_5.N, .int .i64 (x_5.Type'), .sl x_5.Args.length (x_5.Args.flatMap (cint .i64)), .sl x_5.To.length (x_5.To.flatMap (cint .i64)), .str x_5.Name, .int .i64 x_5.At]), (7, .int .i64 v7)]) = some (stpK (fun s => (.norm, [(1, .box [.str p0.Name, .sl p0.Params.length (p0.Params.flatMap (cint .i64)), .int .i64 p0.Ret, .sl p0.Blocks.length (p0.Blocks.flatMap (csl cIns)), .int .i64 p0.At]), (2, .box [.int .i64 0, .int .i64 0]), (3, .int .i64 v1), (4, .int .i64 ((x_2.length : Int))), (5, .int .i64 v3), (6, .box [.int .i64 x_5.Op, .int .i64 x_5.Id, .int .i64 x_5.N, .int .i64 (x_5.Type'), .sl x_5.Args.length (x_5.Args.flatMap (cint .i64)), .sl x_5.To.length (x_5.To.flatMap (cint .i64)), .str x_5.Name, .int .i64 x_5.At]), (7, .int .i64 s)])) (fun r => (stpK (fun t0 => (.exit 4, [(1, .box [.str p0.Name, .sl p0.Params.length (p0.Params.flatMap (cint .i64)), .int .i64 p0.Ret, .sl p0.Blocks.length (p0.Blocks.flatMap (csl cIns)), .int .i64 p0.At]), (2, .box [.int .i64 0, .int .i64 0]), (3, .int .i64 v1), (4, .int .i64 ((x_2.length : Int))), (5, .int .i64 v3)])) (fun u0 => (.ret, [(2, .box [.int .i64 7, .int .i64 v1])])) r)) x) := by
  unfold r08_Shaped_l115_b
  have f18 := r08_Shaped_j112_ok p0 v1 x_2 v3 x_5 v7
  refine sim_if (fun h19 => ?_) (fun h19 => ?_)
  · refine sim_bind (fun v10 h25 => ?_)
    have f26 := r08_Shaped_j114_ok p0 v1 x_2 v3 x_5 v7 _ h25
    dsimp only at f26
    refine sim_if (fun h27 => ?_) (fun h27 => ?_)
    · refine sim_some ?_
      try simp only [nz, nzIns, nzFun] at f18
      try simp only [nz, nzIns, nzFun] at f26
      all_goals
        refine' (w_fgt (w_seq (w_seq f18 (w_go (w_condt ?_ w_skip ?_))) (w_go (w_seq (w_block (w_seq f26 (w_go (w_condt ?_ (w_seq (w_reg (w_cons ?_ (w_cons ?_ (w_cons ?_ w_nil))) ?_) (w_go w_ret)) ?_))) ?_) w_gor))) ?_)
        all_goals (first | (simp only [nz, rn, nzIns, nzFun, h19, h27, Int.reduceLT, Int.reduceEq, List.contains_cons, List.contains_nil, Option.map_some, Option.map_none, reduceIte, reduceCtorEq, Nat.reduceEqDiff, Nat.reduceLT, Nat.reduceBEq, Nat.reduceAdd, Nat.reduceMul, Nat.reduceLeDiff, Nat.reduceSub, Bool.false_eq_true]; try rfl) | skip)
    · refine sim_some ?_
      try simp only [nz, nzIns, nzFun] at f18
      try simp only [nz, nzIns, nzFun] at f26
      all_goals
        refine' (w_fgt (w_seq (w_seq f18 (w_go (w_condt ?_ w_skip ?_))) (w_go (w_seq (w_block (w_seq f26 (w_go (w_condf ?_ w_skip ?_))) ?_) (w_go (w_reg (w_cons ?_ (w_cons ?_ (w_cons ?_ w_nil))) ?_))))) ?_)
        all_goals (first | (simp only [nz, rn, nzIns, nzFun, h19, h27, Int.reduceLT, Int.reduceEq, List.contains_cons, List.contains_nil, Option.map_some, Option.map_none, reduceIte, reduceCtorEq, Nat.reduceEqDiff, Nat.reduceLT, Nat.reduceBEq, Nat.reduceAdd, Nat.reduceMul, Nat.reduceLeDiff, Nat.reduceSub, Bool.false_eq_true]; try rfl) | skip)
  · refine sim_some ?_
    try simp only [nz, nzIns, nzFun] at f18
    all_goals
      refine' (w_fgt (w_seq (w_seq f18 (w_go (w_condf ?_ (w_exit ?_) ?_))) w_gox) ?_)
      all_goals (first | (simp only [nz, rn, nzIns, nzFun, h19, Int.reduceLT, Int.reduceEq, List.contains_cons, List.contains_nil, Option.map_some, Option.map_none, reduceIte, reduceCtorEq, Nat.reduceEqDiff, Nat.reduceLT, Nat.reduceBEq, Nat.reduceAdd, Nat.reduceMul, Nat.reduceLeDiff, Nat.reduceSub, Bool.false_eq_true]; try rfl) | skip)
theorem r08_Shaped_l115_ok (p0 : Fun) (v1 : Int) (x_2 : List Ins) (v3 : Int) (x_5 : Ins) (s : Int) : Sim (r08_Shaped_l115 p0 v1 x_2 v3 x_5 s) fun r => evX (evI T) (.loop x10_3 [1, 2, 3, 4, 5, 6, 7]) [(1, .box [.str p0.Name, .sl p0.Params.length (p0.Params.flatMap (cint .i64)), .int .i64 p0.Ret, .sl p0.Blocks.length (p0.Blocks.flatMap (csl cIns)), .int .i64 p0.At]), (2, .box [.int .i64 0, .int .i64 0]), (3, .int .i64 v1), (4, .int .i64 ((x_2.length : Int))), (5, .int .i64 v3), (6, .box [.int .i64 x_5.Op, .int .i64 x_5.Id, .int .i64 x_5.N, .int .i64 (x_5.Type'), .sl x_5.Args.length (x_5.Args.flatMap (cint .i64)), .sl x_5.To.length (x_5.To.flatMap (cint .i64)), .str x_5.Name, .int .i64 x_5.At]), (7, .int .i64 s)] = some (stpK (fun t0 => (.exit 4, [(1, .box [.str p0.Name, .sl p0.Params.length (p0.Params.flatMap (cint .i64)), .int .i64 p0.Ret, .sl p0.Blocks.length (p0.Blocks.flatMap (csl cIns)), .int .i64 p0.At]), (2, .box [.int .i64 0, .int .i64 0]), (3, .int .i64 v1), (4, .int .i64 ((x_2.length : Int))), (5, .int .i64 v3)])) (fun u0 => (.ret, [(2, .box [.int .i64 7, .int .i64 v1])])) r) := by
  unfold r08_Shaped_l115
  exact loop_rule (C := evI T) (b := x10_3) (ks := [1, 2, 3, 4, 5, 6, 7]) (σ := Int) (ρ := Stp Unit Unit) (body := fun s => r08_Shaped_l115_b p0 v1 x_2 v3 x_5 s) (E := fun s => [(1, .box [.str p0.Name, .sl p0.Params.length (p0.Params.flatMap (cint .i64)), .int .i64 p0.Ret, .sl p0.Blocks.length (p0.Blocks.flatMap (csl cIns)), .int .i64 p0.At]), (2, .box [.int .i64 0, .int .i64 0]), (3, .int .i64 v1), (4, .int .i64 ((x_2.length : Int))), (5, .int .i64 v3), (6, .box [.int .i64 x_5.Op, .int .i64 x_5.Id, .int .i64 x_5.N, .int .i64 (x_5.Type'), .sl x_5.Args.length (x_5.Args.flatMap (cint .i64)), .sl x_5.To.length (x_5.To.flatMap (cint .i64)), .str x_5.Name, .int .i64 x_5.At]), (7, .int .i64 s)]) (R := fun r => (stpK (fun t0 => (.exit 4, [(1, .box [.str p0.Name, .sl p0.Params.length (p0.Params.flatMap (cint .i64)), .int .i64 p0.Ret, .sl p0.Blocks.length (p0.Blocks.flatMap (csl cIns)), .int .i64 p0.At]), (2, .box [.int .i64 0, .int .i64 0]), (3, .int .i64 v1), (4, .int .i64 ((x_2.length : Int))), (5, .int .i64 v3)])) (fun u0 => (.ret, [(2, .box [.int .i64 7, .int .i64 v1])])) r)) (fun r h => by rcases r with _ | _ <;> cases h) (fun s => r08_Shaped_l115_bok p0 v1 x_2 v3 x_5 s) s
theorem r08_Shaped_l116_bok (p0 : Fun) (v1 : Int) (x_2 : List Ins) (v3 : Int) : Sim (r08_Shaped_l116_b p0 v1 x_2 v3) fun x => fgt [1, 2, 3, 4, 5] (evX (evI T) x10_4 [(1, .box [.str p0.Name, .sl p0.Params.length (p0.Params.flatMap (cint .i64)), .int .i64 p0.Ret, .sl p0.Blocks.length (p0.Blocks.flatMap (csl cIns)), .int .i64 p0.At]), (2, .box [.int .i64 0, .int .i64 0]), (3, .int .i64 v1), (4, .int .i64 ((x_2.length : Int))), (5, .int .i64 v3)]) = some (stpK (fun s => (.norm, [(1, .box [.str p0.Name, .sl p0.Params.length (p0.Params.flatMap (cint .i64)), .int .i64 p0.Ret, .sl p0.Blocks.length (p0.Blocks.flatMap (csl cIns)), .int .i64 p0.At]), (2, .box [.int .i64 0, .int .i64 0]), (3, .int .i64 v1), (4, .int .i64 ((x_2.length : Int))), (5, .int .i64 s)])) (fun r => (stpK (fun t0 => (.exit 2, [(1, .box [.str p0.Name, .sl p0.Params.length (p0.Params.flatMap (cint .i64)), .int .i64 p0.Ret, .sl p0.Blocks.length (p0.Blocks.flatMap (csl cIns)), .int .i64 p0.At]), (2, .box [.int .i64 0, .int .i64 0]), (3, .int .i64 v1), (4, .int .i64 ((x_2.length : Int)))])) (fun u0 => (.ret, [(2, .box [.int .i64 u0, .int .i64 v1])])) r)) x) := by
  unfold r08_Shaped_l116_b
  refine sim_if (fun h6 => ?_) (fun h6 => ?_)
  · refine sim_bind (fun x_4 h7 => ?_)
    have f8 := ix_ok h7
    have f8o := ix_own2 h7
    have f9 := ix_cells (sz_sl cIns) h7
    simp only [nz, nzIns, nzFun] at f9
    refine sim_bind (fun x_5 h10 => ?_)
    have f11 := ix_ok h10
    have f11o := ix_own2 h10
    have f12 := ix_cells szIns h10
    simp only [nz, nzIns, nzFun] at f12
    refine sim_bind (fun r6 h13 => ?_)
    have f14 := r05_Ends_okN x_5.Op _ h13
    dsimp only at f14
    refine sim_if (fun h15 => ?_) (fun h15 => ?_)
    · refine sim_some ?_
      try simp only [nz, nzIns, nzFun, f11o] at f14
      all_goals
        refine' (w_fgt (w_seq (w_seq (w_reg (w_cons ?_ (w_cons ?_ (w_cons ?_ w_nil))) ?_) (w_go (w_condt ?_ w_skip ?_))) (w_go (w_seq (w_block (w_seq (w_reg (w_cons ?_ (w_cons ?_ (w_cons ?_ (w_cons ?_ (w_cons ?_ (w_cons ?_ (w_cons ?_ (w_cons ?_ (w_cons ?_ (w_cons ?_ w_nil)))))))))) ?_) (w_go (w_seq (w_seq (w_reg (w_cons ?_ (w_cons ?_ (w_cons ?_ (w_cons ?_ (w_cons ?_ (w_cons ?_ (w_cons ?_ (w_cons ?_ w_nil)))))))) ?_) (w_go (w_condt ?_ (w_seq (w_reg (w_cons ?_ (w_cons ?_ (w_cons ?_ w_nil))) ?_) (w_go w_ret)) ?_))) w_gor))) ?_) w_gor))) ?_)
        all_goals (first | (simp only [nz, rn, nzIns, nzFun, h6, f8, f8o, f9, f11, f11o, f12, f14, h15, Int.reduceLT, Int.reduceEq, List.contains_cons, List.contains_nil, Option.map_some, Option.map_none, reduceIte, reduceCtorEq, Nat.reduceEqDiff, Nat.reduceLT, Nat.reduceBEq, Nat.reduceAdd, Nat.reduceMul, Nat.reduceLeDiff, Nat.reduceSub, Bool.false_eq_true]; try rfl) | skip)
    · refine sim_bind (fun qh28 h28 => ?_)
      rcases qh28 with ⟨_⟩ | ⟨_⟩
      · dsimp only
        have f29 := r08_Shaped_l115_ok p0 v1 x_2 v3 x_5 0 _ h28
        dsimp only at f29
        refine sim_some ?_
        try simp only [nz, nzIns, nzFun, f11o] at f14
        try simp only [nz, nzIns, nzFun, f11o] at f29
        all_goals
          refine' (w_fgt (w_seq (w_seq (w_reg (w_cons ?_ (w_cons ?_ (w_cons ?_ w_nil))) ?_) (w_go (w_condt ?_ w_skip ?_))) (w_go (w_seq (w_block (w_seq (w_reg (w_cons ?_ (w_cons ?_ (w_cons ?_ (w_cons ?_ (w_cons ?_ (w_cons ?_ (w_cons ?_ (w_cons ?_ (w_cons ?_ (w_cons ?_ w_nil)))))))))) ?_) (w_go (w_seq (w_seq (w_reg (w_cons ?_ (w_cons ?_ (w_cons ?_ (w_cons ?_ (w_cons ?_ (w_cons ?_ (w_cons ?_ (w_cons ?_ w_nil)))))))) ?_) (w_go (w_condf ?_ w_skip ?_))) (w_go (w_seq (w_reg (w_cons ?_ w_nil) ?_) (w_go (w_block f29 ?_))))))) ?_) (w_go (w_reg (w_cons ?_ (w_cons ?_ (w_cons ?_ w_nil))) ?_))))) ?_)
          all_goals (first | (simp only [nz, rn, nzIns, nzFun, h6, f8, f8o, f9, f11, f11o, f12, f14, h15, Int.reduceLT, Int.reduceEq, List.contains_cons, List.contains_nil, Option.map_some, Option.map_none, reduceIte, reduceCtorEq, Nat.reduceEqDiff, Nat.reduceLT, Nat.reduceBEq, Nat.reduceAdd, Nat.reduceMul, Nat.reduceLeDiff, Nat.reduceSub, Bool.false_eq_true]; try rfl) | skip)
      · dsimp only
        have f29 := r08_Shaped_l115_ok p0 v1 x_2 v3 x_5 0 _ h28
        dsimp only at f29
        refine sim_some ?_
        try simp only [nz, nzIns, nzFun, f11o] at f14
        try simp only [nz, nzIns, nzFun, f11o] at f29
        all_goals
          refine' (w_fgt (w_seq (w_seq (w_reg (w_cons ?_ (w_cons ?_ (w_cons ?_ w_nil))) ?_) (w_go (w_condt ?_ w_skip ?_))) (w_go (w_seq (w_block (w_seq (w_reg (w_cons ?_ (w_cons ?_ (w_cons ?_ (w_cons ?_ (w_cons ?_ (w_cons ?_ (w_cons ?_ (w_cons ?_ (w_cons ?_ (w_cons ?_ w_nil)))))))))) ?_) (w_go (w_seq (w_seq (w_reg (w_cons ?_ (w_cons ?_ (w_cons ?_ (w_cons ?_ (w_cons ?_ (w_cons ?_ (w_cons ?_ (w_cons ?_ w_nil)))))))) ?_) (w_go (w_condf ?_ w_skip ?_))) (w_go (w_seq (w_reg (w_cons ?_ w_nil) ?_) (w_go (w_block f29 ?_))))))) ?_) w_gor))) ?_)
          all_goals (first | (simp only [nz, rn, nzIns, nzFun, h6, f8, f8o, f9, f11, f11o, f12, f14, h15, Int.reduceLT, Int.reduceEq, List.contains_cons, List.contains_nil, Option.map_some, Option.map_none, reduceIte, reduceCtorEq, Nat.reduceEqDiff, Nat.reduceLT, Nat.reduceBEq, Nat.reduceAdd, Nat.reduceMul, Nat.reduceLeDiff, Nat.reduceSub, Bool.false_eq_true]; try rfl) | skip)
  · refine sim_some ?_
    refine' (w_fgt (w_seq (w_seq (w_reg (w_cons ?_ (w_cons ?_ (w_cons ?_ w_nil))) ?_) (w_go (w_condf ?_ (w_exit ?_) ?_))) w_gox) ?_)
    all_goals (first | (simp only [nz, rn, nzIns, nzFun, h6, Int.reduceLT, Int.reduceEq, List.contains_cons, List.contains_nil, Option.map_some, Option.map_none, reduceIte, reduceCtorEq, Nat.reduceEqDiff, Nat.reduceLT, Nat.reduceBEq, Nat.reduceAdd, Nat.reduceMul, Nat.reduceLeDiff, Nat.reduceSub, Bool.false_eq_true]; try rfl) | skip)
theorem r08_Shaped_l116_ok (p0 : Fun) (v1 : Int) (x_2 : List Ins) (s : Int) : Sim (r08_Shaped_l116 p0 v1 x_2 s) fun r => evX (evI T) (.loop x10_4 [1, 2, 3, 4, 5]) [(1, .box [.str p0.Name, .sl p0.Params.length (p0.Params.flatMap (cint .i64)), .int .i64 p0.Ret, .sl p0.Blocks.length (p0.Blocks.flatMap (csl cIns)), .int .i64 p0.At]), (2, .box [.int .i64 0, .int .i64 0]), (3, .int .i64 v1), (4, .int .i64 ((x_2.length : Int))), (5, .int .i64 s)] = some (stpK (fun t0 => (.exit 2, [(1, .box [.str p0.Name, .sl p0.Params.length (p0.Params.flatMap (cint .i64)), .int .i64 p0.Ret, .sl p0.Blocks.length (p0.Blocks.flatMap (csl cIns)), .int .i64 p0.At]), (2, .box [.int .i64 0, .int .i64 0]), (3, .int .i64 v1), (4, .int .i64 ((x_2.length : Int)))])) (fun u0 => (.ret, [(2, .box [.int .i64 u0, .int .i64 v1])])) r) := by
  unfold r08_Shaped_l116
  exact loop_rule (C := evI T) (b := x10_4) (ks := [1, 2, 3, 4, 5]) (σ := Int) (ρ := Stp Unit Int) (body := fun s => r08_Shaped_l116_b p0 v1 x_2 s) (E := fun s => [(1, .box [.str p0.Name, .sl p0.Params.length (p0.Params.flatMap (cint .i64)), .int .i64 p0.Ret, .sl p0.Blocks.length (p0.Blocks.flatMap (csl cIns)), .int .i64 p0.At]), (2, .box [.int .i64 0, .int .i64 0]), (3, .int .i64 v1), (4, .int .i64 ((x_2.length : Int))), (5, .int .i64 s)]) (R := fun r => (stpK (fun t0 => (.exit 2, [(1, .box [.str p0.Name, .sl p0.Params.length (p0.Params.flatMap (cint .i64)), .int .i64 p0.Ret, .sl p0.Blocks.length (p0.Blocks.flatMap (csl cIns)), .int .i64 p0.At]), (2, .box [.int .i64 0, .int .i64 0]), (3, .int .i64 v1), (4, .int .i64 ((x_2.length : Int)))])) (fun u0 => (.ret, [(2, .box [.int .i64 u0, .int .i64 v1])])) r)) (fun r h => by rcases r with _ | _ <;> cases h) (fun s => r08_Shaped_l116_bok p0 v1 x_2 s) s
theorem r08_Shaped_l117_bok (p0 : Fun) (v1 : Int) : Sim (r08_Shaped_l117_b p0 v1) fun x => fgt [1, 2, 3] (evX (evI T) x10_5 [(1, .box [.str p0.Name, .sl p0.Params.length (p0.Params.flatMap (cint .i64)), .int .i64 p0.Ret, .sl p0.Blocks.length (p0.Blocks.flatMap (csl cIns)), .int .i64 p0.At]), (2, .box [.int .i64 0, .int .i64 0]), (3, .int .i64 v1)]) = some (stpK (fun s => (.norm, [(1, .box [.str p0.Name, .sl p0.Params.length (p0.Params.flatMap (cint .i64)), .int .i64 p0.Ret, .sl p0.Blocks.length (p0.Blocks.flatMap (csl cIns)), .int .i64 p0.At]), (2, .box [.int .i64 0, .int .i64 0]), (3, .int .i64 s)])) (fun r => (stpK (fun t0 => (.exit 0, [(2, .box [.int .i64 0, .int .i64 0])])) (fun u0 => (.ret, [(2, .box [.int .i64 u0.1, .int .i64 u0.2])])) r)) x) := by
  unfold r08_Shaped_l117_b
  refine sim_if (fun h2 => ?_) (fun h2 => ?_)
  · refine sim_bind (fun x_2 h3 => ?_)
    have f4 := ix_ok h3
    have f4o := ix_own2 h3
    have f5 := ix_cells (sz_sl cIns) h3
    simp only [nz, nzIns, nzFun] at f5
    refine sim_bind (fun qh30 h30 => ?_)
    rcases qh30 with ⟨_⟩ | ⟨v11⟩
    · dsimp only
      have f31 := r08_Shaped_l116_ok p0 v1 x_2 0 _ h30
      dsimp only at f31
      refine sim_if (fun h32 => ?_) (fun h32 => ?_)
      · refine sim_some ?_
        try simp only [nz, nzIns, nzFun] at f31
        all_goals
          refine' (w_fgt (w_seq (w_seq (w_reg (w_cons ?_ (w_cons ?_ (w_cons ?_ (w_cons ?_ (w_cons ?_ w_nil))))) ?_) (w_go (w_condt ?_ w_skip ?_))) (w_go (w_seq (w_block (w_seq (w_reg (w_cons ?_ (w_cons ?_ (w_cons ?_ (w_cons ?_ (w_cons ?_ (w_cons ?_ (w_cons ?_ w_nil))))))) ?_) (w_go (w_seq (w_seq (w_reg (w_cons ?_ w_nil) ?_) (w_go (w_block f31 ?_))) (w_go (w_seq (w_reg (w_cons ?_ (w_cons ?_ w_nil)) ?_) (w_go (w_condt ?_ (w_seq (w_reg (w_cons ?_ (w_cons ?_ (w_cons ?_ w_nil))) ?_) (w_go w_ret)) ?_))))))) ?_) w_gor))) ?_)
          all_goals (first | (simp only [nz, rn, nzIns, nzFun, h2, f4, f4o, f5, h32, Int.reduceLT, Int.reduceEq, List.contains_cons, List.contains_nil, Option.map_some, Option.map_none, reduceIte, reduceCtorEq, Nat.reduceEqDiff, Nat.reduceLT, Nat.reduceBEq, Nat.reduceAdd, Nat.reduceMul, Nat.reduceLeDiff, Nat.reduceSub, Bool.false_eq_true]; try rfl) | skip)
      · refine sim_some ?_
        try simp only [nz, nzIns, nzFun] at f31
        all_goals
          refine' (w_fgt (w_seq (w_seq (w_reg (w_cons ?_ (w_cons ?_ (w_cons ?_ (w_cons ?_ (w_cons ?_ w_nil))))) ?_) (w_go (w_condt ?_ w_skip ?_))) (w_go (w_seq (w_block (w_seq (w_reg (w_cons ?_ (w_cons ?_ (w_cons ?_ (w_cons ?_ (w_cons ?_ (w_cons ?_ (w_cons ?_ w_nil))))))) ?_) (w_go (w_seq (w_seq (w_reg (w_cons ?_ w_nil) ?_) (w_go (w_block f31 ?_))) (w_go (w_seq (w_reg (w_cons ?_ (w_cons ?_ w_nil)) ?_) (w_go (w_condf ?_ w_skip ?_))))))) ?_) (w_go (w_reg (w_cons ?_ (w_cons ?_ (w_cons ?_ w_nil))) ?_))))) ?_)
          all_goals (first | (simp only [nz, rn, nzIns, nzFun, h2, f4, f4o, f5, h32, Int.reduceLT, Int.reduceEq, List.contains_cons, List.contains_nil, Option.map_some, Option.map_none, reduceIte, reduceCtorEq, Nat.reduceEqDiff, Nat.reduceLT, Nat.reduceBEq, Nat.reduceAdd, Nat.reduceMul, Nat.reduceLeDiff, Nat.reduceSub, Bool.false_eq_true]; try rfl) | skip)
    · dsimp only
      have f31 := r08_Shaped_l116_ok p0 v1 x_2 0 _ h30
      dsimp only at f31
      refine sim_some ?_
      try simp only [nz, nzIns, nzFun] at f31
      all_goals
        refine' (w_fgt (w_seq (w_seq (w_reg (w_cons ?_ (w_cons ?_ (w_cons ?_ (w_cons ?_ (w_cons ?_ w_nil))))) ?_) (w_go (w_condt ?_ w_skip ?_))) (w_go (w_seq (w_block (w_seq (w_reg (w_cons ?_ (w_cons ?_ (w_cons ?_ (w_cons ?_ (w_cons ?_ (w_cons ?_ (w_cons ?_ w_nil))))))) ?_) (w_go (w_seq (w_seq (w_reg (w_cons ?_ w_nil) ?_) (w_go (w_block f31 ?_))) w_gor))) ?_) w_gor))) ?_)
        all_goals (first | (simp only [nz, rn, nzIns, nzFun, h2, f4, f4o, f5, Int.reduceLT, Int.reduceEq, List.contains_cons, List.contains_nil, Option.map_some, Option.map_none, reduceIte, reduceCtorEq, Nat.reduceEqDiff, Nat.reduceLT, Nat.reduceBEq, Nat.reduceAdd, Nat.reduceMul, Nat.reduceLeDiff, Nat.reduceSub, Bool.false_eq_true]; try rfl) | skip)
  · refine sim_some ?_
    refine' (w_fgt (w_seq (w_seq (w_reg (w_cons ?_ (w_cons ?_ (w_cons ?_ (w_cons ?_ (w_cons ?_ w_nil))))) ?_) (w_go (w_condf ?_ (w_exit ?_) ?_))) w_gox) ?_)
    all_goals (first | (simp only [nz, rn, nzIns, nzFun, h2, Int.reduceLT, Int.reduceEq, List.contains_cons, List.contains_nil, Option.map_some, Option.map_none, reduceIte, reduceCtorEq, Nat.reduceEqDiff, Nat.reduceLT, Nat.reduceBEq, Nat.reduceAdd, Nat.reduceMul, Nat.reduceLeDiff, Nat.reduceSub, Bool.false_eq_true]; try rfl) | skip)
theorem r08_Shaped_l117_ok (p0 : Fun) (s : Int) : Sim (r08_Shaped_l117 p0 s) fun r => evX (evI T) (.loop x10_5 [1, 2, 3]) [(1, .box [.str p0.Name, .sl p0.Params.length (p0.Params.flatMap (cint .i64)), .int .i64 p0.Ret, .sl p0.Blocks.length (p0.Blocks.flatMap (csl cIns)), .int .i64 p0.At]), (2, .box [.int .i64 0, .int .i64 0]), (3, .int .i64 s)] = some (stpK (fun t0 => (.exit 0, [(2, .box [.int .i64 0, .int .i64 0])])) (fun u0 => (.ret, [(2, .box [.int .i64 u0.1, .int .i64 u0.2])])) r) := by
  unfold r08_Shaped_l117
  exact loop_rule (C := evI T) (b := x10_5) (ks := [1, 2, 3]) (σ := Int) (ρ := Stp Unit (Int × Int)) (body := fun s => r08_Shaped_l117_b p0 s) (E := fun s => [(1, .box [.str p0.Name, .sl p0.Params.length (p0.Params.flatMap (cint .i64)), .int .i64 p0.Ret, .sl p0.Blocks.length (p0.Blocks.flatMap (csl cIns)), .int .i64 p0.At]), (2, .box [.int .i64 0, .int .i64 0]), (3, .int .i64 s)]) (R := fun r => (stpK (fun t0 => (.exit 0, [(2, .box [.int .i64 0, .int .i64 0])])) (fun u0 => (.ret, [(2, .box [.int .i64 u0.1, .int .i64 u0.2])])) r)) (fun r h => by rcases r with _ | _ <;> cases h) (fun s => r08_Shaped_l117_bok p0 s) s
theorem r08_Shaped_ok (p0 : Fun) : Sim (r08_Shaped p0) fun r => evI T 10 [.agg [.str p0.Name, .sl p0.Params.length (p0.Params.flatMap (cint .i64)), .int .i64 p0.Ret, .sl p0.Blocks.length (p0.Blocks.flatMap (csl cIns)), .int .i64 p0.At]] = some (.agg [.int .i64 r.Code, .int .i64 r.At], [.none]) := by
  unfold r08_Shaped
  refine sim_if (fun h1 => ?_) (fun h1 => ?_)
  · refine sim_some ?_
    refine evI_ret (x := x10) rfl rfl rfl ?_
    refine' (w_fn rfl rfl (w_seq (w_reg (w_cons ?_ (w_cons ?_ w_nil)) ?_) (w_go (w_seq (w_seq (w_reg (w_cons ?_ (w_cons ?_ (w_cons ?_ (w_cons ?_ w_nil)))) ?_) (w_go (w_condt ?_ (w_seq (w_reg (w_cons ?_ (w_cons ?_ w_nil)) ?_) (w_go w_ret)) ?_))) w_gor))) ?_)
    all_goals (first | (simp only [x10, nz, rn, nzIns, nzFun, h1, Int.reduceLT, Int.reduceEq, List.contains_cons, List.contains_nil, Option.map_some, Option.map_none, reduceIte, reduceCtorEq, Nat.reduceEqDiff, Nat.reduceLT, Nat.reduceBEq, Nat.reduceAdd, Nat.reduceMul, Nat.reduceLeDiff, Nat.reduceSub, Bool.false_eq_true]; try rfl) | skip)
  · refine sim_bind (fun qh33 h33 => ?_)
    rcases qh33 with ⟨_⟩ | ⟨⟨v12, v13⟩⟩
    · dsimp only
      have f34 := r08_Shaped_l117_ok p0 0 _ h33
      dsimp only at f34
      refine sim_some ?_
      refine evI_ret (x := x10) rfl rfl rfl ?_
      try simp only [nz, nzIns, nzFun] at f34
      all_goals
        refine' (w_fn rfl rfl (w_seq (w_reg (w_cons ?_ (w_cons ?_ w_nil)) ?_) (w_go (w_seq (w_seq (w_reg (w_cons ?_ (w_cons ?_ (w_cons ?_ (w_cons ?_ w_nil)))) ?_) (w_go (w_condf ?_ w_skip ?_))) (w_go (w_seq (w_seq (w_reg (w_cons ?_ w_nil) ?_) (w_go (w_block f34 ?_))) (w_go (w_seq (w_reg (w_cons ?_ (w_cons ?_ w_nil)) ?_) (w_go w_ret)))))))) ?_)
        all_goals (first | (simp only [x10, nz, rn, nzIns, nzFun, h1, Int.reduceLT, Int.reduceEq, List.contains_cons, List.contains_nil, Option.map_some, Option.map_none, reduceIte, reduceCtorEq, Nat.reduceEqDiff, Nat.reduceLT, Nat.reduceBEq, Nat.reduceAdd, Nat.reduceMul, Nat.reduceLeDiff, Nat.reduceSub, Bool.false_eq_true]; try rfl) | skip)
    · dsimp only
      have f34 := r08_Shaped_l117_ok p0 0 _ h33
      dsimp only at f34
      refine sim_some ?_
      refine evI_ret (x := x10) rfl rfl rfl ?_
      try simp only [nz, nzIns, nzFun] at f34
      all_goals
        refine' (w_fn rfl rfl (w_seq (w_reg (w_cons ?_ (w_cons ?_ w_nil)) ?_) (w_go (w_seq (w_seq (w_reg (w_cons ?_ (w_cons ?_ (w_cons ?_ (w_cons ?_ w_nil)))) ?_) (w_go (w_condf ?_ w_skip ?_))) (w_go (w_seq (w_seq (w_reg (w_cons ?_ w_nil) ?_) (w_go (w_block f34 ?_))) w_gor))))) ?_)
        all_goals (first | (simp only [x10, nz, rn, nzIns, nzFun, h1, Int.reduceLT, Int.reduceEq, List.contains_cons, List.contains_nil, Option.map_some, Option.map_none, reduceIte, reduceCtorEq, Nat.reduceEqDiff, Nat.reduceLT, Nat.reduceBEq, Nat.reduceAdd, Nat.reduceMul, Nat.reduceLeDiff, Nat.reduceSub, Bool.false_eq_true]; try rfl) | skip)
theorem r08_Shaped_okN (p0 : Fun) : Sim (r08_Shaped p0) fun r => ∀ ws, ws.map normA = [.agg [.str p0.Name, .sl p0.Params.length (p0.Params.flatMap (cint .i64)), .int .i64 p0.Ret, .sl p0.Blocks.length (p0.Blocks.flatMap (csl cIns)), .int .i64 p0.At]] → evI T 10 ws = some (.agg [.int .i64 r.Code, .int .i64 r.At], [.none]) := fun r h => evI_okN (x := x10) rfl rfl rfl (r08_Shaped_ok p0 r h)
end Go.Ab

/-
  Long computations in pieces: calls whose answers are known already.
-/
namespace Go.Ab
open Go
set_option linter.unusedVariables false
set_option linter.unusedSimpArgs false

mutual
def pvEq : PV → PV → Bool
  | .none, .none => true
  | .bool a, .bool b => a == b
  | .int k a, .int k' b => decide (k = k') && decide (a = b)
  | .str s, .str t => decide (s = t)
  | .nilp, .nilp => true
  | .nils, .nils => true
  | .nilf, .nilf => true
  | .box a, .box b => pvEqL a b
  | .own s n a, .own s' n' b => Nat.beq s s' && Nat.beq n n' && pvEqL a b
  | .sl n a, .sl n' b => Nat.beq n n' && pvEqL a b
  | .sp a, .sp b => pvEqL a b
  | .agg a, .agg b => pvEqL a b
  | .tup a, .tup b => pvEqL a b
  | .fn f a, .fn g b => Nat.beq f g && pvEqL a b
  | _, _ => false
def pvEqL : List PV → List PV → Bool
  | [], [] => true
  | a :: l, b :: m => pvEq a b && pvEqL l m
  | _, _ => false
end
mutual
theorem pvEq_eq : ∀ {a b : PV}, pvEq a b = true → a = b := fun {a b} h => by
  unfold pvEq at h
  split at h <;> simp_all
  all_goals first
    | exact pvEqL_eq h
    | exact pvEqL_eq h.2
theorem pvEqL_eq : ∀ {a b : List PV}, pvEqL a b = true → a = b := fun {a b} h => by
  unfold pvEqL at h
  split at h
  · rfl
  · simp only [Bool.and_eq_true] at h
    rw [pvEq_eq h.1, pvEqL_eq h.2]
  · cases h
end

abbrev Tab := List (Nat × List PV × (PV × List PV))
def tabC : Tab → Calls'
  | [], _, _ => Option.none
  | (g, vs, r) :: M, f, ws => match Nat.beq g f && pvEqL vs ws with
    | true => some r
    | false => tabC M f ws
def TabOk (T : Nat → Option XF) : Tab → Prop
  | [] => True
  | (g, vs, r) :: M => evI T g vs = some r ∧ TabOk T M
theorem tabC_le {T : Nat → Option XF} : ∀ {M : Tab}, TabOk T M → CLe (tabC M) (evI T)
  | [], _ => fun f ws r h => by simp [tabC] at h
  | (g, vs, q) :: M, hM => fun f ws r h => by
    simp only [tabC] at h
    split at h
    · rename_i hb
      simp only [Bool.and_eq_true] at hb
      obtain rfl := Nat.eq_of_beq_eq_true hb.1
      obtain rfl := pvEqL_eq hb.2
      rw [← h]; exact hM.1
    · exact tabC_le hM.2 f ws r h
/-- a call whose calls are answered by a table -/
def call1 (C : Calls') (n : Nat) (x : XF) (ws : List PV) : Option (PV × List PV) :=
  match x.ext with
  | some k => extSem k ws
  | Option.none => match Nat.beq ws.length x.np with
    | true => retK x ws (evC C n x.body (params 0 (argsIn x.nk ws)))
    | false => Option.none
theorem call1_ok {T : Nat → Option XF} {M : Tab} (hM : TabOk T M) {n f : Nat} {x : XF} {ws : List PV} {r : PV × List PV} (hx : T f = some x) (h : call1 (tabC M) n x ws = some r) : evI T f ws = some r := by
  unfold call1 at h
  split at h
  · rename_i k he
    rw [evI_ext hx he]; exact h
  · rename_i he
    split at h
    · rename_i hl
      refine evI_ret hx he (Nat.eq_of_beq_eq_true hl) ?_
      cases hb : evC (tabC M) n x.body (params 0 (argsIn x.nk ws)) with
      | none => rw [hb] at h; cases h
      | some q =>
        rw [hb] at h
        rw [evX_some.2 (by
          obtain ⟨m, hm⟩ := evC_lim (T := T) (n := n) (c := x.body) (e := params 0 (argsIn x.nk ws)) (x := q) (evC_mono (tabC_le hM) (Nat.le_refl n) hb)
          exact ⟨n, evC_mono (evF_le m) (Nat.le_refl n) hm⟩)]
        exact h
    · cases h
end Go.Ab
namespace Go.Ab
open Go
/-- a table, and else another way -/
def memoC (M : Tab) (C : Calls') : Calls' := fun f ws => match tabC M f ws with
  | some r => some r
  | Option.none => C f ws
theorem memoC_le {T : Nat → Option XF} {M : Tab} (hM : TabOk T M) (n : Nat) : CLe (memoC M (evF T n)) (evI T) := fun f ws r h => by
  unfold memoC at h
  split at h
  · rename_i q hq
    rw [← h]; exact tabC_le hM f ws _ hq
  · exact evF_le n f ws r h
theorem call2_ok {T : Nat → Option XF} {M : Tab} (hM : TabOk T M) {m n f : Nat} {x : XF} {ws : List PV} {r : PV × List PV} (hx : T f = some x) (h : call1 (memoC M (evF T m)) n x ws = some r) : evI T f ws = some r := by
  unfold call1 at h
  split at h
  · rename_i k he
    rw [evI_ext hx he]; exact h
  · rename_i he
    split at h
    · rename_i hl
      refine evI_ret hx he (Nat.eq_of_beq_eq_true hl) ?_
      cases hb : evC (memoC M (evF T m)) n x.body (params 0 (argsIn x.nk ws)) with
      | none => rw [hb] at h; cases h
      | some q =>
        rw [hb] at h
        rw [evX_some.2 (by
          obtain ⟨m', hm⟩ := evC_lim (T := T) (n := n) (c := x.body) (e := params 0 (argsIn x.nk ws)) (x := q) (evC_mono (memoC_le hM m) (Nat.le_refl n) hb)
          exact ⟨n, evC_mono (evF_le m') (Nat.le_refl n) hm⟩)]
        exact h
    · cases h
end Go.Ab

/-
  The evaluator once more, in small pieces, for computing by the kernel. Printed by mkfast.py.
-/
namespace Go.Ab
open Go
set_option linter.unusedVariables false
set_option linter.unusedSimpArgs false
set_option maxRecDepth 100000

noncomputable def getQ (e : Env) (t : Nat) : PV := List.rec (motive := fun _ => PV) .none (fun kv _ ih => Prod.rec (motive := fun _ => PV) (fun k v => Bool.rec (motive := fun _ => PV) ih v (Nat.beq t k)) kv) e
theorem beqN (a b : Nat) : Nat.beq a b = decide (a = b) := by
  cases h : Nat.beq a b with
  | true => symm; exact decide_eq_true (Nat.eq_of_beq_eq_true h)
  | false => symm; exact decide_eq_false (fun hh => by rw [hh, Nat.beq_refl] at h; cases h)
theorem getQ_eq : ∀ (e : Env) (t : Nat), getQ e t = Env.get e t
  | [], _ => rfl
  | (k, v) :: r, t => by
    show Bool.rec (motive := fun _ => PV) (getQ r t) v (Nat.beq t k) = Env.get ((k, v) :: r) t
    rw [getQ_eq r t, beqN]
    simp only [Env.get]
    by_cases h : t = k <;> simp [h]
noncomputable def purgeD (d : Nat) (v : PV) : PV :=
  match v with
  | .ref r p i m => Bool.rec (motive := fun _ => PV) (.ref r p i m) .none (Nat.beq r d)
  | .view r p o n z => Bool.rec (motive := fun _ => PV) (.view r p o n z) .none (Nat.beq r d)
  | .agg cs => .agg (List.rec (motive := fun _ => List PV) [] (fun c _ ih => (match c with
    | .int k n => .int k n
    | .str s => .str s
    | .sl n cs => .sl n cs
    | c => purge1 (und d []) c) :: ih) cs)
  | .tup cs => .tup (purgeL (und d []) cs)
  | .fn g cs => .fn g (purgeL (und d []) cs)
  | v => v
theorem und0_eq (d r : Nat) (p : List Nat) : und d [] r p = Nat.beq r d := by
  simp only [und, List.isPrefixOf_nil_left, Bool.and_true, beqN]
  by_cases h : r = d <;> simp [h]
theorem purgeD_agg (d : Nat) : ∀ cs : List PV, List.rec (motive := fun _ => List PV) [] (fun c _ ih => (match c with
    | .int k n => .int k n
    | .str s => .str s
    | .sl n cs => .sl n cs
    | c => purge1 (und d []) c) :: ih) cs = purgeL (und d []) cs
  | [] => rfl
  | c :: cs => by
    simp only [purgeL, purgeD_agg d cs]
    congr 1
    cases c <;> simp [purge1]
theorem purgeD_eq (d : Nat) (v : PV) : purgeD d v = purge1 (und d []) v := by
  cases v <;> simp only [purgeD, purge1, und0_eq, purgeD_agg]
  all_goals (split <;> simp_all [beqN])
noncomputable def setDQ (e : Env) (d : Nat) (v : PV) : Env :=
  List.rec (motive := fun _ => Bool → Env) (fun done => Bool.rec (motive := fun _ => Env) [(d, v)] [] done)
    (fun kv _ ih done => Prod.rec (motive := fun _ => Env) (fun k x => Bool.rec (motive := fun _ => Env)
      (Bool.rec (motive := fun _ => Env) (Bool.rec (motive := fun _ => Env) ((d, v) :: (k, purgeD d x) :: ih true) ((k, purgeD d x) :: ih false) (Nat.ble k d)) ((d, v) :: ih true) (Nat.beq d k))
      ((k, purgeD d x) :: ih true) done) kv) e false
theorem purgeBy_und (d : Nat) : ∀ e : Env, e.purgeBy (und d []) = e.map fun q => (q.1, purgeD d q.2)
  | [] => rfl
  | (k, v) :: e => by simp only [Env.purgeBy, List.map_cons, purgeD_eq, purgeBy_und d e]
theorem setDQ_go (d : Nat) (v : PV) : ∀ (e : Env), List.rec (motive := fun _ => Bool → Env) (fun done => Bool.rec (motive := fun _ => Env) [(d, v)] [] done)
    (fun kv _ ih done => Prod.rec (motive := fun _ => Env) (fun k x => Bool.rec (motive := fun _ => Env)
      (Bool.rec (motive := fun _ => Env) (Bool.rec (motive := fun _ => Env) ((d, v) :: (k, purgeD d x) :: ih true) ((k, purgeD d x) :: ih false) (Nat.ble k d)) ((d, v) :: ih true) (Nat.beq d k))
      ((k, purgeD d x) :: ih true) done) kv) e true = e.purgeBy (und d [])
  | [] => rfl
  | (k, x) :: e => by
    have := setDQ_go d v e
    show (k, purgeD d x) :: _ = _
    rw [this]; simp only [Env.purgeBy, purgeD_eq]
theorem setDQ_eq (d : Nat) (v : PV) : ∀ (e : Env), setDQ e d v = e.setD d v
  | [] => rfl
  | (k, x) :: e => by
    have ih := setDQ_eq d v e
    have it := setDQ_go d v e
    show Bool.rec (motive := fun _ => Env) (Bool.rec (motive := fun _ => Env) ((d, v) :: (k, purgeD d x) :: _) ((k, purgeD d x) :: setDQ e d v) (Nat.ble k d)) ((d, v) :: _) (Nat.beq d k) = _
    rw [ih, it, beqN]
    simp only [Env.setD, Env.purge, Env.purgeBy, Env.set, purgeD_eq]
    by_cases h : d = k
    · simp [h]
    · by_cases h2 : d < k
      · have h3 : Nat.ble k d = false := by
          cases h4 : Nat.ble k d with
          | false => rfl
          | true => have := Nat.le_of_ble_eq_true h4; omega
        simp [h, h2, h3]
      · have h3 : Nat.ble k d = true := Nat.ble_eq_true_of_le (by omega)
        simp [h, h2, h3]
noncomputable def setQ (e : Env) (d : Nat) (v : PV) : Env :=
  List.rec (motive := fun _ => Env) [(d, v)] (fun kv r ih => Prod.rec (motive := fun _ => Env) (fun k x => Bool.rec (motive := fun _ => Env) (Bool.rec (motive := fun _ => Env) ((d, v) :: (k, x) :: r) ((k, x) :: ih) (Nat.ble k d)) ((d, v) :: r) (Nat.beq d k)) kv) e
theorem setQ_eq (d : Nat) (v : PV) : ∀ (e : Env), setQ e d v = e.set d v
  | [] => rfl
  | (k, x) :: e => by
    have ih := setQ_eq d v e
    show Bool.rec (motive := fun _ => Env) (Bool.rec (motive := fun _ => Env) ((d, v) :: (k, x) :: e) ((k, x) :: setQ e d v) (Nat.ble k d)) ((d, v) :: e) (Nat.beq d k) = _
    rw [ih, beqN]
    simp only [Env.set]
    by_cases h : d = k
    · simp [h]
    · by_cases h2 : d < k
      · have h3 : Nat.ble k d = false := by
          cases h4 : Nat.ble k d with
          | false => rfl
          | true => have := Nat.le_of_ble_eq_true h4; omega
        simp [h, h2, h3]
      · have h3 : Nat.ble k d = true := Nat.ble_eq_true_of_le (by omega)
        simp [h, h2, h3]
noncomputable def maskOf (l : List Nat) : Nat := List.rec (motive := fun _ => Nat) 0 (fun k _ ih => Nat.lor (Nat.pow 2 k) ih) l
theorem maskOf_eq : ∀ (l : List Nat) (k : Nat), Nat.testBit (maskOf l) k = l.contains k
  | [], k => by simp [maskOf]
  | a :: l, k => by
    show Nat.testBit ((2 ^ a) ||| maskOf l) k = _
    rw [Nat.testBit_or, maskOf_eq l k, Nat.testBit_two_pow, List.contains_cons]
    by_cases h : a = k
    · simp [h]
    · have : (k == a) = false := by simp [Ne.symm h]
      simp [h, this]
def bitQ (m k : Nat) : Bool := Nat.beq (Nat.land (Nat.shiftRight m k) 1) 1
theorem bitQ_eq (m k : Nat) : bitQ m k = Nat.testBit m k := by
  have h1 : Nat.testBit m k = (1 &&& (m >>> k) != 0) := rfl
  show Nat.beq ((m >>> k) &&& 1) 1 = _
  rw [h1, beqN, Nat.and_comm 1, Nat.and_one_is_mod]
  rcases Nat.mod_two_eq_zero_or_one (m >>> k) with h | h <;> simp [h]
noncomputable def keepM (m : Nat) (e : Env) : Env := List.rec (motive := fun _ => Env) [] (fun kv _ ih => Prod.rec (motive := fun _ => Env) (fun k v => Bool.rec (motive := fun _ => Env) ih ((k, v) :: ih) (bitQ m k)) kv) e
noncomputable def keepQ (l : List Nat) (e : Env) : Env := keepM (maskOf l) e
theorem keepQ_eq (l : List Nat) : ∀ e : Env, keepQ l e = Env.keep l e
  | [] => rfl
  | (k, x) :: r => by
    have ih := keepQ_eq l r
    show Bool.rec (motive := fun _ => Env) (keepQ l r) ((k, x) :: keepQ l r) (bitQ (maskOf l) k) = _
    rw [ih, bitQ_eq, maskOf_eq]
    simp only [Env.keep]
    cases l.contains k <;> simp
def memQ (ds : List Nat) (r : Nat) : Bool := ds.contains r
theorem memQ_eq (l : List Nat) (b : Nat) : memQ l b = l.contains b := rfl
def noRefsQ (ds : List Nat) (v : PV) : Bool :=
  match v with
  | .ref r p i m => !memQ ds r
  | .view r p o n z => !memQ ds r
  | .agg cs => noRefs ds (.agg cs)
  | .tup cs => noRefs ds (.tup cs)
  | .fn f cs => noRefs ds (.fn f cs)
  | _ => true
theorem noRefsQ_eq (ds : List Nat) (v : PV) : noRefsQ ds v = noRefs ds v := by
  cases v <;> simp [noRefsQ, noRefs, refs, memQ_eq]
def alA (n : Nat) (v : PV) : PV :=
  match v with
  | .int k m => .int k m
  | .bool b => .bool b
  | .str s => .str s
  | .agg cs => .agg (alL n [] 0 cs)
  | .tup cs => if noOwnL cs then .tup cs else .none
  | v => al n [] v
noncomputable def lookQ (e : Env) : XO → PV
  | .t n => alA n (getQ e n)
  | .k v => v
  | .f n => .fn n []
theorem lookQ_eq (e : Env) : lookQ e = look e := by
  funext x
  cases x with
  | t n =>
    simp only [lookQ, look, lookG, getQ_eq, alA]
    cases e.get n <;> rfl
  | k v => rfl
  | f n => rfl
/-! numbers -/
def wrapQ (k : IntKind) (n : Int) : Int :=
  match k with
  | .i64 => (match n with
    | .ofNat m => (match Nat.blt m 9223372036854775808 with
      | true => .ofNat m
      | false => IntKind.wrap .i64 (.ofNat m))
    | .negSucc m => (match Nat.blt m 9223372036854775808 with
      | true => .negSucc m
      | false => IntKind.wrap .i64 (.negSucc m)))
  | k => k.wrap n
theorem wrapQ_eq (k : IntKind) (n : Int) : wrapQ k n = k.wrap n := by
  have hb : ∀ m : Nat, Nat.blt m 9223372036854775808 = true → m < 9223372036854775808 := fun m h => by
    have := Nat.le_of_ble_eq_true h; omega
  have e1 : (2 ^ IntKind.bits .i64 : Int) = 18446744073709551616 := by decide
  have e2 : (2 ^ (IntKind.bits .i64 - 1) : Int) = 9223372036854775808 := by decide
  cases k <;> try rfl
  cases n with
  | ofNat m =>
    simp only [wrapQ]
    split
    · rename_i h
      have := hb m h
      simp only [IntKind.wrap, e1, e2, Int.ofNat_eq_natCast]
      have h3 : (m : Int) % 18446744073709551616 = m := Int.emod_eq_of_lt (by omega) (by omega)
      rw [h3, if_neg (by simp; intro _; omega)]
    · rfl
  | negSucc m =>
    simp only [wrapQ]
    split
    · rename_i h
      have := hb m h
      have e3 : IntKind.signed .i64 = true := rfl
      simp only [IntKind.wrap, e1, e2, e3, Bool.true_and]
      have h3 : Int.negSucc m % 18446744073709551616 = Int.negSucc m + 18446744073709551616 := by
        rw [← Int.add_emod_right, Int.emod_eq_of_lt (by omega) (by omega)]
      rw [h3, if_pos (by simp; omega)]
      omega
    · rfl
def ltQ : Int → Int → Bool
  | .ofNat a, .ofNat b => Nat.blt a b
  | .negSucc _, .ofNat _ => true
  | .ofNat _, .negSucc _ => false
  | .negSucc a, .negSucc b => Nat.blt b a
theorem bltN (a b : Nat) : Nat.blt a b = decide (a < b) := by
  cases h : Nat.blt a b with
  | true => symm; exact decide_eq_true (by have := Nat.le_of_ble_eq_true h; omega)
  | false => symm; exact decide_eq_false (fun hh => by
      have : Nat.ble (a + 1) b = true := Nat.ble_eq_true_of_le hh
      rw [show Nat.blt a b = Nat.ble (a + 1) b from rfl, this] at h; cases h)
theorem ltQ_eq (x y : Int) : ltQ x y = decide (x < y) := by
  cases x with
  | ofNat a => cases y with
    | ofNat b => simp only [ltQ, bltN, Int.ofNat_eq_natCast]; exact decide_eq_decide.2 (by omega)
    | negSucc b => simp only [ltQ]; symm; apply decide_eq_false; simp only [Int.ofNat_eq_natCast]; omega
  | negSucc a => cases y with
    | ofNat b => simp only [ltQ]; symm; apply decide_eq_true; simp only [Int.ofNat_eq_natCast]; omega
    | negSucc b => simp only [ltQ, bltN]; exact decide_eq_decide.2 (by omega)
def eqQ : Int → Int → Bool
  | .ofNat a, .ofNat b => Nat.beq a b
  | .negSucc a, .negSucc b => Nat.beq a b
  | _, _ => false
theorem eqQ_eq (x y : Int) : eqQ x y = (x == y) := by
  have : (x == y) = decide (x = y) := rfl
  rw [this]
  cases x with
  | ofNat a => cases y with
    | ofNat b => simp only [eqQ, beqN, Int.ofNat_eq_natCast]; exact decide_eq_decide.2 (by omega)
    | negSucc b => simp only [eqQ]; symm; apply decide_eq_false; simp only [Int.ofNat_eq_natCast]; omega
  | negSucc a => cases y with
    | ofNat b => simp only [eqQ]; symm; apply decide_eq_false; simp only [Int.ofNat_eq_natCast]; omega
    | negSucc b => simp only [eqQ, beqN]; exact decide_eq_decide.2 (by omega)
def kdN : IntKind → Nat
  | .i8 => 0 | .i16 => 1 | .i32 => 2 | .i64 => 3 | .u8 => 4 | .u16 => 5 | .u32 => 6 | .u64 => 7
theorem kdN_eq (k k' : IntKind) : Nat.beq (kdN k) (kdN k') = decide (k = k') := by cases k <;> cases k' <;> rfl
abbrev BinF := IntKind → Int → Int → PV
def f_add : BinF := fun k x y => .int k (wrapQ k (x + y))
def f_sub : BinF := fun k x y => .int k (wrapQ k (x - y))
def f_mul : BinF := fun k x y => .int k (wrapQ k (x * y))
def f_eql : BinF := fun k x y => .bool (eqQ x y)
def f_neq : BinF := fun k x y => .bool (!eqQ x y)
def f_lss : BinF := fun k x y => .bool (ltQ x y)
def f_leq : BinF := fun k x y => .bool (!ltQ y x)
def f_gtr : BinF := fun k x y => .bool (ltQ y x)
def f_geq : BinF := fun k x y => .bool (!ltQ x y)
def binF : BinOp → Option BinF
  | .add => some f_add | .sub => some f_sub | .mul => some f_mul | .eql => some f_eql | .neq => some f_neq | .lss => some f_lss | .leq => some f_leq | .gtr => some f_gtr | .geq => some f_geq | _ => Option.none
def intBinQ (op : BinOp) (k : IntKind) (x : Int) (k' : IntKind) (y : Int) : Option PV :=
  match binF op with
  | some g => (match Nat.beq (kdN k) (kdN k') with
    | true => some (g k x y)
    | false => Option.none)
  | Option.none => intBin op k x k' y
theorem intBinQ_eq (op : BinOp) (k : IntKind) (x : Int) (k' : IntKind) (y : Int) : intBinQ op k x k' y = intBin op k x k' y := by
  have nl : ∀ a b : Int, (!ltQ b a) = decide (a ≤ b) := fun a b => by
    rw [ltQ_eq, ← decide_not]; exact decide_eq_decide.2 (by omega)
  cases op <;> simp only [intBinQ, binF, kdN_eq, intBin] <;> (try rfl) <;> by_cases h : k = k' <;> simp [h, f_add, f_sub, f_mul, f_eql, f_neq, f_lss, f_leq, f_gtr, f_geq, wrapQ_eq, eqQ_eq, ltQ_eq, bne] <;> (try rw [← decide_not]) <;> (try (exact decide_eq_decide.2 (by omega)))
def u8N (c : UInt8) : Nat := c.toBitVec.toFin.val
noncomputable def strEq (s : List UInt8) : List UInt8 → Bool := List.rec (motive := fun _ => List UInt8 → Bool) (fun t => List.rec (motive := fun _ => Bool) true (fun _ _ _ => false) t) (fun c _ ih t => List.rec (motive := fun _ => Bool) false (fun c' t' _ => Bool.rec (motive := fun _ => Bool) false (ih t') (Nat.beq (u8N c) (u8N c'))) t) s
theorem strEq_eq : ∀ (s t : List UInt8), strEq s t = (s == t)
  | [], [] => rfl
  | [], _ :: _ => rfl
  | _ :: _, [] => rfl
  | c :: s, c' :: t => by
    show Bool.rec (motive := fun _ => Bool) false (strEq s t) (Nat.beq (u8N c) (u8N c')) = _
    rw [strEq_eq s t, beqN, List.cons_beq_cons]
    by_cases h : c = c'
    · simp [h]
    · have : ¬ u8N c = u8N c' := fun hh => h (by
        cases c; cases c'
        simp only [u8N] at hh
        congr
        exact BitVec.eq_of_toNat_eq hh)
      simp [h, this]
def strBinQ (op : BinOp) (x y : List UInt8) : Option PV :=
  match op with
  | .eql => some (.bool (x == y))
  | .neq => some (.bool (!(x == y)))
  | op => strBin op x y
noncomputable def pvBinQ (op : BinOp) (a b : PV) : Option PV :=
  match a with
  | .int k x => (match b with
    | .int k' y => intBinQ op k x k' y
    | _ => Option.none)
  | .str x => (match b with
    | .str y => (match op with
      | .eql => some (.bool (strEq x y))
      | .neq => some (.bool (!strEq x y))
      | op => strBin op x y)
    | _ => Option.none)
  | _ => Option.none
theorem pvBinQ_eq (op : BinOp) (a b : PV) : pvBinQ op a b = pvBin op a b := by
  cases a <;> cases b <;> simp only [pvBinQ, pvBin, intBinQ_eq, strEq_eq]
  cases op <;> rfl
/-! lists -/
noncomputable def nthQ {α : Type} (l : List α) : Nat → Option α := List.rec (motive := fun _ => Nat → Option α) (fun _ => Option.none) (fun x _ ih n => Nat.rec (motive := fun _ => Option α) (some x) (fun m _ => ih m) n) l
theorem nthQ_eq {α : Type} : ∀ (l : List α) (n : Nat), nthQ l n = l[n]?
  | [], n => by simp [nthQ]
  | x :: l, 0 => rfl
  | x :: l, n + 1 => by
    show nthQ l n = _
    rw [nthQ_eq l n]; simp
noncomputable def dropQ {α : Type} (l : List α) : Nat → List α := List.rec (motive := fun _ => Nat → List α) (fun _ => []) (fun x r ih n => Nat.rec (motive := fun _ => List α) (x :: r) (fun m _ => ih m) n) l
theorem dropQ_eq {α : Type} : ∀ (l : List α) (n : Nat), dropQ l n = l.drop n
  | [], n => by simp [dropQ]
  | x :: l, 0 => rfl
  | x :: l, n + 1 => by
    show dropQ l n = _
    rw [dropQ_eq l n]; simp
noncomputable def takeQ {α : Type} (l : List α) : Nat → List α := List.rec (motive := fun _ => Nat → List α) (fun _ => []) (fun x r ih n => Nat.rec (motive := fun _ => List α) [] (fun m _ => x :: ih m) n) l
theorem takeQ_eq {α : Type} : ∀ (l : List α) (n : Nat), takeQ l n = l.take n
  | [], n => by simp [takeQ]
  | x :: l, 0 => rfl
  | x :: l, n + 1 => by
    show x :: takeQ l n = _
    rw [takeQ_eq l n]; simp
noncomputable def appQ {α : Type} (l m : List α) : List α := List.rec (motive := fun _ => List α) m (fun x _ ih => x :: ih) l
theorem appQ_eq {α : Type} : ∀ (l m : List α), appQ l m = l ++ m
  | [], m => rfl
  | x :: l, m => by
    show x :: appQ l m = _
    rw [appQ_eq l m]; rfl
noncomputable def lenQ {α : Type} (l : List α) : Nat := List.rec (motive := fun _ => Nat) 0 (fun _ _ ih => Nat.succ ih) l
theorem lenQ_eq {α : Type} : ∀ l : List α, lenQ l = l.length
  | [] => rfl
  | x :: l => by
    show Nat.succ (lenQ l) = _
    rw [lenQ_eq l]; rfl
noncomputable def mapQ {α β : Type} (f : α → β) (l : List α) : List β := List.rec (motive := fun _ => List β) [] (fun x _ ih => f x :: ih) l
theorem mapQ_eq {α β : Type} (f : α → β) : ∀ l : List α, mapQ f l = l.map f
  | [] => rfl
  | x :: l => by
    show f x :: mapQ f l = _
    rw [mapQ_eq f l]; rfl
noncomputable def freeQ (l : List PV) : Bool := List.rec (motive := fun _ => Bool) true (fun v _ ih => match v with
  | .int _ _ => ih
  | .str _ => ih
  | .bool _ => ih
  | .sl _ _ => ih
  | v => match v.free with
    | true => ih
    | false => false) l
theorem freeQ_eq : ∀ l : List PV, freeQ l = l.all PV.free
  | [] => rfl
  | v :: l => by
    have ih := freeQ_eq l
    show (match v with
      | .int _ _ => freeQ l
      | .str _ => freeQ l
      | .bool _ => freeQ l
      | .sl _ _ => freeQ l
      | v => match v.free with
        | true => freeQ l
        | false => false) = _
    rw [List.all_cons, ih]
    cases v <;> simp [PV.free]
/-- parts in order -/
noncomputable def fillS (ok : List PV → Bool) (L : XO → PV) (ps : List (Nat × Nat × XO)) : Nat → List PV → Option (List PV) :=
  List.rec (motive := fun _ => Nat → List PV → Option (List PV)) (fun _ rest => some rest) (fun q _ ih pos rest => Prod.rec (motive := fun _ => Option (List PV)) (fun off q2 => Prod.rec (motive := fun _ => Option (List PV)) (fun sz x =>
    match Nat.ble pos off && Nat.beq (lenQ (cells (L x))) sz && ok (cells (L x)) && Nat.ble (off - pos + sz) (lenQ rest) with
    | true => (match ih (off + sz) (dropQ rest (off - pos + sz)) with
      | some r => some (appQ (takeQ rest (off - pos)) (appQ (cells (L x)) r))
      | Option.none => Option.none)
    | false => Option.none) q2) q) ps
theorem fillS_ok {okc : PV → Bool} {ok : List PV → Bool} (hok : ∀ l, ok l = l.all okc) {L : XO → PV} : ∀ {ps : List (Nat × Nat × XO)} {pre rest r : List PV}, fillS ok L ps pre.length rest = some r → fillP okc L (pre ++ rest) ps = some (pre ++ r)
  | [], pre, rest, r, h => by
    simp only [fillS, Option.some.injEq] at h
    subst h; rfl
  | (off, sz, x) :: ps, pre, rest, r, h => by
    change (match Nat.ble pre.length off && Nat.beq (lenQ (cells (L x))) sz && ok (cells (L x)) && Nat.ble (off - pre.length + sz) (lenQ rest) with
      | true => (match fillS ok L ps (off + sz) (dropQ rest (off - pre.length + sz)) with
        | some r => some (appQ (takeQ rest (off - pre.length)) (appQ (cells (L x)) r))
        | Option.none => Option.none)
      | false => Option.none) = some r at h
    split at h
    · rename_i hb
      simp only [Bool.and_eq_true, lenQ_eq] at hb
      obtain ⟨⟨⟨h1, h2⟩, h3⟩, h4⟩ := hb
      have h1 := Nat.le_of_ble_eq_true h1
      have h2 := Nat.eq_of_beq_eq_true h2
      have h4 := Nat.le_of_ble_eq_true h4
      rw [hok] at h3
      split at h
      · rename_i q hq
        obtain rfl := Option.some.inj h
        simp only [fillP, h2, h3, List.length_append]
        rw [if_pos ⟨trivial, by omega, trivial⟩]
        have e1 : (pre ++ rest).take off = pre ++ rest.take (off - pre.length) := by
          rw [List.take_append]; congr 1; exact List.take_of_length_le h1
        have e2 : (pre ++ rest).drop (off + sz) = rest.drop (off - pre.length + sz) := by
          rw [List.drop_append, List.drop_eq_nil_of_le (by omega), List.nil_append]; congr 1; omega
        rw [e1, e2]
        have e3 : (pre ++ rest.take (off - pre.length) ++ cells (L x)).length = off + sz := by
          simp only [List.length_append, List.length_take, h2]; omega
        rw [dropQ_eq] at hq
        have := fillS_ok hok (pre := pre ++ rest.take (off - pre.length) ++ cells (L x)) (rest := rest.drop (off - pre.length + sz)) (r := q) (by rw [e3]; exact hq)
        rw [this, takeQ_eq, appQ_eq, appQ_eq]
        simp only [List.append_assoc]
      · cases h
    · cases h
noncomputable def fillQ (okc : PV → Bool) (ok : List PV → Bool) (L : XO → PV) (cs : List PV) (ps : List (Nat × Nat × XO)) : Option (List PV) :=
  match fillS ok L ps 0 cs with
  | some r => some r
  | Option.none => fillP okc L cs ps
theorem fillQ_eq {okc : PV → Bool} {ok : List PV → Bool} (hok : ∀ l, ok l = l.all okc) (L : XO → PV) (cs : List PV) (ps : List (Nat × Nat × XO)) : fillQ okc ok L cs ps = fillP okc L cs ps := by
  unfold fillQ
  split
  · rename_i r h; exact (fillS_ok hok (pre := []) h).symm
  · rfl
noncomputable def lokQ (l : List PV) : Bool := List.rec (motive := fun _ => Bool) true (fun v _ ih => match v.lok with
  | true => ih
  | false => false) l
theorem lokQ_eq : ∀ l : List PV, lokQ l = l.all PV.lok
  | [] => rfl
  | v :: l => by
    have ih := lokQ_eq l
    show (match v.lok with | true => lokQ l | false => false) = _
    rw [List.all_cons, ih]
    cases v.lok <;> rfl
noncomputable def repQ (n : Nat) (z : List PV) : List PV := Nat.rec (motive := fun _ => List PV) [] (fun _ ih => appQ z ih) n
theorem repQ_eq (z : List PV) : ∀ n, repQ n z = rep n z
  | 0 => rfl
  | n + 1 => by
    show appQ z (repQ n z) = _
    rw [appQ_eq, repQ_eq z n]; rfl
/-! the quick ones -/
noncomputable def qp_bin (C : Calls') (L : XO → PV) (S : Subs) (op : BinOp) (x y : XO) : Option PV := pvBinQ op (L x) (L y)
noncomputable def qp_idxs (C : Calls') (L : XO → PV) (S : Subs) (x i : XO) : Option PV :=
  match L x with
  | .str s => (match L i with
    | .int _ j => (match j with
      | .ofNat n => (match nthQ s n with
        | some c => some (.int .u8 (Int.ofNat (u8N c)))
        | Option.none => Option.none)
      | .negSucc _ => Option.none)
    | _ => Option.none)
  | _ => Option.none
theorem qp_idxs_eq (C : Calls') (L : XO → PV) (S : Subs) (x i : XO) : qp_idxs C L S x i = evP C L S (.idxs x i) := by
  simp only [qp_idxs, evP, nthQ_eq]
  cases L x <;> try rfl
  cases L i <;> try rfl
  rename_i s k j
  cases j with
  | ofNat n =>
    simp only [Int.ofNat_eq_natCast, Int.toNat_natCast, idxOk]
    by_cases h : n < s.length
    · rw [List.getElem?_eq_getElem h]
      simp [h]; rfl
    · rw [List.getElem?_eq_none (by omega)]
      simp
  | negSucc n => simp [idxOk]
noncomputable def qp_build (C : Calls') (L : XO → PV) (S : Subs) (z : List PV) (ps : List (Nat × Nat × XO)) : Option PV := (fillQ PV.lok lokQ L z ps).map .agg
noncomputable def qp_bsl (C : Calls') (L : XO → PV) (S : Subs) (sz len : Nat) (z : List PV) (ps : List (Nat × Nat × XO)) : Option PV := (fillQ PV.free freeQ L (repQ len z) ps).map fun cs => mkOwn sz len (mapQ norm1 cs)
noncomputable def partQ (agg : Bool) (off sz : Nat) (cs : List PV) : Option PV :=
  match Nat.ble (off + sz) (lenQ cs) with
  | true => (match agg with
    | true => some (.agg (takeQ (dropQ cs off) sz))
    | false => nthQ cs off)
  | false => Option.none
theorem partQ_eq (agg : Bool) (off sz : Nat) (cs : List PV) : partQ agg off sz cs = part agg off sz cs := by
  unfold partQ part
  rw [lenQ_eq, takeQ_eq, dropQ_eq, nthQ_eq]
  by_cases h : off + sz ≤ cs.length
  · rw [Nat.ble_eq_true_of_le h, if_pos h]; cases agg <;> rfl
  · rw [show Nat.ble (off + sz) cs.length = false from by
      cases h2 : Nat.ble (off + sz) cs.length with
      | false => rfl
      | true => exact absurd (Nat.le_of_ble_eq_true h2) h, if_neg h]
noncomputable def qp_load (C : Calls') (L : XO → PV) (S : Subs) (agg : Bool) (sz : Nat) (x : XO) : Option PV :=
  match L x with
  | .ref r p i m => (match objCells (S r p) with
    | some cs => (match Nat.ble (i + sz) (lenQ cs) && Nat.blt 0 m with
      | true => (match agg with
        | true => some (.agg (alL r p i (takeQ (dropQ cs i) sz)))
        | false => (match nthQ cs i with
          | some c => some (al r (appQ p [i]) c)
          | Option.none => Option.none))
      | false => Option.none)
    | Option.none => Option.none)
  | .sp cs => partQ agg 0 sz cs
  | _ => Option.none
theorem qp_load_eq (C : Calls') (L : XO → PV) (S : Subs) (agg : Bool) (sz : Nat) (x : XO) : qp_load C L S agg sz x = evP C L S (.load agg sz x) := by
  simp only [qp_load, evP, partQ_eq, nthQ_eq, dropQ_eq, takeQ_eq, appQ_eq, lenQ_eq, bltN]
  cases L x <;> try rfl
  rename_i r p i m
  simp only
  cases objCells (S r p) with
  | none => rfl
  | some cs =>
    simp only
    by_cases h : i + sz ≤ cs.length
    · rw [Nat.ble_eq_true_of_le h]
      by_cases h2 : 0 < m
      · simp only [h, h2, decide_true, Bool.and_self, and_self, if_true]
        cases agg
        · simp only [Bool.false_eq_true, if_false]; cases cs[i]? <;> rfl
        · rfl
      · simp [h2]
    · rw [show Nat.ble (i + sz) cs.length = false from by
        cases h2 : Nat.ble (i + sz) cs.length with
        | false => rfl
        | true => exact absurd (Nat.le_of_ble_eq_true h2) h]
      simp [h]
def lendQ (S : Subs) (v : PV) : Option PV :=
  match v with
  | .int k n => some (.int k n)
  | .str s => some (.str s)
  | v => lend S v
theorem lendQ_eq (S : Subs) (v : PV) : lendQ S v = lend S v := by cases v <;> rfl
noncomputable def lendLQ (S : Subs) (l : List PV) : Option (List PV) := List.rec (motive := fun _ => Option (List PV)) (some []) (fun v _ ih => match lendQ S v with
  | some x => (match ih with
    | some xs => some (x :: xs)
    | Option.none => Option.none)
  | Option.none => Option.none) l
theorem lendLQ_eq (S : Subs) : ∀ l : List PV, lendLQ S l = lendL S l
  | [] => rfl
  | v :: l => by
    have ih := lendLQ_eq S l
    show (match lendQ S v with
      | some x => (match lendLQ S l with
        | some xs => some (x :: xs)
        | Option.none => Option.none)
      | Option.none => Option.none) = _
    rw [ih, lendQ_eq]
    simp only [lendL]
    cases lend S v <;> cases lendL S l <;> rfl
noncomputable def qp_call (C : Calls') (L : XO → PV) (S : Subs) (f : Nat) (args : List XO) : Option PV :=
  match lendLQ S (mapQ L args) with
  | some ws => (match C f ws with
    | some (r, _) => (match r.flat with
      | true => some r
      | false => (match (mapQ L args).any lent with
        | false => some r
        | true => Option.none))
    | Option.none => Option.none)
  | Option.none => Option.none
theorem qp_call_eq (C : Calls') (L : XO → PV) (S : Subs) (f : Nat) (args : List XO) : qp_call C L S f args = evP C L S (.call f args []) := by
  simp only [qp_call, evP, lendLQ_eq, mapQ_eq]
  cases lendL S (args.map L) with
  | none => rfl
  | some ws =>
    simp only
    cases C f ws with
    | none => rfl
    | some q =>
      obtain ⟨r, o⟩ := q
      simp only
      cases r.flat <;> cases (args.map L).any lent <;> rfl
noncomputable def qp_iadr (C : Calls') (L : XO → PV) (S : Subs) (sz : Nat) (arr : Option Nat) (x i : XO) : Option PV :=
  match arr with
  | some n => evP C L S (.iadr sz (some n) x i)
  | Option.none => (match L x with
    | .sl n cs => (match L i with
      | .int _ j => (match idxOk j n with
        | true => some (.sp (takeQ (dropQ cs (j.toNat * sz)) sz))
        | false => Option.none)
      | _ => Option.none)
    | _ => evP C L S (.iadr sz Option.none x i))
theorem qp_iadr_eq (C : Calls') (L : XO → PV) (S : Subs) (sz : Nat) (arr : Option Nat) (x i : XO) : qp_iadr C L S sz arr x i = evP C L S (.iadr sz arr x i) := by
  cases arr with
  | some n => rfl
  | none =>
    simp only [qp_iadr, takeQ_eq, dropQ_eq]
    split
    · rename_i n cs hx
      simp only [evP, hx]
      cases L i <;> try rfl
      rename_i k j
      simp only
      cases idxOk j n <;> rfl
    · rfl
noncomputable def qp_slc (C : Calls') (L : XO → PV) (S : Subs) (sz : Nat) (x : XO) (lo hi : Option XO) : Option PV :=
  match L x with
  | .str s => (match Nat.beq sz 0 with
    | true => (match bnd L (lenQ s) hi (lenQ s) with
      | some h => (match bnd L h lo 0 with
        | some l => some (.str (dropQ (takeQ s h) l))
        | Option.none => Option.none)
      | Option.none => Option.none)
    | false => Option.none)
  | _ => evP C L S (.slc sz x lo hi)
theorem qp_slc_eq (C : Calls') (L : XO → PV) (S : Subs) (sz : Nat) (x : XO) (lo hi : Option XO) : qp_slc C L S sz x lo hi = evP C L S (.slc sz x lo hi) := by
  simp only [qp_slc, lenQ_eq, takeQ_eq, dropQ_eq, beqN]
  split
  · rename_i s hx
    simp only [evP, hx]
    by_cases h : sz = 0
    · simp only [h, decide_true, if_true]
      cases bnd L s.length hi s.length with
      | none => rfl
      | some a => simp only; cases bnd L a lo 0 <;> rfl
    · simp only [h, decide_false, if_false]
  · rfl

def qp_mv (C : Calls') (L : XO → PV) (S : Subs) (x : XO) : Option PV := match L x with | .none => Option.none | v => some v
def qp_pick (C : Calls') (L : XO → PV) (S : Subs) (c : XO) (a : XO) (b : XO) : Option PV := match L c with
    | .bool true => some (L a)
    | .bool false => some (L b)
    | _ => Option.none
def qp_alloc (C : Calls') (L : XO → PV) (S : Subs) (z : List PV) : Option PV := some (.box z)
def qp_box (C : Calls') (L : XO → PV) (S : Subs) (x : XO) : Option PV := let ys := cells (L x); if ys.all PV.free then some (.box ys) else Option.none
def qp_beq (C : Calls') (L : XO → PV) (S : Subs) (neg : Bool) (x : XO) (y : XO) : Option PV := (pvBeq (L x) (L y)).map fun b => .bool (neg ^^ b)
def qp_peq (C : Calls') (L : XO → PV) (S : Subs) (neg : Bool) (x : XO) (y : XO) : Option PV := (pvPeq (L x) (L y)).map fun b => .bool (neg ^^ b)
def qp_aeq (C : Calls') (L : XO → PV) (S : Subs) (neg : Bool) (z : List PV) (x : XO) (y : XO) : Option PV := (pvAeq z (L x) (L y)).map fun b => .bool (neg ^^ b)
def qp_un (C : Calls') (L : XO → PV) (S : Subs) (op : UnOp) (x : XO) : Option PV := pvUn op (L x)
def qp_conv (C : Calls') (L : XO → PV) (S : Subs) (k : IntKind) (x : XO) : Option PV := match L x with
    | .int _ n => some (.int k (k.wrap n))
    | _ => Option.none
def qp_mksl (C : Calls') (L : XO → PV) (S : Subs) (sz : Nat) (bytes : Nat) (z : List PV) (l : XO) (c : XO) : Option PV := match L l, L c with
    | .int _ n, .int _ m => if n = m ∧ 0 ≤ n ∧ n.toNat * bytes ≤ lim ∧ n.toNat ≤ lim then some (mkOwn sz n.toNat (rep n.toNat z)) else Option.none
    | _, _ => Option.none
def qp_fadr (C : Calls') (L : XO → PV) (S : Subs) (off : Nat) (x : XO) : Option PV := match L x with
    | .ref r p i m => if off < m then some (.ref r p (i + off) (m - off)) else Option.none
    | .sp cs => if off < cs.length then some (.sp (cs.drop off)) else Option.none
    | _ => Option.none
def qp_fld (C : Calls') (L : XO → PV) (S : Subs) (agg : Bool) (off : Nat) (sz : Nat) (x : XO) : Option PV := match L x with
    | .agg cs => part agg off sz cs
    | _ => Option.none
def qp_idx (C : Calls') (L : XO → PV) (S : Subs) (agg : Bool) (sz : Nat) (n : Nat) (x : XO) (i : XO) : Option PV := match L x, L i with
    | .agg cs, .int _ j => if idxOk j n then part agg (j.toNat * sz) sz cs else Option.none
    | _, _ => Option.none
def qp_len (C : Calls') (L : XO → PV) (S : Subs) (str : Bool) (x : XO) : Option PV := match L x with
    | .str s => if str then some (.int .i64 s.length) else Option.none
    | .sl n _ => if str then Option.none else some (.int .i64 n)
    | .view _ _ _ n _ => if str then Option.none else some (.int .i64 n)
    | .nils => if str then Option.none else some (.int .i64 0)
    | _ => Option.none
def qp_lenk (C : Calls') (L : XO → PV) (S : Subs) (n : Nat) : Option PV := some (.int .i64 n)
def qp_ext (C : Calls') (L : XO → PV) (S : Subs) (x : XO) (i : Nat) : Option PV := match L x with
    | .tup vs => match vs[i]? with
      | some (.agg cs) => if cs.all PV.free then some (.agg cs) else Option.none
      | some v => if v.free then some v else Option.none
      | _ => Option.none
    | _ => Option.none
def qp_nilck (C : Calls') (L : XO → PV) (S : Subs) (x : XO) : Option PV := match L x with
    | .ref r p i m => some (.ref r p i m)
    | .sp cs => some (.sp cs)
    | _ => Option.none
def qp_callv (C : Calls') (L : XO → PV) (S : Subs) (x : XO) (args : List XO) : Option PV := match L x with
    | .fn f caps =>
      let vs := args.map L
      match lendL S vs, lendCaps S caps with
      | some ws, some us => match C f (ws ++ us) with
        | some (r, _) => if r.flat || !(vs.any lent || lent (.fn f caps)) then some r else Option.none
        | _ => Option.none
      | _, _ => Option.none
    | _ => Option.none
def qp_mkfn (C : Calls') (L : XO → PV) (S : Subs) (f : Nat) (caps : List XO) : Option PV :=
    let vs := caps.map L
    if vs.all PV.isCap then some (.fn f vs) else Option.none
def qp_mx (C : Calls') (L : XO → PV) (S : Subs) (x : XO) (y : XO) : Option PV := match L x, L y with
    | .int k a, .int k' b => if k = k' then some (.int k (if a < b then b else a)) else Option.none
    | _, _ => Option.none
def qp_mn (C : Calls') (L : XO → PV) (S : Subs) (x : XO) (y : XO) : Option PV := match L x, L y with
    | .int k a, .int k' b => if k = k' then some (.int k (if b < a then b else a)) else Option.none
    | _, _ => Option.none
def qp_b2s (C : Calls') (L : XO → PV) (S : Subs) (x : XO) : Option PV := match slCells S (L x) with
    | some (n, cs) => if n = cs.length then (bytesOf cs).map .str else Option.none
    | _ => Option.none
def qp_app (C : Calls') (L : XO → PV) (S : Subs) (sz : Nat) (bytes : Nat) (s : XO) (x : XO) : Option PV := match L s with
    | .nils => match slCells S (L x) with
      | some (n, cs) => if n * sz = cs.length ∧ n * bytes ≤ lim ∧ n ≤ lim ∧ cs.all PV.free ∧ 0 < sz then some (mkOwn sz n cs) else Option.none
      | _ => Option.none
    | _ => Option.none
noncomputable def evPQ (C : Calls') (L : XO → PV) (S : Subs) : XOp → Option PV
  | .mv x => qp_mv C L S x
  | .pick c a b => qp_pick C L S c a b
  | .alloc z => qp_alloc C L S z
  | .box x => qp_box C L S x
  | .build z ps => qp_build C L S z ps
  | .bsl sz len z ps => qp_bsl C L S sz len z ps
  | .load agg sz x => qp_load C L S agg sz x
  | .bin op x y => qp_bin C L S op x y
  | .beq neg x y => qp_beq C L S neg x y
  | .peq neg x y => qp_peq C L S neg x y
  | .aeq neg z x y => qp_aeq C L S neg z x y
  | .un op x => qp_un C L S op x
  | .conv k x => qp_conv C L S k x
  | .mksl sz bytes z l c => qp_mksl C L S sz bytes z l c
  | .slc sz x lo hi => qp_slc C L S sz x lo hi
  | .fadr off x => qp_fadr C L S off x
  | .fld agg off sz x => qp_fld C L S agg off sz x
  | .iadr sz arr x i => qp_iadr C L S sz arr x i
  | .idx agg sz n x i => qp_idx C L S agg sz n x i
  | .idxs x i => qp_idxs C L S x i
  | .len str x => qp_len C L S str x
  | .lenk n => qp_lenk C L S n
  | .ext x i => qp_ext C L S x i
  | .nilck x => qp_nilck C L S x
  | .call f args [] => qp_call C L S f args
  | .callv x args => qp_callv C L S x args
  | .mkfn f caps => qp_mkfn C L S f caps
  | .mx x y => qp_mx C L S x y
  | .mn x y => qp_mn C L S x y
  | .b2s x => qp_b2s C L S x
  | .app sz bytes s x => qp_app C L S sz bytes s x
  | _ => Option.none
theorem evPQ_eq (C : Calls') (L : XO → PV) (S : Subs) (op : XOp) : evPQ C L S op = evP C L S op := by
  cases op
  case call f args muts =>
    cases muts
    · exact qp_call_eq C L S f args
    · rfl
  case idxs x i => exact qp_idxs_eq C L S x i
  case load a z x => exact qp_load_eq C L S a z x
  case iadr z n x i => exact qp_iadr_eq C L S z n x i
  case slc z x l h => exact qp_slc_eq C L S z x l h
  case bin p x y => exact pvBinQ_eq p (L x) (L y)
  case build z ps => simp only [evPQ, evP, qp_build, fillQ_eq lokQ_eq]
  case bsl z n c ps => simp only [evPQ, evP, qp_bsl, repQ_eq, fillQ_eq freeQ_eq, mapQ_eq]
  all_goals rfl
def qs_asg (C : Calls') (e : Env) (dst : Option Nat) (x : XO) : Option Env := match dst with
    | some d => match look e x with
      | .agg cs => (takeL e [] cs).map fun (ys, e') => e'.setD d (.agg ys)
      | .view r p off len z =>
        if r = d ∧ p = [] then
          match e.get d with
          | .own sz n cs =>
            if z ≠ sz then Option.none
            else if off = 0 ∧ len * sz ≤ cs.length then some (e.setD d (.own sz len (cs.take (len * sz))))
            else if off + len * sz ≤ cs.length then (frzL ((cs.drop off).take (len * sz))).map fun ds => e.setD d (.sl len ds)
            else Option.none
          | _ => Option.none
        else (take1 e (.view r p off len z)).map fun (v, e') => e'.setD d v
      | .ref r p i m =>
        if isT x r then (take1 e (.ref r p i m)).map fun (v, e') => e'.setD d v
        else if r = d then Option.none else some (e.setD d (.ref r p i m))
      | .fn f cs => some (e.setD d (purge1 (und d []) (.fn f cs)))
      | .sp cs => some (e.setD d (.sp cs))
      | v => (take1 e v).map fun (v, e') => e'.setD d v
    | _ => Option.none
def qs_box (C : Calls') (e : Env) (dst : Option Nat) (x : XO) : Option Env := match dst with
    | some d => (takeL e [] (cells (look e x))).map fun (ys, e') => e'.setD d (.box ys)
    | _ => Option.none
def qs_store (C : Calls') (e : Env) (dst : Option Nat) (sz : Nat) (a : XO) (x : XO) : Option Env := match look e a with
    | .ref r p i _ =>
      match takeL e [] (cells (look e x)) with
      | some (ys, e') => match objCells (e'.sub r p) with
        | some cs => if ys.length = sz ∧ i + sz ≤ cs.length ∧ 0 < sz ∧ canUpd e' r p = true then
            some ((putObj e' r p (setCells cs i ys)).purgeBy (deep r p))
          else Option.none
        | _ => Option.none
      | _ => Option.none
    | _ => Option.none
def qs_bsl (C : Calls') (e : Env) (dst : Option Nat) (sz : Nat) (len : Nat) (u2 : List PV) (ps : List (Nat × Nat × XO)) : Option Env := match dst with
    | some d => match ps with
      | [(off, sz', x)] =>
        if off = 0 ∧ len = 1 ∧ sz' = sz ∧ (cells (look e x)).length = sz then (packL e (cells (look e x))).map fun (ys, e') => e'.setD d (.own sz 1 ys) else Option.none
      | _ => Option.none
    | _ => Option.none
def qs_app (C : Calls') (e : Env) (dst : Option Nat) (sz : Nat) (bytes : Nat) (s : XO) (x : XO) : Option Env := match dst with
    | some d => match look e s with
      | .view r p off len z => match e.sub r p with
        | .own sz' n cs => match slCells e.sub (look e x) with
          | some (m, new) =>
            if off = 0 ∧ sz' = sz ∧ z = sz ∧ len ≤ n ∧ len * sz ≤ cs.length ∧ m * sz = new.length ∧ (len + m) * bytes ≤ lim ∧ len + m ≤ lim ∧ new.all PV.free ∧ r ≠ d ∧ canUpd e r p = true ∧ 0 < sz then
              some (((e.upd r p .none).purge r p).setD d (.own sz (len + m) (cs.take (len * sz) ++ new)))
            else Option.none
          | _ => Option.none
        | _ => Option.none
      | _ => Option.none
    | _ => Option.none
def qs_ext (C : Calls') (e : Env) (dst : Option Nat) (x : XO) (i : Nat) : Option Env := match dst with
    | some d => match x with
      | .t n => match e.get n with
        | .tup vs => match vs[i]? with
          | some v => if n ≠ d ∧ canUpd e n [i] = true ∧ v.isNone = false then some (((e.upd n [i] .none).purge n [i]).setD d v) else Option.none
          | _ => Option.none
        | _ => Option.none
      | _ => Option.none
    | _ => Option.none
def qs_call (C : Calls') (e : Env) (dst : Option Nat) (f : Nat) (args : List XO) (muts : List Nat) : Option Env :=
    match rowAt e muts (args.map (look e)) with
    | some (k, q, p, sz, n, cs) =>
      if canUpd e q p = true ∧ ((args.map (look e)).set k (.own sz n cs)).all (fun w => (refs w).isEmpty) then
        match C f ((args.map (look e)).set k (.own sz n cs)) with
        | some (r, outs) => match outs[k]? with
          | some (.own sz' n' ds) => if sz' = sz ∧ n' = n then some (setO ((e.upd q p (.own sz n ds)).purge q p) dst r) else Option.none
          | _ => Option.none
        | _ => Option.none
      else Option.none
    | Option.none =>
    match passL e [] (args.map (look e)) with
    | some (ws, e1) => match refAt ws with
      | Option.none => if ws.all (fun w => (refs w).isEmpty) then (match C f ws with
        | some (r, _) => some (setO e1 dst r)
        | _ => Option.none) else Option.none
      | some (k, q, p, m) => match e1.sub q p with
        | .box cs => if 0 < cs.length ∧ 0 < m ∧ canUpd e1 q p = true ∧ (ws.set k (.box cs)).all (fun w => (refs w).isEmpty) then
            match C f (ws.set k (.box cs)) with
            | some (r, outs) => match outs[k]? with
              | some (.box ds) => some (setO ((e1.upd q p (.box ds)).purge q p) dst r)
              | _ => Option.none
            | _ => Option.none
          else Option.none
        | _ => Option.none
    | _ => Option.none
def evSQ0 (C : Calls') (e : Env) (dst : Option Nat) : XOp → Option Env
  | .asg x => qs_asg C e dst x
  | .box x => qs_box C e dst x
  | .store sz a x => qs_store C e dst sz a x
  | .bsl sz len u2 ps => qs_bsl C e dst sz len u2 ps
  | .app sz bytes s x => qs_app C e dst sz bytes s x
  | .ext x i => qs_ext C e dst x i
  | .call f args muts => qs_call C e dst f args muts
  | _ => Option.none
theorem evSQ0_eq (C : Calls') (e : Env) (dst : Option Nat) (op : XOp) : evSQ0 C e dst op = evS C e dst op := by
  cases op <;> rfl

def simpleQ : PV → Bool
  | .int _ _ => true
  | .bool _ => true
  | .str _ => true
  | .sl _ _ => true
  | .nils => true
  | _ => false
noncomputable def asgQ (C : Calls') (e : Env) (dst : Option Nat) (x : XO) : Option Env :=
  match simpleQ (lookQ e x) with
  | true => (match dst with
    | some d => some (setDQ e d (lookQ e x))
    | Option.none => Option.none)
  | false => evSQ0 C e dst (.asg x)
theorem asgQ_eq (C : Calls') (e : Env) (dst : Option Nat) (x : XO) : asgQ C e dst x = evS C e dst (.asg x) := by
  unfold asgQ
  rw [evSQ0_eq, lookQ_eq]
  split
  · rename_i h
    cases dst with
    | none => rfl
    | some d =>
      simp only [evS, setDQ_eq]
      cases hl : look e x <;> rw [hl] at h <;> first | (simp [simpleQ] at h; done) | simp [take1, PV.free]
  · rfl
theorem takeL_free (e : Env) : ∀ (cs : List PV), cs.all PV.free = true → takeL e [] cs = some (cs, e)
  | [], _ => rfl
  | c :: cs, h => by
    simp only [List.all_cons, Bool.and_eq_true] at h
    have h1 : take1 e c = some (c, e) := by cases c <;> first | rfl | (simp [PV.free] at h; done)
    have h2 : refs c = [] := by cases c <;> first | rfl | (simp [PV.free] at h; done)
    simp only [takeL, purges, h1, h2, List.append_nil, takeL_free e cs h.2]
noncomputable def setCellsQ (cs : List PV) (i : Nat) (ys : List PV) : List PV := appQ (takeQ cs i) (appQ ys (dropQ cs (i + lenQ ys)))
theorem setCells_eq : ∀ (ys cs : List PV) (i : Nat), i + ys.length ≤ cs.length → setCells cs i ys = cs.take i ++ (ys ++ cs.drop (i + ys.length))
  | [], cs, i, h => by simp [setCells]
  | y :: ys, cs, i, h => by
    simp only [List.length_cons] at h
    rw [setCells, setCells_eq ys (cs.set i y) (i + 1) (by simp; omega)]
    have hi : i < cs.length := by omega
    rw [List.take_set, List.drop_set_of_lt (by omega)]
    have e1 : (cs.take (i + 1)).set i y = cs.take i ++ [y] := by
      rw [List.take_succ_eq_append_getElem hi, List.set_append_right _ _ (by simp; omega)]
      simp [Nat.min_eq_left (by omega : i ≤ cs.length)]
    rw [e1, show i + 1 + ys.length = i + (y :: ys).length by simp; omega]
    simp
noncomputable def storeQ (C : Calls') (e : Env) (dst : Option Nat) (sz : Nat) (a x : XO) : Option Env :=
  match lookQ e a with
  | .ref r p i m => (match freeQ (cells (lookQ e x)) with
    | true => (match objCells (e.sub r p) with
      | some cs => (match Nat.beq (lenQ (cells (lookQ e x))) sz && Nat.ble (i + sz) (lenQ cs) && Nat.blt 0 sz && canUpd e r p with
        | true => some ((putObj e r p (setCellsQ cs i (cells (lookQ e x)))).purgeBy (deep r p))
        | false => Option.none)
      | Option.none => Option.none)
    | false => evSQ0 C e dst (.store sz a x))
  | _ => evSQ0 C e dst (.store sz a x)
theorem storeQ_eq (C : Calls') (e : Env) (dst : Option Nat) (sz : Nat) (a x : XO) : storeQ C e dst sz a x = evS C e dst (.store sz a x) := by
  unfold storeQ
  simp only [evSQ0_eq, lookQ_eq, freeQ_eq, lenQ_eq, beqN, bltN]
  split
  · rename_i r p i m ha
    split
    · rename_i hf
      simp only [evS, ha, takeL_free e _ hf]
      cases objCells (e.sub r p) with
      | none => rfl
      | some cs =>
        simp only
        by_cases h1 : (cells (look e x)).length = sz
        · by_cases h2 : i + sz ≤ cs.length
          · rw [Nat.ble_eq_true_of_le h2]
            by_cases h3 : 0 < sz
            · cases h4 : canUpd e r p with
              | false => simp [h1, h2, h3]
              | true =>
                simp only [h1, h2, h3, decide_true, Bool.and_self, and_self, if_true]
                rw [show setCellsQ cs i (cells (look e x)) = setCells cs i (cells (look e x)) from by
                  rw [setCells_eq _ _ _ (by omega)]
                  simp only [setCellsQ, appQ_eq, takeQ_eq, dropQ_eq, lenQ_eq]]
            · simp [h3]
          · rw [show Nat.ble (i + sz) cs.length = false from by
              cases h5 : Nat.ble (i + sz) cs.length with
              | false => rfl
              | true => exact absurd (Nat.le_of_ble_eq_true h5) h2]
            simp [h2]
        · simp [h1]
    · rfl
  · rfl
noncomputable def evSQ (C : Calls') (e : Env) (dst : Option Nat) : XOp → Option Env
  | .asg x => asgQ C e dst x
  | .store sz a x => storeQ C e dst sz a x
  | op => evSQ0 C e dst op
theorem evSQ_eq (C : Calls') (e : Env) (dst : Option Nat) (op : XOp) : evSQ C e dst op = evS C e dst op := by
  rw [← evSQ0_eq]
  cases op
  case asg x => rw [evSQ0_eq]; exact asgQ_eq C e dst x
  case store sz a x => rw [evSQ0_eq]; exact storeQ_eq C e dst sz a x
  all_goals rfl


def blockedQ (C : Calls') (L : XO → PV) (S : Subs) : XOp → Bool
  | .call f args [] => blocked C L S (.call f args [])
  | _ => false
theorem blockedQ_eq (C : Calls') (L : XO → PV) (S : Subs) (op : XOp) : blockedQ C L S op = blocked C L S op := by
  cases op
  case call f args muts => cases muts <;> rfl
  all_goals rfl
noncomputable def wantsQ (e : Env) : Option (Nat × Bool) → Option Bool
  | Option.none => some true
  | some (d, want) => match getQ e d with
    | .bool b => some (b == want)
    | .tup [] => some false
    | _ => Option.none
theorem wantsQ_eq (e : Env) (o : XI) : wantsQ e o.guard = wants e o := by
  unfold wantsQ wants wantsG
  simp only [getQ_eq]
  rfl
noncomputable def stepQ (C : Calls') (e : Env) (o : XI) : Option Env :=
  match wantsQ e o.guard with
  | some true => match evPQ C (lookQ e) e.sub o.op with
    | some v => match o.dst with
      | some d => some (setDQ e d (purgeD d v))
      | Option.none => match blockedQ C (lookQ e) e.sub o.op with
        | true => Option.none
        | false => evSQ C e o.dst o.op
    | Option.none => match blockedQ C (lookQ e) e.sub o.op with
      | true => Option.none
      | false => evSQ C e o.dst o.op
  | some false => match o.dst with
    | some d => some (setDQ e d (.tup []))
    | Option.none => some e
  | Option.none => Option.none
theorem stepQ_eq (C : Calls') (e : Env) (o : XI) : stepQ C e o = step C e o := by
  unfold stepQ step stepP
  simp only [wantsQ_eq, evPQ_eq, lookQ_eq, setDQ_eq, purgeD_eq, blockedQ_eq, evSQ_eq]
  cases wants e o with
  | none => rfl
  | some b => cases b with
    | false => simp only [skipped]; cases o.dst <;> rfl
    | true =>
      simp only
      cases evP C (look e) e.sub o.op with
      | none => simp only; cases blocked C (look e) e.sub o.op <;> rfl
      | some v => cases hd : o.dst with
        | none => simp only; cases blocked C (look e) e.sub o.op <;> rfl
        | some d => rfl
noncomputable def stepsQ (C : Calls') : Env → List XI → Option Env
  | e, [] => some e
  | e, o :: r => match stepQ C e o with
    | some e' => stepsQ C e' r
    | Option.none => Option.none
theorem stepsQ_eq (C : Calls') : ∀ (l : List XI) (e : Env), stepsQ C e l = steps C e l
  | [], e => rfl
  | o :: r, e => by
    simp only [stepsQ, steps, stepQ_eq]
    cases step C e o with
    | none => rfl
    | some e' => exact stepsQ_eq C r e'
noncomputable def stepDQ (C : Calls') (S : Subs) (ds : List Nat) (e : Env) (o : XI) : Option (Nat × PV) :=
  match o.dst with
  | some d => match wantsQ e o.guard with
      | some true => match evPQ C (lookQ e) S o.op with
        | some v => match noRefsQ ds v with
          | true => some (d, v)
          | false => Option.none
        | Option.none => Option.none
      | some false => some (d, .tup [])
      | Option.none => Option.none
  | Option.none => Option.none
theorem stepDQ_eq (C : Calls') (S : Subs) (ds : List Nat) (e : Env) (o : XI) : stepDQ C S ds e o = stepD C S ds e o := by
  unfold stepDQ stepD
  simp only [wantsQ_eq, evPQ_eq, lookQ_eq, noRefsQ_eq]
  cases o.dst with
  | none => rfl
  | some d =>
    simp only
    cases wants e o with
    | none => rfl
    | some b => cases b with
      | false => rfl
      | true =>
        simp only
        cases evP C (look e) S o.op with
        | none => rfl
        | some v => simp only; cases noRefs ds v <;> rfl
noncomputable def stepsDQ (C : Calls') (S : Subs) (ds : List Nat) : Env → List XI → Option Env
  | e, [] => some e
  | e, o :: r => match o.bar with
    | true => match r.all (·.bar) with
      | true => stepsQ C e (o :: r)
      | false => Option.none
    | false => match stepDQ C S ds e o with
      | some (d, v) => match getQ e d with
        | .none => stepsDQ C S ds (setQ e d v) r
        | _ => Option.none
      | Option.none => Option.none
theorem stepsDQ_eq (C : Calls') (S : Subs) (ds : List Nat) : ∀ (l : List XI) (e : Env), stepsDQ C S ds e l = stepsD C S ds e l
  | [], e => rfl
  | o :: r, e => by
    simp only [stepsDQ, stepsD, stepsQ_eq, stepDQ_eq, getQ_eq, setQ_eq]
    cases o.bar with
    | true => simp only [if_true]; cases r.all (·.bar) <;> simp
    | false =>
      simp only [Bool.false_eq_true, if_false]
      cases stepD C S ds e o with
      | none => rfl
      | some q =>
        obtain ⟨d, v⟩ := q
        simp only
        cases e.get d <;> first | rfl | exact stepsDQ_eq C S ds r _
noncomputable def allQ (ds : List Nat) : Env → Bool
  | [] => true
  | (k, v) :: r => match noRefsQ ds v with
    | true => match memQ ds k with
      | true => false
      | false => allQ ds r
    | false => false
theorem allQ_eq (ds : List Nat) : ∀ e : Env, allQ ds e = e.all (fun x => noRefs ds x.2 && !ds.contains x.1)
  | [] => rfl
  | (k, v) :: r => by
    simp only [allQ, List.all_cons, noRefsQ_eq, memQ_eq, allQ_eq ds r]
    cases noRefs ds v <;> cases ds.contains k <;> simp
noncomputable def regDQ (C : Calls') (e : Env) (ops : List XI) : Option Env :=
  match allQ (dstsOf ops) e with
  | true => stepsDQ C e.sub (dstsOf ops) e ops
  | false => Option.none
theorem regDQ_eq (C : Calls') (e : Env) (ops : List XI) : regDQ C e ops = regD C e ops := by
  unfold regDQ regD
  simp only [allQ_eq, stepsDQ_eq]
  cases e.all (fun x => noRefs (dstsOf ops) x.2 && !(dstsOf ops).contains x.1) <;> simp
noncomputable def fgtQ (k : List Nat) (x : Option (Ex × Env)) : Option (Ex × Env) :=
  match x with
  | some (.norm, e) => some (.norm, keepQ k e)
  | r => r
theorem fgtQ_eq (k : List Nat) (x : Option (Ex × Env)) : fgtQ k x = fgt k x := by
  unfold fgtQ fgt
  simp only [keepQ_eq]
  rfl
noncomputable def regK (k : List Nat) : Option Env → Option (Ex × Env)
  | some e => some (.norm, keepQ k e)
  | Option.none => Option.none
theorem regK_eq (k : List Nat) (x : Option Env) : regK k x = x.map fun e' => (.norm, e'.keep k) := by
  cases x <;> simp [regK, keepQ_eq]
noncomputable def blockQ (id : Nat) (x : Option (Ex × Env)) : Option (Ex × Env) :=
  match x with
  | some (.exit id', e') => match Nat.beq id' id with
    | true => some (.norm, e')
    | false => some (.exit id', e')
  | r => r
theorem blockQ_eq (id : Nat) (x : Option (Ex × Env)) : blockQ id x = blockK id x := by
  cases x with
  | none => rfl
  | some q =>
    obtain ⟨ex, e⟩ := q
    cases ex with
    | norm => rfl
    | ret => rfl
    | exit i =>
      simp only [blockQ, blockK]
      cases h : Nat.beq i id with
      | true => rw [if_pos (Nat.eq_of_beq_eq_true h)]
      | false => rw [if_neg (fun hh => by rw [hh, Nat.beq_refl] at h; cases h)]
/-- one round of the evaluator -/
noncomputable def evC1 (C : Calls') (rec : XC → Env → Option (Ex × Env)) (e : Env) : XC → Option (Ex × Env)
  | .skip => some (.norm, e)
  | .reg ops draw keep => match draw with
    | true => regK keep (regDQ C e ops)
    | false => regK keep (stepsQ C e ops)
  | .seq a b => match rec a e with
    | some (.norm, e') => rec b e'
    | r => r
  | .cond x a b k => match lookQ e x with
    | .bool true => fgtQ k (rec a e)
    | .bool false => fgtQ k (rec b e)
    | _ => Option.none
  | .block id b k => fgtQ k (blockQ id (rec b e))
  | .loop b k => match fgtQ k (rec b e) with
    | some (.norm, e') => rec (.loop b k) e'
    | r => r
  | .exit id k => some (.exit id, keepQ k e)
  | .ret => some (.ret, e)
noncomputable def evCQ (C : Calls') : Nat → XC → Env → Option (Ex × Env)
  | 0 => fun _ _ => Option.none
  | n + 1 => fun c e => evC1 C (evCQ C n) e c
theorem evCQ_eq (C : Calls') : ∀ (n : Nat) (c : XC) (e : Env), evCQ C n c e = evC C n c e
  | 0, c, e => by simp [evCQ, evC]
  | n + 1, c, e => by
    have ih := evCQ_eq C n
    cases c with
    | skip => rfl
    | ret => rfl
    | reg ops draw keep => cases draw <;> simp [evCQ, evC1, evC, regDQ_eq, stepsQ_eq, regK_eq]
    | seq a b =>
      simp only [evCQ, evC1, evC, ih]
      rfl
    | cond x a b k =>
      simp only [evCQ, evC1, evC, ih, lookQ_eq, fgtQ_eq]
      cases look e x <;> try rfl
      rename_i bb
      cases bb <;> rfl
    | block id b k =>
      simp only [evCQ, evC1, evC, ih, fgtQ_eq, blockQ_eq]
      rfl
    | loop b k =>
      simp only [evCQ, evC1, evC, ih, fgtQ_eq]
      rfl
    | exit id k => simp only [evCQ, evC1, evC, keepQ_eq]
noncomputable def retQ (x : XF) (ws : List PV) (y : Option (Ex × Env)) : Option (PV × List PV) := retK x ws y
noncomputable def callQ (rec : Calls') (n : Nat) (ws : List PV) (x : XF) : Option (PV × List PV) :=
  match x.ext with
  | some k => extSem k ws
  | Option.none => match Nat.beq ws.length x.np with
    | true => retK x ws (evCQ rec n x.body (params 0 (argsIn x.nk ws)))
    | false => Option.none
noncomputable def evFQ (T : Nat → Option XF) : Nat → Calls'
  | 0 => fun _ _ => Option.none
  | n + 1 => fun f args => match T f with
    | some x => callQ (evFQ T n) n args x
    | Option.none => Option.none
theorem evFQ_eq (T : Nat → Option XF) : ∀ n, evFQ T n = evF T n
  | 0 => by funext f ws; simp [evFQ, evF]
  | n + 1 => by
    funext f ws
    simp only [evFQ, evF, callQ, evFQ_eq T n, evCQ_eq]
    cases T f with
    | none => rfl
    | some x =>
      simp only
      cases x.ext with
      | some k => rfl
      | none =>
        simp only
        cases h : Nat.beq ws.length x.np with
        | true =>
          rw [if_pos (Nat.eq_of_beq_eq_true h)]
          simp only [retK]
          cases evC (evF T n) n x.body (params 0 (argsIn x.nk ws)) with
          | none => rfl
          | some q => obtain ⟨ex, e⟩ := q; cases ex <;> rfl
        | false => rw [if_neg (fun hh => by rw [hh, Nat.beq_refl] at h; cases h)]
/-- a call in pieces -/
theorem call3_ok {T : Nat → Option XF} {M : Tab} (hM : TabOk T M) {m n f : Nat} {x : XF} {ws : List PV} {r : PV × List PV} (hx : T f = some x) (h : callQ (memoC M (evFQ T m)) n ws x = some r) : evI T f ws = some r := by
  refine call2_ok hM (m := m) (n := n) hx ?_
  rw [← h, evFQ_eq]
  unfold call1 callQ
  simp only [evCQ_eq]
  all_goals rfl

end Go.Ab
