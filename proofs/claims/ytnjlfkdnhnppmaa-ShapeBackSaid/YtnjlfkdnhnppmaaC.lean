/-
  The evaluator without fuel: limits, and the equations by which code is gone through.
-/
import Derived.Test.YtnjlfkdnhnppmaaB
import Derived.Carry
import GoSem.ClaimChange
import Derived.WalkKit
import Derived.ProofKit
import Derived.OpenShut
import Derived.JoinedCond
namespace Go.Ab
open Go
set_option linter.unusedVariables false
set_option linter.unusedSimpArgs false

/-! ### More callees, more answers -/
def CLe (C C' : Calls') : Prop := ∀ f ws r, C f ws = some r → C' f ws = some r

theorem CLe.refl (C : Calls') : CLe C C := fun _ _ _ h => h
theorem CLe.trans {C C' C'' : Calls'} (h : CLe C C') (h' : CLe C' C'') : CLe C C'' := fun _ _ _ hh => h' _ _ _ (h _ _ _ hh)

theorem evP_mono {C C' : Calls'} (h : CLe C C') {L : XO → PV} {S : Subs} {op : XOp} {v : PV} (hv : evP C L S op = some v) : evP C' L S op = some v := by
  cases op
  case call f args muts =>
    cases muts with
    | cons m ms => simp [evP] at hv
    | nil =>
      simp only [evP] at hv ⊢
      split at hv
      · rename_i ws hws
        split at hv
        · rename_i r o hr
          rw [h _ _ _ hr]; exact hv
        · cases hv
      · cases hv
  case callv x args =>
    simp only [evP] at hv ⊢
    split at hv
    · rename_i f caps hx
      split at hv
      · rename_i ws us hws hus
        split at hv
        · rename_i r o hr
          rw [h _ _ _ hr]; exact hv
        · cases hv
      · cases hv
    · cases hv
  all_goals exact hv

theorem evS_mono {C C' : Calls'} (h : CLe C C') {e e' : Env} {d : Option Nat} {op : XOp} (hv : evS C e d op = some e') : evS C' e d op = some e' := by
  cases op
  case call f args muts =>
    simp only [evS] at hv ⊢
    split at hv
    · rename_i ws e1 hws
      split at hv
      · split at hv
        · rename_i hr
          rw [if_pos hr]
          split at hv
          · rename_i r o hc
            rw [h _ _ _ hc]; exact hv
          · cases hv
        · cases hv
      · split at hv
        · split at hv
          · rename_i hcond
            rw [if_pos hcond]
            split at hv
            · rename_i r outs hc
              rw [h _ _ _ hc]; exact hv
            · cases hv
          · cases hv
        · cases hv
    · cases hv
  all_goals exact hv

/-- an operation that evP does not answer, and that is not blocked, it does not answer with more callees either, unless it is none of the second kind -/
theorem evP_none {C C' : Calls'} (h : CLe C C') {L : XO → PV} {S : Subs} {op : XOp} (hn : evP C L S op = Option.none) (hb : blocked C L S op = false) : (evP C' L S op = Option.none ∧ blocked C' L S op = false) ∨ ∃ x as, op = .callv x as := by
  cases op
  case callv x as => exact .inr ⟨x, as, rfl⟩
  case call f args muts =>
    left
    cases muts with
    | cons m ms => exact ⟨by simp [evP], by simp [blocked]⟩
    | nil =>
      simp only [evP] at hn ⊢
      simp only [blocked] at hb ⊢
      cases hl : lendL S (List.map L args) with
      | none => simp
      | some ws =>
        rw [hl] at hn hb
        simp only at hn hb ⊢
        cases hc : C f ws with
        | none => simp [hc] at hb
        | some r =>
          rw [hc] at hn
          rw [h _ _ _ hc]
          exact ⟨hn, rfl⟩
  all_goals exact .inl ⟨hn, rfl⟩

theorem blocked_mono {C C' : Calls'} (h : CLe C C') {L : XO → PV} {S : Subs} {op : XOp} (hb : blocked C L S op = false) : blocked C' L S op = false := by
  cases op
  case call f args muts =>
    cases muts with
    | cons m ms => rfl
    | nil =>
      simp only [blocked] at hb ⊢
      split
      · rename_i ws hws
        rw [hws] at hb
        simp only at hb
        cases hc : C f ws with
        | none => simp [hc] at hb
        | some r => rw [h _ _ _ hc]; rfl
      · rfl
  all_goals rfl

theorem stepP_mono {C C' : Calls'} (h : CLe C C') {S : Subs} {e e' : Env} {o : XI} (hv : stepP C S e o = some e') : stepP C' S e o = some e' := by
  unfold stepP at hv ⊢
  split at hv
  · rename_i v hp
    rw [evP_mono h hp]; exact hv
  · cases hv

theorem step_mono {C C' : Calls'} (h : CLe C C') {e e' : Env} {o : XI} (hv : step C e o = some e') : step C' e o = some e' := by
  unfold step at hv ⊢
  split at hv
  · split at hv
    · rename_i e1 he1
      obtain rfl := Option.some.inj hv
      rw [stepP_mono h he1]
    · rename_i hn
      split at hv
      · cases hv
      · rename_i hb
        have hb' : blocked C (look e) e.sub o.op = false := by simpa using hb
        unfold stepP at hn
        cases hp : evP C (look e) e.sub o.op with
        | some v =>
          unfold stepP
          rw [evP_mono h hp]
          rw [hp] at hn
          have hd : o.dst = Option.none := by
            cases hd : o.dst with
            | none => rfl
            | some d => simp [hd] at hn
          have hb2 := blocked_mono h hb'
          simp only [hd, hb2, Bool.false_eq_true, if_false]
          rw [hd] at hv
          exact evS_mono h hv
        | none =>
          rcases evP_none h hp hb' with ⟨h1, h2⟩ | ⟨x, as, hop⟩
          · unfold stepP
            rw [h1]
            simp only [h2]
            exact evS_mono h hv
          · rw [hop] at hv
            simp [evS] at hv
  · exact hv
  · cases hv

theorem steps_mono {C C' : Calls'} (h : CLe C C') : ∀ {l : List XI} {e e' : Env}, steps C e l = some e' → steps C' e l = some e'
  | [], e, e', hv => hv
  | o :: r, e, e', hv => by
    simp only [steps] at hv ⊢
    split at hv
    · rename_i e1 h1
      rw [step_mono h h1]
      exact steps_mono h hv
    · cases hv

theorem stepD_mono {C C' : Calls'} (h : CLe C C') {S : Subs} {ds : List Nat} {e : Env} {o : XI} {q : Nat × PV} (hv : stepD C S ds e o = some q) : stepD C' S ds e o = some q := by
  unfold stepD at hv ⊢
  split at hv
  · split at hv
    · split at hv
      · rename_i v hp
        rw [evP_mono h hp]; exact hv
      · cases hv
    · exact hv
    · cases hv
  · cases hv

theorem stepsD_mono {C C' : Calls'} (h : CLe C C') {S : Subs} {ds : List Nat} : ∀ {l : List XI} {e e' : Env}, stepsD C S ds e l = some e' → stepsD C' S ds e l = some e'
  | [], e, e', hv => hv
  | o :: r, e, e', hv => by
    simp only [stepsD] at hv ⊢
    split at hv
    · rename_i hb
      rw [if_pos hb]
      split at hv
      · rename_i ha
        rw [if_pos ha]
        exact steps_mono h hv
      · cases hv
    · rename_i hb
      rw [if_neg hb]
      split at hv
      · rename_i d v hs
        rw [stepD_mono h hs]
        simp only
        split at hv
        · exact stepsD_mono h hv
        · cases hv
      · cases hv

theorem regD_mono {C C' : Calls'} (h : CLe C C') {e e' : Env} {l : List XI} (hv : regD C e l = some e') : regD C' e l = some e' := by
  unfold regD at hv ⊢
  simp only at hv ⊢
  split at hv
  · rename_i ha
    rw [if_pos ha]
    exact stepsD_mono h hv
  · cases hv

def condK (v : PV) (x y : Option (Ex × Env)) : Option (Ex × Env) :=
  match v with
  | .bool true => x
  | .bool false => y
  | _ => Option.none
theorem fgt_inv {k : List Nat} {x : Option (Ex × Env)} {y : Ex × Env} (h : fgt k x = some y) : ∃ z, x = some z ∧ ∀ x', x' = some z → fgt k x' = some y := by
  cases x with
  | none => simp [fgt] at h
  | some z => exact ⟨z, rfl, fun x' hx => by rw [hx]; exact h⟩
theorem condK_some {v : PV} {x y : Option (Ex × Env)} {z : Ex × Env} (h : condK v x y = some z) : (v = .bool true ∧ x = some z) ∨ (v = .bool false ∧ y = some z) := by
  unfold condK at h
  split at h
  · exact .inl ⟨rfl, h⟩
  · exact .inr ⟨rfl, h⟩
  · cases h

theorem evC_mono {C C' : Calls'} (h : CLe C C') : ∀ {n m : Nat} {c : XC} {e : Env} {x : Ex × Env}, n ≤ m → evC C n c e = some x → evC C' m c e = some x
  | 0, m, c, e, x, hn, hv => by simp [evC] at hv
  | n + 1, 0, c, e, x, hn, hv => by omega
  | n + 1, m + 1, c, e, x, hn, hv => by
    have ih : ∀ {c : XC} {e : Env} {x : Ex × Env}, evC C n c e = some x → evC C' m c e = some x := fun {c e x} hv => evC_mono h (by omega) hv
    cases c with
    | skip => exact hv
    | ret => exact hv
    | exit id k => exact hv
    | reg ops draw keep =>
      simp only [evC, Option.map_eq_some_iff] at hv ⊢
      obtain ⟨e', h1, rfl⟩ := hv
      refine ⟨e', ?_, rfl⟩
      cases draw with
      | true => exact regD_mono h h1
      | false => exact steps_mono h h1
    | seq a b =>
      simp only [evC] at hv ⊢
      cases ha : evC C n a e with
      | none => rw [ha] at hv; cases hv
      | some q =>
        obtain ⟨ex, e1⟩ := q
        rw [ha] at hv; rw [ih ha]
        cases ex with
        | norm => exact ih hv
        | exit id => exact hv
        | ret => exact hv
    | cond c a b k =>
      have hv : fgt k (condK (look e c) (evC C n a e) (evC C n b e)) = some x := hv
      obtain ⟨z, hz, hf⟩ := fgt_inv hv
      refine hf (condK (look e c) (evC C' m a e) (evC C' m b e)) ?_
      rcases condK_some hz with ⟨hl, hz⟩ | ⟨hl, hz⟩
      · rw [hl]; exact ih hz
      · rw [hl]; exact ih hz
    | block id b k =>
      simp only [evC] at hv ⊢
      cases ha : evC C n b e with
      | none => rw [ha] at hv; simp [fgt] at hv
      | some q => rw [ha] at hv; rw [ih ha]; exact hv
    | loop b k =>
      simp only [evC] at hv ⊢
      cases ha : evC C n b e with
      | none => rw [ha] at hv; simp [fgt] at hv
      | some q =>
        obtain ⟨ex, e1⟩ := q
        rw [ha] at hv; rw [ih ha]
        cases ex with
        | norm => exact ih hv
        | exit id => exact hv
        | ret => exact hv

theorem evF_mono {T : Nat → Option XF} : ∀ {n m : Nat}, n ≤ m → CLe (evF T n) (evF T m)
  | 0, m, _ => fun f ws r h => by simp [evF] at h
  | n + 1, 0, hn => by omega
  | n + 1, m + 1, hn => fun f ws r h => by
    simp only [evF] at h ⊢
    split at h
    · rename_i x hx
      split at h
      · rename_i hl
        rw [if_pos hl]
        have hle : CLe (evF T n) (evF T m) := evF_mono (by omega)
        cases hb : evC (evF T n) n x.body (params 0 ws) with
        | none => rw [hb] at h; cases h
        | some q => rw [hb] at h; rw [evC_mono hle (by omega) hb]; exact h
      · cases h
    · cases h

/-! ### Limits -/
open Classical in
noncomputable def limO {α : Type} (F : Nat → Option α) : Option α := if h : ∃ n, (F n).isSome then F (Classical.choose h) else Option.none

theorem limO_some {α : Type} {F : Nat → Option α} (hm : ∀ n m x, n ≤ m → F n = some x → F m = some x) {x : α} : limO F = some x ↔ ∃ n, F n = some x := by
  unfold limO
  constructor
  · intro h
    split at h
    · exact ⟨_, h⟩
    · cases h
  · rintro ⟨n, hn⟩
    have h : ∃ n, (F n).isSome := ⟨n, by rw [hn]; rfl⟩
    rw [dif_pos h]
    have hc := Classical.choose_spec h
    obtain ⟨y, hy⟩ := Option.isSome_iff_exists.1 hc
    rw [hy]
    rcases Nat.le_total n (Classical.choose h) with hle | hle
    · rw [hm _ _ _ hle hn] at hy; rw [← hy]
    · rw [hm _ _ _ hle hy] at hn; rw [← hn]

/-- what a function answers -/
noncomputable def evI (T : Nat → Option XF) : Calls' := fun f ws => limO fun n => evF T n f ws
/-- what code does -/
noncomputable def evX (C : Calls') (c : XC) (e : Env) : Option (Ex × Env) := limO fun n => evC C n c e

theorem evI_some {T : Nat → Option XF} {f : Nat} {ws : List PV} {r : PV × List PV} : evI T f ws = some r ↔ ∃ n, evF T n f ws = some r :=
  limO_some fun n m x hn h => evF_mono hn _ _ _ h
theorem evX_some {C : Calls'} {c : XC} {e : Env} {x : Ex × Env} : evX C c e = some x ↔ ∃ n, evC C n c e = some x :=
  limO_some fun n m x hn h => evC_mono (CLe.refl C) hn h

/-! ### The equations of code -/
def seqK (x : Option (Ex × Env)) (k : Env → Option (Ex × Env)) : Option (Ex × Env) :=
  match x with
  | some (.norm, e) => k e
  | r => r

def blockK (id : Nat) (x : Option (Ex × Env)) : Option (Ex × Env) :=
  match x with
  | some (.exit id', e') => if id' = id then some (.norm, e') else some (.exit id', e')
  | r => r

section
variable {C : Calls'} {e : Env}
theorem ext_some {α : Type} {x y : Option α} (h : ∀ a, x = some a ↔ y = some a) : x = y := by
  cases x with
  | none => cases y with
    | none => rfl
    | some b => exact absurd ((h b).2 rfl) (by simp)
  | some a => exact ((h a).1 rfl).symm

theorem evX_skip : evX C .skip e = some (.norm, e) := evX_some.2 ⟨1, rfl⟩
theorem evX_exit {id : Nat} {k : List Nat} : evX C (.exit id k) e = some (.exit id, e.keep k) := evX_some.2 ⟨1, rfl⟩
theorem evX_ret : evX C .ret e = some (.ret, e) := evX_some.2 ⟨1, rfl⟩
theorem evX_reg {ops : List XI} {keep : List Nat} : evX C (.reg ops false keep) e = (steps C e ops).map fun e' => (.norm, e'.keep keep) := ext_some fun x => by
  rw [evX_some]
  constructor
  · rintro ⟨n, h⟩
    cases n with
    | zero => simp [evC] at h
    | succ n => simpa [evC] using h
  · intro h; exact ⟨1, by simpa [evC] using h⟩
theorem evX_regD {ops : List XI} {keep : List Nat} : evX C (.reg ops true keep) e = (regD C e ops).map fun e' => (.norm, e'.keep keep) := ext_some fun x => by
  rw [evX_some]
  constructor
  · rintro ⟨n, h⟩
    cases n with
    | zero => simp [evC] at h
    | succ n => simpa [evC] using h
  · intro h; exact ⟨1, by simpa [evC] using h⟩
theorem evX_seq {a b : XC} : evX C (.seq a b) e = seqK (evX C a e) (evX C b) := ext_some fun x => by
  rw [evX_some]
  constructor
  · rintro ⟨n, h⟩
    cases n with
    | zero => simp [evC] at h
    | succ n =>
      simp only [evC] at h
      split at h
      · rename_i e' ha
        rw [evX_some.2 ⟨n, ha⟩]
        exact evX_some.2 ⟨n, h⟩
      · rename_i hno
        rw [evX_some.2 ⟨n, h⟩]
        obtain ⟨ex, e1⟩ := x
        cases ex with
        | norm => exact absurd h (hno _)
        | exit id => rfl
        | ret => rfl
  · intro h
    cases ha : evX C a e with
    | none => rw [ha] at h; simp [seqK] at h
    | some q =>
      obtain ⟨ex, e1⟩ := q
      rw [ha] at h
      obtain ⟨n, hn⟩ := evX_some.1 ha
      cases ex with
      | norm =>
        obtain ⟨m, hm⟩ := evX_some.1 (show evX C b e1 = some x from h)
        refine ⟨max n m + 1, ?_⟩
        simp only [evC, evC_mono (CLe.refl C) (Nat.le_max_left n m) hn]
        exact evC_mono (CLe.refl C) (Nat.le_max_right n m) hm
      | exit id => exact ⟨n + 1, by simp only [evC, hn]; exact h⟩
      | ret => exact ⟨n + 1, by simp only [evC, hn]; exact h⟩
theorem evX_cond {c : XO} {a b : XC} {k : List Nat} : evX C (.cond c a b k) e = fgt k (condK (look e c) (evX C a e) (evX C b e)) := ext_some fun x => by
  rw [evX_some]
  constructor
  · rintro ⟨n, h⟩
    cases n with
    | zero => simp [evC] at h
    | succ n =>
      simp only [evC] at h
      obtain ⟨z, hz, hf⟩ := fgt_inv h
      refine hf _ ?_
      split at hz
      · rename_i hb; rw [hb]; exact evX_some.2 ⟨n, hz⟩
      · rename_i hb; rw [hb]; exact evX_some.2 ⟨n, hz⟩
      · cases hz
  · intro h
    obtain ⟨z, hz, hf⟩ := fgt_inv h
    unfold condK at hz
    split at hz
    · rename_i hb; obtain ⟨n, hn⟩ := evX_some.1 hz; exact ⟨n + 1, by simp only [evC, hb]; exact hf _ hn⟩
    · rename_i hb; obtain ⟨n, hn⟩ := evX_some.1 hz; exact ⟨n + 1, by simp only [evC, hb]; exact hf _ hn⟩
    · cases hz
theorem evX_block {id : Nat} {b : XC} {k : List Nat} : evX C (.block id b k) e = fgt k (blockK id (evX C b e)) := ext_some fun x => by
  rw [evX_some]
  constructor
  · rintro ⟨n, h⟩
    cases n with
    | zero => simp [evC] at h
    | succ n =>
      simp only [evC] at h
      cases hb : evC C n b e with
      | none => rw [hb] at h; simp [fgt] at h
      | some q => rw [hb] at h; rw [evX_some.2 ⟨n, hb⟩]; exact h
  · intro h
    cases hb : evX C b e with
    | none => rw [hb] at h; simp [fgt, blockK] at h
    | some q =>
      rw [hb] at h
      obtain ⟨n, hn⟩ := evX_some.1 hb
      exact ⟨n + 1, by simp only [evC, hn]; exact h⟩
theorem evX_loop {b : XC} {k : List Nat} : evX C (.loop b k) e = seqK (fgt k (evX C b e)) (evX C (.loop b k)) := ext_some fun x => by
  rw [evX_some]
  constructor
  · rintro ⟨n, h⟩
    cases n with
    | zero => simp [evC] at h
    | succ n =>
      simp only [evC] at h
      cases hb : evC C n b e with
      | none => rw [hb] at h; simp [fgt] at h
      | some q =>
        rw [hb] at h; rw [evX_some.2 ⟨n, hb⟩]
        obtain ⟨ex, e1⟩ := q
        cases ex with
        | norm => exact evX_some.2 ⟨n, h⟩
        | exit id => exact h
        | ret => exact h
  · intro h
    cases ha : evX C b e with
    | none => rw [ha] at h; simp [seqK, fgt] at h
    | some q =>
      obtain ⟨ex, e1⟩ := q
      rw [ha] at h
      obtain ⟨n, hn⟩ := evX_some.1 ha
      cases ex with
      | norm =>
        obtain ⟨m, hm⟩ := evX_some.1 (show evX C (.loop b k) (e1.keep k) = some x from h)
        refine ⟨max n m + 1, ?_⟩
        simp only [evC, evC_mono (CLe.refl C) (Nat.le_max_left n m) hn, fgt]
        exact evC_mono (CLe.refl C) (Nat.le_max_right n m) hm
      | exit id => exact ⟨n + 1, by simp only [evC, hn]; exact h⟩
      | ret => exact ⟨n + 1, by simp only [evC, hn]; exact h⟩
end

/-! ### Callees that are limits -/
section
variable {T : Nat → Option XF}
theorem evF_le (n : Nat) : CLe (evF T n) (evI T) := fun f ws r h => evI_some.2 ⟨n, h⟩

theorem evP_lim {L : XO → PV} {S : Subs} {op : XOp} {v : PV} (hv : evP (evI T) L S op = some v) : ∃ n, evP (evF T n) L S op = some v := by
  cases op
  case call f args muts =>
    cases muts with
    | cons m ms => simp [evP] at hv
    | nil =>
      simp only [evP] at hv ⊢
      split at hv
      · rename_i ws hws
        split at hv
        · rename_i r o hr
          obtain ⟨n, hn⟩ := evI_some.1 hr
          exact ⟨n, by rw [hn]; exact hv⟩
        · cases hv
      · cases hv
  case callv x args =>
    simp only [evP] at hv ⊢
    split at hv
    · rename_i f caps hx
      split at hv
      · rename_i ws us hws hus
        split at hv
        · rename_i r o hr
          obtain ⟨n, hn⟩ := evI_some.1 hr
          exact ⟨n, by rw [hn]; exact hv⟩
        · cases hv
      · cases hv
    · cases hv
  all_goals exact ⟨0, hv⟩

theorem evS_lim {e e' : Env} {d : Option Nat} {op : XOp} (hv : evS (evI T) e d op = some e') : ∃ n, evS (evF T n) e d op = some e' := by
  cases op
  case call f args muts =>
    simp only [evS] at hv ⊢
    split at hv
    · rename_i ws e1 hws
      split at hv
      · rename_i hra
        split at hv
        · rename_i hr
          split at hv
          · rename_i r o hc
            obtain ⟨n, hn⟩ := evI_some.1 hc
            exact ⟨n, by simp only [if_pos hr, hn]; exact hv⟩
          · cases hv
        · cases hv
      · rename_i k q p m hra
        split at hv
        · rename_i cs hsub
          split at hv
          · rename_i hcond
            split at hv
            · rename_i r outs hc
              obtain ⟨n, hn⟩ := evI_some.1 hc
              exact ⟨n, by simp only [if_pos hcond, hn]; exact hv⟩
            · cases hv
          · cases hv
        · cases hv
    · cases hv
  all_goals exact ⟨0, hv⟩

theorem blocked_lim {L : XO → PV} {S : Subs} {op : XOp} (hb : blocked (evI T) L S op = false) : ∃ n, blocked (evF T n) L S op = false := by
  cases op
  case call f args muts =>
    cases muts with
    | cons m ms => exact ⟨0, rfl⟩
    | nil =>
      simp only [blocked] at hb ⊢
      split
      · rename_i ws hws
        rw [hws] at hb
        simp only at hb
        cases hc : evI T f ws with
        | none => simp [hc] at hb
        | some r =>
          obtain ⟨n, hn⟩ := evI_some.1 hc
          exact ⟨n, by rw [hn]; rfl⟩
      · exact ⟨0, rfl⟩
  all_goals exact ⟨0, rfl⟩

theorem stepP_lim {S : Subs} {e e' : Env} {o : XI} (hv : stepP (evI T) S e o = some e') : ∃ n, stepP (evF T n) S e o = some e' := by
  unfold stepP at hv ⊢
  split at hv
  · rename_i v hp
    obtain ⟨n, hn⟩ := evP_lim hp
    exact ⟨n, by rw [hn]; exact hv⟩
  · cases hv

theorem step_lim {e e' : Env} {o : XI} (hv : step (evI T) e o = some e') : ∃ n, step (evF T n) e o = some e' := by
  unfold step at hv ⊢
  split at hv
  · split at hv
    · rename_i e1 he1
      obtain rfl := Option.some.inj hv
      obtain ⟨n, hn⟩ := stepP_lim he1
      exact ⟨n, by rw [hn]⟩
    · rename_i hn
      split at hv
      · cases hv
      · rename_i hb
        obtain ⟨n1, h1⟩ := blocked_lim (by simpa using hb : blocked (evI T) (look e) e.sub o.op = false)
        obtain ⟨n2, h2⟩ := evS_lim hv
        refine ⟨max n1 n2, ?_⟩
        have h3 : stepP (evF T (max n1 n2)) e.sub e o = Option.none := by
          cases h4 : stepP (evF T (max n1 n2)) e.sub e o with
          | none => rfl
          | some e1 => rw [stepP_mono (evF_le _) h4] at hn; cases hn
        rw [h3, blocked_mono (evF_mono (Nat.le_max_left n1 n2)) h1]
        exact evS_mono (evF_mono (Nat.le_max_right n1 n2)) h2
  · exact ⟨0, hv⟩
  · cases hv

theorem steps_lim : ∀ {l : List XI} {e e' : Env}, steps (evI T) e l = some e' → ∃ n, steps (evF T n) e l = some e'
  | [], e, e', hv => ⟨0, hv⟩
  | o :: r, e, e', hv => by
    simp only [steps] at hv ⊢
    split at hv
    · rename_i e1 h1
      obtain ⟨n, hn⟩ := step_lim h1
      obtain ⟨m, hm⟩ := steps_lim hv
      refine ⟨max n m, ?_⟩
      rw [step_mono (evF_mono (Nat.le_max_left n m)) hn]
      exact steps_mono (evF_mono (Nat.le_max_right n m)) hm
    · cases hv

theorem stepD_lim {S : Subs} {ds : List Nat} {e : Env} {o : XI} {q : Nat × PV} (hv : stepD (evI T) S ds e o = some q) : ∃ n, stepD (evF T n) S ds e o = some q := by
  unfold stepD at hv ⊢
  split at hv
  · split at hv
    · split at hv
      · rename_i v hp
        obtain ⟨n, hn⟩ := evP_lim hp
        exact ⟨n, by rw [hn]; exact hv⟩
      · cases hv
    · exact ⟨0, hv⟩
    · cases hv
  · cases hv

theorem stepsD_lim {S : Subs} {ds : List Nat} : ∀ {l : List XI} {e e' : Env}, stepsD (evI T) S ds e l = some e' → ∃ n, stepsD (evF T n) S ds e l = some e'
  | [], e, e', hv => ⟨0, hv⟩
  | o :: r, e, e', hv => by
    simp only [stepsD] at hv ⊢
    split at hv
    · rename_i hb
      split at hv
      · rename_i ha
        obtain ⟨n, hn⟩ := steps_lim hv
        exact ⟨n, by rw [if_pos hb, if_pos ha]; exact hn⟩
      · cases hv
    · rename_i hb
      split at hv
      · rename_i d v hs
        split at hv
        · rename_i hg
          obtain ⟨n, hn⟩ := stepD_lim hs
          obtain ⟨m, hm⟩ := stepsD_lim hv
          refine ⟨max n m, ?_⟩
          rw [if_neg hb, stepD_mono (evF_mono (Nat.le_max_left n m)) hn]
          simp only [hg]
          exact stepsD_mono (evF_mono (Nat.le_max_right n m)) hm
        · cases hv
      · cases hv

theorem regD_lim {e e' : Env} {l : List XI} (hv : regD (evI T) e l = some e') : ∃ n, regD (evF T n) e l = some e' := by
  unfold regD at hv ⊢
  simp only at hv ⊢
  split at hv
  · rename_i ha
    obtain ⟨n, hn⟩ := stepsD_lim hv
    exact ⟨n, by rw [if_pos ha]; exact hn⟩
  · cases hv

theorem evC_lim : ∀ {n : Nat} {c : XC} {e : Env} {x : Ex × Env}, evC (evI T) n c e = some x → ∃ m, evC (evF T m) n c e = some x
  | 0, c, e, x, hv => by simp [evC] at hv
  | n + 1, c, e, x, hv => by
    have up : ∀ {a b : Nat} {c : XC} {e : Env} {x : Ex × Env}, a ≤ b → evC (evF T a) n c e = some x → evC (evF T b) n c e = some x := fun hab h => evC_mono (evF_mono hab) (Nat.le_refl n) h
    cases c with
    | skip => exact ⟨0, hv⟩
    | ret => exact ⟨0, hv⟩
    | exit id k => exact ⟨0, hv⟩
    | reg ops draw keep =>
      simp only [evC, Option.map_eq_some_iff] at hv ⊢
      obtain ⟨e', h1, rfl⟩ := hv
      cases draw with
      | true => obtain ⟨m, hm⟩ := regD_lim h1; exact ⟨m, e', hm, rfl⟩
      | false => obtain ⟨m, hm⟩ := steps_lim h1; exact ⟨m, e', hm, rfl⟩
    | seq a b =>
      simp only [evC] at hv ⊢
      cases ha : evC (evI T) n a e with
      | none => rw [ha] at hv; cases hv
      | some q =>
        obtain ⟨ex, e1⟩ := q
        rw [ha] at hv
        obtain ⟨m, hm⟩ := evC_lim ha
        cases ex with
        | norm =>
          obtain ⟨k, hk⟩ := evC_lim (show evC (evI T) n b e1 = some x from hv)
          exact ⟨max m k, by rw [up (Nat.le_max_left m k) hm]; exact up (Nat.le_max_right m k) hk⟩
        | exit id => exact ⟨m, by rw [hm]; exact hv⟩
        | ret => exact ⟨m, by rw [hm]; exact hv⟩
    | cond c a b k =>
      have hv : fgt k (condK (look e c) (evC (evI T) n a e) (evC (evI T) n b e)) = some x := hv
      obtain ⟨z, hz, hf⟩ := fgt_inv hv
      rcases condK_some hz with ⟨hl, hz⟩ | ⟨hl, hz⟩
      · obtain ⟨m, hm⟩ := evC_lim hz; exact ⟨m, hf (condK (look e c) (evC (evF T m) n a e) (evC (evF T m) n b e)) (by rw [hl]; exact hm)⟩
      · obtain ⟨m, hm⟩ := evC_lim hz; exact ⟨m, hf (condK (look e c) (evC (evF T m) n a e) (evC (evF T m) n b e)) (by rw [hl]; exact hm)⟩
    | block id b k =>
      simp only [evC] at hv ⊢
      cases ha : evC (evI T) n b e with
      | none => rw [ha] at hv; simp [fgt] at hv
      | some q =>
        rw [ha] at hv
        obtain ⟨m, hm⟩ := evC_lim ha
        exact ⟨m, by rw [hm]; exact hv⟩
    | loop b k =>
      simp only [evC] at hv ⊢
      cases ha : evC (evI T) n b e with
      | none => rw [ha] at hv; simp [fgt] at hv
      | some q =>
        obtain ⟨ex, e1⟩ := q
        rw [ha] at hv
        obtain ⟨m, hm⟩ := evC_lim ha
        cases ex with
        | norm =>
          obtain ⟨j, hj⟩ := evC_lim (show evC (evI T) n (.loop b k) (e1.keep k) = some x from hv)
          exact ⟨max m j, by rw [up (Nat.le_max_left m j) hm]; exact up (Nat.le_max_right m j) hj⟩
        | exit id => exact ⟨m, by rw [hm]; exact hv⟩
        | ret => exact ⟨m, by rw [hm]; exact hv⟩

/-- how a function's answer is found -/
theorem evI_intro {f : Nat} {x : XF} (hx : T f = some x) {ws : List PV} (hl : ws.length = x.np) {ex : Ex} {e : Env} (hb : evX (evI T) x.body (params 0 ws) = some (ex, e)) (hex : ∀ id, ex ≠ .exit id) {vs : List PV} {e' : Env} (hr : resL x.keep e x.res = some (vs, e')) :
    evI T f ws = some (tupOf vs, outsOf x.prot e' 0 ws) := by
  obtain ⟨n, hn⟩ := evX_some.1 hb
  obtain ⟨m, hm⟩ := evC_lim hn
  refine evI_some.2 ⟨max n m + 1, ?_⟩
  have := evC_mono (evF_mono (T := T) (Nat.le_max_right n m)) (Nat.le_max_left n m) hm
  simp only [evF, hx, hl, if_true, this]
  cases ex with
  | norm => simp [hr]
  | ret => simp [hr]
  | exit id => exact absurd rfl (hex id)
end

end Go.Ab

/-
  Going through code: what is typed, and the rules.
-/
namespace Go.Ab
open Go
set_option linter.unusedVariables false
set_option linter.unusedSimpArgs false

/-! ### Loops -/
inductive Stp (σ ρ : Type) where
  | next (s : σ)
  | stop (r : ρ)

/-- either way -/
def stpK {σ ρ β : Type} (f : σ → β) (g : ρ → β) : Stp σ ρ → β
  | .next s => f s
  | .stop r => g r

def runN {σ ρ : Type} (body : σ → Option (Stp σ ρ)) : Nat → σ → Option ρ
  | 0, _ => Option.none
  | n + 1, s => match body s with
    | some (.next s') => runN body n s'
    | some (.stop r) => some r
    | Option.none => Option.none

theorem runN_mono {σ ρ : Type} {body : σ → Option (Stp σ ρ)} : ∀ {n m : Nat} {s : σ} {r : ρ}, n ≤ m → runN body n s = some r → runN body m s = some r
  | 0, m, s, r, h, hr => by simp [runN] at hr
  | n + 1, 0, s, r, h, hr => by omega
  | n + 1, m + 1, s, r, h, hr => by
    simp only [runN] at hr ⊢
    split at hr
    · exact runN_mono (by omega) hr
    · exact hr
    · cases hr

noncomputable def runL {σ ρ : Type} (body : σ → Option (Stp σ ρ)) (s : σ) : Option ρ := limO fun n => runN body n s

theorem runL_some {σ ρ : Type} {body : σ → Option (Stp σ ρ)} {s : σ} {r : ρ} : runL body s = some r ↔ ∃ n, runN body n s = some r :=
  limO_some fun n m x hn h => runN_mono hn h

theorem runL_eq {σ ρ : Type} (body : σ → Option (Stp σ ρ)) (s : σ) : runL body s = (body s).bind fun x => match x with
    | .next s' => runL body s'
    | .stop r => some r := ext_some fun r => by
  rw [runL_some]
  constructor
  · rintro ⟨n, h⟩
    cases n with
    | zero => simp [runN] at h
    | succ n =>
      simp only [runN] at h
      split at h
      · rename_i s' hb; rw [hb]; exact runL_some.2 ⟨n, h⟩
      · rename_i r' hb; rw [hb]; exact h
      · cases h
  · intro h
    cases hb : body s with
    | none => rw [hb] at h; cases h
    | some x =>
      rw [hb] at h
      cases x with
      | next s' =>
        obtain ⟨n, hn⟩ := runL_some.1 (show runL body s' = some r from h)
        exact ⟨n + 1, by simp only [runN, hb]; exact hn⟩
      | stop r' => exact ⟨1, by simp only [runN, hb]; exact h⟩

/-- what a typed answer says -/
def Sim {α : Type} (x : Option α) (G : α → Prop) : Prop := ∀ a, x = some a → G a

theorem sim_bind {α β : Type} {x : Option α} {k : α → Option β} {G : β → Prop} (h : ∀ v, x = some v → Sim (k v) G) : Sim (x.bind k) G := fun b hb => by
  obtain ⟨v, hv, hk⟩ := Option.bind_eq_some_iff.1 hb
  exact h v hv b hk
theorem sim_some {α : Type} {a : α} {G : α → Prop} (h : G a) : Sim (some a) G := fun b hb => by cases hb; exact h
theorem sim_none {α : Type} {G : α → Prop} : Sim Option.none G := fun b hb => by cases hb
theorem sim_if {α : Type} {c : Bool} {x y : Option α} {G : α → Prop} (h : c = true → Sim x G) (h' : c = false → Sim y G) : Sim (if c then x else y) G := by
  cases c with
  | true => exact h rfl
  | false => exact h' rfl

/-- a round of a loop is what a round of the typed loop is -/
theorem loop_rule {C : Calls'} {b : XC} {ks : List Nat} {σ ρ : Type} {body : σ → Option (Stp σ ρ)} {E : σ → Env} {R : ρ → Ex × Env} (hR : ∀ r, (R r).1 ≠ .norm)
    (h : ∀ s, Sim (body s) fun x => fgt ks (evX C b (E s)) = some (stpK (fun s' => (.norm, E s')) R x)) : ∀ s, Sim (runL body s) fun r => evX C (.loop b ks) (E s) = some (R r) := by
  intro s r hr
  obtain ⟨n, hn⟩ := runL_some.1 hr
  clear hr
  induction n generalizing s with
  | zero => simp [runN] at hn
  | succ n ih =>
    simp only [runN] at hn
    rw [evX_loop]
    split at hn
    · rename_i s' hb
      rw [h s _ hb]
      exact ih s' hn
    · rename_i r' hb
      obtain rfl := Option.some.inj hn
      rw [h s _ hb]
      have := hR r'
      cases hq : R r' with
      | mk ex e =>
        rw [hq] at this
        cases ex with
        | norm => exact absurd rfl this
        | exit id => simp only [stpK, hq]; rfl
        | ret => simp only [stpK, hq]; rfl
    · cases hn

/-! ### The end of a function -/
def retK (x : XF) (ws : List PV) (y : Option (Ex × Env)) : Option (PV × List PV) :=
  match y with
  | some (.exit _, _) => Option.none
  | some (_, e) => (resL x.keep e x.res).map fun (vs, e') => (tupOf vs, outsOf x.prot e' 0 ws)
  | Option.none => Option.none

theorem evI_ret {T : Nat → Option XF} {f : Nat} {x : XF} (hx : T f = some x) {ws : List PV} (hl : ws.length = x.np) {r : PV × List PV} (h : retK x ws (evX (evI T) x.body (params 0 ws)) = some r) : evI T f ws = some r := by
  cases hb : evX (evI T) x.body (params 0 ws) with
  | none => rw [hb] at h; cases h
  | some q =>
    obtain ⟨ex, e⟩ := q
    rw [hb] at h
    have fin : (∀ id, ex ≠ .exit id) → ((resL x.keep e x.res).map fun (vs, e') => (tupOf vs, outsOf x.prot e' 0 ws)) = some r → evI T f ws = some r := fun hne h => by
      simp only [Option.map_eq_some_iff] at h
      obtain ⟨⟨vs, e'⟩, hr, rfl⟩ := h
      exact evI_intro hx hl hb hne hr
    cases ex with
    | norm => exact fin (fun _ h => by cases h) h
    | ret => exact fin (fun _ h => by cases h) h
    | exit id => cases h

def mkView (r : Nat) (p : List Nat) (n sz : Nat) : PV := if n = 0 then .nils else .view r p 0 n sz

/-! ### Typed things -/
abbrev Str := List UInt8

def ix {α : Type} (xs : List α) (j : Int) : Option α := if 0 ≤ j then xs[j.toNat]? else Option.none
def mk {α : Type} (n : Int) (bytes : Nat) (z : α) : Option (List α) := if 0 ≤ n ∧ n.toNat * bytes ≤ 1099511627776 ∧ n.toNat ≤ 1099511627776 then some (List.replicate n.toNat z) else Option.none
def app {α : Type} (xs ys : List α) (bytes : Nat) : Option (List α) := if (xs.length + ys.length) * bytes ≤ 1099511627776 ∧ xs.length + ys.length ≤ 1099511627776 then some (xs ++ ys) else Option.none
def scat (s t : Str) : Option Str := if s.length + t.length ≤ 1099511627776 then some (s ++ t) else Option.none
theorem lim_eq : lim = 1099511627776 := by decide
def bAnd (k : IntKind) (x y : Int) : Int := k.wrap ((BitVec.ofInt k.bits x) &&& (BitVec.ofInt k.bits y)).toNat
def bOr (k : IntKind) (x y : Int) : Int := k.wrap ((BitVec.ofInt k.bits x) ||| (BitVec.ofInt k.bits y)).toNat
def bXor (k : IntKind) (x y : Int) : Int := k.wrap ((BitVec.ofInt k.bits x) ^^^ (BitVec.ofInt k.bits y)).toNat

/-- cells of so many -/
def Sz {α : Type} (c : α → List PV) (n : Nat) : Prop := ∀ x, (c x).length = n
def Fz {α : Type} (c : α → List PV) : Prop := ∀ x, frzL (c x) = some (c x) ∧ (c x).all PV.free = true

def cint (k : IntKind) (n : Int) : List PV := [.int k n]
def cbool (b : Bool) : List PV := [.bool b]
def cstr (s : Str) : List PV := [.str s]
def csl {α : Type} (c : α → List PV) (xs : List α) : List PV := [.sl xs.length (xs.flatMap c)]

theorem sz_int (k : IntKind) : Sz (cint k) 1 := fun _ => rfl
theorem sz_bool : Sz cbool 1 := fun _ => rfl
theorem sz_str : Sz cstr 1 := fun _ => rfl
theorem sz_sl {α : Type} (c : α → List PV) : Sz (csl c) 1 := fun _ => rfl
theorem fz_int (k : IntKind) : Fz (cint k) := fun _ => ⟨rfl, rfl⟩
theorem fz_bool : Fz cbool := fun _ => ⟨rfl, rfl⟩
theorem fz_str : Fz cstr := fun _ => ⟨rfl, rfl⟩
theorem fz_sl {α : Type} (c : α → List PV) : Fz (csl c) := fun _ => ⟨rfl, rfl⟩

theorem frzL_append {xs ys : List PV} : frzL (xs ++ ys) = (frzL xs).bind fun a => (frzL ys).map fun b => a ++ b := by
  induction xs with
  | nil => cases h : frzL ys <;> simp [frzL, h]
  | cons x xs ih =>
    simp only [List.cons_append, frzL, ih]
    cases frz x <;> cases frzL xs <;> cases frzL ys <;> simp

section
variable {α : Type} {c : α → List PV} {n : Nat} {xs ys : List α} {j : Int} {y v : α}

theorem enl_len (h : Sz c n) (xs : List α) : (xs.flatMap c).length = xs.length * n := by
  induction xs with
  | nil => simp
  | cons x xs ih => simp [List.flatMap_cons, ih, h x, Nat.add_mul, Nat.add_comm]
theorem enl_frz (h : Fz c) (xs : List α) : frzL (xs.flatMap c) = some (xs.flatMap c) := by
  induction xs with
  | nil => rfl
  | cons x xs ih => simp [List.flatMap_cons, frzL_append, ih, (h x).1]
theorem enl_free (h : Fz c) (xs : List α) : (xs.flatMap c).all PV.free = true := by
  induction xs with
  | nil => rfl
  | cons x xs ih => simp only [List.flatMap_cons, List.all_append, ih, (h x).2, Bool.and_self]
theorem enl_take (h : Sz c n) (xs : List α) : (xs.flatMap c).take (xs.length * n) = xs.flatMap c := by
  rw [← enl_len h xs]; exact List.take_length
theorem enl_drop_take (h : Sz c n) : ∀ (xs : List α) (k : Nat) (y : α), xs[k]? = some y → ((xs.flatMap c).drop (k * n)).take n = c y
  | [], k, y, hk => by simp at hk
  | x :: xs, 0, y, hk => by
    simp only [List.getElem?_cons_zero, Option.some.injEq] at hk
    subst hk
    rw [List.flatMap_cons, Nat.zero_mul, List.drop_zero, ← h x]
    simp
  | x :: xs, k + 1, y, hk => by
    have := enl_drop_take h xs k y (by simpa using hk)
    rw [List.flatMap_cons, show (k + 1) * n = (c x).length + k * n by rw [h x, Nat.add_mul, Nat.one_mul, Nat.add_comm], ← List.drop_drop, List.drop_left]
    exact this
theorem setCells_append : ∀ (cs ds : List PV) (zs : List PV) (i : Nat), setCells (cs ++ ds) (cs.length + i) zs = cs ++ setCells ds i zs
  | cs, ds, [], i => rfl
  | cs, ds, z :: zs, i => by
    simp only [setCells]
    rw [List.set_append_right _ _ (by omega), show cs.length + i - cs.length = i by omega, show cs.length + i + 1 = cs.length + (i + 1) by omega]
    exact setCells_append cs _ zs (i + 1)
theorem setCells_left : ∀ (cs ds : List PV) (zs : List PV) (i : Nat), i + zs.length ≤ cs.length → setCells (cs ++ ds) i zs = setCells cs i zs ++ ds
  | cs, ds, [], i, h => rfl
  | cs, ds, z :: zs, i, h => by
    simp only [List.length_cons] at h
    simp only [setCells]
    rw [List.set_append_left _ _ (by omega)]
    exact setCells_left _ ds zs (i + 1) (by simp; omega)
theorem setCells_all : ∀ (cs zs : List PV), zs.length = cs.length → setCells cs 0 zs = zs
  | cs, zs, h => by
    have : ∀ (pre cs zs : List PV), zs.length = cs.length → setCells (pre ++ cs) pre.length zs = pre ++ zs := fun pre cs zs => by
      induction zs generalizing pre cs with
      | nil => intro h; have : cs = [] := by simpa using h.symm
               subst this; rfl
      | cons z zs ih =>
        intro h
        cases cs with
        | nil => simp at h
        | cons d ds =>
          simp only [setCells]
          rw [List.set_append_right _ _ (by omega)]
          have := ih (pre ++ [z]) ds (by simpa using h)
          simpa using this
    simpa using this [] cs zs h
theorem enl_set (h : Sz c n) : ∀ (xs : List α) (k off : Nat) (y v : α) (zs : List PV), xs[k]? = some y → off + zs.length ≤ n → setCells (c y) off zs = c v → setCells (xs.flatMap c) (k * n + off) zs = (xs.set k v).flatMap c
  | [], k, off, y, v, zs, hk, _, _ => by simp at hk
  | x :: xs, 0, off, y, v, zs, hk, hz, hv => by
    simp only [List.getElem?_cons_zero, Option.some.injEq] at hk
    subst hk
    rw [List.flatMap_cons, Nat.zero_mul, Nat.zero_add, setCells_left _ _ _ _ (by rw [h x]; omega), hv, List.set_cons_zero, List.flatMap_cons]
  | x :: xs, k + 1, off, y, v, zs, hk, hz, hv => by
    have := enl_set h xs k off y v zs (by simpa using hk) hz hv
    rw [List.flatMap_cons, show (k + 1) * n + off = (c x).length + (k * n + off) by rw [h x, Nat.add_mul]; omega, setCells_append, this, List.set_cons_succ, List.flatMap_cons]

theorem ix_some (h : ix xs j = some y) : 0 ≤ j ∧ xs[j.toNat]? = some y := by
  unfold ix at h
  split at h
  · rename_i h0; exact ⟨h0, h⟩
  · cases h
theorem ix_lt (h : ix xs j = some y) : 0 ≤ j ∧ j < xs.length := by
  obtain ⟨h0, h1⟩ := ix_some h
  obtain ⟨h2, _⟩ := List.getElem?_eq_some_iff.1 h1
  exact ⟨h0, by omega⟩
theorem ix_ok (h : ix xs j = some y) : idxOk j xs.length = true := by
  have := ix_lt h
  simp [idxOk, this]
theorem ix_get (h : ix xs j = some y) : xs[j.toNat]? = some y := (ix_some h).2
/-- an element's cells -/
theorem ix_cells (hc : Sz c n) (h : ix xs j = some y) : ((xs.flatMap c).drop (j.toNat * n)).take n = c y := enl_drop_take hc _ _ _ (ix_get h)
theorem ix_le (hc : Sz c n) (h : ix xs j = some y) : (j.toNat * n + n ≤ xs.length * n) = True := by
  have h1 := ix_lt h
  have : (j.toNat + 1) * n ≤ xs.length * n := Nat.mul_le_mul_right n (by omega)
  rw [Nat.add_mul] at this
  simp; omega
theorem ix_own (h : ix xs j = some y) (sz : Nat) (cs : List PV) : mkOwn sz xs.length cs = .own sz xs.length cs := by
  have := ix_lt h
  simp [mkOwn, show xs.length ≠ 0 by omega]
theorem ix_set (hc : Sz c n) (h : ix xs j = some y) (v : α) : setCells (xs.flatMap c) (j.toNat * n) (c v) = (xs.set j.toNat v).flatMap c :=
  enl_set hc xs j.toNat 0 y v (c v) (ix_get h) (by rw [hc v]; omega) (setCells_all _ _ (by rw [hc v, hc y]))
theorem enl_get (hc : Sz c n) : ∀ (xs : List α) (k off : Nat) (y : α), xs[k]? = some y → off < n → (xs.flatMap c)[k * n + off]? = (c y)[off]?
  | [], k, off, y, hk, _ => by simp at hk
  | x :: xs, 0, off, y, hk, ho => by
    simp only [List.getElem?_cons_zero, Option.some.injEq] at hk
    subst hk
    rw [List.flatMap_cons, Nat.zero_mul, Nat.zero_add, List.getElem?_append_left (by rw [hc x]; exact ho)]
  | x :: xs, k + 1, off, y, hk, ho => by
    have := enl_get hc xs k off y (by simpa using hk) ho
    rw [List.flatMap_cons, show (k + 1) * n + off = (c x).length + (k * n + off) by rw [hc x, Nat.add_mul]; omega, List.getElem?_append_right (by omega), Nat.add_sub_cancel_left]
    exact this
theorem ix_cell {off : Nat} {p : PV} (hc : Sz c n) (h : ix xs j = some y) (hv : (c y)[off]? = some p) : (xs.flatMap c)[j.toNat * n + off]? = some p := by
  obtain ⟨h2, _⟩ := List.getElem?_eq_some_iff.1 hv
  rw [enl_get hc xs _ off y (ix_get h) (by rw [hc y] at h2; exact h2)]; exact hv
theorem ix_cell0 {p : PV} (hc : Sz c n) (h : ix xs j = some y) (hv : (c y)[0]? = some p) : (xs.flatMap c)[j.toNat * n]? = some p := ix_cell (off := 0) hc h hv
theorem ix_len (hc : Sz c n) (h : ix xs j = some y) (off m : Nat) (ho : off + m ≤ n) : (j.toNat * n + off + m ≤ xs.length * n) = True := by
  have h1 := ix_lt h
  have : (j.toNat + 1) * n ≤ xs.length * n := Nat.mul_le_mul_right n (by omega)
  rw [Nat.add_mul] at this
  simp; omega
theorem ix_len0 (hc : Sz c n) (h : ix xs j = some y) (m : Nat) (ho : m ≤ n) : (j.toNat * n + m ≤ xs.length * n) = True := ix_len hc h 0 m (by omega)
theorem ix_le1 (hc : Sz c n) (h : ix xs j = some y) (off : Nat) (ho : off < n) : (j.toNat * n + off + 1 ≤ xs.length * n) = True := ix_len hc h off 1 (by omega)
theorem ix_le0 (hc : Sz c n) (h : ix xs j = some y) (ho : 0 < n) : (j.toNat * n + 1 ≤ xs.length * n) = True := ix_len hc h 0 1 (by omega)
theorem ix_setf (hc : Sz c n) (h : ix xs j = some y) (off : Nat) (v : α) (zs : List PV) (ho : off + zs.length ≤ n) (hv : setCells (c y) off zs = c v) : setCells (xs.flatMap c) (j.toNat * n + off) zs = (xs.set j.toNat v).flatMap c :=
  enl_set hc xs j.toNat off y v zs (ix_get h) ho hv
theorem ix_setf0 (hc : Sz c n) (h : ix xs j = some y) (v : α) (zs : List PV) (ho : zs.length ≤ n) (hv : setCells (c y) 0 zs = c v) : setCells (xs.flatMap c) (j.toNat * n) zs = (xs.set j.toNat v).flatMap c :=
  ix_setf hc h 0 v zs (by omega) hv
theorem own_cases (xs : List α) : xs = [] ∨ ((∀ sz cs, mkOwn sz xs.length cs = .own sz xs.length cs) ∧ ∀ r p sz, mkView r p xs.length sz = .view r p 0 xs.length sz) := by
  cases xs with
  | nil => exact .inl rfl
  | cons x xs => exact .inr ⟨fun sz cs => by simp [mkOwn], fun r p sz => by simp [mkView]⟩
theorem ix_own2 (h : ix xs j = some y) : (∀ sz cs, mkOwn sz xs.length cs = .own sz xs.length cs) ∧ ∀ r p sz, mkView r p xs.length sz = .view r p 0 xs.length sz :=
  ⟨ix_own h, fun r p sz => by have := ix_lt h; simp [mkView, show xs.length ≠ 0 by omega]⟩
theorem mkOwn_nil (sz : Nat) (cs : List PV) : mkOwn sz 0 cs = .nils := by simp [mkOwn]
theorem mkOwn_succ (sz n : Nat) (cs : List PV) : mkOwn sz (n + 1) cs = .own sz (n + 1) cs := by simp [mkOwn]
theorem mkView_nil (r : Nat) (p : List Nat) (sz : Nat) : mkView r p 0 sz = .nils := by simp [mkView]
theorem mkView_succ (r : Nat) (p : List Nat) (sz n : Nat) : mkView r p (n + 1) sz = .view r p 0 (n + 1) sz := by simp [mkView]

/-! ### new lists -/
theorem mk_cond {n : Int} {b : Nat} {z : α} (h : mk n b z = some xs) : (0 ≤ n) = True ∧ (n.toNat * b ≤ 1099511627776) = True ∧ (n.toNat ≤ 1099511627776) = True := by
  unfold mk at h
  split at h
  · rename_i hh; simp [hh]
  · cases h
theorem rep_flatMap (k : Nat) (z : α) : rep k (c z) = (List.replicate k z).flatMap c := by
  induction k with
  | zero => rfl
  | succ k ih => simp [rep, List.replicate_succ, ih]
theorem mk_own {m : Int} {b : Nat} {z : α} (h : mk m b z = some xs) (c : α → List PV) (sz : Nat) : mkOwn sz m.toNat (rep m.toNat (c z)) = mkOwn sz xs.length (xs.flatMap c) := by
  unfold mk at h
  split at h
  · obtain rfl := Option.some.inj h
    rw [rep_flatMap]; simp
  · cases h
theorem app_eq {b : Nat} {zs : List α} (h : app xs ys b = some zs) : zs = xs ++ ys := by
  unfold app at h
  split at h
  · exact (Option.some.inj h).symm
  · cases h
theorem app1_cond {b : Nat} {zs : List α} (h : app xs [v] b = some zs) : ((xs.length + 1) * b ≤ 1099511627776) = True ∧ (xs.length + 1 ≤ 1099511627776) = True := by
  unfold app at h
  split at h
  · rename_i hh; simpa using hh
  · cases h
theorem app1_own {b : Nat} {zs : List α} (h : app xs [v] b = some zs) (c : α → List PV) (sz : Nat) : PV.own sz (xs.length + 1) (xs.flatMap c ++ c v) = .own sz zs.length (zs.flatMap c) := by
  obtain rfl := app_eq h
  simp
theorem app1_own2 {b : Nat} {zs : List α} (h : app xs [v] b = some zs) : (∀ sz cs, mkOwn sz zs.length cs = .own sz zs.length cs) ∧ ∀ r p sz, mkView r p zs.length sz = .view r p 0 zs.length sz := by
  obtain rfl := app_eq h
  exact ⟨fun sz cs => by simp [mkOwn], fun r p sz => by simp [mkView]⟩
theorem scat_cond {s t u : Str} (h : scat s t = some u) : (s.length + t.length ≤ 1099511627776) = True ∧ u = s ++ t := by
  unfold scat at h
  split at h
  · rename_i hh; exact ⟨by simpa using hh, (Option.some.inj h).symm⟩
  · cases h
theorem bytesOf_enl (xs : List Int) : bytesOf (xs.flatMap (cint .u8)) = some (xs.map fun n => UInt8.ofNat n.toNat) := by
  induction xs with
  | nil => rfl
  | cons x xs ih => simp [cint, bytesOf, ih]
theorem ix_str {s : Str} {j : Int} {c : UInt8} (h : ix s j = some c) : idxOk j s.length = true ∧ s[j.toNat]? = some c := ⟨ix_ok h, ix_get h⟩
/-- an array that is a list -/
def ixa {α : Type} (xs : List α) (n : Nat) (j : Int) : Option α := if 0 ≤ j ∧ j < n then xs[j.toNat]? else Option.none
theorem ixa_ok {k : Nat} (h : ixa xs k j = some y) : idxOk j k = true := by
  unfold ixa at h
  split at h
  · rename_i hh; simp [idxOk, hh]
  · cases h
theorem ixa_get {k : Nat} (h : ixa xs k j = some y) : xs[j.toNat]? = some y := by
  unfold ixa at h
  split at h
  · exact h
  · cases h
theorem enl_get1 {d : α → PV} (xs : List α) (i : Nat) : (xs.flatMap fun x => [d x])[i]? = (xs[i]?).map d := by
  induction xs generalizing i with
  | nil => simp
  | cons x xs ih =>
    cases i with
    | zero => simp
    | succ i => simpa using ih i
theorem ixa_int {k : Nat} {xs : List Int} {y : Int} {kd : IntKind} (h : ixa xs k j = some y) : (xs.flatMap (cint kd))[j.toNat * 1]? = some (.int kd y) := by
  have := enl_get1 (d := fun n => PV.int kd n) xs j.toNat
  rw [ixa_get h] at this
  rw [Nat.mul_one]
  exact this
theorem ixa_le {k : Nat} (h : ixa xs k j = some y) : (j.toNat * 1 + 1 ≤ xs.length * 1) = True := by
  obtain ⟨h2, _⟩ := List.getElem?_eq_some_iff.1 (ixa_get h)
  simp; omega
theorem noRefs_agg (ds : List Nat) (cs : List PV) : noRefs ds (.agg cs) = cs.all (noRefs ds) := by
  simp only [noRefs, refs]
  induction cs with
  | nil => rfl
  | cons c cs ih => simp only [refsL, List.all_append, ih, List.all_cons, noRefs]
theorem enl_noRefs {α : Type} {c : α → List PV} (h : Fz c) (ds : List Nat) (xs : List α) : (xs.flatMap c).all (noRefs ds) = true := by
  have := enl_free h xs
  rw [List.all_eq_true] at this ⊢
  intro v hv
  simp [noRefs, free_refs (this v hv)]
theorem noRefs_mkOwn (ds : List Nat) (sz n : Nat) (cs : List PV) : noRefs ds (mkOwn sz n cs) = true := by unfold noRefs mkOwn; split <;> rfl
theorem refs_mkOwn (sz n : Nat) (cs : List PV) : refs (mkOwn sz n cs) = [] := by unfold mkOwn; split <;> rfl
theorem purge1_mkOwn (f : Nat → List Nat → Bool) (sz n : Nat) (cs : List PV) : purge1 f (mkOwn sz n cs) = mkOwn sz n cs := by unfold mkOwn; split <;> rfl
theorem noOwnL_int (k : IntKind) (xs : List Int) : noOwnL (xs.flatMap (cint k)) = true := by
  induction xs with
  | nil => rfl
  | cons x xs ih => simp [cint, noOwnL, noOwn, ih]
theorem purgeL_int (f : Nat → List Nat → Bool) (k : IntKind) (xs : List Int) : purgeL f (xs.flatMap (cint k)) = xs.flatMap (cint k) := by
  induction xs with
  | nil => rfl
  | cons x xs ih => simpa [cint, purgeL, purge1] using ih
theorem alL_int (r : Nat) (p : List Nat) (k : IntKind) (xs : List Int) (i : Nat) : alL r p i (xs.flatMap (cint k)) = xs.flatMap (cint k) := by
  induction xs generalizing i with
  | nil => rfl
  | cons x xs ih => simpa [cint, alL, al] using ih (i + 1)
theorem refsL_int (k : IntKind) (xs : List Int) : refsL (xs.flatMap (cint k)) = [] := by
  induction xs with
  | nil => rfl
  | cons x xs ih => simpa [cint, refsL, refs] using ih
end
end Go.Ab

/-
  The equations by which code is gone through. Printed by mkrn.py.
-/
namespace Go.Ab
open Go
set_option linter.unusedVariables false
set_option maxRecDepth 100000
theorem rna0 : type_of% (And.intro (And.intro (And.intro (And.intro (And.intro @evX_seq (And.intro @evX_block @evX_cond)) (And.intro (And.intro @evX_reg @evX_regD) (And.intro @evX_skip @evX_exit))) (And.intro (And.intro (And.intro @evX_ret @step.eq_1) (And.intro @steps.eq_1 @steps.eq_2)) (And.intro (And.intro @stepP.eq_1 @evP.eq_1) (And.intro @evP.eq_2 @evP.eq_3)))) (And.intro (And.intro (And.intro @evP.eq_4 (And.intro @evP.eq_5 @evP.eq_6)) (And.intro (And.intro @evP.eq_7 @evP.eq_8) (And.intro @evP.eq_9 @evP.eq_10))) (And.intro (And.intro (And.intro @evP.eq_11 @evP.eq_12) (And.intro @evP.eq_13 @evP.eq_14)) (And.intro (And.intro @evP.eq_15 @evP.eq_16) (And.intro @evP.eq_17 @evP.eq_18))))) (And.intro (And.intro (And.intro (And.intro @evP.eq_19 (And.intro @evP.eq_20 @evP.eq_21)) (And.intro (And.intro @evP.eq_22 @evP.eq_23) (And.intro @evP.eq_24 @evP.eq_25))) (And.intro (And.intro (And.intro @evP.eq_26 @evP.eq_27) (And.intro @evP.eq_28 @evP.eq_29)) (And.intro (And.intro @evP.eq_30 @evP.eq_31) (And.intro @evS.eq_1 @evS.eq_3)))) (And.intro (And.intro (And.intro @evS.eq_5 (And.intro @evS.eq_6 @evS.eq_9)) (And.intro (And.intro @evS.eq_11 @evS.eq_14) (And.intro @blocked.eq_1 @wants.eq_1))) (And.intro (And.intro (And.intro @wantsG.eq_1 @wantsG.eq_2) (And.intro @skipped.eq_1 @look.eq_1)) (And.intro (And.intro @lookG.eq_1 @lookG.eq_2) (And.intro @lookG.eq_3 @al.eq_1)))))) := (And.intro (And.intro (And.intro (And.intro (And.intro @evX_seq (And.intro @evX_block @evX_cond)) (And.intro (And.intro @evX_reg @evX_regD) (And.intro @evX_skip @evX_exit))) (And.intro (And.intro (And.intro @evX_ret @step.eq_1) (And.intro @steps.eq_1 @steps.eq_2)) (And.intro (And.intro @stepP.eq_1 @evP.eq_1) (And.intro @evP.eq_2 @evP.eq_3)))) (And.intro (And.intro (And.intro @evP.eq_4 (And.intro @evP.eq_5 @evP.eq_6)) (And.intro (And.intro @evP.eq_7 @evP.eq_8) (And.intro @evP.eq_9 @evP.eq_10))) (And.intro (And.intro (And.intro @evP.eq_11 @evP.eq_12) (And.intro @evP.eq_13 @evP.eq_14)) (And.intro (And.intro @evP.eq_15 @evP.eq_16) (And.intro @evP.eq_17 @evP.eq_18))))) (And.intro (And.intro (And.intro (And.intro @evP.eq_19 (And.intro @evP.eq_20 @evP.eq_21)) (And.intro (And.intro @evP.eq_22 @evP.eq_23) (And.intro @evP.eq_24 @evP.eq_25))) (And.intro (And.intro (And.intro @evP.eq_26 @evP.eq_27) (And.intro @evP.eq_28 @evP.eq_29)) (And.intro (And.intro @evP.eq_30 @evP.eq_31) (And.intro @evS.eq_1 @evS.eq_3)))) (And.intro (And.intro (And.intro @evS.eq_5 (And.intro @evS.eq_6 @evS.eq_9)) (And.intro (And.intro @evS.eq_11 @evS.eq_14) (And.intro @blocked.eq_1 @wants.eq_1))) (And.intro (And.intro (And.intro @wantsG.eq_1 @wantsG.eq_2) (And.intro @skipped.eq_1 @look.eq_1)) (And.intro (And.intro @lookG.eq_1 @lookG.eq_2) (And.intro @lookG.eq_3 @al.eq_1))))))
theorem rna1 : type_of% (And.intro (And.intro (And.intro (And.intro (And.intro @al.eq_2 (And.intro @al.eq_3 @al.eq_4)) (And.intro (And.intro @al.eq_5 @al.eq_6) (And.intro @alL.eq_1 @alL.eq_2))) (And.intro (And.intro (And.intro @purge1.eq_1 @purge1.eq_2) (And.intro @purge1.eq_3 @purge1.eq_4)) (And.intro (And.intro @purge1.eq_5 @purgeL.eq_1) (And.intro @purgeL.eq_2 @Env.get.eq_1)))) (And.intro (And.intro (And.intro @Env.get.eq_2 (And.intro @Env.set.eq_1 @Env.set.eq_2)) (And.intro (And.intro @Env.keep.eq_1 @Env.keep.eq_2) (And.intro @Env.purgeBy.eq_1 @Env.purgeBy.eq_2))) (And.intro (And.intro (And.intro @Env.purge.eq_1 @Env.setD.eq_1) (And.intro @Env.sub.eq_1 @Env.upd.eq_1)) (And.intro (And.intro @sub.eq_1 @sub.eq_2) (And.intro @upd.eq_1 @upd.eq_2))))) (And.intro (And.intro (And.intro (And.intro @kids.eq_1 (And.intro @kids.eq_2 @kids.eq_3)) (And.intro (And.intro @kids.eq_4 @setKid.eq_1) (And.intro @setKid.eq_2 @setKid.eq_3))) (And.intro (And.intro (And.intro @setKid.eq_4 @frz.eq_1) (And.intro @frz.eq_2 @frz.eq_3)) (And.intro (And.intro @frz.eq_4 @frz.eq_5) (And.intro @frz.eq_6 @frz.eq_7)))) (And.intro (And.intro (And.intro @frz.eq_8 (And.intro @frz.eq_9 @frzL.eq_1)) (And.intro (And.intro @frzL.eq_2 @refs.eq_1) (And.intro @refs.eq_2 @refs.eq_3))) (And.intro (And.intro (And.intro @refs.eq_4 @refs.eq_5) (And.intro @refsL.eq_1 @refsL.eq_2)) (And.intro (And.intro @noOwn.eq_1 @noOwn.eq_2) (And.intro @noOwn.eq_3 @noOwn.eq_4)))))) := (And.intro (And.intro (And.intro (And.intro (And.intro @al.eq_2 (And.intro @al.eq_3 @al.eq_4)) (And.intro (And.intro @al.eq_5 @al.eq_6) (And.intro @alL.eq_1 @alL.eq_2))) (And.intro (And.intro (And.intro @purge1.eq_1 @purge1.eq_2) (And.intro @purge1.eq_3 @purge1.eq_4)) (And.intro (And.intro @purge1.eq_5 @purgeL.eq_1) (And.intro @purgeL.eq_2 @Env.get.eq_1)))) (And.intro (And.intro (And.intro @Env.get.eq_2 (And.intro @Env.set.eq_1 @Env.set.eq_2)) (And.intro (And.intro @Env.keep.eq_1 @Env.keep.eq_2) (And.intro @Env.purgeBy.eq_1 @Env.purgeBy.eq_2))) (And.intro (And.intro (And.intro @Env.purge.eq_1 @Env.setD.eq_1) (And.intro @Env.sub.eq_1 @Env.upd.eq_1)) (And.intro (And.intro @sub.eq_1 @sub.eq_2) (And.intro @upd.eq_1 @upd.eq_2))))) (And.intro (And.intro (And.intro (And.intro @kids.eq_1 (And.intro @kids.eq_2 @kids.eq_3)) (And.intro (And.intro @kids.eq_4 @setKid.eq_1) (And.intro @setKid.eq_2 @setKid.eq_3))) (And.intro (And.intro (And.intro @setKid.eq_4 @frz.eq_1) (And.intro @frz.eq_2 @frz.eq_3)) (And.intro (And.intro @frz.eq_4 @frz.eq_5) (And.intro @frz.eq_6 @frz.eq_7)))) (And.intro (And.intro (And.intro @frz.eq_8 (And.intro @frz.eq_9 @frzL.eq_1)) (And.intro (And.intro @frzL.eq_2 @refs.eq_1) (And.intro @refs.eq_2 @refs.eq_3))) (And.intro (And.intro (And.intro @refs.eq_4 @refs.eq_5) (And.intro @refsL.eq_1 @refsL.eq_2)) (And.intro (And.intro @noOwn.eq_1 @noOwn.eq_2) (And.intro @noOwn.eq_3 @noOwn.eq_4))))))
theorem rna2 : type_of% (And.intro (And.intro (And.intro (And.intro (And.intro @noOwn.eq_5 (And.intro @noOwnL.eq_1 @noOwnL.eq_2)) (And.intro (And.intro @PV.free.eq_1 @PV.free.eq_2) (And.intro @PV.free.eq_3 @PV.free.eq_4))) (And.intro (And.intro (And.intro @PV.free.eq_5 @PV.free.eq_6) (And.intro @PV.free.eq_7 @PV.free.eq_8)) (And.intro (And.intro @take1.eq_1 @take1.eq_2) (And.intro @takeL.eq_1 @takeL.eq_2)))) (And.intro (And.intro (And.intro @copy1.eq_1 (And.intro @copy1.eq_2 @copyL.eq_1)) (And.intro (And.intro @copyL.eq_2 @pass1.eq_1) (And.intro @pass1.eq_2 @pass1.eq_3))) (And.intro (And.intro (And.intro @passL.eq_1 @passL.eq_2) (And.intro @share.eq_1 @lend.eq_1)) (And.intro (And.intro @lend.eq_2 @lend1.eq_1) (And.intro @lend1.eq_2 @lendL.eq_1))))) (And.intro (And.intro (And.intro (And.intro @lendL.eq_2 (And.intro @lend1L.eq_1 @lend1L.eq_2)) (And.intro (And.intro @give.eq_1 @give.eq_2) (And.intro @give.eq_3 @give.eq_4))) (And.intro (And.intro (And.intro @resVal.eq_1 @resVal.eq_2) (And.intro @resL.eq_1 @resL.eq_2)) (And.intro (And.intro @outsOf.eq_1 @outsOf.eq_2) (And.intro @tupOf.eq_1 @params.eq_1)))) (And.intro (And.intro (And.intro @params.eq_2 (And.intro @stepD.eq_1 @stepsD.eq_1)) (And.intro (And.intro @stepsD.eq_2 @regD.eq_1) (And.intro @dstsOf.eq_1 @dstsOf.eq_2))) (And.intro (And.intro (And.intro @setCells.eq_1 @setCells.eq_2) (And.intro @putObj.eq_1 @cells.eq_1)) (And.intro (And.intro @fillP.eq_1 @fillP.eq_2) (And.intro @rep.eq_1 @rep.eq_2)))))) := (And.intro (And.intro (And.intro (And.intro (And.intro @noOwn.eq_5 (And.intro @noOwnL.eq_1 @noOwnL.eq_2)) (And.intro (And.intro @PV.free.eq_1 @PV.free.eq_2) (And.intro @PV.free.eq_3 @PV.free.eq_4))) (And.intro (And.intro (And.intro @PV.free.eq_5 @PV.free.eq_6) (And.intro @PV.free.eq_7 @PV.free.eq_8)) (And.intro (And.intro @take1.eq_1 @take1.eq_2) (And.intro @takeL.eq_1 @takeL.eq_2)))) (And.intro (And.intro (And.intro @copy1.eq_1 (And.intro @copy1.eq_2 @copyL.eq_1)) (And.intro (And.intro @copyL.eq_2 @pass1.eq_1) (And.intro @pass1.eq_2 @pass1.eq_3))) (And.intro (And.intro (And.intro @passL.eq_1 @passL.eq_2) (And.intro @share.eq_1 @lend.eq_1)) (And.intro (And.intro @lend.eq_2 @lend1.eq_1) (And.intro @lend1.eq_2 @lendL.eq_1))))) (And.intro (And.intro (And.intro (And.intro @lendL.eq_2 (And.intro @lend1L.eq_1 @lend1L.eq_2)) (And.intro (And.intro @give.eq_1 @give.eq_2) (And.intro @give.eq_3 @give.eq_4))) (And.intro (And.intro (And.intro @resVal.eq_1 @resVal.eq_2) (And.intro @resL.eq_1 @resL.eq_2)) (And.intro (And.intro @outsOf.eq_1 @outsOf.eq_2) (And.intro @tupOf.eq_1 @params.eq_1)))) (And.intro (And.intro (And.intro @params.eq_2 (And.intro @stepD.eq_1 @stepsD.eq_1)) (And.intro (And.intro @stepsD.eq_2 @regD.eq_1) (And.intro @dstsOf.eq_1 @dstsOf.eq_2))) (And.intro (And.intro (And.intro @setCells.eq_1 @setCells.eq_2) (And.intro @putObj.eq_1 @cells.eq_1)) (And.intro (And.intro @fillP.eq_1 @fillP.eq_2) (And.intro @rep.eq_1 @rep.eq_2))))))
theorem rna3 : type_of% (And.intro (And.intro (And.intro (And.intro (And.intro @part.eq_1 (And.intro @objCells.eq_1 @objCells.eq_2)) (And.intro (And.intro @pvBin.eq_1 @pvBin.eq_2) (And.intro @intBin.eq_1 @intBin.eq_2))) (And.intro (And.intro (And.intro @intBin.eq_3 @intBin.eq_4) (And.intro @intBin.eq_5 @intBin.eq_6)) (And.intro (And.intro @intBin.eq_7 @intBin.eq_8) (And.intro @intBin.eq_9 @intBin.eq_10)))) (And.intro (And.intro (And.intro @intBin.eq_11 (And.intro @intBin.eq_12 @intBin.eq_13)) (And.intro (And.intro @intBin.eq_14 @intBin.eq_15) (And.intro @intBin.eq_16 @intBin.eq_17))) (And.intro (And.intro (And.intro @strBin.eq_1 @strBin.eq_2) (And.intro @strBin.eq_3 @slCells.eq_1)) (And.intro (And.intro @slCells.eq_2 @slCells.eq_3) (And.intro @bnd.eq_1 @bnd.eq_2))))) (And.intro (And.intro (And.intro (And.intro @refAt.eq_1 (And.intro @refAt.eq_2 @waysOf.eq_1)) (And.intro (And.intro @und.eq_1 @deep.eq_1) (And.intro @canUpd.eq_1 @isT.eq_1))) (And.intro (And.intro (And.intro @setO.eq_1 @setO.eq_2) (And.intro @boxOnly.eq_1 @purges.eq_1)) (And.intro (And.intro @purges.eq_2 @PV.lok.eq_1) (And.intro @PV.lok.eq_2 @eqCells.eq_1)))) (And.intro (And.intro (And.intro @eqCells.eq_2 (And.intro @eqCells.eq_3 @eqCells.eq_4)) (And.intro (And.intro @pvBeq.eq_1 @pvAeq.eq_1) (And.intro @pvPeq.eq_1 @pvPeq.eq_2))) (And.intro (And.intro (And.intro @pvPeq.eq_3 @pvPeq.eq_4) (And.intro @pvPeq.eq_5 @pvUn.eq_1)) (And.intro (And.intro @pvUn.eq_2 @PV.isNone.eq_1) (And.intro @lent.eq_1 @lent.eq_2)))))) := (And.intro (And.intro (And.intro (And.intro (And.intro @part.eq_1 (And.intro @objCells.eq_1 @objCells.eq_2)) (And.intro (And.intro @pvBin.eq_1 @pvBin.eq_2) (And.intro @intBin.eq_1 @intBin.eq_2))) (And.intro (And.intro (And.intro @intBin.eq_3 @intBin.eq_4) (And.intro @intBin.eq_5 @intBin.eq_6)) (And.intro (And.intro @intBin.eq_7 @intBin.eq_8) (And.intro @intBin.eq_9 @intBin.eq_10)))) (And.intro (And.intro (And.intro @intBin.eq_11 (And.intro @intBin.eq_12 @intBin.eq_13)) (And.intro (And.intro @intBin.eq_14 @intBin.eq_15) (And.intro @intBin.eq_16 @intBin.eq_17))) (And.intro (And.intro (And.intro @strBin.eq_1 @strBin.eq_2) (And.intro @strBin.eq_3 @slCells.eq_1)) (And.intro (And.intro @slCells.eq_2 @slCells.eq_3) (And.intro @bnd.eq_1 @bnd.eq_2))))) (And.intro (And.intro (And.intro (And.intro @refAt.eq_1 (And.intro @refAt.eq_2 @waysOf.eq_1)) (And.intro (And.intro @und.eq_1 @deep.eq_1) (And.intro @canUpd.eq_1 @isT.eq_1))) (And.intro (And.intro (And.intro @setO.eq_1 @setO.eq_2) (And.intro @boxOnly.eq_1 @purges.eq_1)) (And.intro (And.intro @purges.eq_2 @PV.lok.eq_1) (And.intro @PV.lok.eq_2 @eqCells.eq_1)))) (And.intro (And.intro (And.intro @eqCells.eq_2 (And.intro @eqCells.eq_3 @eqCells.eq_4)) (And.intro (And.intro @pvBeq.eq_1 @pvAeq.eq_1) (And.intro @pvPeq.eq_1 @pvPeq.eq_2))) (And.intro (And.intro (And.intro @pvPeq.eq_3 @pvPeq.eq_4) (And.intro @pvPeq.eq_5 @pvUn.eq_1)) (And.intro (And.intro @pvUn.eq_2 @PV.isNone.eq_1) (And.intro @lent.eq_1 @lent.eq_2))))))
theorem rna4 : type_of% (And.intro (And.intro (And.intro (And.intro @lent.eq_3 @PV.flat1.eq_1) (And.intro @PV.flat1.eq_2 @PV.flat1.eq_3)) (And.intro (And.intro @PV.flat.eq_1 @PV.flat.eq_2) (And.intro @norm1.eq_1 @lendCaps.eq_1))) (And.intro (And.intro (And.intro @lendCaps.eq_2 @fgt.eq_1) (And.intro @seqK.eq_1 @blockK.eq_1)) (And.intro (And.intro @condK.eq_1 @condK.eq_2) (And.intro @PV.isView.eq_1 (And.intro @PV.isRef.eq_1 @bytesOf.eq_1))))) := (And.intro (And.intro (And.intro (And.intro @lent.eq_3 @PV.flat1.eq_1) (And.intro @PV.flat1.eq_2 @PV.flat1.eq_3)) (And.intro (And.intro @PV.flat.eq_1 @PV.flat.eq_2) (And.intro @norm1.eq_1 @lendCaps.eq_1))) (And.intro (And.intro (And.intro @lendCaps.eq_2 @fgt.eq_1) (And.intro @seqK.eq_1 @blockK.eq_1)) (And.intro (And.intro @condK.eq_1 @condK.eq_2) (And.intro @PV.isView.eq_1 (And.intro @PV.isRef.eq_1 @bytesOf.eq_1)))))
theorem rnb0 : (∀ (r : Nat) (p : List Nat) (b : Bool), al r p (.bool b) = (.bool b)) ∧
  (∀ (r : Nat) (p : List Nat) (k : IntKind) (n : Int), al r p (.int k n) = (.int k n)) ∧
  (∀ (r : Nat) (p : List Nat) (s : List UInt8), al r p (.str s) = (.str s)) ∧
  (∀ (r : Nat) (p : List Nat) , al r p (.nilp) = (.nilp)) ∧
  (∀ (r : Nat) (p : List Nat) , al r p (.nilf) = (.nilf)) ∧
  (∀ (r : Nat) (p : List Nat) (l : Nat) (c : List PV), al r p (.sl l c) = (.sl l c)) ∧
  (∀ (r : Nat) (p : List Nat) (c : List PV), al r p (.sp c) = (.sp c)) ∧
  (∀ (r : Nat) (p : List Nat) , al r p (.nils) = (.nils)) ∧
  (∀ (r : Nat) (p : List Nat) , al r p (PV.none) = (PV.none)) ∧
  (∀ (r : Nat) (p : List Nat) (r2 : Nat) (p2 : List Nat) (o l z : Nat), al r p (.view r2 p2 o l z) = (.view r2 p2 o l z)) ∧
  (∀ (r : Nat) (p : List Nat) (r2 : Nat) (p2 : List Nat) (i n : Nat), al r p (.ref r2 p2 i n) = (.ref r2 p2 i n)) ∧
  (∀ (f : Nat → List Nat → Bool) (b : Bool), purge1 f (.bool b) = (.bool b)) ∧
  (∀ (f : Nat → List Nat → Bool) (k : IntKind) (n : Int), purge1 f (.int k n) = (.int k n)) ∧
  (∀ (f : Nat → List Nat → Bool) (s : List UInt8), purge1 f (.str s) = (.str s)) ∧
  (∀ (f : Nat → List Nat → Bool) , purge1 f (.nilp) = (.nilp)) ∧
  (∀ (f : Nat → List Nat → Bool) , purge1 f (.nilf) = (.nilf)) ∧
  (∀ (f : Nat → List Nat → Bool) (l : Nat) (c : List PV), purge1 f (.sl l c) = (.sl l c)) ∧
  (∀ (f : Nat → List Nat → Bool) (c : List PV), purge1 f (.sp c) = (.sp c)) ∧
  (∀ (f : Nat → List Nat → Bool) , purge1 f (.nils) = (.nils)) ∧
  (∀ (f : Nat → List Nat → Bool) , purge1 f (PV.none) = (PV.none)) ∧
  (∀ (f : Nat → List Nat → Bool) (a l : Nat) (c : List PV), purge1 f (.own a l c) = (.own a l c)) ∧
  (∀ (f : Nat → List Nat → Bool) (c : List PV), purge1 f (.box c) = (.box c)) ∧
  (∀  (k : IntKind) (n : Int), kids (.int k n) = []) ∧
  (∀  (b : Bool), frz (.bool b) = some (.bool b)) ∧
  (∀  (k : IntKind) (n : Int), frz (.int k n) = some (.int k n)) ∧
  (∀  (s : List UInt8), frz (.str s) = some (.str s)) ∧
  (frz (.nilp) = some (.nilp)) ∧
  (frz (.nilf) = some (.nilf)) ∧
  (∀  (l : Nat) (c : List PV), frz (.sl l c) = some (.sl l c)) ∧
  (∀  (c : List PV), frz (.sp c) = some (.sp c)) ∧
  (∀  (b : Bool), refs (.bool b) = []) ∧
  (∀  (k : IntKind) (n : Int), refs (.int k n) = []) ∧
  (∀  (s : List UInt8), refs (.str s) = []) ∧
  (refs (.nilp) = []) ∧
  (refs (.nilf) = []) ∧
  (∀  (l : Nat) (c : List PV), refs (.sl l c) = []) ∧
  (∀  (c : List PV), refs (.sp c) = []) ∧
  (refs (.nils) = []) ∧
  (refs (PV.none) = []) ∧
  (∀  (a l : Nat) (c : List PV), refs (.own a l c) = []) ∧
  (∀  (c : List PV), refs (.box c) = []) ∧
  (∀ (ds : List Nat) (b : Bool), noRefs ds (.bool b) = true) ∧
  (∀ (ds : List Nat) (k : IntKind) (n : Int), noRefs ds (.int k n) = true) ∧
  (∀ (ds : List Nat) (s : List UInt8), noRefs ds (.str s) = true) ∧
  (∀ (ds : List Nat) , noRefs ds (.nilp) = true) ∧
  (∀ (ds : List Nat) , noRefs ds (.nilf) = true) ∧
  (∀ (ds : List Nat) (l : Nat) (c : List PV), noRefs ds (.sl l c) = true) ∧
  (∀ (ds : List Nat) (c : List PV), noRefs ds (.sp c) = true) ∧
  (∀ (ds : List Nat) , noRefs ds (.nils) = true) ∧
  (∀ (ds : List Nat) , noRefs ds (PV.none) = true) ∧
  (∀ (ds : List Nat) (a l : Nat) (c : List PV), noRefs ds (.own a l c) = true) ∧
  (∀ (ds : List Nat) (c : List PV), noRefs ds (.box c) = true) ∧
  (∀ (ds : List Nat) (r : Nat) (p : List Nat) (i n : Nat), noRefs ds (.ref r p i n) = (!ds.contains r && true)) ∧
  (∀ (ds : List Nat) (r : Nat) (p : List Nat) (o l z : Nat), noRefs ds (.view r p o l z) = (!ds.contains r && true)) ∧
  (∀ (ds : List Nat), noRefs ds (.tup []) = true) ∧
  (∀  (b : Bool), noOwn (.bool b) = true) ∧
  (∀  (k : IntKind) (n : Int), noOwn (.int k n) = true) ∧
  (∀  (s : List UInt8), noOwn (.str s) = true) ∧
  (noOwn (.nilp) = true) ∧
  (noOwn (.nilf) = true) := by
  refine ⟨?_, ?_, ?_, ?_, ?_, ?_, ?_, ?_, ?_, ?_, ?_, ?_, ?_, ?_, ?_, ?_, ?_, ?_, ?_, ?_, ?_, ?_, ?_, ?_, ?_, ?_, ?_, ?_, ?_, ?_, ?_, ?_, ?_, ?_, ?_, ?_, ?_, ?_, ?_, ?_, ?_, ?_, ?_, ?_, ?_, ?_, ?_, ?_, ?_, ?_, ?_, ?_, ?_, ?_, ?_, ?_, ?_, ?_, ?_, ?_⟩ <;> intros <;> rfl
theorem rnb1 : (∀  (l : Nat) (c : List PV), noOwn (.sl l c) = true) ∧
  (∀  (c : List PV), noOwn (.sp c) = true) ∧
  (noOwn (.nils) = true) ∧
  (noOwn (PV.none) = true) ∧
  (∀  (r2 : Nat) (p2 : List Nat) (o l z : Nat), noOwn (.view r2 p2 o l z) = true) ∧
  (∀  (r2 : Nat) (p2 : List Nat) (i n : Nat), noOwn (.ref r2 p2 i n) = true) ∧
  (∀  (b : Bool), PV.free (.bool b) = true) ∧
  (∀  (k : IntKind) (n : Int), PV.free (.int k n) = true) ∧
  (∀  (s : List UInt8), PV.free (.str s) = true) ∧
  (PV.free (.nilp) = true) ∧
  (PV.free (.nilf) = true) ∧
  (∀  (l : Nat) (c : List PV), PV.free (.sl l c) = true) ∧
  (∀  (c : List PV), PV.free (.sp c) = true) ∧
  (PV.free (.nils) = true) ∧
  (∀ (e : Env) (b : Bool), take1 e (.bool b) = some ((.bool b), e)) ∧
  (∀ (e : Env) (k : IntKind) (n : Int), take1 e (.int k n) = some ((.int k n), e)) ∧
  (∀ (e : Env) (s : List UInt8), take1 e (.str s) = some ((.str s), e)) ∧
  (∀ (e : Env) , take1 e (.nilp) = some ((.nilp), e)) ∧
  (∀ (e : Env) , take1 e (.nilf) = some ((.nilf), e)) ∧
  (∀ (e : Env) (l : Nat) (c : List PV), take1 e (.sl l c) = some ((.sl l c), e)) ∧
  (∀ (e : Env) (c : List PV), take1 e (.sp c) = some ((.sp c), e)) ∧
  (∀ (e : Env) , take1 e (.nils) = some ((.nils), e)) ∧
  (∀ (e : Env) (b : Bool), copy1 e (.bool b) = some ((.bool b), e)) ∧
  (∀ (e : Env) (k : IntKind) (n : Int), copy1 e (.int k n) = some ((.int k n), e)) ∧
  (∀ (e : Env) (s : List UInt8), copy1 e (.str s) = some ((.str s), e)) ∧
  (∀ (e : Env) , copy1 e (.nilp) = some ((.nilp), e)) ∧
  (∀ (e : Env) , copy1 e (.nilf) = some ((.nilf), e)) ∧
  (∀ (e : Env) (l : Nat) (c : List PV), copy1 e (.sl l c) = some ((.sl l c), e)) ∧
  (∀ (e : Env) (c : List PV), copy1 e (.sp c) = some ((.sp c), e)) ∧
  (∀ (e : Env) (b : Bool), pass1 e (.bool b) = some ((.bool b), e)) ∧
  (∀ (e : Env) (k : IntKind) (n : Int), pass1 e (.int k n) = some ((.int k n), e)) ∧
  (∀ (e : Env) (s : List UInt8), pass1 e (.str s) = some ((.str s), e)) ∧
  (∀ (e : Env) , pass1 e (.nilp) = some ((.nilp), e)) ∧
  (∀ (e : Env) , pass1 e (.nilf) = some ((.nilf), e)) ∧
  (∀ (e : Env) (l : Nat) (c : List PV), pass1 e (.sl l c) = some ((.sl l c), e)) ∧
  (∀ (e : Env) (c : List PV), pass1 e (.sp c) = some ((.sp c), e)) ∧
  (∀ (e : Env) , pass1 e (.nils) = copy1 e (.nils)) ∧
  (∀ (e : Env) (r2 : Nat) (p2 : List Nat) (o l z : Nat), pass1 e (.view r2 p2 o l z) = copy1 e (.view r2 p2 o l z)) ∧
  (∀ (S : Subs) (b : Bool), lend1 S (.bool b) = some (.bool b)) ∧
  (∀ (S : Subs) (k : IntKind) (n : Int), lend1 S (.int k n) = some (.int k n)) ∧
  (∀ (S : Subs) (s : List UInt8), lend1 S (.str s) = some (.str s)) ∧
  (∀ (S : Subs) , lend1 S (.nilp) = some (.nilp)) ∧
  (∀ (S : Subs) , lend1 S (.nilf) = some (.nilf)) ∧
  (∀ (S : Subs) (l : Nat) (c : List PV), lend1 S (.sl l c) = some (.sl l c)) ∧
  (∀ (S : Subs) (c : List PV), lend1 S (.sp c) = some (.sp c)) ∧
  (∀ (S : Subs) (r2 : Nat) (p2 : List Nat) (i n : Nat), lend1 S (.ref r2 p2 i n) = none) ∧
  (∀ (S : Subs) (b : Bool), lend S (.bool b) = lend1 S (.bool b)) ∧
  (∀ (S : Subs) (k : IntKind) (n : Int), lend S (.int k n) = lend1 S (.int k n)) ∧
  (∀ (S : Subs) (s : List UInt8), lend S (.str s) = lend1 S (.str s)) ∧
  (∀ (S : Subs) , lend S (.nilp) = lend1 S (.nilp)) ∧
  (∀ (S : Subs) , lend S (.nilf) = lend1 S (.nilf)) ∧
  (∀ (S : Subs) (l : Nat) (c : List PV), lend S (.sl l c) = lend1 S (.sl l c)) ∧
  (∀ (S : Subs) (c : List PV), lend S (.sp c) = lend1 S (.sp c)) ∧
  (∀ (S : Subs) , lend S (.nils) = lend1 S (.nils)) ∧
  (∀ (S : Subs) (r2 : Nat) (p2 : List Nat) (o l z : Nat), lend S (.view r2 p2 o l z) = lend1 S (.view r2 p2 o l z)) ∧
  (∀ (S : Subs) (r2 : Nat) (p2 : List Nat) (i n : Nat), lend S (.ref r2 p2 i n) = lend1 S (.ref r2 p2 i n)) ∧
  (∀ (kp : Bool) (e : Env) (b : Bool), give kp e (.bool b) = some ((.bool b), e)) ∧
  (∀ (kp : Bool) (e : Env) (k : IntKind) (n : Int), give kp e (.int k n) = some ((.int k n), e)) ∧
  (∀ (kp : Bool) (e : Env) (s : List UInt8), give kp e (.str s) = some ((.str s), e)) ∧
  (∀ (kp : Bool) (e : Env) , give kp e (.nilp) = some ((.nilp), e)) := by
  refine ⟨?_, ?_, ?_, ?_, ?_, ?_, ?_, ?_, ?_, ?_, ?_, ?_, ?_, ?_, ?_, ?_, ?_, ?_, ?_, ?_, ?_, ?_, ?_, ?_, ?_, ?_, ?_, ?_, ?_, ?_, ?_, ?_, ?_, ?_, ?_, ?_, ?_, ?_, ?_, ?_, ?_, ?_, ?_, ?_, ?_, ?_, ?_, ?_, ?_, ?_, ?_, ?_, ?_, ?_, ?_, ?_, ?_, ?_, ?_, ?_⟩ <;> intros <;> rfl
theorem rnb2 : (∀ (kp : Bool) (e : Env) , give kp e (.nilf) = some ((.nilf), e)) ∧
  (∀ (kp : Bool) (e : Env) (l : Nat) (c : List PV), give kp e (.sl l c) = some ((.sl l c), e)) ∧
  (∀ (kp : Bool) (e : Env) (c : List PV), give kp e (.sp c) = some ((.sp c), e)) ∧
  (∀ (a b : PV) (r : List PV), tupOf (a :: b :: r) = .tup (a :: b :: r)) ∧
  (tupOf [] = .tup []) ∧
  (∀  (b : Bool), objCells (.bool b) = Option.none) ∧
  (∀  (k : IntKind) (n : Int), objCells (.int k n) = Option.none) ∧
  (∀  (s : List UInt8), objCells (.str s) = Option.none) ∧
  (objCells (.nilp) = Option.none) ∧
  (objCells (.nilf) = Option.none) ∧
  (∀  (l : Nat) (c : List PV), objCells (.sl l c) = Option.none) ∧
  (∀  (c : List PV), objCells (.sp c) = Option.none) ∧
  (objCells (.nils) = Option.none) ∧
  (objCells (PV.none) = Option.none) ∧
  (∀  (b : Bool), cells (.bool b) = [(.bool b)]) ∧
  (∀  (k : IntKind) (n : Int), cells (.int k n) = [(.int k n)]) ∧
  (∀  (s : List UInt8), cells (.str s) = [(.str s)]) ∧
  (cells (.nilp) = [(.nilp)]) ∧
  (cells (.nilf) = [(.nilf)]) ∧
  (∀  (l : Nat) (c : List PV), cells (.sl l c) = [(.sl l c)]) ∧
  (∀  (c : List PV), cells (.sp c) = [(.sp c)]) ∧
  (cells (.nils) = [(.nils)]) ∧
  (∀  (r2 : Nat) (p2 : List Nat) (o l z : Nat), cells (.view r2 p2 o l z) = [(.view r2 p2 o l z)]) ∧
  (∀  (r2 : Nat) (p2 : List Nat) (i n : Nat), cells (.ref r2 p2 i n) = [(.ref r2 p2 i n)]) ∧
  (∀  (b : Bool), waysOf (.bool b) = refs (.bool b)) ∧
  (∀  (k : IntKind) (n : Int), waysOf (.int k n) = refs (.int k n)) ∧
  (∀  (s : List UInt8), waysOf (.str s) = refs (.str s)) ∧
  (waysOf (.nilp) = refs (.nilp)) ∧
  (waysOf (.nilf) = refs (.nilf)) ∧
  (∀  (l : Nat) (c : List PV), waysOf (.sl l c) = refs (.sl l c)) ∧
  (∀  (c : List PV), waysOf (.sp c) = refs (.sp c)) ∧
  (waysOf (.nils) = refs (.nils)) ∧
  (∀  (r2 : Nat) (p2 : List Nat) (o l z : Nat), waysOf (.view r2 p2 o l z) = refs (.view r2 p2 o l z)) ∧
  (∀  (b : Bool), boxOnly (.bool b) = PV.none) ∧
  (∀  (k : IntKind) (n : Int), boxOnly (.int k n) = PV.none) ∧
  (∀  (s : List UInt8), boxOnly (.str s) = PV.none) ∧
  (boxOnly (.nilp) = PV.none) ∧
  (boxOnly (.nilf) = PV.none) ∧
  (∀  (l : Nat) (c : List PV), boxOnly (.sl l c) = PV.none) ∧
  (∀  (c : List PV), boxOnly (.sp c) = PV.none) ∧
  (boxOnly (.nils) = PV.none) ∧
  (boxOnly (PV.none) = PV.none) ∧
  (∀  (a l : Nat) (c : List PV), boxOnly (.own a l c) = PV.none) ∧
  (∀  (r2 : Nat) (p2 : List Nat) (o l z : Nat), boxOnly (.view r2 p2 o l z) = PV.none) ∧
  (∀  (r2 : Nat) (p2 : List Nat) (i n : Nat), boxOnly (.ref r2 p2 i n) = PV.none) ∧
  (∀ (c : List PV), boxOnly (.agg c) = .none) ∧
  (∀ (c : List PV), boxOnly (.tup c) = .none) ∧
  (∀  (b : Bool), PV.lok (.bool b) = true) ∧
  (∀  (k : IntKind) (n : Int), PV.lok (.int k n) = true) ∧
  (∀  (s : List UInt8), PV.lok (.str s) = true) ∧
  (PV.lok (.nilp) = true) ∧
  (PV.lok (.nilf) = true) ∧
  (∀  (l : Nat) (c : List PV), PV.lok (.sl l c) = true) ∧
  (∀  (c : List PV), PV.lok (.sp c) = true) ∧
  (PV.lok (.nils) = true) ∧
  (∀  (b : Bool), PV.isNone (.bool b) = false) ∧
  (∀  (k : IntKind) (n : Int), PV.isNone (.int k n) = false) ∧
  (∀  (s : List UInt8), PV.isNone (.str s) = false) ∧
  (PV.isNone (.nilp) = false) ∧
  (PV.isNone (.nilf) = false) := by
  refine ⟨?_, ?_, ?_, ?_, ?_, ?_, ?_, ?_, ?_, ?_, ?_, ?_, ?_, ?_, ?_, ?_, ?_, ?_, ?_, ?_, ?_, ?_, ?_, ?_, ?_, ?_, ?_, ?_, ?_, ?_, ?_, ?_, ?_, ?_, ?_, ?_, ?_, ?_, ?_, ?_, ?_, ?_, ?_, ?_, ?_, ?_, ?_, ?_, ?_, ?_, ?_, ?_, ?_, ?_, ?_, ?_, ?_, ?_, ?_, ?_⟩ <;> intros <;> rfl
theorem rnb3 : (∀  (l : Nat) (c : List PV), PV.isNone (.sl l c) = false) ∧
  (∀  (c : List PV), PV.isNone (.sp c) = false) ∧
  (PV.isNone (.nils) = false) ∧
  (∀  (r2 : Nat) (p2 : List Nat) (o l z : Nat), PV.isNone (.view r2 p2 o l z) = false) ∧
  (∀  (r2 : Nat) (p2 : List Nat) (i n : Nat), PV.isNone (.ref r2 p2 i n) = false) ∧
  (∀ (c : List PV), PV.isNone (.agg c) = false) ∧
  (∀  (b : Bool), PV.isView (.bool b) = false) ∧
  (∀  (k : IntKind) (n : Int), PV.isView (.int k n) = false) ∧
  (∀  (s : List UInt8), PV.isView (.str s) = false) ∧
  (PV.isView (.nilp) = false) ∧
  (PV.isView (.nilf) = false) ∧
  (∀  (l : Nat) (c : List PV), PV.isView (.sl l c) = false) ∧
  (∀  (c : List PV), PV.isView (.sp c) = false) ∧
  (PV.isView (.nils) = false) ∧
  (∀  (b : Bool), lent (.bool b) = false) ∧
  (∀  (k : IntKind) (n : Int), lent (.int k n) = false) ∧
  (∀  (s : List UInt8), lent (.str s) = false) ∧
  (lent (.nilp) = false) ∧
  (lent (.nilf) = false) ∧
  (∀  (l : Nat) (c : List PV), lent (.sl l c) = false) ∧
  (∀  (c : List PV), lent (.sp c) = false) ∧
  (lent (.nils) = false) ∧
  (∀  (r2 : Nat) (p2 : List Nat) (i n : Nat), lent (.ref r2 p2 i n) = false) ∧
  (PV.flat1 (.nilp) = false) ∧
  (∀  (l : Nat) (c : List PV), PV.flat1 (.sl l c) = false) ∧
  (∀  (c : List PV), PV.flat1 (.sp c) = false) ∧
  (∀  (b : Bool), PV.flat (.bool b) = PV.flat1 (.bool b)) ∧
  (∀  (k : IntKind) (n : Int), PV.flat (.int k n) = PV.flat1 (.int k n)) ∧
  (∀  (s : List UInt8), PV.flat (.str s) = PV.flat1 (.str s)) ∧
  (PV.flat (.nilp) = PV.flat1 (.nilp)) ∧
  (PV.flat (.nilf) = PV.flat1 (.nilf)) ∧
  (∀  (l : Nat) (c : List PV), PV.flat (.sl l c) = PV.flat1 (.sl l c)) ∧
  (∀  (c : List PV), PV.flat (.sp c) = PV.flat1 (.sp c)) ∧
  (∀  (b : Bool), norm1 (.bool b) = (.bool b)) ∧
  (∀  (k : IntKind) (n : Int), norm1 (.int k n) = (.int k n)) ∧
  (∀  (s : List UInt8), norm1 (.str s) = (.str s)) ∧
  (norm1 (.nilp) = (.nilp)) ∧
  (norm1 (.nilf) = (.nilf)) ∧
  (∀  (l : Nat) (c : List PV), norm1 (.sl l c) = (.sl l c)) ∧
  (∀  (c : List PV), norm1 (.sp c) = (.sp c)) ∧
  (∀ (r : List PV) (b : Bool), refAt ((.bool b) :: r) = (refAt r).map fun (k, q) => (k + 1, q)) ∧
  (∀ (r : List PV) (k : IntKind) (n : Int), refAt ((.int k n) :: r) = (refAt r).map fun (k, q) => (k + 1, q)) ∧
  (∀ (r : List PV) (s : List UInt8), refAt ((.str s) :: r) = (refAt r).map fun (k, q) => (k + 1, q)) ∧
  (∀ (r : List PV) , refAt ((.nilp) :: r) = (refAt r).map fun (k, q) => (k + 1, q)) ∧
  (∀ (r : List PV) , refAt ((.nilf) :: r) = (refAt r).map fun (k, q) => (k + 1, q)) ∧
  (∀ (r : List PV) (l : Nat) (c : List PV), refAt ((.sl l c) :: r) = (refAt r).map fun (k, q) => (k + 1, q)) ∧
  (∀ (r : List PV) (c : List PV), refAt ((.sp c) :: r) = (refAt r).map fun (k, q) => (k + 1, q)) ∧
  (∀ (r : List PV) , refAt ((.nils) :: r) = (refAt r).map fun (k, q) => (k + 1, q)) ∧
  (∀ (c r : List PV), refAt (.agg c :: r) = (refAt r).map fun (k, q) => (k + 1, q)) ∧
  (∀ (C : Calls') (L : XO → PV) (S : Subs) (x : XO), evP C L S (.asg x) = Option.none) ∧
  (∀ (C : Calls') (L : XO → PV) (S : Subs) (n : Nat) (x y : XO), evP C L S (.store n x y) = Option.none) ∧
  (∀ (C : Calls') (L : XO → PV) (S : Subs) (x : XO), blocked C L S (.asg x) = false) ∧
  (∀ (C : Calls') (L : XO → PV) (S : Subs) (n : Nat) (x y : XO), blocked C L S (.store n x y) = false) ∧
  (∀ (C : Calls') (L : XO → PV) (S : Subs) (n m : Nat) (x y : XO), blocked C L S (.app n m x y) = false) ∧
  (∀ (C : Calls') (L : XO → PV) (S : Subs) (x : XO) (n : Nat), blocked C L S (.ext x n) = false) ∧
  (∀ (C : Calls') (L : XO → PV) (S : Subs) (n m : Nat) (z : List PV) (p : List (Nat × Nat × XO)), blocked C L S (.bsl n m z p) = false) ∧
  (∀ (C : Calls') (L : XO → PV) (S : Subs) (x : XO), blocked C L S (.box x) = false) ∧
  (∀ (k : IntKind) (x y : Int), intBits .and k x y = some (bAnd k x y)) ∧
  (∀ (k : IntKind) (x y : Int), intBits .or k x y = some (bOr k x y)) ∧
  (∀ (k : IntKind) (x y : Int), intBits .xor k x y = some (bXor k x y)) := by
  refine ⟨?_, ?_, ?_, ?_, ?_, ?_, ?_, ?_, ?_, ?_, ?_, ?_, ?_, ?_, ?_, ?_, ?_, ?_, ?_, ?_, ?_, ?_, ?_, ?_, ?_, ?_, ?_, ?_, ?_, ?_, ?_, ?_, ?_, ?_, ?_, ?_, ?_, ?_, ?_, ?_, ?_, ?_, ?_, ?_, ?_, ?_, ?_, ?_, ?_, ?_, ?_, ?_, ?_, ?_, ?_, ?_, ?_, ?_, ?_, ?_⟩ <;> intros <;> rfl
theorem rnb4 : (IntKind.bits .i8 = 8) ∧
  (IntKind.bits .u8 = 8) ∧
  (IntKind.bits .i16 = 16) ∧
  (IntKind.bits .u16 = 16) ∧
  (IntKind.bits .i32 = 32) ∧
  (IntKind.bits .u32 = 32) ∧
  (IntKind.bits .i64 = 64) ∧
  (IntKind.bits .u64 = 64) ∧
  ((true == true) = true) ∧
  ((true == false) = false) ∧
  ((false == true) = false) ∧
  ((false == false) = true) ∧
  (∀ (id : Nat) (e : Env) (k : Env → Option (Ex × Env)), seqK (some (.exit id, e)) k = some (.exit id, e)) ∧
  (∀ (e : Env) (k : Env → Option (Ex × Env)), seqK (some (.ret, e)) k = some (.ret, e)) ∧
  (∀ (i : Nat) (e : Env), blockK i (some (.norm, e)) = some (.norm, e)) ∧
  (∀ (i : Nat) (e : Env), blockK i (some (.ret, e)) = some (.ret, e)) ∧
  (∀ (l : List Nat) (i : Nat) (e : Env), fgt l (some (.exit i, e)) = some (.exit i, e)) ∧
  (∀ (l : List Nat) (e : Env), fgt l (some (.ret, e)) = some (.ret, e)) ∧
  (∀ (x : XF) (ws : List PV) (e : Env), retK x ws (some (.ret, e)) = (resL x.keep e x.res).map fun (vs, e') => (tupOf vs, outsOf x.prot e' 0 ws)) ∧
  (∀ (x : XF) (ws : List PV) (e : Env), retK x ws (some (.norm, e)) = (resL x.keep e x.res).map fun (vs, e') => (tupOf vs, outsOf x.prot e' 0 ws)) ∧
  (∀ (d : Nat) (w : Bool) (g : Nat → PV), wantsG g (some (d, w)) = (match g d with | .bool b => some (b == w) | .tup [] => some false | _ => Option.none)) := by
  refine ⟨?_, ?_, ?_, ?_, ?_, ?_, ?_, ?_, ?_, ?_, ?_, ?_, ?_, ?_, ?_, ?_, ?_, ?_, ?_, ?_, ?_⟩ <;> intros <;> rfl
theorem rn : type_of% (And.intro (And.intro (And.intro rna0 rna1) (And.intro rna2 (And.intro rna3 rna4))) (And.intro (And.intro rnb0 rnb1) (And.intro rnb2 (And.intro rnb3 rnb4)))) := (And.intro (And.intro (And.intro rna0 rna1) (And.intro rna2 (And.intro rna3 rna4))) (And.intro (And.intro rnb0 rnb1) (And.intro rnb2 (And.intro rnb3 rnb4))))
theorem nzg : (∀ (k : IntKind) (xs : List Int), (xs.flatMap (cint k)).length = xs.length * 1) ∧ (∀ (xs : List Bool), (xs.flatMap cbool).length = xs.length * 1) ∧ (∀ (xs : List Str), (xs.flatMap cstr).length = xs.length * 1) ∧ (∀ (α : Type) (c : α → List PV) (xs : List (List α)), (xs.flatMap (csl c)).length = xs.length * 1) ∧
  (∀ (k : IntKind) (xs : List Int), frzL (xs.flatMap (cint k)) = some (xs.flatMap (cint k))) ∧ (∀ (xs : List Bool), frzL (xs.flatMap cbool) = some (xs.flatMap cbool)) ∧ (∀ (xs : List Str), frzL (xs.flatMap cstr) = some (xs.flatMap cstr)) ∧ (∀ (α : Type) (c : α → List PV) (xs : List (List α)), frzL (xs.flatMap (csl c)) = some (xs.flatMap (csl c))) ∧
  (∀ (k : IntKind) (xs : List Int), (xs.flatMap (cint k)).all PV.free = true) ∧ (∀ (xs : List Bool), (xs.flatMap cbool).all PV.free = true) ∧ (∀ (xs : List Str), (xs.flatMap cstr).all PV.free = true) ∧ (∀ (α : Type) (c : α → List PV) (xs : List (List α)), (xs.flatMap (csl c)).all PV.free = true) ∧
  (∀ (k : IntKind) (xs : List Int), (xs.flatMap (cint k)).take (xs.length * 1) = xs.flatMap (cint k)) ∧ (∀ (xs : List Bool), (xs.flatMap cbool).take (xs.length * 1) = xs.flatMap cbool) ∧ (∀ (xs : List Str), (xs.flatMap cstr).take (xs.length * 1) = xs.flatMap cstr) ∧ (∀ (α : Type) (c : α → List PV) (xs : List (List α)), (xs.flatMap (csl c)).take (xs.length * 1) = xs.flatMap (csl c)) ∧
  (∀ (k : IntKind) (ds : List Nat) (xs : List Int), (xs.flatMap (cint k)).all (noRefs ds) = true) ∧ (∀ (ds : List Nat) (xs : List Bool), (xs.flatMap cbool).all (noRefs ds) = true) ∧ (∀ (ds : List Nat) (xs : List Str), (xs.flatMap cstr).all (noRefs ds) = true) ∧ (∀ (α : Type) (c : α → List PV) (ds : List Nat) (xs : List (List α)), (xs.flatMap (csl c)).all (noRefs ds) = true) ∧ (∀ n : Nat, (n = n * 1) = True) :=
  ⟨fun k => enl_len (sz_int k), enl_len sz_bool, enl_len sz_str, fun _ c => enl_len (sz_sl c), fun k => enl_frz (fz_int k), enl_frz fz_bool, enl_frz fz_str, fun _ c => enl_frz (fz_sl c), fun k => enl_free (fz_int k), enl_free fz_bool, enl_free fz_str, fun _ c => enl_free (fz_sl c), fun k => enl_take (sz_int k), enl_take sz_bool, enl_take sz_str, fun _ c => enl_take (sz_sl c), fun k => enl_noRefs (fz_int k), enl_noRefs fz_bool, enl_noRefs fz_str, fun _ c => enl_noRefs (fz_sl c), fun n => by simp⟩
theorem nzi : (∀ (x : Nat), (x = x) = True) := fun _ => by simp
theorem nzc : ((0 : Nat) : Int) = 0 ∧ ((1 : Nat) : Int) = 1 ∧ ((2 : Nat) : Int) = 2 ∧ ((3 : Nat) : Int) = 3 ∧ ((4 : Nat) : Int) = 4 ∧ ((5 : Nat) : Int) = 5 ∧ ((6 : Nat) : Int) = 6 ∧ ((7 : Nat) : Int) = 7 ∧ ((8 : Nat) : Int) = 8 ∧ ((9 : Nat) : Int) = 9 ∧ ((10 : Nat) : Int) = 10 ∧ ((11 : Nat) : Int) = 11 ∧ ((12 : Nat) : Int) = 12 ∧ ((13 : Nat) : Int) = 13 ∧ ((14 : Nat) : Int) = 14 ∧ ((15 : Nat) : Int) = 15 ∧ ((16 : Nat) : Int) = 16 := ⟨rfl, rfl, rfl, rfl, rfl, rfl, rfl, rfl, rfl, rfl, rfl, rfl, rfl, rfl, rfl, rfl, rfl⟩
theorem nzt : (∀ (σ ρ β : Type) (f : σ → β) (g : ρ → β) (s : σ), stpK f g (.next s) = f s) ∧ (∀ (σ ρ β : Type) (f : σ → β) (g : ρ → β) (r : ρ), stpK f g (.stop r) = g r) := ⟨fun _ _ _ _ _ _ => rfl, fun _ _ _ _ _ _ => rfl⟩
theorem nz : type_of% (And.intro (And.intro (And.intro (And.intro (And.intro (And.intro nzg nzc) (And.intro nzt (And.intro @List.length_nil.{0} @List.flatMap_nil.{0, 0}))) (And.intro (And.intro @mkOwn_nil @mkOwn_succ) (And.intro @mkView_nil (And.intro @mkView_succ @List.length_cons.{0})))) (And.intro (And.intro (And.intro @List.flatMap_cons.{0, 0} @List.length_set.{0}) (And.intro @List.append_nil.{0} (And.intro @List.cons_append.{0} @List.nil_append.{0}))) (And.intro (And.intro @Nat.zero_add @Nat.zero_mul) (And.intro @List.drop_zero.{0} (And.intro @Nat.le_refl @eq_self.{1}))))) (And.intro (And.intro (And.intro (And.intro @and_true @true_and) (And.intro @and_self (And.intro @ne_eq.{1} @not_true_eq_false))) (And.intro (And.intro @not_false_eq_true @or_false) (And.intro @false_or (And.intro @or_self @Bool.or_true)))) (And.intro (And.intro (And.intro @Bool.true_or @Bool.or_false) (And.intro @Bool.false_or (And.intro @Bool.and_true @Bool.true_and))) (And.intro (And.intro @Bool.and_false (And.intro @Bool.false_and @Bool.not_true)) (And.intro @Bool.not_false (And.intro @List.isEmpty_nil.{0} @List.all_cons.{0})))))) (And.intro (And.intro (And.intro (And.intro (And.intro @List.all_nil.{0} @List.any_cons.{0}) (And.intro @List.any_nil.{0} (And.intro @List.map_cons.{0, 0} @List.map_nil.{0, 0}))) (And.intro (And.intro @List.getElem?_cons_zero.{0} @List.getElem?_cons_succ.{0}) (And.intro @List.set_cons_zero.{0} (And.intro @List.set_cons_succ.{0} @List.take_succ_cons.{0})))) (And.intro (And.intro (And.intro @List.take_zero.{0} @List.drop_succ_cons.{0}) (And.intro @List.take_nil.{0} (And.intro @List.drop_nil.{0} @Bool.not_eq_false))) (And.intro (And.intro @Bool.not_eq_true @Bool.true_eq_false) (And.intro @beq_self_eq_true.{0} (And.intro @lim_eq @refs_mkOwn))))) (And.intro (And.intro (And.intro (And.intro @noRefs_mkOwn @noRefs_agg) (And.intro @purge1_mkOwn (And.intro @noOwnL_int @purgeL_int))) (And.intro (And.intro @alL_int @refsL_int) (And.intro @bytesOf_enl (And.intro @cint.eq_1 @cbool.eq_1)))) (And.intro (And.intro (And.intro @cstr.eq_1 @csl.eq_1) (And.intro @decide_true (And.intro @decide_false @Option.bind_some.{0, 0}))) (And.intro (And.intro @List.isPrefixOf_nil_left.{0} (And.intro @Bool.false_xor @Bool.true_xor)) (And.intro @List.length_append.{0} (And.intro @List.replicate_zero.{0} @List.flatMap_append.{0, 0}))))))) := (And.intro (And.intro (And.intro (And.intro (And.intro (And.intro nzg nzc) (And.intro nzt (And.intro @List.length_nil.{0} @List.flatMap_nil.{0, 0}))) (And.intro (And.intro @mkOwn_nil @mkOwn_succ) (And.intro @mkView_nil (And.intro @mkView_succ @List.length_cons.{0})))) (And.intro (And.intro (And.intro @List.flatMap_cons.{0, 0} @List.length_set.{0}) (And.intro @List.append_nil.{0} (And.intro @List.cons_append.{0} @List.nil_append.{0}))) (And.intro (And.intro @Nat.zero_add @Nat.zero_mul) (And.intro @List.drop_zero.{0} (And.intro @Nat.le_refl @eq_self.{1}))))) (And.intro (And.intro (And.intro (And.intro @and_true @true_and) (And.intro @and_self (And.intro @ne_eq.{1} @not_true_eq_false))) (And.intro (And.intro @not_false_eq_true @or_false) (And.intro @false_or (And.intro @or_self @Bool.or_true)))) (And.intro (And.intro (And.intro @Bool.true_or @Bool.or_false) (And.intro @Bool.false_or (And.intro @Bool.and_true @Bool.true_and))) (And.intro (And.intro @Bool.and_false (And.intro @Bool.false_and @Bool.not_true)) (And.intro @Bool.not_false (And.intro @List.isEmpty_nil.{0} @List.all_cons.{0})))))) (And.intro (And.intro (And.intro (And.intro (And.intro @List.all_nil.{0} @List.any_cons.{0}) (And.intro @List.any_nil.{0} (And.intro @List.map_cons.{0, 0} @List.map_nil.{0, 0}))) (And.intro (And.intro @List.getElem?_cons_zero.{0} @List.getElem?_cons_succ.{0}) (And.intro @List.set_cons_zero.{0} (And.intro @List.set_cons_succ.{0} @List.take_succ_cons.{0})))) (And.intro (And.intro (And.intro @List.take_zero.{0} @List.drop_succ_cons.{0}) (And.intro @List.take_nil.{0} (And.intro @List.drop_nil.{0} @Bool.not_eq_false))) (And.intro (And.intro @Bool.not_eq_true @Bool.true_eq_false) (And.intro @beq_self_eq_true.{0} (And.intro @lim_eq @refs_mkOwn))))) (And.intro (And.intro (And.intro (And.intro @noRefs_mkOwn @noRefs_agg) (And.intro @purge1_mkOwn (And.intro @noOwnL_int @purgeL_int))) (And.intro (And.intro @alL_int @refsL_int) (And.intro @bytesOf_enl (And.intro @cint.eq_1 @cbool.eq_1)))) (And.intro (And.intro (And.intro @cstr.eq_1 @csl.eq_1) (And.intro @decide_true (And.intro @decide_false @Option.bind_some.{0, 0}))) (And.intro (And.intro @List.isPrefixOf_nil_left.{0} (And.intro @Bool.false_xor @Bool.true_xor)) (And.intro @List.length_append.{0} (And.intro @List.replicate_zero.{0} @List.flatMap_append.{0, 0})))))))
end Go.Ab

/-
  Going through code step by step.
-/
namespace Go.Ab
open Go
set_option linter.unusedVariables false
section
variable {C : Calls'} {E E1 E2 E3 : Env} {ex : Ex} {k : List Nat}

theorem w_seq {a b : XC} {R : Option (Ex × Env)} (h : evX C a E = some (ex, E1)) (h2 : seqK (some (ex, E1)) (evX C b) = R) : evX C (.seq a b) E = R := by
  rw [evX_seq, h]; exact h2
theorem w_go {f : Env → Option (Ex × Env)} {R : Option (Ex × Env)} (h : f E = R) : seqK (some (.norm, E)) f = R := h
theorem w_gox {f : Env → Option (Ex × Env)} {i : Nat} : seqK (some (.exit i, E)) f = some (.exit i, E) := rfl
theorem w_gor {f : Env → Option (Ex × Env)} : seqK (some (.ret, E)) f = some (.ret, E) := rfl
theorem w_skip : evX C .skip E = some (.norm, E) := evX_skip
theorem w_ret : evX C .ret E = some (.ret, E) := evX_ret
theorem w_exit {i : Nat} (h : E.keep k = E1) : evX C (.exit i k) E = some (.exit i, E1) := by rw [evX_exit, h]
theorem w_reg {ops : List XI} (h : steps C E ops = some E1) (h2 : E1.keep k = E2) : evX C (.reg ops false k) E = some (.norm, E2) := by
  rw [evX_reg, h]; simp [h2]
theorem w_nil : steps C E [] = some E := rfl
theorem w_cons {o : XI} {r : List XI} (h : step C E o = some E1) (h2 : steps C E1 r = some E2) : steps C E (o :: r) = some E2 := by
  simp only [steps, h]; exact h2
theorem w_regD {ops : List XI} {ds : List Nat} (h0 : dstsOf ops = ds) (h1 : (E.all fun x => noRefs ds x.2 && !ds.contains x.1) = true) (h : stepsD C E.sub ds E ops = some E1) (h2 : E1.keep k = E2) : evX C (.reg ops true k) E = some (.norm, E2) := by
  subst h0
  rw [evX_regD]
  simp only [regD]
  rw [if_pos h1, h]; simp [h2]
theorem w_nilD {S : Subs} {ds : List Nat} : stepsD C S ds E [] = some E := rfl
theorem w_consD {S : Subs} {ds : List Nat} {o : XI} {r : List XI} {d : Nat} {v : PV} (hb : o.bar = false) (h : stepD C S ds E o = some (d, v)) (hg : E.get d = .none) (hs : E.set d v = E1) (h2 : stepsD C S ds E1 r = some E2) : stepsD C S ds E (o :: r) = some E2 := by
  simp only [stepsD, hb, Bool.false_eq_true, if_false, h, hg, hs]; exact h2
theorem w_barD {S : Subs} {ds : List Nat} {o : XI} {r : List XI} (hb : o.bar = true) (ha : r.all (·.bar) = true) (h : steps C E (o :: r) = some E2) : stepsD C S ds E (o :: r) = some E2 := by
  simp only [stepsD, hb, if_true, ha]; exact h
theorem w_condt {c : XO} {a b : XC} {R : Option (Ex × Env)} (h : look E c = .bool true) (h1 : evX C a E = some (ex, E1)) (h2 : fgt k (some (ex, E1)) = R) : evX C (.cond c a b k) E = R := by
  rw [evX_cond, h, condK, h1]; exact h2
theorem w_condf {c : XO} {a b : XC} {R : Option (Ex × Env)} (h : look E c = .bool false) (h1 : evX C b E = some (ex, E1)) (h2 : fgt k (some (ex, E1)) = R) : evX C (.cond c a b k) E = R := by
  rw [evX_cond, h, condK, h1]; exact h2
theorem w_block {b : XC} {i : Nat} {R : Option (Ex × Env)} (h1 : evX C b E = some (ex, E1)) (h2 : fgt k (blockK i (some (ex, E1))) = R) : evX C (.block i b k) E = R := by
  rw [evX_block, h1]; exact h2
theorem w_fgt {b : XC} {R : Option (Ex × Env)} (h1 : evX C b E = some (ex, E1)) (h2 : fgt k (some (ex, E1)) = R) : fgt k (evX C b E) = R := by
  rw [h1]; exact h2
theorem w_fn {x : XF} {ws : List PV} {c : XC} {r : Option (PV × List PV)} (hc : x.body = c) (hp : params 0 ws = E) (h : evX C c E = some (ex, E1)) (h2 : retK x ws (some (ex, E1)) = r) : retK x ws (evX C x.body (params 0 ws)) = r := by
  rw [hc, hp, h]; exact h2
end
end Go.Ab

/-
  From what a row reads to what the evaluator takes.
-/
namespace Go.Ab
open Go
set_option linter.unusedVariables false
set_option linter.unusedSimpArgs false

/-- fields one behind the other -/
def contig (P : Program) : Nat → List Field → Nat → Bool
  | off, [], tot => off == tot
  | off, f :: fs, tot => f.offset == off && contig P (off + P.cellsOf f.type) fs tot

/-- types of plain data -/
def plainTy (P : Program) : Nat → TypeId → Bool
  | 0, _ => false
  | n + 1, t => match P.underlying t with
    | some .bool => true
    | some (.int _) => true
    | some .string => true
    | some (.slice e) => decide (0 < P.cellsOf e) && plainTy P n e
    | some (.struct fs) => contig P 0 fs.toList (P.cellsOf t) && fs.toList.all (fun f => plainTy P n f.type)
    | some (.array m e) => decide (P.cellsOf t = m * P.cellsOf e) && plainTy P n e
    | _ => false

def mapL {α : Type} (f : α → Option (List PV)) : List α → Option (List PV)
  | [] => some []
  | d :: ds => (f d).bind fun a => (mapL f ds).map fun b => a ++ b
def zipL {α β : Type} (f : α → β → Option (List PV)) : List α → List β → Option (List PV)
  | [], [] => some []
  | t :: ts, d :: ds => (f t d).bind fun a => (zipL f ts ds).map fun b => a ++ b
  | _, _ => Option.none

/-- a datum as cells -/
def pvOf {H : Type} (P : Program) : Nat → TypeId → DataW H → Option (List PV)
  | 0, _, _ => Option.none
  | n + 1, t, d => match P.underlying t, d with
    | some .bool, .lit (.bool b) => some [.bool b]
    | some (.int k), .lit (.int k' m) => if k' = k ∧ (Lit.int k m).wf = true then some [.int k m] else Option.none
    | some .string, .lit (.string s) => some [.str s]
    | some (.slice _), .nil => some [.sl 0 []]
    | some (.slice e), .slice es _ => (mapL (pvOf P n e) es).map fun l => [.sl es.length l]
    | some (.struct fs), .agg ds => zipL (pvOf P n) (fs.toList.map (·.type)) ds
    | some (.array m e), .agg ds => if ds.length = m then mapL (pvOf P n e) ds else Option.none
    | _, _ => Option.none

/-- all that is there is shared -/
noncomputable def allSh (w : World) : LM := fun b j => if (w.cell? ⟨b, j, Option.none⟩).isSome then .sh else .out

theorem allSh_wf (w : World) : WF w (allSh w) where
  inj b j b' j' r p i h := by simp only [allSh] at h; split at h <;> cases h
  ex b j h := by
    simp only [allSh] at h
    split at h
    · rename_i hs; exact Option.isSome_iff_exists.1 hs
    · exact absurd rfl h
  thaw b j r p i h := by simp only [allSh] at h; split at h <;> cases h

/-- nothing that was there has turned -/
theorem below_of_ext {w w' : World} {L' : LM} (h : Ext w (allSh w) w' L') : RowKit.Below w.heap.size w w' where
  os := h.os
  tape := h.tape
  output := h.output
  size := h.size
  block k hk := by
    have hb := h.blk k hk
    have os : ∀ j, allSh w k j = .out ∨ allSh w k j = .sh := fun j => by simp only [allSh]; split <;> simp
    cases h1 : w.heap[k]? with
    | none => rw [h1] at hb; exact hb
    | some o =>
      rw [h1] at hb
      cases o with
      | cells c t fr =>
        cases h2 : w'.heap[k]? with
        | none => rw [h2] at hb; cases hb
        | some o' =>
          rw [h2] at hb
          cases o' with
          | cells c' t' fr' =>
            obtain ⟨rfl, rfl, h3, h4⟩ := hb
            have : c' = c := Array.ext_getElem? fun j => h4 j (os j)
            rw [this]
          | _ => cases hb
      | _ => exact hb

section
variable {H : Type} {enc : TypeId × Value → H} {P : Program} {w : World} {sp : Nat → Bool} {held : Bool}

/-- cells that stand for values, from a place on -/
def RowAt (w : World) (b o : Nat) (pvs : List PV) : Prop := ∀ i (hi : i < pvs.length), RepV w (allSh w) Option.none pvs[i] (cv w b (o + i)) ∧ pvs[i].free = true ∧ allSh w b (o + i) = .sh
/-- values that stand for values -/
def RowOf (w : World) (cs : List Value) (pvs : List PV) : Prop := pvs.length = cs.length ∧ ∀ i (hi : i < pvs.length), RepV w (allSh w) Option.none pvs[i] (cs.getD i undef) ∧ pvs[i].free = true

theorem RowAt.append {b o : Nat} {xs ys : List PV} (h1 : RowAt w b o xs) (h2 : RowAt w b (o + xs.length) ys) : RowAt w b o (xs ++ ys) := fun i hi => by
  by_cases hx : i < xs.length
  · rw [List.getElem_append_left hx]; exact h1 i hx
  · rw [List.getElem_append_right (by omega)]
    have := h2 (i - xs.length) (by simp at hi; omega)
    rwa [show o + xs.length + (i - xs.length) = o + i by omega] at this

theorem RowOf.append {cs ds : List Value} {xs ys : List PV} (h1 : RowOf w cs xs) (h2 : RowOf w ds ys) : RowOf w (cs ++ ds) (xs ++ ys) := by
  refine ⟨by simp [h1.1, h2.1], fun i hi => ?_⟩
  by_cases hx : i < xs.length
  · rw [List.getElem_append_left hx]
    have := h1.2 i hx
    rwa [show (cs ++ ds).getD i undef = cs.getD i undef by simp [List.getD, List.getElem?_append, show i < cs.length by have := h1.1; omega]]
  · rw [List.getElem_append_right (by omega)]
    have := h2.2 (i - xs.length) (by simp at hi; omega)
    rwa [show (cs ++ ds).getD i undef = ds.getD (i - xs.length) undef by
      have h3 := h1.1
      simp [List.getD, List.getElem?_append, show ¬ i < cs.length by omega, h3]]

theorem cells_some {a : Addr} : ∀ {n : Nat} {cs : List Value}, w.cells? 0 a n = some cs → cs.length = n ∧ ∀ i (hi : i < n), w.cell? (a.add i) = some (cs.getD i undef) := by
  intro n cs h
  simp only [World.cells?, Nat.zero_le, if_true] at h
  have key : ∀ (l : List Nat) (cs : List Value), (l.mapM fun i => w.cell? (a.add i)) = some cs → cs.length = l.length ∧ ∀ i (hi : i < l.length), w.cell? (a.add l[i]) = some (cs.getD i undef) := by
    intro l
    induction l with
    | nil => intro cs h; simp at h; subst h; exact ⟨rfl, fun i hi => by simp at hi⟩
    | cons x l ih =>
      intro cs h
      simp only [List.mapM_cons, Option.bind_eq_bind, Option.bind_eq_some_iff, Option.pure_def, Option.some.injEq] at h
      obtain ⟨v, hv, vs, hvs, rfl⟩ := h
      obtain ⟨h1, h2⟩ := ih vs hvs
      refine ⟨by simp [h1], fun i hi => ?_⟩
      cases i with
      | zero => simpa using hv
      | succ i => simpa using h2 i (by simpa using hi)
  obtain ⟨h1, h2⟩ := key _ _ h
  simp only [List.length_range] at h1 h2
  exact ⟨h1, fun i hi => by simpa using h2 i hi⟩

theorem mapM_cons_some {α β : Type} {f : α → Option β} {x : α} {l : List α} {ys : List β} (h : (x :: l).mapM f = some ys) : ∃ y zs, f x = some y ∧ l.mapM f = some zs ∧ ys = y :: zs := by
  simp only [List.mapM_cons, Option.bind_eq_bind, Option.bind_eq_some_iff, Option.pure_def, Option.some.injEq] at h
  obtain ⟨v, hv, vs, hvs, rfl⟩ := h
  exact ⟨v, vs, hv, hvs, rfl⟩

theorem Addr.add_spot {a : Addr} {n : Nat} (h : ∃ v, w.cell? (a.add n) = some v) : a.add n = ⟨a.block, a.off + n, Option.none⟩ := by
  unfold Addr.add at h ⊢
  by_cases hn : n = 0
  · rw [if_pos hn] at h ⊢
    obtain ⟨v, hv⟩ := h
    subst hn
    cases a with
    | mk b o s =>
      cases s with
      | none => rfl
      | some s =>
        exfalso
        simp only [World.cell?] at hv
        split at hv <;> simp at hv
  · rw [if_neg hn]

theorem cv_of {b j : Nat} {v : Value} (h : w.cell? ⟨b, j, Option.none⟩ = some v) : cv w b j = v ∧ allSh w b j = .sh := by simp [cv, allSh, h]

theorem trod_rep : ∀ (n n' : Nat) (t : TypeId) (cs : List Value) (d : DataW H) (ps : List MemPlace), plainTy P n t = true → DataW.trod enc P w 0 sp held n' t cs = some (d, ps) →
    ∃ pvs, pvOf P n t d = some pvs ∧ RowOf w cs pvs
  | 0, n', t, cs, d, ps, hp, h => by simp [plainTy] at hp
  | n + 1, 0, t, cs, d, ps, hp, h => by simp [DataW.trod] at h
  | n + 1, n' + 1, t, cs, d, ps, hp, h => by
    have ih := fun (t : TypeId) (cs : List Value) (d : DataW H) (ps : List MemPlace) (hp : plainTy P n t = true) h => trod_rep n n' t cs d ps hp h
    simp only [plainTy] at hp
    have one : ∀ {pv : PV} {v : Value}, RepV w (allSh w) Option.none pv v → pv.free = true → RowOf w [v] [pv] := fun h1 h2 => ⟨rfl, fun i hi => by
      obtain rfl : i = 0 := by simpa using hi
      exact ⟨by simpa using h1, by simpa using h2⟩⟩
    split at hp
    · rename_i hu
      simp only [DataW.trod, hu] at h
      split at h <;> first | (rename_i h1 h2; cases h1) | skip
      all_goals first
        | (simp only [Option.some.injEq, Prod.mk.injEq] at h; obtain ⟨rfl, rfl⟩ := h; exact ⟨_, by simp only [pvOf, hu], one (.bool _ _) rfl⟩)
        | (simp_all; done)
    · rename_i k hu
      rcases cs with _ | ⟨v, _ | ⟨v2, r⟩⟩
      · simp [DataW.trod, hu] at h
      · cases v with
        | int k' m =>
          simp only [DataW.trod, hu] at h
          split at h
          · rename_i hh
            obtain ⟨rfl, hwf⟩ := hh
            simp only [Option.some.injEq, Prod.mk.injEq] at h
            obtain ⟨rfl, rfl⟩ := h
            exact ⟨_, by simp only [pvOf, hu, hwf, and_self, if_true], one (.int _ _ _) rfl⟩
          · cases h
        | _ => simp [DataW.trod, hu] at h
      · cases v <;> simp [DataW.trod, hu] at h
    · rename_i hu
      rcases cs with _ | ⟨v, _ | ⟨v2, r⟩⟩
      · simp [DataW.trod, hu] at h
      · cases v with
        | string s =>
          simp only [DataW.trod, hu] at h
          split at h
          · simp only [Option.some.injEq, Prod.mk.injEq] at h
            obtain ⟨rfl, rfl⟩ := h
            exact ⟨_, by simp only [pvOf, hu], one (.str _ _ _ rfl) rfl⟩
          · cases h
        | _ => simp [DataW.trod, hu] at h
      · cases v <;> simp [DataW.trod, hu] at h
    · rename_i e hu
      simp only [Bool.and_eq_true, decide_eq_true_eq] at hp
      rcases cs with _ | ⟨v, _ | ⟨v2, r⟩⟩
      · simp [DataW.trod, hu] at h
      · cases v with
        | slice a len cap =>
          cases a with
          | none =>
            rcases len with _ | len
            · rcases cap with _ | cap
              · simp only [DataW.trod, hu, Option.some.injEq, Prod.mk.injEq] at h
                obtain ⟨rfl, rfl⟩ := h
                exact ⟨_, by simp only [pvOf, hu], one (.sl0 _ _ _) rfl⟩
              · simp [DataW.trod, hu] at h
            · simp [DataW.trod, hu] at h
          | some a =>
            have h' : (if 0 ≤ a.block ∧ len ≤ cap ∧ cap ≤ maxLen then
                ((List.range len).mapM fun i => (w.cells? 0 (a.add (i * P.cellsOf e)) (P.cellsOf e)).bind (DataW.trod enc P w 0 sp held n' e)).bind fun elems =>
                  (if sp a.block then (List.range (cap - len)).mapM fun j => (w.cells? 0 (a.add ((len + j) * P.cellsOf e)) (P.cellsOf e)).bind (DataW.trod enc P w 0 sp held n' e) else some []).map fun rest =>
                    (DataW.slice (elems.map (·.1)) (rest.map (·.1)), MemPlace.row a ((elems.length + rest.length) * P.cellsOf e) ++ (elems ++ rest).flatMap (·.2))
              else Option.none) = some (d, ps) := by
              rw [← h]; simp only [DataW.trod, hu]
            clear h
            split at h'
            · rename_i hh
              simp only [Option.bind_eq_some_iff, Option.map_eq_some_iff, Prod.mk.injEq] at h'
              obtain ⟨elems, he, rest, hr, rfl, rfl⟩ := h'
              have key : ∀ (m st : Nat) (elems : List (DataW H × List MemPlace)), (List.range' st m).mapM (fun i => (w.cells? 0 (a.add (i * P.cellsOf e)) (P.cellsOf e)).bind (DataW.trod enc P w 0 sp held n' e)) = some elems →
                  elems.length = m ∧ ∃ pvs, mapL (pvOf P n e) (elems.map (·.1)) = some pvs ∧ RowAt w a.block (a.off + st * P.cellsOf e) pvs ∧ (0 < m → a.add (st * P.cellsOf e) = ⟨a.block, a.off + st * P.cellsOf e, Option.none⟩) ∧ pvs.length = m * P.cellsOf e := by
                intro m
                induction m with
                | zero => intro st elems he; simp at he; subst he; exact ⟨rfl, [], rfl, fun i hi => by simp at hi, fun h => by omega, by simp⟩
                | succ m ihm =>
                  intro st elems he
                  rw [List.range'_succ] at he
                  obtain ⟨x, xs, hx, hxs, rfl⟩ := mapM_cons_some he
                  obtain ⟨h1, pvs, h2, h3, _, h5⟩ := ihm (st + 1) xs hxs
                  simp only [Option.bind_eq_some_iff] at hx
                  obtain ⟨cs, hcs, htr⟩ := hx
                  obtain ⟨x1, x2⟩ := x
                  obtain ⟨qs, hq1, hq2⟩ := ih e cs x1 x2 hp.2 htr
                  obtain ⟨hc1, hc2⟩ := cells_some hcs
                  have hcell : ∀ i, i < P.cellsOf e → w.cell? ⟨a.block, a.off + st * P.cellsOf e + i, Option.none⟩ = some (cs.getD i undef) := fun i hi => by
                    have := hc2 i hi
                    have e1 : (a.add (st * P.cellsOf e)).add i = ⟨(a.add (st * P.cellsOf e)).block, (a.add (st * P.cellsOf e)).off + i, Option.none⟩ := Addr.add_spot ⟨_, this⟩
                    rw [e1] at this
                    have e2 : (a.add (st * P.cellsOf e)).block = a.block ∧ (a.add (st * P.cellsOf e)).off = a.off + st * P.cellsOf e := by
                      unfold Addr.add; split
                      · rename_i h0; simp [h0]
                      · exact ⟨rfl, rfl⟩
                    rw [e2.1, e2.2] at this
                    exact this
                  refine ⟨by simp [h1], qs ++ pvs, by simp [mapL, hq1, h2], RowAt.append (fun i hi => ?_) ?_, fun _ => ?_, ?_⟩
                  · have hi' : i < P.cellsOf e := by rw [← hc1, ← hq2.1]; exact hi
                    obtain ⟨e1, e2⟩ := cv_of (hcell i hi')
                    have := hq2.2 i hi
                    rw [e1]
                    exact ⟨this.1, this.2, e2⟩
                  · rw [hq2.1, hc1]
                    rwa [Nat.add_mul, Nat.one_mul, ← Nat.add_assoc] at h3
                  · have h0 := hc2 0 hp.1
                    have e1 : (a.add (st * P.cellsOf e)).add 0 = a.add (st * P.cellsOf e) := by simp [Addr.add]
                    rw [e1] at h0
                    exact Addr.add_spot ⟨_, h0⟩
                  · simp [hq2.1, hc1, h5, Nat.add_mul, Nat.add_comm]
              rw [List.range_eq_range'] at he
              obtain ⟨h1, pvs, h2, h3, h4, h5⟩ := key len 0 elems he
              refine ⟨[.sl elems.length pvs], by simp only [pvOf, hu]; simp [h2], one ?_ rfl⟩
              rw [h1]
              by_cases h0 : len = 0
              · subst h0
                have : pvs = [] := List.length_eq_zero_iff.1 (by simpa using h5)
                subst this
                exact .sl0 _ _ _
              · have ha := h4 (by omega)
                simp only [Nat.zero_mul, Nat.add_zero] at ha h3
                have ha' : a = ⟨a.block, a.off, Option.none⟩ := by simpa [Addr.add] using ha
                rw [ha']
                exact .sl _ _ _ _ _ _ hh.2.1 (fun i hi => (h3 i hi).2.2) (fun i hi => free_cok (h3 i hi).2.1) fun i hi => (h3 i hi).1
            · cases h'
        | _ => simp [DataW.trod, hu] at h
      · cases v <;> simp [DataW.trod, hu] at h
    · rename_i fs hu
      simp only [Bool.and_eq_true, List.all_eq_true] at hp
      simp only [DataW.trod, hu] at h
      split at h
      · rename_i hlen
        simp only [Option.map_eq_some_iff, Prod.mk.injEq] at h
        obtain ⟨xs, hxs, rfl, rfl⟩ := h
        have key : ∀ (l : List Field) (off : Nat) (xs : List (DataW H × List MemPlace)), contig P off l (P.cellsOf t) = true → (∀ f ∈ l, plainTy P n f.type = true) → off ≤ cs.length → 
            l.mapM (fun f => DataW.trod enc P w 0 sp held n' f.type ((cs.drop f.offset).take (P.cellsOf f.type))) = some xs → ∃ pvs, zipL (pvOf P n) (l.map (·.type)) (xs.map (·.1)) = some pvs ∧ RowOf w (cs.drop off) pvs := by
          intro l
          induction l with
          | nil =>
            intro off xs hc _ hoff hm
            simp at hm; subst hm
            simp only [contig, beq_iff_eq] at hc
            exact ⟨[], rfl, by simp; omega, fun i hi => by simp at hi⟩
          | cons f l ihl =>
            intro off xs hc hpl hoff hm
            simp only [contig, Bool.and_eq_true, beq_iff_eq] at hc
            obtain ⟨rfl, hc⟩ := hc
            obtain ⟨x, ys, hx, hys, rfl⟩ := mapM_cons_some hm
            obtain ⟨x1, x2⟩ := x
            obtain ⟨qs, hq1, hq2⟩ := ih f.type _ x1 x2 (hpl f (by simp)) hx
            have htot : ∀ (l : List Field) (o : Nat), contig P o l (P.cellsOf t) = true → o ≤ P.cellsOf t := by
              intro l
              induction l with
              | nil => intro o h; simp only [contig, beq_iff_eq] at h; omega
              | cons g l ihg =>
                intro o h
                simp only [contig, Bool.and_eq_true, beq_iff_eq] at h
                have := ihg _ h.2
                omega
            have h9 := htot l _ hc
            obtain ⟨pvs, hp1, hp2⟩ := ihl (f.offset + P.cellsOf f.type) ys hc (fun g hg => hpl g (by simp [hg])) (by omega) hys
            refine ⟨qs ++ pvs, by simp [zipL, hq1, hp1], ?_⟩
            have : cs.drop f.offset = (cs.drop f.offset).take (P.cellsOf f.type) ++ cs.drop (f.offset + P.cellsOf f.type) := by
              rw [← List.drop_drop, List.take_append_drop]
            rw [this]
            exact hq2.append hp2
        obtain ⟨pvs, h1, h2⟩ := key fs.toList 0 xs hp.1 hp.2 (Nat.zero_le _) hxs
        exact ⟨pvs, by simp only [pvOf, hu]; exact h1, by simpa using h2⟩
      · cases h
    · rename_i m e hu
      simp only [Bool.and_eq_true, decide_eq_true_eq] at hp
      simp only [DataW.trod, hu] at h
      split at h
      · rename_i hlen
        simp only [Option.map_eq_some_iff, Prod.mk.injEq] at h
        obtain ⟨xs, hxs, rfl, rfl⟩ := h
        have key : ∀ (k st : Nat) (xs : List (DataW H × List MemPlace)), st + k = m → 
            (List.range' st k).mapM (fun i => DataW.trod enc P w 0 sp held n' e ((cs.drop (i * P.cellsOf e)).take (P.cellsOf e))) = some xs → xs.length = k ∧ ∃ pvs, mapL (pvOf P n e) (xs.map (·.1)) = some pvs ∧ RowOf w (cs.drop (st * P.cellsOf e)) pvs := by
          intro k
          induction k with
          | zero =>
            intro st xs hst hm
            simp at hm; subst hm
            refine ⟨rfl, [], rfl, ?_, fun i hi => by simp at hi⟩
            simp only [Nat.add_zero] at hst; subst hst
            simp [hlen, hp.1]
          | succ k ihk =>
            intro st xs hst hm
            rw [List.range'_succ] at hm
            obtain ⟨x, ys, hx, hys, rfl⟩ := mapM_cons_some hm
            obtain ⟨x1, x2⟩ := x
            obtain ⟨qs, hq1, hq2⟩ := ih e _ x1 x2 hp.2 hx
            obtain ⟨hl, pvs, hp1, hp2⟩ := ihk (st + 1) ys (by omega) hys
            refine ⟨by simp [hl], qs ++ pvs, by simp [mapL, hq1, hp1], ?_⟩
            have : cs.drop (st * P.cellsOf e) = (cs.drop (st * P.cellsOf e)).take (P.cellsOf e) ++ cs.drop ((st + 1) * P.cellsOf e) := by
              rw [Nat.add_mul, Nat.one_mul, ← List.drop_drop, List.take_append_drop]
            rw [this]
            exact hq2.append hp2
        rw [List.range_eq_range'] at hxs
        obtain ⟨h0, pvs, h1, h2⟩ := key m 0 xs (by omega) hxs
        exact ⟨pvs, by simp only [pvOf, hu, List.length_map, h0, if_true]; exact h1, by simpa using h2⟩
      · cases h
    · cases hp
end
end Go.Ab

/-
  A law's row, out of what the evaluator answers.
-/
namespace Go.Ab
open Go Go.ChangeShapes Go.WideShapes Go.ChangeAt Go.RowKit
set_option linter.unusedVariables false
set_option linter.unusedSimpArgs false

/-- an argument -/
def argPV {H : Type} (P : Program) (n : Nat) (t : TypeId) (d : DataW H) : Option PV :=
  match P.underlying t with
  | some (.struct _) => (pvOf P n t d).map .agg
  | some (.array _ _) => (pvOf P n t d).map .agg
  | _ => match pvOf P n t d with
    | some [x] => some x
    | _ => Option.none

def argsPV {H : Type} (P : Program) (n : Nat) : List TypeId → List (DataW H) → Option (List PV)
  | [], [] => some []
  | t :: ts, d :: ds => (argPV P n t d).bind fun x => (argsPV P n ts ds).map fun xs => x :: xs
  | _, _ => Option.none

section
variable {H : Type} {enc : TypeId × Value → H} {P : Program} {w : World}

theorem arg_rep {n : Nat} {t : TypeId} {v : Value} {d : DataW H} {ps : List MemPlace} {base : Nat} {sp : Nat → Bool} {held : Bool} (hp : plainTy P n t = true) (hval : Value.okWide P w .any base t v) (h : DataW.Trod enc P w 0 sp held t v d ps) :
    ∃ pv, argPV P n t d = some pv ∧ (∀ hd, RepV w (allSh w) hd pv v) ∧ refs pv = [] := by
  obtain ⟨fuel, hf⟩ := h
  obtain ⟨pvs, h1, h2, h3⟩ := trod_rep _ _ _ _ _ _ hp hf
  have agg : ∀ cs, v = .agg cs → (∀ hd, RepV w (allSh w) hd (.agg pvs) v) ∧ refs (.agg pvs) = [] := fun cs hv => by
    subst hv
    have hl : cs.size = pvs.length := by simpa [Value.cells] using h2.symm
    refine ⟨fun hd => .agg _ _ _ hl fun i hi => ?_, refsL_nil fun i hi => free_refs (h3 i hi).2⟩
    have := (h3 i hi).1.any (h3 i hi).2 (Hd.snoc hd i)
    simpa [Value.cells, Array.getD, List.getD, show i < cs.size by omega] using this
  have one : (∀ cs, v ≠ .agg cs) → ∃ x, pvs = [x] ∧ (∀ hd, RepV w (allSh w) hd x v) ∧ refs x = [] := fun hv => by
    have hc : v.cells = #[v] := by cases v <;> first | rfl | exact absurd rfl (hv _)
    rw [hc] at h2 h3
    obtain ⟨x, rfl⟩ := List.length_eq_one_iff.1 (show pvs.length = 1 by simpa using h2)
    have := h3 0 (by simp)
    exact ⟨x, rfl, fun hd => by simpa using this.1.any this.2 hd, free_refs (by simpa using this.2)⟩
  unfold argPV
  cases n with
  | zero => simp [plainTy] at hp
  | succ n =>
    simp only [plainTy] at hp
    unfold Value.okWide at hval
    cases hu : P.underlying t with
    | none => rw [hu] at hp; cases hp
    | some td =>
      rw [hu] at hp hval
      cases td with
      | struct fs =>
        obtain ⟨cs, hv, _⟩ := hval
        exact ⟨.agg pvs, by simp [h1], agg cs hv⟩
      | array m e =>
        obtain ⟨cs, hv, _⟩ := hval
        exact ⟨.agg pvs, by simp [h1], agg cs hv⟩
      | bool =>
        obtain ⟨x, rfl, hx⟩ := one (fun cs hv => by subst hv; simp [Cell.okWide, hu, Cell.ok] at hval)
        exact ⟨x, by simp [h1], hx⟩
      | int k =>
        obtain ⟨x, rfl, hx⟩ := one (fun cs hv => by subst hv; simp [Cell.okWide, hu, Cell.ok] at hval)
        exact ⟨x, by simp [h1], hx⟩
      | string =>
        obtain ⟨x, rfl, hx⟩ := one (fun cs hv => by subst hv; simp [Cell.okWide, hu, Cell.ok] at hval)
        exact ⟨x, by simp [h1], hx⟩
      | slice e =>
        obtain ⟨x, rfl, hx⟩ := one (fun cs hv => by subst hv; simp [Cell.okWide, hu, Cell.ok] at hval)
        exact ⟨x, by simp [h1], hx⟩
      | _ => cases hp

theorem args_rep {n : Nat} {base : Nat} {sp : Nat → Bool} {held : Bool} : ∀ {ts : List TypeId} {vs : List Value} {ds : List (DataW H)} {ps : List MemPlace}, ts.all (fun t => plainTy P n t) = true →
    (∀ (j : Nat) t v, ts[j]? = some t → vs[j]? = some v → Value.okWide P w .any base t v) → DataW.TrodAll enc P w 0 sp held ts vs ds ps →
    ∃ ws, argsPV P n ts ds = some ws ∧ ws.length = vs.length ∧ vs.length = ts.length ∧ ds.length = ts.length ∧ ∀ i (hi : i < ws.length) (hi' : i < vs.length), (∀ hd, RepV w (allSh w) hd ws[i] vs[i]) ∧ refs ws[i] = []
  | [], vs, ds, ps, hp, hval, h => by
    cases vs <;> cases ds <;> simp [DataW.TrodAll] at h
    exact ⟨[], rfl, rfl, rfl, rfl, fun i hi => by simp at hi⟩
  | t :: ts, vs, ds, ps, hp, hval, h => by
    obtain ⟨v, vs', d, ds', p, q, rfl, rfl, rfl, h1, h2⟩ := trodAll_cons h
    simp only [List.all_cons, Bool.and_eq_true] at hp
    obtain ⟨pv, h3, h4, h5⟩ := arg_rep hp.1 (hval 0 t v rfl rfl) h1
    obtain ⟨ws, h6, h7, h8, h9, h10⟩ := args_rep hp.2 (fun j t' v' ht hv => hval (j + 1) t' v' (by simpa using ht) (by simpa using hv)) h2
    refine ⟨pv :: ws, by simp [argsPV, h3, h6], by simp [h7], by simp [h8], by simp [h9], fun i hi hi' => ?_⟩
    cases i with
    | zero => exact ⟨h4, h5⟩
    | succ i => exact h10 i (by simpa using hi) (by simpa using hi')

theorem trods_stay (hl : laidOutB P = true) {w' : World} {sp' : Nat → Bool} : ∀ {ts : List TypeId} {vs : List Value} {ds : List (DataW H)} {ps : List MemPlace}, ts.all (fun t => P.readableRec t && decide (t < P.types.size)) = true →
    DataW.TrodAll enc P w 0 (fun _ => true) true ts vs ds ps → (∀ p ∈ ps, w.sameAt w' p) → (∀ p ∈ ps, sp' p.block = true) → DataW.TrodAll enc P w' 0 sp' true ts vs ds ps
  | [], vs, ds, ps, hp, h, hs, hs' => by
    cases vs <;> cases ds <;> simp [DataW.TrodAll] at h ⊢
    exact h
  | t :: ts, vs, ds, ps, hp, h, hs, hs' => by
    obtain ⟨v, vs', d, ds', p, q, rfl, rfl, rfl, h1, h2⟩ := trodAll_cons h
    simp only [List.all_cons, Bool.and_eq_true, decide_eq_true_eq] at hp
    exact ⟨p, q, WideElems.Trod_stays hl hp.1.1 hp.1.2 h1 (fun x hx => hs x (by simp [hx])) (fun x hx => hs' x (by simp [hx])),
      trods_stay hl (by simpa using hp.2) h2 (fun x hx => hs x (by simp [hx])) (fun x hx => hs' x (by simp [hx])), rfl⟩

/-- what a row asks, where the evaluator answers true -/
theorem law_contract (hm : P.follows .mixedOrders = true) {T : Nat → Option XF} (hT : TOk P T) (hl : laidOutB P = true) {f : Nat} {fn : Func} {rt : TypeId} (hr : fn.resultTypes = #[rt]) (hrt : P.underlying rt = some .bool)
    {ts : List TypeId} {N : Nat} (hps : fn.params.toList = ts) (hplain : ts.all (fun t => plainTy P N t) = true) (hread : ts.all (fun t => P.readableRec t && decide (t < P.types.size)) = true)
    {s : ChangeSpec} (hvars : s.vars = []) {args : Array Value} {ds gs : List (DataW H)} {before : List MemPlace} {base : Nat} (hs0 : ds.length = ts.length → s.fn H ds = { results := [.lit (.bool true)], args := ds })
    (hval : ∀ (j : Nat) t v, fn.params[j]? = some t → args[j]? = some v → Value.okWide P w .any base t v)
    (hW : DataW.Whole enc P fn.params.toList s.vars false w args.toList ds gs before)
    (law : ∀ ws, argsPV P N ts ds = some ws → ∃ outs, evI T f ws = some (.bool true, outs)) :
    Calls P f args w fun e w' => ∃ v, e = .returned v ∧ s.post enc P fn false true false false w args v w' := by
  have hW' := hW
  obtain ⟨p, q, hA, hV, rfl, hfz, hnd⟩ := hW
  rw [hps] at hA
  obtain ⟨ws, h1, h2, h3, h4, h5⟩ := args_rep hplain (fun j t v ht hv => hval j t v (by rw [← hps] at ht; simpa using ht) (by simpa using hv)) hA
  have hs := hs0 h4
  obtain ⟨outs, hev⟩ := law ws h1
  obtain ⟨n, hn⟩ := evI_some.1 hev
  have C := evF_sound hm hT n
  obtain ⟨_, hcall⟩ := C f ws _ _ hn
  have hsz : args.size = ws.length := by simpa using h2.symm
  refine Calls.mono (hcall args w (allSh w) hsz (allSh_wf w) (fun b j q p i h => by simp only [allSh] at h; split at h <;> cases h) fun i hi => ?_) fun e w' he => ?_
  · have hi' : i < args.size := by omega
    have := h5 i hi (by simpa using hi')
    refine ⟨?_, this.2⟩
    have h6 := this.1 (some (0, [i]))
    simpa [Array.getD, hi'] using h6
  · cases e with
    | returned v =>
      obtain ⟨L', _, E, _, HR, _, _⟩ := he
      have hb := below_of_ext E
      cases HR
      have hq : q = [] ∧ gs = [] := by
        rw [hvars] at hV
        cases gs with
        | nil => exact ⟨by simpa [DataW.TrodVars] using hV, rfl⟩
        | cons g gs => simp [DataW.TrodVars] at hV
      obtain ⟨rfl, rfl⟩ := hq
      have hlt : ∀ x ∈ p, x.block < w.heap.size := fun x hx => hW'.lt x (by simp [hx])
      refine ⟨_, rfl, ds, [], p ++ [], [], p, [], hW', ?_, ?_, ?_, hb.frame _, fun h => by cases h⟩
      · rw [List.append_nil, hs, hr]
        exact trodAll_mk1 (shut_bool hrt true)
      · rw [List.append_nil, hs, hps]
        exact trods_stay hl hread hA (fun x hx => hb.same (hlt x hx)) (fun x hx => by simpa using hlt x hx)
      · rw [List.append_nil, hs, hvars]; rfl
    | panicked => exact he.elim
    | outgrown => exact he.elim
end
end Go.Ab

/-
  What is read, typed.
-/
namespace Go.Ab
open Go
set_option linter.unusedVariables false
set_option linter.unusedSimpArgs false

def Rng (k : IntKind) (n : Int) : Prop := (Lit.int k n).wf = true
theorem Rng.i64 {n : Int} (h : Rng .i64 n) : -9223372036854775808 ≤ n ∧ n ≤ 9223372036854775807 := by simpa [Rng, Lit.wf, IntKind.min, IntKind.max, IntKind.signed, IntKind.bits] using h
theorem Rng.u8 {n : Int} (h : Rng .u8 n) : 0 ≤ n ∧ n ≤ 255 := by simpa [Rng, Lit.wf, IntKind.min, IntKind.max, IntKind.signed, IntKind.bits] using h
theorem Rng.u16 {n : Int} (h : Rng .u16 n) : 0 ≤ n ∧ n ≤ 65535 := by simpa [Rng, Lit.wf, IntKind.min, IntKind.max, IntKind.signed, IntKind.bits] using h

/-- what is read of a type is a typed thing's cells -/
def Opn (P : Program) (n : Nat) (t : TypeId) {α : Type} (c : α → List PV) (R : α → Prop) : Prop := ∀ (H : Type) (d : DataW H) (pvs : List PV), pvOf P n t d = some pvs → ∃ x, pvs = c x ∧ R x

section
variable {P : Program} {n : Nat} {t : TypeId}
theorem opn_int {k : IntKind} (hu : P.underlying t = some (.int k)) : Opn P (n + 1) t (cint k) (Rng k) := by
  intro H d pvs h
  simp only [pvOf, hu] at h
  cases d with
  | lit l =>
    cases l with
    | int k' m =>
      simp only at h
      split at h
      · rename_i hh
        obtain rfl := Option.some.inj h
        exact ⟨m, rfl, hh.2⟩
      · cases h
    | _ => cases h
  | _ => cases h
theorem opn_bool (hu : P.underlying t = some .bool) : Opn P (n + 1) t cbool (fun _ => True) := by
  intro H d pvs h
  simp only [pvOf, hu] at h
  cases d with
  | lit l =>
    cases l with
    | bool b => obtain rfl := Option.some.inj h; exact ⟨b, rfl, trivial⟩
    | _ => cases h
  | _ => cases h
theorem opn_str (hu : P.underlying t = some .string) : Opn P (n + 1) t cstr (fun _ => True) := by
  intro H d pvs h
  simp only [pvOf, hu] at h
  cases d with
  | lit l =>
    cases l with
    | string s => obtain rfl := Option.some.inj h; exact ⟨s, rfl, trivial⟩
    | _ => cases h
  | _ => cases h
theorem opn_mapL {α : Type} {c : α → List PV} {R : α → Prop} {e : TypeId} (he : Opn P n e c R) {H : Type} : ∀ (ds : List (DataW H)) (pvs : List PV), mapL (pvOf P n e) ds = some pvs → ∃ xs : List α, xs.length = ds.length ∧ pvs = xs.flatMap c ∧ ∀ x ∈ xs, R x
  | [], pvs, h => by simp only [mapL, Option.some.injEq] at h; subst h; exact ⟨[], rfl, rfl, fun x hx => by cases hx⟩
  | d :: ds, pvs, h => by
    simp only [mapL, Option.bind_eq_some_iff, Option.map_eq_some_iff] at h
    obtain ⟨a, ha, b, hb, rfl⟩ := h
    obtain ⟨x, rfl, hx⟩ := he H d a ha
    obtain ⟨xs, h1, rfl, h3⟩ := opn_mapL he ds b hb
    exact ⟨x :: xs, by simp [h1], rfl, fun y hy => by
      rcases List.mem_cons.1 hy with rfl | hy
      · exact hx
      · exact h3 y hy⟩
theorem opn_sl {e : TypeId} (hu : P.underlying t = some (.slice e)) {α : Type} {c : α → List PV} {R : α → Prop} (he : Opn P n e c R) : Opn P (n + 1) t (csl c) (fun xs => ∀ x ∈ xs, R x) := by
  intro H d pvs h
  simp only [pvOf, hu] at h
  cases d with
  | nil => obtain rfl := Option.some.inj h; exact ⟨[], rfl, fun x hx => by cases hx⟩
  | slice es sp =>
    simp only [Option.map_eq_some_iff] at h
    obtain ⟨l, hl, rfl⟩ := h
    obtain ⟨xs, h1, rfl, h3⟩ := opn_mapL he es l hl
    exact ⟨xs, by rw [csl, h1], h3⟩
  | _ => cases h
theorem pv_struct {H : Type} {d : DataW H} {fs : Array Field} {pvs : List PV} (hu : P.underlying t = some (.struct fs)) (h : pvOf P (n + 1) t d = some pvs) : ∃ ds : List (DataW H), zipL (pvOf P n) (fs.toList.map (·.type)) ds = some pvs := by
  simp only [pvOf, hu] at h
  cases d with
  | agg ds => exact ⟨ds, h⟩
  | _ => cases h
theorem zipL_cons {α β : Type} {f : α → β → Option (List PV)} {t : α} {ts : List α} {ds : List β} {pvs : List PV} (h : zipL f (t :: ts) ds = some pvs) : ∃ d ds' a b, ds = d :: ds' ∧ f t d = some a ∧ zipL f ts ds' = some b ∧ pvs = a ++ b := by
  cases ds with
  | nil => cases h
  | cons d ds =>
    simp only [zipL, Option.bind_eq_some_iff, Option.map_eq_some_iff] at h
    obtain ⟨a, ha, b, hb, rfl⟩ := h
    exact ⟨d, ds, a, b, rfl, ha, hb, rfl⟩
theorem zipL_nil {α β : Type} {f : α → β → Option (List PV)} {ds : List β} {pvs : List PV} (h : zipL f [] ds = some pvs) : pvs = [] := by
  cases ds with
  | nil => simp only [zipL, Option.some.injEq] at h; exact h.symm
  | cons d ds => cases h

/-- arguments -/
theorem arg_one {H : Type} {d : DataW H} {w : PV} {α : Type} {c : α → PV} {R : α → Prop} (hk : (match P.underlying t with | some (.struct _) => false | some (.array _ _) => false | _ => true) = true) (ho : Opn P n t (fun x => [c x]) R) (h : argPV P n t d = some w) : ∃ x, w = c x ∧ R x := by
  unfold argPV at h
  split at h
  · rename_i hu; rw [hu] at hk; cases hk
  · rename_i hu; rw [hu] at hk; cases hk
  · split at h
    · rename_i x hx
      obtain rfl := Option.some.inj h
      obtain ⟨y, hy, hr⟩ := ho H d _ hx
      simp only [List.cons.injEq, and_true] at hy
      exact ⟨y, hy, hr⟩
    · cases h
theorem arg_agg {H : Type} {d : DataW H} {w : PV} {α : Type} {c : α → List PV} {R : α → Prop} (hk : (match P.underlying t with | some (.struct _) => true | some (.array _ _) => true | _ => false) = true) (ho : Opn P n t c R) (h : argPV P n t d = some w) : ∃ x, w = .agg (c x) ∧ R x := by
  have key : ((pvOf P n t d).map PV.agg) = some w := by
    unfold argPV at h
    split at h
    · exact h
    · exact h
    · rename_i h1 h2
      split at hk
      · rename_i hu; exact absurd hu (h1 _)
      · rename_i hu; exact absurd hu (h2 _ _)
      · cases hk
  simp only [Option.map_eq_some_iff] at key
  obtain ⟨pvs, hp, rfl⟩ := key
  obtain ⟨x, rfl, hr⟩ := ho H d _ hp
  exact ⟨x, rfl, hr⟩
theorem args_cons {H : Type} {ts : List TypeId} {ds : List (DataW H)} {ws : List PV} (h : argsPV P n (t :: ts) ds = some ws) : ∃ d ds' w ws', ds = d :: ds' ∧ ws = w :: ws' ∧ argPV P n t d = some w ∧ argsPV P n ts ds' = some ws' := by
  cases ds with
  | nil => cases h
  | cons d ds =>
    simp only [argsPV, Option.bind_eq_some_iff, Option.map_eq_some_iff] at h
    obtain ⟨w, hw, ws', hws, rfl⟩ := h
    exact ⟨d, ds, w, ws', rfl, rfl, hw, hws⟩
theorem args_nil {H : Type} {ds : List (DataW H)} {ws : List PV} (h : argsPV P n [] ds = some ws) : ds = [] ∧ ws = [] := by
  cases ds with
  | nil => simp only [argsPV, Option.some.injEq] at h; exact ⟨rfl, h.symm⟩
  | cons d ds => cases h
end
end Go.Ab

/-
  Loops and numbers: plain laws.
-/
namespace Go.Ab
open Go
set_option linter.unusedVariables false
set_option linter.unusedSimpArgs false

/-- total correctness of a loop -/
theorem runL_inv {σ ρ : Type} {body : σ → Option (Stp σ ρ)} (I : σ → Prop) (Q : ρ → Prop) (μ : σ → Nat)
    (h : ∀ s, I s → (∃ r, body s = some (.stop r) ∧ Q r) ∨ ∃ s', body s = some (.next s') ∧ I s' ∧ μ s' < μ s) : ∀ s, I s → ∃ r, runL body s = some r ∧ Q r := by
  intro s
  induction hn : μ s using Nat.strongRecOn generalizing s with
  | ind n ih =>
    intro hs
    rw [runL_eq]
    rcases h s hs with ⟨r, hb, hq⟩ | ⟨s', hb, hi, hm⟩
    · exact ⟨r, by rw [hb]; rfl, hq⟩
    · obtain ⟨r, hr, hq⟩ := ih (μ s') (by omega) s' rfl hi
      exact ⟨r, by rw [hb]; exact hr, hq⟩

theorem wr64 {x : Int} (h1 : -9223372036854775808 ≤ x) (h2 : x ≤ 9223372036854775807) : IntKind.wrap .i64 x = x := wrap_id h1 (by omega)

theorem ofInt_toNat {a : Nat} (h : a < 9223372036854775808) : (BitVec.ofInt 64 (a : Int)).toNat = a := by
  rw [BitVec.toNat_ofInt]
  have : ((a : Int) % ((2 ^ 64 : Nat) : Int)) = a := Int.emod_eq_of_lt (by omega) (by omega)
  rw [this]; rfl

theorem bAnd64 {a b : Nat} (ha : a < 9223372036854775808) (hb : b < 9223372036854775808) : bAnd .i64 a b = ((a &&& b : Nat) : Int) := by
  have h1 := ofInt_toNat ha
  have h2 := ofInt_toNat hb
  unfold bAnd
  show IntKind.wrap .i64 (((BitVec.ofInt 64 (a : Int)) &&& (BitVec.ofInt 64 (b : Int))).toNat : Int) = _
  rw [BitVec.toNat_and, h1, h2]
  have : a &&& b ≤ a := Nat.and_le_left
  exact wr64 (by omega) (by omega)

theorem bOr64 {a b : Nat} (ha : a < 4611686018427387904) (hb : b < 4611686018427387904) : bOr .i64 a b = ((a ||| b : Nat) : Int) := by
  have h1 := ofInt_toNat (a := a) (by omega)
  have h2 := ofInt_toNat (a := b) (by omega)
  unfold bOr
  show IntKind.wrap .i64 (((BitVec.ofInt 64 (a : Int)) ||| (BitVec.ofInt 64 (b : Int))).toNat : Int) = _
  rw [BitVec.toNat_or, h1, h2]
  have : a ||| b < 2 ^ 62 := Nat.or_lt_two_pow (by omega) (by omega)
  exact wr64 (by omega) (by omega)
end Go.Ab
