/-
  Calls into an empty store; code without fuel.
-/
import Derived.Test.YtijedejhcgeocaaD
import Derived.Test.YtijedejhcgeocaaC
namespace Go.Ab
open Go
set_option linter.unusedVariables false
set_option linter.unusedSimpArgs false

def HV.isP : HV → Bool
  | .p v => v.loose
  | _ => false

/-- a callee that is handed what is shared alone, and answers what holds no memory: whatever else there is -/
def sealed (H : HCalls) : HCalls := fun f ws st =>
  if ws.all HV.isP then match H f ws [] with
    | some (.p v, _) => if v.flat then some (.p v, st) else Option.none
    | _ => Option.none
  else Option.none

section
variable {P : Program}

theorem sealed_ok {H : HCalls} (hH : HCallOk P H) : HCallOk P (sealed H) := by
  intro f ws st r st' h
  unfold sealed at h
  split at h
  case isFalse => cases h
  rename_i hall
  split at h
  case h_2 => cases h
  rename_i v st1 hev
  split at h
  case isFalse => cases h
  rename_i hflat
  simp only [Option.some.injEq, Prod.mk.injEq] at h
  obtain ⟨rfl, rfl⟩ := h
  obtain ⟨hfn, hcalls⟩ := hH f ws [] _ _ hev
  refine ⟨hfn, fun args w L A hsz O bd Hargs => ?_⟩
  have W0 := WF.outAll O.wf
  have O0 : HOk w (fun b j => outAll (L b j)) [] [] := by
    refine ⟨W0, rfl, fun b j r p i h _ => ?_, fun a k h => by simp at h, fun a b o m k h => by simp at h, fun a a' b o m o' m' ks vs h => by simp at h⟩
    cases e : L b j <;> simp [e, outAll] at h
  have shO : ∀ b j, L b j = .sh → outAll (L b j) = .sh := fun b j h => by rw [h]; rfl
  refine Calls.mono (hcalls args w _ [] hsz O0 (fun b j q p i h => by cases e : L b j <;> simp [e, outAll] at h) fun i hi => ?_) fun en w' he => ?_
  · have h1 := List.all_eq_true.1 hall _ (List.getElem_mem hi)
    have h2 := Hargs i hi
    generalize ws[i] = x at h1 h2
    cases x with
    | p pv =>
      obtain ⟨h3, h4⟩ := h2.pv
      exact .p _ _ h3 (h4.frame (fun b j hr => by rw [shO b j hr.shared, hr.shared]) (fun q hq => by rw [loose_refs h3] at hq; cases hq) fun _ _ _ => rfl)
    | _ => simp [HV.isP] at h1
  · cases en with
    | panicked => exact he.elim
    | outgrown => exact he.elim
    | returned u =>
      obtain ⟨L', A', O', bd', Hr, E⟩ := he
      obtain ⟨hl, Hr⟩ := Hr.pv
      have blk : ∀ b, b < w.heap.size → SameBlk (fun b j => outAll (L b j)) b w.heap[b]? w'.heap[b]? := fun b hb => by
        rcases E.blk b hb with ⟨a, o, m, es, c, h, _⟩ | h
        · simp at h
        · exact h
      have blk' : ∀ b, b < w.heap.size → SameBlk L b w.heap[b]? w'.heap[b]? := fun b hb => (blk b hb).weaken fun j hj => by
        rcases hj with hj | hj <;> simp [hj, outAll]
      let L2 : LM := fun b j => if b < w.heap.size then L b j else .out
      have hin : ∀ {b j}, b < w.heap.size → L2 b j = L b j := fun {b j} h => by simp only [L2, h, if_true]
      have cell : ∀ b j, L b j ≠ .out → w'.cell? ⟨b, j, Option.none⟩ = w.cell? ⟨b, j, Option.none⟩ ∧ w'.frozen? ⟨b, j, Option.none⟩ = w.frozen? ⟨b, j, Option.none⟩ := fun b j h => by
        have hb := O.wf.lt h
        obtain ⟨v, hv⟩ := O.wf.ex b j h
        have hs := blk b hb
        cases e : w.heap[b]? with
        | none => simp [World.cell?, e] at hv
        | some ob =>
          rw [e] at hs
          cases ob with
          | cells c t fr =>
            cases e' : w'.heap[b]? with
            | none => rw [e'] at hs; cases hs
            | some ob' =>
              rw [e'] at hs
              cases ob' with
              | cells c' t' fr' =>
                obtain ⟨rfl, rfl, h3, h4⟩ := hs
                refine ⟨?_, by simp [World.frozen?, e, e']⟩
                have := h4 j (by cases e2 : L b j <;> simp [e2, outAll])
                simp only [World.cell?, e, e']
                simpa using this
              | _ => cases hs
          | _ => simp [World.cell?, e] at hv
      have W : WF w' L2 := by
        refine ⟨fun b j b' j' r p i h h' => ?_, fun b j h => ?_, fun b j r p i h => ?_⟩
        · have hb : b < w.heap.size := by apply Classical.byContradiction; intro hn; simp [L2, hn] at h
          have hb' : b' < w.heap.size := by apply Classical.byContradiction; intro hn; simp [L2, hn] at h'
          rw [hin hb] at h; rw [hin hb'] at h'
          exact O.wf.inj _ _ _ _ _ _ _ h h'
        · have hb : b < w.heap.size := by apply Classical.byContradiction; intro hn; simp [L2, hn] at h
          rw [hin hb] at h
          obtain ⟨v, hv⟩ := O.wf.ex b j h
          exact ⟨v, by rw [(cell b j h).1, hv]⟩
        · have hb : b < w.heap.size := by apply Classical.byContradiction; intro hn; simp [L2, hn] at h
          rw [hin hb] at h
          rw [(cell b j (by rw [h]; simp)).2]; exact O.wf.thaw _ _ _ _ _ h
      have E2 : Evo w L A w' L2 A := ⟨E.os, E.tape, E.output, E.size, fun b j hb _ => hin hb, fun b hb => .inr (blk' b hb), Nat.le_refl _, fun _ _ => .inl rfl, fun a b o m h _ => .inl ⟨a, o, m, h⟩⟩
      have Ex : Ext w L w' L2 := ⟨E.os, E.tape, E.output, E.size, fun b j hb _ => hin hb, blk'⟩
      have G : Go1 w L w' L2 := ⟨W, Ex, fun b j h => hin (O.wf.lt (fun e => by rw [e] at h; exact h)), fun b j h => (cell b j (fun e => by rw [e] at h; exact h)).1⟩
      have O2 : HOk w' L2 A st := O.grow G fun b j r p i h _ => by
        have hb : b < w.heap.size := by apply Classical.byContradiction; intro hn; simp [L2, hn] at h
        rwa [hin hb] at h
      refine ⟨L2, A, O2, fun b j q p i h => ?_, .p _ _ hl (flat_rep Hr hflat), E2⟩
      have hb : b < w.heap.size := by apply Classical.byContradiction; intro hn; simp [L2, hn] at h
      rw [hin hb] at h
      exact bd _ _ _ _ _ h

end

/-! ### Monotony -/
def HLe (H H' : HCalls) : Prop := ∀ f ws st r, H f ws st = some r → H' f ws st = some r
theorem HLe.refl (H : HCalls) : HLe H H := fun _ _ _ _ h => h

section
variable {C : Calls'} {H H' : HCalls}

theorem evHS_mono (h : HLe H H') {L : XO → HV} {st : HSt} {x : HOp} {r : HV × HSt} (hv : evHS H L st x = some r) : evHS H' L st x = some r := by
  cases x with
  | x o =>
    cases o
    case call f as ms => simp only [evHS] at hv ⊢; exact h _ _ _ _ hv
    case callv f as =>
      simp only [evHS] at hv ⊢
      split at hv
      · exact h _ _ _ _ hv
      · exact h _ _ _ _ hv
      · exact h _ _ _ _ hv
      · cases hv
    all_goals exact hv
  | _ => exact hv

theorem stepHL_mono (h : HLe H H') {s s' : HS} {o : HI} (hv : stepHL C H s o = some s') : stepHL C H' s o = some s' := by
  unfold stepHL at hv ⊢
  split at hv
  · rename_i v e; (try simp only [e]); exact hv
  · rename_i e
    (try simp only [e])
    split at hv
    · rename_i v st e2
      simp only [evHS_mono h e2]; exact hv
    · cases hv

theorem stepH_mono (h : HLe H H') {s s' : HS} {o : HI} (hv : stepH C H s o = some s') : stepH C H' s o = some s' := by
  unfold stepH at hv ⊢
  split at hv
  · rename_i e; (try simp only [e]); exact stepHL_mono h hv
  · rename_i e; (try simp only [e]); exact hv
  · cases hv

theorem stepsH_mono (h : HLe H H') : ∀ {l : List HI} {s s' : HS}, stepsH C H s l = some s' → stepsH C H' s l = some s'
  | [], s, s', hv => hv
  | o :: l, s, s', hv => by
    simp only [stepsH] at hv ⊢
    split at hv
    · rename_i s1 e; simp only [stepH_mono h e]; exact stepsH_mono h hv
    · cases hv

theorem traceHD_mono (h : HLe H H') : ∀ {l : List HI} {s : HS} {tr : List HS}, traceHD C H s l = some tr → traceHD C H' s l = some tr
  | [], s, tr, hv => hv
  | o :: l, s, tr, hv => by
    simp only [traceHD] at hv ⊢
    split at hv
    · rename_i hb
      rw [if_pos hb]
      split at hv
      · rename_i s1 e
        simp only [Option.map_eq_some_iff] at hv
        obtain ⟨t, ht, rfl⟩ := hv
        simp only [stepH_mono h e, traceHD_mono h ht, Option.map_some]
      · cases hv
    · rename_i hb
      rw [if_neg hb]
      split at hv
      · rename_i d v e
        simp only [Option.map_eq_some_iff] at hv
        obtain ⟨t, ht, rfl⟩ := hv
        simp only [e, traceHD_mono h ht, Option.map_some]
      · cases hv

theorem regHD_mono (h : HLe H H') {s s' : HS} {l : List HI} (hv : regHD C H s l = some s') : regHD C H' s l = some s' := by
  unfold regHD at hv ⊢
  split at hv
  · rename_i hf
    rw [if_pos hf]
    split at hv
    · rename_i tr e; simp only [traceHD_mono h e]; exact hv
    · cases hv
  · cases hv

theorem fgtH_inv {k : List Nat} {x : Option (Ex × HS)} {y : Ex × HS} (h : fgtH k x = some y) : ∃ z, x = some z ∧ ∀ x', x' = some z → fgtH k x' = some y := by
  cases x with
  | none => simp [fgtH] at h
  | some z => exact ⟨z, rfl, fun x' e => by rw [e]; exact h⟩

theorem evHC_mono (h : HLe H H') : ∀ {n m : Nat} {c : HC} {s : HS} {x : Ex × HS}, n ≤ m → evHC C H n c s = some x → evHC C H' m c s = some x
  | 0, m, c, s, x, _, hv => by simp [evHC] at hv
  | n + 1, 0, c, s, x, hle, hv => by omega
  | n + 1, m + 1, c, s, x, hle, hv => by
    have ih : ∀ {c : HC} {s : HS} {x : Ex × HS}, evHC C H n c s = some x → evHC C H' m c s = some x := fun hv => evHC_mono h (by omega) hv
    cases c with
    | skip => exact hv
    | reg ops draw keep =>
      simp only [evHC, Option.map_eq_some_iff] at hv ⊢
      obtain ⟨s1, h1, rfl⟩ := hv
      refine ⟨s1, ?_, rfl⟩
      cases draw with
      | true => simp only [if_true] at h1 ⊢; exact regHD_mono h h1
      | false => simp only [Bool.false_eq_true, if_false] at h1 ⊢; exact stepsH_mono h h1
    | seq a b =>
      simp only [evHC] at hv ⊢
      split at hv
      · rename_i s1 e; simp only [ih e]; exact ih hv
      · rename_i hno
        have := ih hv
        rw [this]
        obtain ⟨ex, s1⟩ := x
        cases ex with
        | norm => exact absurd hv (hno _)
        | _ => rfl
    | cond c a b k =>
      simp only [evHC] at hv ⊢
      obtain ⟨z, hz, hf⟩ := fgtH_inv hv
      refine hf _ ?_
      split at hz
      · rename_i e; (try simp only [e]); exact ih hz
      · rename_i e; (try simp only [e]); exact ih hz
      · cases hz
    | block id b k =>
      simp only [evHC] at hv ⊢
      cases hb : evHC C H n b s with
      | none => rw [hb] at hv; simp [fgtH] at hv
      | some q => rw [hb] at hv; rw [ih hb]; exact hv
    | loop b k =>
      simp only [evHC] at hv ⊢
      cases hb : evHC C H n b s with
      | none => rw [hb] at hv; simp [fgtH] at hv
      | some q =>
        rw [hb] at hv; rw [ih hb]
        obtain ⟨ex, s1⟩ := q
        cases ex with
        | norm => simp only [fgtH] at hv ⊢; exact ih hv
        | exit id => exact hv
        | ret => exact hv
    | exit id k => exact hv
    | ret => exact hv

variable {K : HCalls} {T : Nat → Option HF}

theorem evHF_mono : ∀ {n m : Nat}, n ≤ m → HLe (evHF C K T n) (evHF C K T m)
  | 0, m, _, f, ws, st, r, h => by simp [evHF] at h
  | n + 1, 0, hle, f, ws, st, r, h => by omega
  | n + 1, m + 1, hle, f, ws, st, r, h => by
    simp only [evHF] at h ⊢
    split at h
    · rename_i k hk; (try simp only [hk]); exact h
    · rename_i hk
      (try simp only [hk])
      split at h
      · rename_i x hx
        (try simp only [hx])
        split at h
        · rename_i hl
          rw [if_pos hl]
          have hle' : HLe (evHF C K T n) (evHF C K T m) := evHF_mono (by omega)
          cases hb : evHC C (evHF C K T n) n x.body (paramsH 0 ws, st) with
          | none => rw [hb] at h; cases h
          | some q => rw [hb] at h; rw [evHC_mono hle' (by omega) hb]; exact h
        · cases h
      · cases h

/-! ### What code does, without fuel -/
/-- a function answers -/
def Ans (C : Calls') (K : HCalls) (T : Nat → Option HF) (f : Nat) (ws : List HV) (st : HSt) (r : HV) (st' : HSt) : Prop := ∃ n, evHF C K T n f ws st = some (r, st')
/-- code comes to an end -/
def Run (C : Calls') (K : HCalls) (T : Nat → Option HF) (c : HC) (s : HS) (ex : Ex) (s' : HS) : Prop := ∃ n, evHC C (evHF C K T n) n c s = some (ex, s')
/-- operations in a row -/
def Seq (C : Calls') (K : HCalls) (T : Nat → Option HF) (s : HS) (ops : List HI) (s' : HS) : Prop := ∃ n, stepsH C (evHF C K T n) s ops = some s'

theorem Run.up {c : HC} {s s' : HS} {ex : Ex} {n m : Nat} (hle : n ≤ m) (h : evHC C (evHF C K T n) n c s = some (ex, s')) : evHC C (evHF C K T m) m c s = some (ex, s') := evHC_mono (evHF_mono hle) hle h

theorem Ans.known {f : Nat} {ws : List HV} {st st' : HSt} {r : HV} (h : K f ws st = some (r, st')) : Ans C K T f ws st r st' := ⟨1, by simp only [evHF, h]⟩

theorem Ans.intro {f : Nat} {x : HF} (hk : ∀ ws st, K f ws st = Option.none) (hx : T f = some x) {ws : List HV} (hl : ws.length = x.np) {st : HSt} {ex : Ex} {s : HS} (hb : Run C K T x.body (paramsH 0 ws, st) ex s) (hex : ∀ id, ex ≠ .exit id) {vs : List HV}
    (hr : resHL (hland s (x.res.map resT)) x.res = some vs) {r : HV} {st' : HSt} (h1 : r = tupHOf vs) (h2 : st' = (hland s (x.res.map resT)).2) : Ans C K T f ws st r st' := by
  obtain ⟨n, hn⟩ := hb
  refine ⟨n + 1, ?_⟩
  subst h1; subst h2
  simp only [evHF, hk, hx, hl, if_true, hn]
  cases ex with
  | norm => simp [hr]
  | ret => simp [hr]
  | exit id => exact absurd rfl (hex id)

theorem Run.skip {s : HS} : Run C K T .skip s .norm s := ⟨1, rfl⟩
theorem Run.ret {s : HS} : Run C K T .ret s .ret s := ⟨1, rfl⟩
theorem Run.exit {s : HS} {id : Nat} {k : List Nat} : Run C K T (.exit id k) s (.exit id) (s.1.keep k, s.2) := ⟨1, rfl⟩

theorem Run.seq {a b : HC} {s s1 s2 : HS} {ex : Ex} (h1 : Run C K T a s .norm s1) (h2 : Run C K T b s1 ex s2) : Run C K T (.seq a b) s ex s2 := by
  obtain ⟨n, hn⟩ := h1
  obtain ⟨m, hm⟩ := h2
  refine ⟨max n m + 1, ?_⟩
  have e1 := evHC_mono (evHF_mono (C := C) (K := K) (T := T) (show n ≤ max n m + 1 by omega)) (show n ≤ max n m by omega) hn
  have e2 := evHC_mono (evHF_mono (C := C) (K := K) (T := T) (show m ≤ max n m + 1 by omega)) (show m ≤ max n m by omega) hm
  simp only [evHC, e1, e2]

theorem Run.seqX {a b : HC} {s s1 : HS} {ex : Ex} (h1 : Run C K T a s ex s1) (hx : ex ≠ .norm) : Run C K T (.seq a b) s ex s1 := by
  obtain ⟨n, hn⟩ := h1
  refine ⟨n + 1, ?_⟩
  have e1 := evHC_mono (evHF_mono (C := C) (K := K) (T := T) (show n ≤ n + 1 by omega)) (Nat.le_refl n) hn
  simp only [evHC, e1]
  cases ex with
  | norm => exact absurd rfl hx
  | _ => rfl

def fgtS (k : List Nat) (ex : Ex) (s : HS) : HS := match ex with
  | .norm => (s.1.keep k, s.2)
  | _ => s

theorem fgtH_S (k : List Nat) (ex : Ex) (s : HS) : fgtH k (some (ex, s)) = some (ex, fgtS k ex s) := by cases ex <;> rfl

theorem Run.condT {c : XO} {a b : HC} {k : List Nat} {s s1 : HS} {ex : Ex} (hc : lookHG s.1.get c = .p (.bool true)) (h : Run C K T a s ex s1) : Run C K T (.cond c a b k) s ex (fgtS k ex s1) := by
  obtain ⟨n, hn⟩ := h
  refine ⟨n + 1, ?_⟩
  have e1 := evHC_mono (evHF_mono (C := C) (K := K) (T := T) (show n ≤ n + 1 by omega)) (Nat.le_refl n) hn
  simp only [evHC, hc, e1, fgtH_S]

theorem Run.condF {c : XO} {a b : HC} {k : List Nat} {s s1 : HS} {ex : Ex} (hc : lookHG s.1.get c = .p (.bool false)) (h : Run C K T b s ex s1) : Run C K T (.cond c a b k) s ex (fgtS k ex s1) := by
  obtain ⟨n, hn⟩ := h
  refine ⟨n + 1, ?_⟩
  have e1 := evHC_mono (evHF_mono (C := C) (K := K) (T := T) (show n ≤ n + 1 by omega)) (Nat.le_refl n) hn
  simp only [evHC, hc, e1, fgtH_S]

def blockX (id : Nat) : Ex → Ex
  | .exit id' => if id' = id then .norm else .exit id'
  | e => e

theorem Run.block {id : Nat} {b : HC} {k : List Nat} {s s1 : HS} {ex : Ex} (h : Run C K T b s ex s1) : Run C K T (.block id b k) s (blockX id ex) (fgtS k (blockX id ex) s1) := by
  obtain ⟨n, hn⟩ := h
  refine ⟨n + 1, ?_⟩
  have e1 := evHC_mono (evHF_mono (C := C) (K := K) (T := T) (show n ≤ n + 1 by omega)) (Nat.le_refl n) hn
  simp only [evHC, e1]
  cases ex with
  | norm => rfl
  | ret => rfl
  | exit id' =>
    by_cases hid : id' = id
    · simp only [hid, if_true, blockX]; rfl
    · simp only [hid, if_false, blockX]; rfl

theorem Run.loopX {b : HC} {k : List Nat} {s s1 : HS} {ex : Ex} (h : Run C K T b s ex s1) (hx : ex ≠ .norm) : Run C K T (.loop b k) s ex s1 := by
  obtain ⟨n, hn⟩ := h
  refine ⟨n + 1, ?_⟩
  have e1 := evHC_mono (evHF_mono (C := C) (K := K) (T := T) (show n ≤ n + 1 by omega)) (Nat.le_refl n) hn
  simp only [evHC, e1, fgtH_S]
  cases ex with
  | norm => exact absurd rfl hx
  | _ => rfl

theorem Run.loopN {b : HC} {k : List Nat} {s s1 s2 : HS} {ex : Ex} (h : Run C K T b s .norm s1) (h2 : Run C K T (.loop b k) (s1.1.keep k, s1.2) ex s2) : Run C K T (.loop b k) s ex s2 := by
  obtain ⟨n, hn⟩ := h
  obtain ⟨m, hm⟩ := h2
  refine ⟨max n m + 1, ?_⟩
  have e1 := evHC_mono (evHF_mono (C := C) (K := K) (T := T) (show n ≤ max n m + 1 by omega)) (show n ≤ max n m by omega) hn
  have e2 := evHC_mono (evHF_mono (C := C) (K := K) (T := T) (show m ≤ max n m + 1 by omega)) (show m ≤ max n m by omega) hm
  simp only [evHC, e1, fgtH_S, fgtS, e2]

/-- a loop with a measure -/
theorem Run.loop {b : HC} {k : List Nat} {ex : Ex} (I : HS → Prop) (Q : HS → Prop) (μ : HS → Nat)
    (step : ∀ s, I s → (∃ s1, Run C K T b s ex s1 ∧ ex ≠ .norm ∧ Q s1) ∨ ∃ s1, Run C K T b s .norm s1 ∧ I (s1.1.keep k, s1.2) ∧ μ (s1.1.keep k, s1.2) < μ s) : ∀ s, I s → ∃ s', Run C K T (.loop b k) s ex s' ∧ Q s' := by
  intro s
  induction hn : μ s using Nat.strongRecOn generalizing s with
  | ind n ih =>
    intro hs
    rcases step s hs with ⟨s1, h1, h2, h3⟩ | ⟨s1, h1, h2, h3⟩
    · exact ⟨s1, .loopX h1 h2, h3⟩
    · obtain ⟨s', h4, h5⟩ := ih _ (by omega) _ rfl h2
      exact ⟨s', .loopN h1 h4, h5⟩

theorem Run.reg {ops : List HI} {keep : List Nat} {s s' : HS} (h : Seq C K T s ops s') : Run C K T (.reg ops false keep) s .norm (s'.1.keep keep, s'.2) := by
  obtain ⟨n, hn⟩ := h
  refine ⟨n + 1, ?_⟩
  have := stepsH_mono (C := C) (evHF_mono (C := C) (K := K) (T := T) (show n ≤ n + 1 by omega)) hn
  simp only [evHC, Bool.false_eq_true, if_false, this, Option.map_some]

theorem Run.regD {ops : List HI} {keep : List Nat} {s s' : HS} (h : ∃ n, regHD C (evHF C K T n) s ops = some s') : Run C K T (.reg ops true keep) s .norm (s'.1.keep keep, s'.2) := by
  obtain ⟨n, hn⟩ := h
  refine ⟨n + 1, ?_⟩
  have := regHD_mono (C := C) (evHF_mono (C := C) (K := K) (T := T) (show n ≤ n + 1 by omega)) hn
  simp only [evHC, if_true, this, Option.map_some]

theorem Seq.nil {s : HS} : Seq C K T s [] s := ⟨0, rfl⟩
theorem Seq.cons {s s1 s' : HS} {o : HI} {r : List HI} (h : ∃ n, stepH C (evHF C K T n) s o = some s1) (h2 : Seq C K T s1 r s') : Seq C K T s (o :: r) s' := by
  obtain ⟨n, hn⟩ := h
  obtain ⟨m, hm⟩ := h2
  refine ⟨max n m, ?_⟩
  simp only [stepsH, stepH_mono (evHF_mono (C := C) (K := K) (T := T) (show n ≤ max n m by omega)) hn]
  exact stepsH_mono (evHF_mono (C := C) (K := K) (T := T) (show m ≤ max n m by omega)) hm

end
end Go.Ab

/-
  The evaluator's equations, so that simp goes no further than a path goes.
-/
namespace Go.Ab
open Go
set_option linter.unusedVariables false
set_option linter.unusedSimpArgs false

def oel {α β : Type} (x : Option α) (f : α → β) (g : Unit → β) : β := match x with
  | some v => f v
  | Option.none => g ()
@[congr] theorem oel_congr {α β : Type} {x y : Option α} {f : α → β} {g : Unit → β} (h : x = y) : oel x f g = oel y f g := by rw [h]
theorem oel_some {α β : Type} {v : α} {f : α → β} {g : Unit → β} : oel (some v) f g = f v := (rfl)
theorem oel_none {α β : Type} {f : α → β} {g : Unit → β} : oel Option.none f g = g () := (rfl)

def bel {β : Type} (x : Bool) (f g : Unit → β) : β := match x with
  | true => f ()
  | false => g ()
@[congr] theorem bel_congr {β : Type} {x y : Bool} {f g : Unit → β} (h : x = y) : bel x f g = bel y f g := by rw [h]
theorem bel_true {β : Type} {f g : Unit → β} : bel true f g = f () := (rfl)
theorem bel_false {β : Type} {f g : Unit → β} : bel false f g = g () := (rfl)

def hvel {β : Type} (x : HV) (f g : Unit → Option β) : Option β := match x with
  | .p (.bool true) => f ()
  | .p (.bool false) => g ()
  | _ => Option.none
@[congr] theorem hvel_congr {β : Type} {x y : HV} {f g : Unit → Option β} (h : x = y) : hvel x f g = hvel y f g := by rw [h]
theorem hvel_true {β : Type} {f g : Unit → Option β} : hvel (.p (.bool true)) f g = f () := (rfl)
theorem hvel_false {β : Type} {f g : Unit → Option β} : hvel (.p (.bool false)) f g = g () := (rfl)

def exel (x : Option (Ex × HS)) (f : HS → Option (Ex × HS)) : Option (Ex × HS) := match x with
  | some (.norm, s) => f s
  | r => r
@[congr] theorem exel_congr {x y : Option (Ex × HS)} {f : HS → Option (Ex × HS)} (h : x = y) : exel x f = exel y f := by rw [h]
theorem exel_norm {s : HS} {f : HS → Option (Ex × HS)} : exel (some (.norm, s)) f = f s := (rfl)
theorem exel_ret {s : HS} {f : HS → Option (Ex × HS)} : exel (some (.ret, s)) f = some (.ret, s) := (rfl)
theorem exel_exit {s : HS} {i : Nat} {f : HS → Option (Ex × HS)} : exel (some (.exit i, s)) f = some (.exit i, s) := (rfl)

def retel {β : Type} (x : Option (Ex × HS)) (f : HS → Option β) : Option β := match x with
  | some (.exit _, _) => Option.none
  | some (_, s) => f s
  | Option.none => Option.none
@[congr] theorem retel_congr {β : Type} {x y : Option (Ex × HS)} {f : HS → Option β} (h : x = y) : retel x f = retel y f := by rw [h]
theorem retel_norm {β : Type} {s : HS} {f : HS → Option β} : retel (some (.norm, s)) f = f s := (rfl)
theorem retel_ret {β : Type} {s : HS} {f : HS → Option β} : retel (some (.ret, s)) f = f s := (rfl)

theorem fgtH_norm {k : List Nat} {s : HS} : fgtH k (some (.norm, s)) = some (.norm, (s.1.keep k, s.2)) := (rfl)
theorem fgtH_ret {k : List Nat} {s : HS} : fgtH k (some (.ret, s)) = some (.ret, s) := (rfl)
theorem fgtH_exit {k : List Nat} {i : Nat} {s : HS} : fgtH k (some (.exit i, s)) = some (.exit i, s) := (rfl)

def blkel (id : Nat) : Option (Ex × HS) → Option (Ex × HS)
  | some (.exit id', s') => if id' = id then some (.norm, s') else some (.exit id', s')
  | r => r
theorem blkel_norm {id : Nat} {s : HS} : blkel id (some (.norm, s)) = some (.norm, s) := (rfl)
theorem blkel_ret {id : Nat} {s : HS} : blkel id (some (.ret, s)) = some (.ret, s) := (rfl)
theorem blkel_exit {id i : Nat} {s : HS} : blkel id (some (.exit i, s)) = if i = id then some (.norm, s) else some (.exit i, s) := (rfl)

theorem get_nil {t : Nat} : HEnv.get [] t = .p .none := (rfl)
theorem get_cons {k t : Nat} {v : HV} {r : HEnv} : HEnv.get ((k, v) :: r) t = if t = k then v else HEnv.get r t := (rfl)
theorem set_nil {t : Nat} {v : HV} : HEnv.set [] t v = [(t, v)] := (rfl)
theorem set_cons {k t : Nat} {x v : HV} {r : HEnv} : HEnv.set ((k, x) :: r) t v = if t < k then (t, v) :: (k, x) :: r else if t = k then (t, v) :: r else (k, x) :: HEnv.set r t v := (rfl)
theorem keep_nil {l : List Nat} : HEnv.keep l [] = [] := (rfl)
theorem keep_cons {l : List Nat} {k : Nat} {x : HV} {r : HEnv} : HEnv.keep l ((k, x) :: r) = if l.contains k = true then (k, x) :: HEnv.keep l r else HEnv.keep l r := (rfl)
theorem params_nil {i : Nat} : paramsH i [] = [] := (rfl)
theorem params_cons {i : Nat} {v : HV} {r : List HV} : paramsH i (v :: r) = (i, v) :: paramsH (i + 1) r := (rfl)
theorem lookHG_t {g : Nat → HV} {n : Nat} : lookHG g (.t n) = vis (g n) := (rfl)
theorem lookHG_k {g : Nat → HV} {v : PV} : lookHG g (.k v) = .p v := (rfl)
theorem lookHG_f {g : Nat → HV} {n : Nat} : lookHG g (.f n) = .p (.fn n []) := (rfl)
def alG (n : Nat) : PV → PV
  | .agg cs => .agg (alL n [] 0 cs)
  | .tup cs => if noOwnL cs then .tup cs else .none
  | v => al n [] v
theorem lookPG_t {g : Nat → HV} {n : Nat} : lookPG g (.t n) = alG n (toP (g n)) := by
  show lookG (fun t => toP (g t)) (.t n) = _
  simp only [lookG]
  cases toP (g n) <;> rfl
theorem lookPG_k {g : Nat → HV} {v : PV} : lookPG g (.k v) = v := (rfl)
theorem lookPG_f {g : Nat → HV} {n : Nat} : lookPG g (.f n) = .fn n [] := (rfl)

def wantsE (e : HEnv) (g : Option (Nat × Bool)) : Option Bool := wantsG (fun t => toP (e.get t)) g
theorem wantsE_none {e : HEnv} : wantsE e Option.none = some true := (rfl)
def wantB (want : Bool) : PV → Option Bool
  | .bool b => some (b == want)
  | .tup [] => some false
  | _ => Option.none
theorem wantsE_some {e : HEnv} {d : Nat} {b : Bool} : wantsE e (some (d, b)) = wantB b (toP (e.get d)) := by
  simp only [wantsE, wantsG]
  cases toP (e.get d) with
  | tup cs => cases cs <;> rfl
  | _ => rfl
theorem wantB_bool {w b : Bool} : wantB w (.bool b) = some (b == w) := (rfl)
theorem wantB_skip {w : Bool} : wantB w (.tup []) = some false := (rfl)

section
variable {C : Calls'} {H K : HCalls} {T : Nat → Option HF}

theorem stepsH_nil {s : HS} : stepsH C H s [] = some s := (rfl)
theorem stepsH_cons {s : HS} {o : HI} {r : List HI} : stepsH C H s (o :: r) = oel (stepH C H s o) (fun s' => stepsH C H s' r) (fun _ => Option.none) := by
  simp only [stepsH]
  cases stepH C H s o <;> rfl

theorem stepH_eq {e : HEnv} {st : HSt} {dst : Option Nat} {op : HOp} {g : Option (Nat × Bool)} {bar : Bool} {ls : List Nat} : stepH C H (e, st) ⟨dst, op, g, bar, ls⟩ =
    oel (wantsE e g) (fun b => bel b (fun _ => stepHL C H (hland (e, st) op.temps) ⟨dst, op, g, bar, ls⟩) (fun _ => some (setH e dst (.p (.tup [])), st))) (fun _ => Option.none) := by
  simp only [stepH, wantsE]
  cases wantsG (fun t => toP (e.get t)) g with
  | none => rfl
  | some b => cases b <;> rfl

theorem stepHL_eq {e : HEnv} {st : HSt} {dst : Option Nat} {op : HOp} {g : Option (Nat × Bool)} {bar : Bool} {ls : List Nat} : stepHL C H (e, st) ⟨dst, op, g, bar, ls⟩ =
    oel (evHP C (lookHG e.get) (lookPG e.get) st op) (fun v => oel dst (fun d => some (e.set d v, st)) (fun _ => Option.none))
      (fun _ => oel (evHS H (lookHG e.get) st op) (fun r => some (setH e dst r.1, r.2)) (fun _ => Option.none)) := by
  simp only [stepHL]
  cases evHP C (lookHG e.get) (lookPG e.get) st op with
  | some v => cases dst <;> rfl
  | none => cases evHS H (lookHG e.get) st op <;> rfl

theorem evHP_x {L : XO → HV} {LP : XO → PV} {st : HSt} {o : XOp} : evHP C L LP st (.x o) =
    oel (evHX L st o) some (fun _ => oel (evP C LP (fun _ _ => .none) o) (fun v => if (v.loose || fresh v) = true then some (.p v) else Option.none) (fun _ => evHN L o)) := by
  simp only [evHP]
  cases evHX L st o with
  | some v => rfl
  | none => cases evP C LP (fun _ _ => .none) o <;> rfl
theorem evHP_bm {L : XO → HV} {LP : XO → PV} {st : HSt} {f : Nat} {l : List XO} : evHP C L LP st (.bm f l) = some (.bm f (l.map L)) := (rfl)
theorem evHP_snil {L : XO → HV} {LP : XO → PV} {st : HSt} {n : Bool} {x : XO} : evHP C L LP st (.snil n x) = evHV L st (.snil n x) := (rfl)
theorem evHP_slc0 {L : XO → HV} {LP : XO → PV} {st : HSt} {x : XO} : evHP C L LP st (.slc0 x) = evHV L st (.slc0 x) := (rfl)
theorem evHP_copy {L : XO → HV} {LP : XO → PV} {st : HSt} {n : Nat} {d s : XO} : evHP C L LP st (.copy n d s) = Option.none := (rfl)

variable {n : Nat}
theorem evHC_skip {s : HS} : evHC C H (n + 1) .skip s = some (.norm, s) := (rfl)
theorem evHC_ret {s : HS} : evHC C H (n + 1) .ret s = some (.ret, s) := (rfl)
theorem evHC_exit {s : HS} {i : Nat} {k : List Nat} : evHC C H (n + 1) (.exit i k) s = some (.exit i, (s.1.keep k, s.2)) := (rfl)
theorem evHC_reg {s : HS} {ops : List HI} {k : List Nat} : evHC C H (n + 1) (.reg ops false k) s = oel (stepsH C H s ops) (fun s' => some (.norm, (s'.1.keep k, s'.2))) (fun _ => Option.none) := by
  simp only [evHC, Bool.false_eq_true, if_false]
  cases stepsH C H s ops <;> rfl
theorem evHC_regD {s : HS} {ops : List HI} {k : List Nat} : evHC C H (n + 1) (.reg ops true k) s = oel (regHD C H s ops) (fun s' => some (.norm, (s'.1.keep k, s'.2))) (fun _ => Option.none) := by
  simp only [evHC, if_true]
  cases regHD C H s ops <;> rfl
theorem evHC_seq {s : HS} {a b : HC} : evHC C H (n + 1) (.seq a b) s = exel (evHC C H n a s) (fun s' => evHC C H n b s') := by
  simp only [evHC]
  cases evHC C H n a s with
  | none => rfl
  | some r => obtain ⟨ex, s'⟩ := r; cases ex <;> rfl
theorem evHC_cond {s : HS} {x : XO} {a b : HC} {k : List Nat} : evHC C H (n + 1) (.cond x a b k) s = fgtH k (hvel (lookHG s.1.get x) (fun _ => evHC C H n a s) (fun _ => evHC C H n b s)) := by
  simp only [evHC]
  congr 1
theorem evHC_block {s : HS} {i : Nat} {b : HC} {k : List Nat} : evHC C H (n + 1) (.block i b k) s = fgtH k (blkel i (evHC C H n b s)) := by
  simp only [evHC]
  congr 1
theorem evHC_loop {s : HS} {b : HC} {k : List Nat} : evHC C H (n + 1) (.loop b k) s = exel (fgtH k (evHC C H n b s)) (fun s' => evHC C H n (.loop b k) s') := by
  simp only [evHC]
  cases fgtH k (evHC C H n b s) with
  | none => rfl
  | some r => obtain ⟨ex, s'⟩ := r; cases ex <;> rfl

theorem evHF_eq {f : Nat} {args : List HV} {st : HSt} : evHF C K T (n + 1) f args st =
    oel (K f args st) some (fun _ => oel (T f) (fun x => if args.length = x.np then
      retel (evHC C (evHF C K T n) n x.body (paramsH 0 args, st)) (fun s => oel (resHL (hland s (x.res.map resT)) x.res) (fun vs => some (tupHOf vs, (hland s (x.res.map resT)).2)) (fun _ => Option.none))
      else Option.none) (fun _ => Option.none)) := by
  simp only [evHF]
  cases K f args st with
  | some r => rfl
  | none =>
    cases T f with
    | none => rfl
    | some x =>
      show (if args.length = x.np then _ else _) = (if args.length = x.np then _ else _)
      by_cases h : args.length = x.np
      · rw [if_pos h, if_pos h]
        cases evHC C (evHF C K T n) n x.body (paramsH 0 args, st) with
        | none => rfl
        | some r =>
          obtain ⟨ex, s⟩ := r
          cases ex with
          | exit i => rfl
          | norm => simp only [retel]; cases resHL (hland s (x.res.map resT)) x.res <;> rfl
          | ret => simp only [retel]; cases resHL (hland s (x.res.map resT)) x.res <;> rfl
      · rw [if_neg h, if_neg h]

theorem regHD_eq {e : HEnv} {st : HSt} {ops : List HI} : regHD C H (e, st) ops =
    if (hland (e, st) (e.map (·.1))).1.all (fun x => !isFresh x.2) = true then
      oel (traceHD C H (hland (e, st) (e.map (·.1))) ops) (fun tr => if stableAll tr tr ops = true then lastO tr else Option.none) (fun _ => Option.none)
    else Option.none := by
  simp only [regHD]
  split
  · cases traceHD C H (hland (e, st) (e.map (·.1))) ops <;> rfl
  · rfl

theorem traceHD_nil {s : HS} : traceHD C H s [] = some [s] := (rfl)
theorem traceHD_cons {e : HEnv} {st : HSt} {dst : Option Nat} {op : HOp} {g : Option (Nat × Bool)} {bar : Bool} {ls : List Nat} {r : List HI} : traceHD C H (e, st) (⟨dst, op, g, bar, ls⟩ :: r) =
    bel bar (fun _ => oel (stepH C H (e, st) ⟨dst, op, g, bar, ls⟩) (fun s' => oel (traceHD C H s' r) (fun t => some ((e, st) :: t)) (fun _ => Option.none)) (fun _ => Option.none))
      (fun _ => oel (stepHD C st e ⟨dst, op, g, bar, ls⟩) (fun p => oel (traceHD C H (e.set p.1 p.2, st) r) (fun t => some ((e, st) :: t)) (fun _ => Option.none)) (fun _ => Option.none)) := by
  simp only [traceHD]
  cases bar with
  | true =>
    simp only [if_true, bel]
    cases stepH C H (e, st) ⟨dst, op, g, true, ls⟩ with
    | none => rfl
    | some s' => cases hh : traceHD C H s' r <;> simp [oel, hh]
  | false =>
    simp only [Bool.false_eq_true, if_false, bel]
    cases stepHD C st e ⟨dst, op, g, false, ls⟩ with
    | none => rfl
    | some s' => obtain ⟨d, v⟩ := s'; cases hh : traceHD C H (e.set d v, st) r <;> simp [oel, hh]

theorem stepHD_eq {e : HEnv} {st : HSt} {d : Nat} {op : HOp} {g : Option (Nat × Bool)} {bar : Bool} {ls : List Nat} : stepHD C st e ⟨some d, op, g, bar, ls⟩ =
    oel (wantsE e g) (fun b => bel b (fun _ => oel (evHP C (lookHG e.get) (lookPG e.get) st op) (fun v => some (d, v)) (fun _ => Option.none)) (fun _ => some (d, .p (.tup [])))) (fun _ => Option.none) := by
  simp only [stepHD, wantsE]
  cases wantsG (fun t => toP (e.get t)) g with
  | none => rfl
  | some b =>
    cases b with
    | false => rfl
    | true => simp only [oel, bel]; cases evHP C (lookHG e.get) (lookPG e.get) st op <;> rfl
end

theorem fr_none : (PV.none ).free = false := (rfl)
theorem fr_bool (b : Bool) : (PV.bool b).free = true := (rfl)
theorem fr_int (k : IntKind) (n : Int) : (PV.int k n).free = true := (rfl)
theorem fr_str (s : List UInt8) : (PV.str s).free = true := (rfl)
theorem fr_nilp : (PV.nilp ).free = true := (rfl)
theorem fr_nils : (PV.nils ).free = true := (rfl)
theorem fr_nilf : (PV.nilf ).free = true := (rfl)
theorem fr_sl (n : Nat) (cs : List PV) : (PV.sl n cs).free = true := (rfl)
theorem fr_sp (cs : List PV) : (PV.sp cs).free = true := (rfl)
theorem fr_ref (r : Nat) (p : List Nat) (i n : Nat) : (PV.ref r p i n).free = false := (rfl)
theorem fr_view (r : Nat) (p : List Nat) (o l z : Nat) : (PV.view r p o l z).free = false := (rfl)
theorem fr_box (cs : List PV) : (PV.box cs).free = false := (rfl)
theorem fr_own (sz len : Nat) (cs : List PV) : (PV.own sz len cs).free = false := (rfl)
theorem fr_agg (cs : List PV) : (PV.agg cs).free = false := (rfl)
theorem fr_tup (cs : List PV) : (PV.tup cs).free = false := (rfl)
theorem fr_fn (f : Nat) (cs : List PV) : (PV.fn f cs).free = false := (rfl)
theorem getElem?_len {α : Type} (l r : List α) (k : Nat) : (l ++ r)[l.length + k]? = r[k]? := by
  rw [List.getElem?_append_right (by omega)]; congr 1; omega
theorem getElem?_len0 {α : Type} (l r : List α) : (l ++ r)[l.length]? = r[0]? := by
  rw [List.getElem?_append_right (by omega)]; congr 1; omega
theorem set_len0 {α : Type} (l r : List α) (x : α) : (l ++ r).set l.length x = l ++ r.set 0 x := by
  rw [List.set_append_right _ _ (by omega)]; congr 2; omega
theorem set_len {α : Type} (l r : List α) (k : Nat) (x : α) : (l ++ r).set (l.length + k) x = l ++ r.set k x := by
  rw [List.set_append_right _ _ (by omega)]; congr 2; omega
theorem len_app {α : Type} (l r : List α) : (l ++ r).length = l.length + r.length := List.length_append

/-- no function is answered by Ab -/
def C0 : Calls' := fun _ _ => Option.none
theorem C0_ok {P : Program} : CallOk P C0 := fun _ _ _ _ h => by cases h
theorem evP_call0 {L : XO → PV} {S : Subs} {f : Nat} {as : List XO} {ms : List Nat} : evP C0 L S (.call f as ms) = Option.none := by
  cases ms with
  | nil =>
    simp only [evP, C0]
    split <;> rfl
  | cons => rfl
theorem evP_callv0 {L : XO → PV} {S : Subs} {x : XO} {as : List XO} : evP C0 L S (.callv x as) = Option.none := by
  simp only [evP, C0]
  split
  · split <;> rfl
  · rfl
/-- into a function's body -/
theorem evHF_in {C : Calls'} {K : HCalls} {T : Nat → Option HF} {n : Nat} {f : Nat} {args : List HV} {st : HSt} {x : HF} (hk : ∀ ws st, K f ws st = Option.none) (hT : T f = some x) (hl : args.length = x.np) {r : Option (HV × HSt)}
    (h : retel (evHC C (evHF C K T n) n x.body (paramsH 0 args, st)) (fun s => oel (resHL (hland s (x.res.map resT)) x.res) (fun vs => some (tupHOf vs, (hland s (x.res.map resT)).2)) (fun _ => Option.none)) = r) : evHF C K T (n + 1) f args st = r := by
  rw [evHF_eq, hk, hT, oel_none, oel_some, if_pos hl]; exact h

end Go.Ab

/-
  A law's row, out of what the evaluator with handles answers.
-/
namespace Go.Ab
open Go Go.ChangeShapes Go.WideShapes Go.ChangeAt Go.RowKit
set_option linter.unusedVariables false
set_option linter.unusedSimpArgs false

section
variable {H : Type} {enc : TypeId × Value → H} {P : Program} {w : World}

theorem looseL_of {cs : List PV} (h : ∀ i (hi : i < cs.length), cs[i].free = true) : PV.loose (.agg cs) = true := by
  have h1 : noOwnL cs = true := noOwnL_of fun c hc => by obtain ⟨i, hi, rfl⟩ := List.getElem_of_mem hc; exact free_noOwn (h i hi)
  have h2 : refsL cs = [] := refsL_nil fun i hi => free_refs (h i hi)
  simp [PV.loose, noOwn, refs, h1, h2]

theorem arg_repH {n : Nat} {t : TypeId} {v : Value} {d : DataW H} {ps : List MemPlace} {base : Nat} {sp : Nat → Bool} {held : Bool} (hp : plainTy P n t = true) (hval : Value.okWide P w .any base t v) (h : DataW.Trod enc P w 0 sp held t v d ps) :
    ∃ pv, argPV P n t d = some pv ∧ (∀ hd, RepV w (allSh w) hd pv v) ∧ pv.loose = true := by
  obtain ⟨fuel, hf⟩ := h
  obtain ⟨pvs, h1, h2, h3⟩ := trod_rep _ _ _ _ _ _ hp hf
  have agg : ∀ cs, v = .agg cs → (∀ hd, RepV w (allSh w) hd (.agg pvs) v) ∧ PV.loose (.agg pvs) = true := fun cs hv => by
    subst hv
    have hl : cs.size = pvs.length := by simpa [Value.cells] using h2.symm
    refine ⟨fun hd => .agg _ _ _ hl fun i hi => ?_, looseL_of fun i hi => (h3 i hi).2⟩
    have := (h3 i hi).1.any (h3 i hi).2 (Hd.snoc hd i)
    simpa [Value.cells, Array.getD, List.getD, show i < cs.size by omega] using this
  have one : (∀ cs, v ≠ .agg cs) → ∃ x, pvs = [x] ∧ (∀ hd, RepV w (allSh w) hd x v) ∧ x.loose = true := fun hv => by
    have hc : v.cells = #[v] := by cases v <;> first | rfl | exact absurd rfl (hv _)
    rw [hc] at h2 h3
    obtain ⟨x, rfl⟩ := List.length_eq_one_iff.1 (show pvs.length = 1 by simpa using h2)
    have := h3 0 (by simp)
    exact ⟨x, rfl, fun hd => by simpa using this.1.any this.2 hd, free_loose (by simpa using this.2)⟩
  unfold argPV
  cases n with
  | zero => simp [plainTy] at hp
  | succ n =>
    simp only [plainTy] at hp
    unfold Value.okWide at hval
    cases hu : P.underlying t with
    | none => rw [hu] at hp; cases hp
    | some td =>
      rw [hu] at hp hval
      cases td with
      | struct fs =>
        obtain ⟨cs, hv, _⟩ := hval
        exact ⟨.agg pvs, by simp [h1], agg cs hv⟩
      | array m e =>
        obtain ⟨cs, hv, _⟩ := hval
        exact ⟨.agg pvs, by simp [h1], agg cs hv⟩
      | bool =>
        obtain ⟨x, rfl, hx⟩ := one (fun cs hv => by subst hv; simp [Cell.okWide, hu, Cell.ok] at hval)
        exact ⟨x, by simp [h1], hx⟩
      | int k =>
        obtain ⟨x, rfl, hx⟩ := one (fun cs hv => by subst hv; simp [Cell.okWide, hu, Cell.ok] at hval)
        exact ⟨x, by simp [h1], hx⟩
      | string =>
        obtain ⟨x, rfl, hx⟩ := one (fun cs hv => by subst hv; simp [Cell.okWide, hu, Cell.ok] at hval)
        exact ⟨x, by simp [h1], hx⟩
      | slice e =>
        obtain ⟨x, rfl, hx⟩ := one (fun cs hv => by subst hv; simp [Cell.okWide, hu, Cell.ok] at hval)
        exact ⟨x, by simp [h1], hx⟩
      | _ => cases hp

theorem args_repH {n : Nat} {base : Nat} {sp : Nat → Bool} {held : Bool} : ∀ {ts : List TypeId} {vs : List Value} {ds : List (DataW H)} {ps : List MemPlace}, ts.all (fun t => plainTy P n t) = true →
    (∀ (j : Nat) t v, ts[j]? = some t → vs[j]? = some v → Value.okWide P w .any base t v) → DataW.TrodAll enc P w 0 sp held ts vs ds ps →
    ∃ ws, argsPV P n ts ds = some ws ∧ ws.length = vs.length ∧ vs.length = ts.length ∧ ds.length = ts.length ∧ ∀ i (hi : i < ws.length) (hi' : i < vs.length), (∀ hd, RepV w (allSh w) hd ws[i] vs[i]) ∧ ws[i].loose = true
  | [], vs, ds, ps, hp, hval, h => by
    cases vs <;> cases ds <;> simp [DataW.TrodAll] at h
    exact ⟨[], rfl, rfl, rfl, rfl, fun i hi => by simp at hi⟩
  | t :: ts, vs, ds, ps, hp, hval, h => by
    obtain ⟨v, vs', d, ds', p, q, rfl, rfl, rfl, h1, h2⟩ := trodAll_cons h
    simp only [List.all_cons, Bool.and_eq_true] at hp
    obtain ⟨pv, h3, h4, h5⟩ := arg_repH hp.1 (hval 0 t v rfl rfl) h1
    obtain ⟨ws, h6, h7, h8, h9, h10⟩ := args_repH hp.2 (fun j t' v' ht hv => hval (j + 1) t' v' (by simpa using ht) (by simpa using hv)) h2
    refine ⟨pv :: ws, by simp [argsPV, h3, h6], by simp [h7], by simp [h8], by simp [h9], fun i hi hi' => ?_⟩
    cases i with
    | zero => exact ⟨h4, h5⟩
    | succ i => exact h10 i (by simpa using hi) (by simpa using hi')


theorem law_contractH {HC : HCalls} (hH : HCallOk P HC) (hl : laidOutB P = true) {f : Nat} {fn : Func} {rt : TypeId} (hr : fn.resultTypes = #[rt]) (hrt : P.underlying rt = some .bool)
    {ts : List TypeId} {N : Nat} (hps : fn.params.toList = ts) (hplain : ts.all (fun t => plainTy P N t) = true) (hread : ts.all (fun t => P.readableRec t && decide (t < P.types.size)) = true)
    {s : ChangeSpec} (hvars : s.vars = []) {args : Array Value} {ds gs : List (DataW H)} {before : List MemPlace} {base : Nat} (hs0 : ds.length = ts.length → s.fn H ds = { results := [.lit (.bool true)], args := ds })
    (hval : ∀ (j : Nat) t v, fn.params[j]? = some t → args[j]? = some v → Value.okWide P w .any base t v)
    (hW : DataW.Whole enc P fn.params.toList s.vars false w args.toList ds gs before)
    (hwt : (DataW.weightsEach P (fn.params.toList ++ s.plain.varTypes P) (ds ++ gs)).all (· ≤ reachBytes) = true)
    (law : ∀ ws, (argsPV P N ts ds = some ws ∧ ∀ x ∈ DataW.weightsEach P ts ds, x ≤ reachBytes) → ∃ st', HC f (ws.map .p) [] = some (.p (.bool true), st')) :
    Calls P f args w fun e w' => ∃ v, e = .returned v ∧ s.post enc P fn false true false false w args v w' := by
  have hW' := hW
  obtain ⟨p, q, hA, hV, rfl, hfz, hnd⟩ := hW
  rw [hps] at hA
  obtain ⟨ws, h1, h2, h3, h4, h5⟩ := args_repH hplain (fun j t v ht hv => hval j t v (by rw [← hps] at ht; simpa using ht) (by simpa using hv)) hA
  have hs := hs0 h4
  have hwt' : ∀ x ∈ DataW.weightsEach P ts ds, x ≤ reachBytes := fun x hx => by
    have := List.all_eq_true.1 hwt x (by rw [hps]; exact weightsEach_left h4 x hx)
    simpa using this
  obtain ⟨st', hev⟩ := law ws ⟨h1, hwt'⟩
  obtain ⟨_, hcall⟩ := hH f (ws.map .p) _ _ _ hev
  have hsz : args.size = (ws.map HV.p).length := by simpa using h2.symm
  have O0 : HOk w (allSh w) [] [] := by
    refine ⟨allSh_wf w, rfl, fun b j r p i h _ => ?_, fun a k h => by simp at h, fun a b o m k h => by simp at h, fun a a' b o m o' m' ks vs h => by simp at h⟩
    simp only [allSh] at h; split at h <;> cases h
  refine Calls.mono (hcall args w (allSh w) [] hsz O0 (fun b j q p i h => by simp only [allSh] at h; split at h <;> cases h) fun i hi => ?_) fun e w' he => ?_
  · have hi0 : i < ws.length := by simpa using hi
    have hi' : i < args.size := by omega
    have := h5 i hi0 (by simpa using hi')
    have h6 := this.1 Option.none
    have : RepH w (allSh w) [] (.p ws[i]) (args.getD i undef) := .p _ _ this.2 (by simpa [Array.getD, hi'] using h6)
    simpa using this
  · cases e with
    | returned v =>
      obtain ⟨L', A', O', _, HR, E0⟩ := he
      have E : Ext w (allSh w) w' L' := ⟨E0.os, E0.tape, E0.output, E0.size, E0.lab, fun b hb => by
        rcases E0.blk b hb with ⟨a, o, m, es, c, h, _⟩ | h
        · simp at h
        · exact h⟩
      have hb := below_of_ext E
      obtain ⟨_, HR⟩ := HR.pv
      cases HR
      have hq : q = [] ∧ gs = [] := by
        rw [hvars] at hV
        cases gs with
        | nil => exact ⟨by simpa [DataW.TrodVars] using hV, rfl⟩
        | cons g gs => simp [DataW.TrodVars] at hV
      obtain ⟨rfl, rfl⟩ := hq
      have hlt : ∀ x ∈ p, x.block < w.heap.size := fun x hx => hW'.lt x (by simp [hx])
      refine ⟨_, rfl, ds, [], p ++ [], [], p, [], hW', ?_, ?_, ?_, hb.frame _, fun h => by cases h⟩
      · rw [List.append_nil, hs, hr]
        exact trodAll_mk1 (shut_bool hrt true)
      · rw [List.append_nil, hs, hps]
        exact trods_stay hl hread hA (fun x hx => hb.same (hlt x hx)) (fun x hx => by simpa using hlt x hx)
      · rw [List.append_nil, hs, hvars]; rfl
    | panicked => exact he.elim
    | outgrown => exact he.elim

/-- what a function answers, with whatever fuel -/
noncomputable def evHI (C : Calls') (K : HCalls) (T : Nat → Option HF) : HCalls := fun f ws st => limO fun n => evHF C K T n f ws st
theorem evHI_some {C : Calls'} {K : HCalls} {T : Nat → Option HF} {f : Nat} {ws : List HV} {st : HSt} {r : HV × HSt} : evHI C K T f ws st = some r ↔ ∃ n, evHF C K T n f ws st = some r :=
  limO_some fun n m x hn h => evHF_mono hn _ _ _ _ h
theorem evHI_sound (hm : P.follows .mixedOrders = true) {C : Calls'} (hC : CallOk P C) {K : HCalls} (hK : HCallOk P K) {T : Nat → Option HF} (hT : TOkH P T) : HCallOk P (evHI C K T) := by
  intro f ws st r st' h
  obtain ⟨n, hn⟩ := evHI_some.1 h
  exact evHF_sound hm hC hK hT n f ws st r st' hn
end
end Go.Ab

/- printed -/
namespace Go.Ab
open Go
set_option maxRecDepth 100000
def h7 : HF := ⟨2, [.tmp 4],
 .seq (.reg [⟨some 2, .x (.box (.t 0)), .none, false, []⟩,
  ⟨some 3, .x (.box (.t 1)), .none, false, []⟩,
  ⟨some 4, .x (.asg (.k (.bool false))), .none, false, []⟩] false [2, 3])
 (.seq (.seq (.reg [⟨some 5, .x (.load true 3 (.t 2)), .none, false, []⟩,
  ⟨some 6, .x (.call 44 [.t 5] []), .none, false, []⟩,
  ⟨some 7, .x (.un .not (.t 6)), .none, false, []⟩,
  ⟨some 8, .x (.mv (.t 7)), .none, false, []⟩,
  ⟨some 9, .x (.load true 3 (.t 3)), some (8, false), false, []⟩,
  ⟨some 10, .x (.call 44 [.t 9] []), some (8, false), false, []⟩,
  ⟨some 11, .x (.un .not (.t 10)), some (8, false), false, []⟩,
  ⟨some 12, .x (.pick (.t 8) (.k (.bool true)) (.t 11)), .none, false, []⟩] false [2, 3, 12])
 (.cond (.t 12) (.seq (.reg [⟨some 13, .x (.call 33 [] []), .none, false, []⟩,
   ⟨some 4, .x (.asg (.t 13)), .none, false, []⟩] false [4])
  (.ret))
 (.skip) [2, 3]))
 (.seq (.seq (.reg [⟨some 14, .x (.load true 3 (.t 2)), .none, false, []⟩,
  ⟨some 15, .x (.call 45 [.t 14] []), .none, true, []⟩,
  ⟨some 16, .x (.load true 3 (.t 2)), .none, false, [1]⟩,
  ⟨some 17, .x (.call 46 [.t 16] []), .none, true, []⟩,
  ⟨some 18, .x (.bin .neq (.t 15) (.t 17)), .none, false, []⟩,
  ⟨some 19, .x (.mv (.t 18)), .none, false, []⟩,
  ⟨some 20, .x (.load true 3 (.t 2)), some (19, false), false, []⟩,
  ⟨some 21, .x (.load true 3 (.t 3)), some (19, false), false, []⟩,
  ⟨some 22, .x (.call 47 [.t 20, .t 21] []), some (19, false), true, []⟩,
  ⟨some 23, .x (.load true 3 (.t 2)), some (19, false), false, [8]⟩,
  ⟨some 24, .x (.load true 3 (.t 3)), some (19, false), false, [8]⟩,
  ⟨some 25, .x (.call 40 [.t 23, .t 24] []), some (19, false), true, []⟩,
  ⟨some 26, .x (.beq true (.t 22) (.t 25)), some (19, false), false, []⟩,
  ⟨some 27, .x (.pick (.t 19) (.k (.bool true)) (.t 26)), .none, false, []⟩] true [2, 27])
 (.cond (.t 27) (.seq (.reg [⟨some 4, .x (.asg (.k (.bool false))), .none, false, []⟩] false [4])
  (.ret))
 (.skip) [2]))
 (.seq (.reg [⟨some 28, .x (.load true 3 (.t 2)), .none, false, []⟩,
  ⟨some 29, .x (.call 46 [.t 28] []), .none, true, []⟩,
  ⟨some 30, .x (.bin .neq (.t 29) (.k (.int .i64 0))), .none, false, []⟩,
  ⟨some 31, .x (.mv (.t 30)), .none, false, []⟩,
  ⟨some 32, .x (.load true 3 (.t 2)), some (31, false), false, []⟩,
  ⟨some 33, .x (.call 48 [.t 32] []), some (31, false), true, []⟩,
  ⟨some 34, .x (.load true 3 (.t 2)), some (31, false), false, [5]⟩,
  ⟨some 35, .x (.call 49 [.t 34] []), some (31, false), true, []⟩,
  ⟨some 36, .x (.bin .eql (.t 33) (.t 35)), some (31, false), false, []⟩,
  ⟨some 37, .x (.pick (.t 31) (.k (.bool true)) (.t 36)), .none, false, []⟩,
  ⟨some 38, .x (.mv (.t 37)), .none, false, []⟩,
  ⟨some 39, .x (.call 33 [] []), some (38, true), true, []⟩,
  ⟨some 40, .x (.pick (.t 38) (.t 39) (.k (.bool false))), .none, false, []⟩,
  ⟨some 4, .x (.asg (.t 40)), .none, false, []⟩] true [4])
 (.ret))))⟩
def h23 : HF := ⟨2, [.tmp 4],
 .seq (.reg [⟨some 2, .x (.box (.t 0)), .none, false, []⟩,
  ⟨some 4, .x (.asg (.k (.bool false))), .none, false, []⟩] false [1, 2])
 (.seq (.seq (.reg [⟨some 5, .x (.mv (.t 1)), .none, false, []⟩,
  ⟨some 6, .x (.bin .lss (.t 5) (.k (.int .i64 0))), .none, false, []⟩,
  ⟨some 7, .x (.mv (.t 6)), .none, false, []⟩,
  ⟨some 8, .x (.mv (.t 1)), some (7, false), false, []⟩,
  ⟨some 9, .x (.fadr 0 (.t 2)), some (7, false), false, []⟩,
  ⟨some 10, .x (.load false 1 (.t 9)), some (7, false), false, []⟩,
  ⟨some 11, .x (.bin .geq (.t 8) (.t 10)), some (7, false), false, []⟩,
  ⟨some 12, .x (.pick (.t 7) (.k (.bool true)) (.t 11)), .none, false, []⟩] false [1, 2, 12])
 (.cond (.t 12) (.seq (.reg [⟨some 4, .x (.asg (.k (.bool false))), .none, false, []⟩] false [4])
  (.ret))
 (.skip) [1, 2]))
 (.seq (.reg [⟨some 13, .x (.fadr 1 (.t 2)), .none, false, []⟩,
  ⟨some 14, .x (.load false 1 (.t 13)), .none, false, [3]⟩,
  ⟨some 15, .x (.mv (.t 1)), .none, false, []⟩,
  ⟨some 16, .x (.call 75 [.t 15] []), .none, true, []⟩,
  ⟨some 17, .x (.bin .quo (.t 14) (.t 16)), .none, false, []⟩,
  ⟨some 18, .x (.bin .rem (.t 17) (.k (.int .i64 2))), .none, false, []⟩,
  ⟨some 19, .x (.bin .eql (.t 18) (.k (.int .i64 1))), .none, false, []⟩,
  ⟨some 4, .x (.asg (.t 19)), .none, false, []⟩] true [4])
 (.ret)))⟩
def h29 : HF := ⟨2, [.tmp 4],
 .seq (.reg [⟨some 4, .x (.asg (.k (.bool false))), .none, false, []⟩] false [0, 1])
 (.seq (.seq (.reg [⟨some 6, .x (.mv (.t 0)), .none, false, []⟩,
  ⟨some 7, .x (.len false (.t 6)), .none, false, []⟩,
  ⟨some 8, .x (.mv (.t 1)), .none, false, []⟩,
  ⟨some 9, .x (.len false (.t 8)), .none, false, []⟩,
  ⟨some 10, .x (.bin .neq (.t 7) (.t 9)), .none, false, []⟩] false [0, 1, 10])
 (.cond (.t 10) (.seq (.reg [⟨some 4, .x (.asg (.k (.bool false))), .none, false, []⟩] false [4])
  (.ret))
 (.skip) [0, 1]))
 (.seq (.seq (.reg [⟨some 5, .x (.asg (.k (.int .i64 0))), .none, false, []⟩] false [0, 1, 5])
 (.block 0 (.loop (.seq (.seq (.reg [⟨some 11, .x (.mv (.t 5)), .none, false, []⟩,
    ⟨some 12, .x (.mv (.t 0)), .none, false, []⟩,
    ⟨some 13, .x (.len false (.t 12)), .none, false, []⟩,
    ⟨some 14, .x (.bin .lss (.t 11) (.t 13)), .none, false, []⟩] false [0, 1, 5, 14])
   (.cond (.t 14) (.skip)
   (.exit 0 []) [0, 1, 5]))
   (.seq (.block 1 (.seq (.reg [⟨some 17, .x (.mv (.t 0)), .none, false, []⟩,
     ⟨some 18, .x (.mv (.t 5)), .none, false, []⟩,
     ⟨some 19, .x (.iadr 1 .none (.t 17) (.t 18)), .none, false, []⟩,
     ⟨some 20, .x (.load false 1 (.t 19)), .none, false, []⟩,
     ⟨some 21, .x (.mv (.t 1)), .none, false, []⟩,
     ⟨some 22, .x (.mv (.t 5)), .none, false, []⟩,
     ⟨some 23, .x (.iadr 1 .none (.t 21) (.t 22)), .none, false, []⟩,
     ⟨some 24, .x (.load false 1 (.t 23)), .none, false, []⟩,
     ⟨some 25, .x (.bin .neq (.t 20) (.t 24)), .none, false, []⟩] true [0, 1, 5, 25])
    (.cond (.t 25) (.seq (.reg [⟨some 4, .x (.asg (.k (.bool false))), .none, false, []⟩] false [4])
     (.ret))
    (.skip) [0, 1, 5])) [0, 1, 5])
   (.reg [⟨some 15, .x (.mv (.t 5)), .none, false, []⟩,
    ⟨some 16, .x (.bin .add (.t 15) (.k (.int .i64 1))), .none, false, []⟩,
    ⟨some 5, .x (.asg (.t 16)), .none, false, []⟩] false [0, 1, 5]))) [0, 1, 5]) []))
 (.seq (.reg [⟨some 4, .x (.asg (.k (.bool true))), .none, false, []⟩] false [4])
 (.ret))))⟩
def h32 : HF := ⟨2, [.tmp 4],
 .seq (.reg [⟨some 4, .x (.asg (.k (.bool false))), .none, false, []⟩] false [0, 1])
 (.seq (.reg [⟨some 5, .x (.mv (.t 0)), .none, false, []⟩,
  ⟨some 6, .x (.len false (.t 5)), .none, false, []⟩,
  ⟨some 7, .x (.mv (.t 1)), .none, false, []⟩,
  ⟨some 8, .x (.len false (.t 7)), .none, false, []⟩,
  ⟨some 9, .x (.bin .eql (.t 6) (.t 8)), .none, false, []⟩,
  ⟨some 10, .x (.mv (.t 9)), .none, false, []⟩,
  ⟨some 11, .x (.mv (.t 0)), some (10, true), false, []⟩,
  ⟨some 12, .x (.mv (.t 1)), some (10, true), false, []⟩,
  ⟨some 13, .x (.call 86 [.t 11, .t 12] []), some (10, true), false, []⟩,
  ⟨some 14, .x (.pick (.t 10) (.t 13) (.k (.bool false))), .none, false, []⟩,
  ⟨some 4, .x (.asg (.t 14)), .none, false, []⟩] false [4])
 (.ret))⟩
def h33 : HF := ⟨0, [.tmp 0],
 .seq (.reg [⟨some 0, .x (.asg (.k (.bool false))), .none, false, []⟩] false [])
 (.seq (.reg [⟨some 5, .x (.bsl 1 3 [.int .i64 0] [(0, 1, .k (.int .i64 1)), (1, 1, .k (.int .i64 0)), (2, 1, .k (.int .i64 2))]), .none, false, []⟩,
  ⟨some 6, .x (.build [.int .i64 0, .int .i64 0] [(0, 1, .k (.int .i64 2)), (1, 1, .k (.int .i64 2))]), .none, false, []⟩,
  ⟨some 7, .x (.build [.int .i64 0, .int .i64 0] [(0, 1, .k (.int .i64 1)), (1, 1, .k (.int .i64 1))]), .none, false, []⟩,
  ⟨some 8, .x (.bsl 2 2 [.int .i64 0, .int .i64 0] [(0, 2, .t 6), (2, 2, .t 7)]), .none, false, []⟩,
  ⟨some 9, .x (.bsl 1 2 [.int .i64 0] [(0, 1, .k (.int .i64 7)), (1, 1, .k (.int .i64 2))]), .none, false, []⟩,
  ⟨some 10, .x (.bsl 1 1 [.int .i64 0] [(0, 1, .k (.int .i64 1))]), .none, false, []⟩,
  ⟨some 11, .x (.bsl 1 2 [.nils] [(0, 1, .t 9), (1, 1, .t 10)]), .none, false, []⟩,
  ⟨some 12, .x (.build [.nils, .nils, .nils] [(0, 1, .t 5), (1, 1, .t 8), (2, 1, .t 11)]), .none, false, []⟩,
  ⟨some 1, .x (.alloc [.nils, .nils, .nils]), .none, false, []⟩,
  ⟨.none, .x (.store 3 (.t 1) (.t 12)), .none, false, []⟩] false [1])
 (.seq (.reg [⟨some 14, .x (.load true 3 (.t 1)), .none, false, []⟩,
  ⟨some 15, .x (.call 54 [.t 14] []), .none, false, []⟩,
  ⟨some 13, .x (.mv (.t 15)), .none, false, []⟩,
  ⟨some 16, .x (.ext (.t 13) 0), .none, false, []⟩,
  ⟨some 17, .x (.ext (.t 13) 1), .none, false, []⟩,
  ⟨some 2, .x (.asg (.t 16)), .none, false, []⟩,
  ⟨some 3, .x (.asg (.t 17)), .none, false, []⟩] false [1, 2, 3])
 (.seq (.seq (.reg [⟨some 18, .x (.mv (.t 2)), .none, false, []⟩,
  ⟨some 19, .x (.peq false (.t 18) (.k (.nilp))), .none, false, []⟩] false [1, 2, 3, 19])
 (.cond (.t 19) (.seq (.reg [⟨some 0, .x (.asg (.k (.bool false))), .none, false, []⟩] false [0])
  (.ret))
 (.skip) [1, 2, 3]))
 (.seq (.reg [⟨some 20, .x (.load true 3 (.t 1)), .none, false, []⟩,
  ⟨some 4, .x (.alloc [.nils, .nils, .nils]), .none, false, []⟩,
  ⟨.none, .x (.store 3 (.t 4) (.t 20)), .none, false, []⟩] false [1, 2, 3, 4])
 (.seq (.reg [⟨some 21, .x (.bsl 1 3 [.int .i64 0] [(0, 1, .k (.int .i64 1)), (1, 1, .k (.int .i64 0)), (2, 1, .k (.int .i64 3))]), .none, false, []⟩,
  ⟨some 22, .x (.fadr 0 (.t 4)), .none, false, []⟩,
  ⟨.none, .x (.store 1 (.t 22) (.t 21)), .none, false, []⟩] false [1, 2, 3, 4])
 (.seq (.reg [⟨some 23, .x (.load true 3 (.t 1)), .none, false, []⟩,
  ⟨some 24, .x (.call 45 [.t 23] []), .none, true, []⟩,
  ⟨some 25, .x (.bin .eql (.t 24) (.k (.int .i64 0))), .none, false, []⟩,
  ⟨some 26, .x (.mv (.t 25)), .none, false, []⟩,
  ⟨some 27, .x (.load true 3 (.t 4)), some (26, true), false, []⟩,
  ⟨some 28, .x (.call 45 [.t 27] []), some (26, true), true, []⟩,
  ⟨some 29, .x (.bin .eql (.t 28) (.k (.int .i64 19))), some (26, true), false, []⟩,
  ⟨some 30, .x (.pick (.t 26) (.t 29) (.k (.bool false))), .none, false, []⟩,
  ⟨some 31, .x (.mv (.t 30)), .none, false, []⟩,
  ⟨some 32, .x (.load true 3 (.t 1)), some (31, true), false, []⟩,
  ⟨some 33, .x (.load true 3 (.t 1)), some (31, true), false, []⟩,
  ⟨some 34, .x (.call 47 [.t 32, .t 33] []), some (31, true), true, []⟩,
  ⟨some 35, .x (.pick (.t 31) (.t 34) (.k (.bool false))), .none, false, []⟩,
  ⟨some 36, .x (.mv (.t 35)), .none, false, []⟩,
  ⟨some 37, .x (.load true 3 (.t 1)), some (36, true), false, []⟩,
  ⟨some 38, .x (.load true 3 (.t 4)), some (36, true), false, []⟩,
  ⟨some 39, .x (.call 47 [.t 37, .t 38] []), some (36, true), true, []⟩,
  ⟨some 40, .x (.un .not (.t 39)), some (36, true), false, []⟩,
  ⟨some 41, .x (.pick (.t 36) (.t 40) (.k (.bool false))), .none, false, []⟩,
  ⟨some 42, .x (.mv (.t 41)), .none, false, []⟩,
  ⟨some 43, .x (.load true 3 (.t 1)), some (42, true), false, []⟩,
  ⟨some 44, .x (.call 48 [.t 43] []), some (42, true), true, []⟩,
  ⟨some 45, .x (.bin .eql (.t 44) (.k (.int .i64 5))), some (42, true), false, []⟩,
  ⟨some 46, .x (.pick (.t 42) (.t 45) (.k (.bool false))), .none, false, []⟩,
  ⟨some 47, .x (.mv (.t 46)), .none, false, []⟩,
  ⟨some 48, .x (.mv (.t 3)), some (47, true), false, []⟩,
  ⟨some 49, .x (.bsl 1 3 [.int .i64 0] [(0, 1, .k (.int .i64 1)), (1, 1, .k (.int .i64 0)), (2, 1, .k (.int .i64 2))]), some (47, true), false, []⟩,
  ⟨some 50, .x (.call 32 [.t 48, .t 49] []), some (47, true), true, []⟩,
  ⟨some 51, .x (.pick (.t 47) (.t 50) (.k (.bool false))), .none, false, []⟩,
  ⟨some 52, .x (.mv (.t 51)), .none, false, []⟩,
  ⟨some 53, .x (.mv (.t 2)), some (52, true), false, []⟩,
  ⟨some 54, .x (.mv (.t 3)), some (52, true), false, []⟩,
  ⟨some 55, .x (.call 41 [.t 53, .t 54] []), some (52, true), true, []⟩,
  ⟨some 56, .x (.load true 3 (.t 1)), some (52, true), false, [32]⟩,
  ⟨some 57, .x (.call 47 [.t 55, .t 56] []), some (52, true), true, []⟩,
  ⟨some 58, .x (.pick (.t 52) (.t 57) (.k (.bool false))), .none, false, []⟩,
  ⟨some 0, .x (.asg (.t 58)), .none, false, []⟩] true [0])
 (.ret)))))))⟩
def h34 : HF := ⟨0, [.tmp 0],
 .seq (.reg [⟨some 0, .x (.asg (.k (.nilp))), .none, false, []⟩] false [])
 (.seq (.reg [⟨some 1, .x (.build [.nils, .int .i64 0] []), .none, false, []⟩,
  ⟨some 2, .x (.box (.t 1)), .none, false, []⟩,
  ⟨some 0, .x (.asg (.t 2)), .none, false, []⟩] false [0])
 (.ret))⟩
def h36 : HF := ⟨2, [.tmp 4],
 .seq (.reg [⟨some 3, .x (.box (.t 1)), .none, false, []⟩,
  ⟨some 4, .x (.asg (.k (.int .i64 0))), .none, false, []⟩] false [0, 3])
 (.seq (.reg [⟨some 5, .x (.mv (.t 0)), .none, false, []⟩,
  ⟨some 6, .x (.mv (.t 0)), .none, false, []⟩,
  ⟨some 7, .x (.nilck (.t 6)), .none, false, []⟩,
  ⟨some 8, .x (.fadr 0 (.t 7)), .none, false, []⟩,
  ⟨some 9, .x (.load false 1 (.t 8)), .none, false, [9]⟩,
  ⟨some 10, .x (.load true 2 (.t 3)), .none, false, []⟩,
  ⟨some 11, .x (.fadr 0 (.t 3)), .none, false, []⟩,
  ⟨some 12, .x (.load false 1 (.t 11)), .none, false, []⟩,
  ⟨some 13, .x (.mksl 1 8 [.int .i64 0] (.t 12) (.t 12)), .none, false, []⟩,
  ⟨some 14, .x (.build [.int .i64 0, .int .i64 0, .nils] [(0, 2, .t 10), (2, 1, .t 13)]), .none, true, []⟩,
  ⟨some 15, .x (.bsl 3 1 [.int .i64 0, .int .i64 0, .nils] [(0, 3, .t 14)]), .none, false, []⟩,
  ⟨some 16, .x (.app 3 40 (.t 9) (.t 15)), .none, true, []⟩,
  ⟨some 17, .x (.nilck (.t 5)), .none, false, []⟩,
  ⟨some 18, .x (.fadr 0 (.t 17)), .none, false, []⟩,
  ⟨.none, .x (.store 1 (.t 18) (.t 16)), .none, true, []⟩] true [0, 3])
 (.seq (.reg [⟨some 19, .x (.mv (.t 0)), .none, false, []⟩,
  ⟨some 20, .x (.nilck (.t 19)), .none, false, []⟩,
  ⟨some 21, .x (.fadr 1 (.t 20)), .none, false, []⟩,
  ⟨some 22, .x (.load false 1 (.t 21)), .none, false, []⟩,
  ⟨some 23, .x (.fadr 0 (.t 3)), .none, false, []⟩,
  ⟨some 24, .x (.load false 1 (.t 23)), .none, false, []⟩,
  ⟨some 25, .x (.bin .add (.k (.int .i64 1)) (.t 24)), .none, false, []⟩,
  ⟨some 26, .x (.bin .add (.t 22) (.t 25)), .none, false, []⟩,
  ⟨some 27, .x (.nilck (.t 19)), .none, false, []⟩,
  ⟨some 28, .x (.fadr 1 (.t 27)), .none, false, []⟩,
  ⟨.none, .x (.store 1 (.t 28) (.t 26)), .none, true, []⟩] true [0])
 (.seq (.reg [⟨some 29, .x (.mv (.t 0)), .none, false, []⟩,
  ⟨some 30, .x (.nilck (.t 29)), .none, false, []⟩,
  ⟨some 31, .x (.fadr 0 (.t 30)), .none, false, []⟩,
  ⟨some 32, .x (.load false 1 (.t 31)), .none, false, []⟩,
  ⟨some 33, .x (.len false (.t 32)), .none, false, []⟩,
  ⟨some 4, .x (.asg (.t 33)), .none, false, []⟩] false [4])
 (.ret))))⟩
def h38 : HF := ⟨5, [.tmp 10],
 .seq (.reg [⟨some 10, .x (.asg (.k (.int .i64 0))), .none, false, []⟩] false [0, 1, 2, 3, 4])
 (.seq (.reg [⟨some 14, .x (.mv (.t 0)), .none, false, []⟩,
  ⟨some 15, .x (.mv (.t 1)), .none, false, []⟩,
  ⟨some 16, .x (.mv (.t 2)), .none, false, []⟩,
  ⟨some 17, .x (.mv (.t 3)), .none, false, []⟩,
  ⟨some 18, .x (.call 87 [.t 14, .t 15, .t 16, .t 17] []), .none, false, []⟩,
  ⟨some 13, .x (.mv (.t 18)), .none, false, []⟩,
  ⟨some 19, .x (.ext (.t 13) 0), .none, false, []⟩,
  ⟨some 20, .x (.ext (.t 13) 1), .none, false, []⟩,
  ⟨some 11, .x (.asg (.t 19)), .none, false, []⟩,
  ⟨some 12, .x (.asg (.t 20)), .none, false, []⟩] false [4, 11, 12])
 (.seq (.seq (.reg [⟨some 21, .x (.mv (.t 12)), .none, false, []⟩,
  ⟨some 22, .x (.bin .neq (.t 21) (.k (.int .i64 0))), .none, false, []⟩] false [4, 11, 12, 22])
 (.cond (.t 22) (.seq (.reg [⟨some 23, .x (.mv (.t 12)), .none, false, []⟩,
   ⟨some 10, .x (.asg (.t 23)), .none, false, []⟩] false [10])
  (.ret))
 (.skip) [4, 11]))
 (.seq (.reg [⟨some 24, .x (.mv (.t 11)), .none, false, []⟩,
  ⟨some 25, .x (.mv (.t 4)), .none, false, []⟩,
  ⟨some 26, .x (.nilck (.t 24)), .none, false, []⟩,
  ⟨.none, .x (.store 1 (.t 26) (.t 25)), .none, false, []⟩] false [])
 (.seq (.reg [⟨some 10, .x (.asg (.k (.int .i64 0))), .none, false, []⟩] false [10])
 (.ret)))))⟩
def h40 : HF := ⟨2, [.tmp 4],
 .seq (.reg [⟨some 2, .x (.box (.t 0)), .none, false, []⟩,
  ⟨some 3, .x (.box (.t 1)), .none, false, []⟩,
  ⟨some 4, .x (.asg (.k (.bool false))), .none, false, []⟩] false [2, 3])
 (.seq (.seq (.reg [⟨some 7, .x (.fadr 0 (.t 2)), .none, false, []⟩,
  ⟨some 8, .x (.load false 1 (.t 7)), .none, false, []⟩,
  ⟨some 9, .x (.fadr 0 (.t 3)), .none, false, []⟩,
  ⟨some 10, .x (.load false 1 (.t 9)), .none, false, []⟩,
  ⟨some 11, .x (.call 29 [.t 8, .t 10] []), .none, false, []⟩,
  ⟨some 12, .x (.un .not (.t 11)), .none, false, []⟩,
  ⟨some 13, .x (.mv (.t 12)), .none, false, []⟩,
  ⟨some 14, .x (.fadr 1 (.t 2)), some (13, false), false, []⟩,
  ⟨some 15, .x (.load false 1 (.t 14)), some (13, false), false, []⟩,
  ⟨some 16, .x (.len false (.t 15)), some (13, false), false, []⟩,
  ⟨some 17, .x (.fadr 1 (.t 3)), some (13, false), false, []⟩,
  ⟨some 18, .x (.load false 1 (.t 17)), some (13, false), false, []⟩,
  ⟨some 19, .x (.len false (.t 18)), some (13, false), false, []⟩,
  ⟨some 20, .x (.bin .neq (.t 16) (.t 19)), some (13, false), false, []⟩,
  ⟨some 21, .x (.pick (.t 13) (.k (.bool true)) (.t 20)), .none, false, []⟩,
  ⟨some 22, .x (.mv (.t 21)), .none, false, []⟩,
  ⟨some 23, .x (.fadr 2 (.t 2)), some (22, false), false, []⟩,
  ⟨some 24, .x (.load false 1 (.t 23)), some (22, false), false, []⟩,
  ⟨some 25, .x (.len false (.t 24)), some (22, false), false, []⟩,
  ⟨some 26, .x (.fadr 2 (.t 3)), some (22, false), false, []⟩,
  ⟨some 27, .x (.load false 1 (.t 26)), some (22, false), false, []⟩,
  ⟨some 28, .x (.len false (.t 27)), some (22, false), false, []⟩,
  ⟨some 29, .x (.bin .neq (.t 25) (.t 28)), some (22, false), false, []⟩,
  ⟨some 30, .x (.pick (.t 22) (.k (.bool true)) (.t 29)), .none, false, []⟩] false [2, 3, 30])
 (.cond (.t 30) (.seq (.reg [⟨some 4, .x (.asg (.k (.bool false))), .none, false, []⟩] false [4])
  (.ret))
 (.skip) [2, 3]))
 (.seq (.seq (.reg [⟨some 5, .x (.asg (.k (.int .i64 0))), .none, false, []⟩] false [2, 3, 5])
 (.block 0 (.loop (.seq (.seq (.reg [⟨some 31, .x (.mv (.t 5)), .none, false, []⟩,
    ⟨some 32, .x (.fadr 1 (.t 2)), .none, false, []⟩,
    ⟨some 33, .x (.load false 1 (.t 32)), .none, false, []⟩,
    ⟨some 34, .x (.len false (.t 33)), .none, false, []⟩,
    ⟨some 35, .x (.bin .lss (.t 31) (.t 34)), .none, false, []⟩] false [2, 3, 5, 35])
   (.cond (.t 35) (.skip)
   (.exit 0 [2, 3]) [2, 3, 5]))
   (.seq (.block 1 (.seq (.reg [⟨some 38, .x (.fadr 1 (.t 2)), .none, false, []⟩,
     ⟨some 39, .x (.load false 1 (.t 38)), .none, false, []⟩,
     ⟨some 40, .x (.mv (.t 5)), .none, false, []⟩,
     ⟨some 41, .x (.iadr 2 .none (.t 39) (.t 40)), .none, false, []⟩,
     ⟨some 42, .x (.load true 2 (.t 41)), .none, false, []⟩,
     ⟨some 43, .x (.fadr 1 (.t 3)), .none, false, []⟩,
     ⟨some 44, .x (.load false 1 (.t 43)), .none, false, []⟩,
     ⟨some 45, .x (.mv (.t 5)), .none, false, []⟩,
     ⟨some 46, .x (.iadr 2 .none (.t 44) (.t 45)), .none, false, []⟩,
     ⟨some 47, .x (.load true 2 (.t 46)), .none, false, []⟩,
     ⟨some 48, .x (.aeq true [.int .i64 0, .int .i64 0] (.t 42) (.t 47)), .none, false, []⟩] true [2, 3, 5, 48])
    (.cond (.t 48) (.seq (.reg [⟨some 4, .x (.asg (.k (.bool false))), .none, false, []⟩] false [4])
     (.ret))
    (.skip) [2, 3, 5])) [2, 3, 5])
   (.reg [⟨some 36, .x (.mv (.t 5)), .none, false, []⟩,
    ⟨some 37, .x (.bin .add (.t 36) (.k (.int .i64 1))), .none, false, []⟩,
    ⟨some 5, .x (.asg (.t 37)), .none, false, []⟩] false [2, 3, 5]))) [2, 3, 5]) [2, 3]))
 (.seq (.seq (.reg [⟨some 6, .x (.asg (.k (.int .i64 0))), .none, false, []⟩] false [2, 3, 6])
 (.block 2 (.loop (.seq (.seq (.reg [⟨some 49, .x (.mv (.t 6)), .none, false, []⟩,
    ⟨some 50, .x (.fadr 2 (.t 2)), .none, false, []⟩,
    ⟨some 51, .x (.load false 1 (.t 50)), .none, false, []⟩,
    ⟨some 52, .x (.len false (.t 51)), .none, false, []⟩,
    ⟨some 53, .x (.bin .lss (.t 49) (.t 52)), .none, false, []⟩] false [2, 3, 6, 53])
   (.cond (.t 53) (.skip)
   (.exit 2 []) [2, 3, 6]))
   (.seq (.block 3 (.seq (.reg [⟨some 56, .x (.fadr 2 (.t 2)), .none, false, []⟩,
     ⟨some 57, .x (.load false 1 (.t 56)), .none, false, []⟩,
     ⟨some 58, .x (.mv (.t 6)), .none, false, []⟩,
     ⟨some 59, .x (.iadr 1 .none (.t 57) (.t 58)), .none, false, []⟩,
     ⟨some 60, .x (.load false 1 (.t 59)), .none, false, []⟩,
     ⟨some 61, .x (.fadr 2 (.t 3)), .none, false, []⟩,
     ⟨some 62, .x (.load false 1 (.t 61)), .none, false, []⟩,
     ⟨some 63, .x (.mv (.t 6)), .none, false, []⟩,
     ⟨some 64, .x (.iadr 1 .none (.t 62) (.t 63)), .none, false, []⟩,
     ⟨some 65, .x (.load false 1 (.t 64)), .none, false, []⟩,
     ⟨some 66, .x (.call 32 [.t 60, .t 65] []), .none, true, []⟩,
     ⟨some 67, .x (.un .not (.t 66)), .none, false, []⟩] true [2, 3, 6, 67])
    (.cond (.t 67) (.seq (.reg [⟨some 4, .x (.asg (.k (.bool false))), .none, false, []⟩] false [4])
     (.ret))
    (.skip) [2, 3, 6])) [2, 3, 6])
   (.reg [⟨some 54, .x (.mv (.t 6)), .none, false, []⟩,
    ⟨some 55, .x (.bin .add (.t 54) (.k (.int .i64 1))), .none, false, []⟩,
    ⟨some 6, .x (.asg (.t 55)), .none, false, []⟩] false [2, 3, 6]))) [2, 3, 6]) []))
 (.seq (.reg [⟨some 4, .x (.asg (.k (.bool true))), .none, false, []⟩] false [4])
 (.ret)))))⟩
def h41 : HF := ⟨2, [.cell 4 true 3],
 .seq (.reg [⟨some 4, .x (.alloc [.nils, .nils, .nils]), .none, false, []⟩] false [0, 1, 4])
 (.seq (.reg [⟨some 5, .x (.mv (.t 0)), .none, false, []⟩,
  ⟨some 6, .bm 90 [.t 5], .none, false, []⟩,
  ⟨some 7, .x (.mv (.t 0)), .none, false, []⟩,
  ⟨some 8, .bm 91 [.t 7], .none, false, []⟩,
  ⟨some 9, .x (.build [.nilf, .nilf] [(0, 1, .t 6), (1, 1, .t 8)]), .none, false, []⟩,
  ⟨some 10, .x (.mv (.t 1)), .none, false, []⟩,
  ⟨some 11, .x (.call 89 [.t 9, .t 10] []), .none, false, []⟩,
  ⟨.none, .x (.store 3 (.t 4) (.t 11)), .none, false, []⟩] false [4])
 (.ret))⟩
def h44 : HF := ⟨1, [.tmp 2],
 .seq (.reg [⟨some 1, .x (.box (.t 0)), .none, false, []⟩,
  ⟨some 2, .x (.asg (.k (.bool false))), .none, false, []⟩] false [1])
 (.seq (.reg [⟨some 3, .x (.load true 3 (.t 1)), .none, false, []⟩,
  ⟨some 4, .x (.call 95 [.t 3, .k (.int .i64 300)] []), .none, false, []⟩,
  ⟨some 5, .x (.bin .leq (.t 4) (.k (.int .i64 300))), .none, false, []⟩,
  ⟨some 2, .x (.asg (.t 5)), .none, false, []⟩] false [2])
 (.ret))⟩
def h45l0 : HC :=
 .seq (.reg [⟨some 24, .x (.bin .lss (.t 23) (.t 22)), .none, false, []⟩] false [1, 3, 4, 21, 22, 23, 24])
 (.seq (.cond (.t 24) (.skip)
 (.exit 0 [1, 3, 4]) [1, 3, 4, 21, 22, 23])
 (.seq (.block 1 (.seq (.reg [⟨some 25, .x (.iadr 1 .none (.t 21) (.t 23)), .none, false, []⟩,
   ⟨some 26, .x (.load false 1 (.t 25)), .none, false, []⟩,
   ⟨some 6, .x (.asg (.t 26)), .none, false, []⟩] false [1, 3, 4, 6, 21, 22, 23])
  (.seq (.reg [⟨some 27, .x (.mv (.t 4)), .none, false, []⟩,
   ⟨some 28, .x (.mv (.t 6)), .none, false, []⟩,
   ⟨some 29, .x (.callv (.t 27) [.t 28]), .none, false, []⟩,
   ⟨some 30, .x (.un .not (.t 29)), .none, false, []⟩] false [1, 3, 4, 21, 22, 23, 30])
  (.cond (.t 30) (.seq (.reg [⟨some 2, .x (.asg (.k (.int .i64 19))), .none, false, []⟩] false [2])
   (.ret))
  (.skip) [1, 3, 4, 21, 22, 23]))) [1, 3, 4, 21, 22, 23])
 (.reg [⟨some 31, .x (.bin .add (.t 23) (.k (.int .i64 1))), .none, false, []⟩,
  ⟨some 23, .x (.mv (.t 31)), .none, false, []⟩] false [1, 3, 4, 21, 22, 23])))
def h45l1 : HC :=
 .seq (.reg [⟨some 65, .x (.bin .lss (.t 64) (.t 63)), .none, false, []⟩] false [1, 3, 4, 8, 33, 34, 35, 62, 63, 64, 65])
 (.seq (.cond (.t 65) (.skip)
 (.exit 4 [1, 3, 4, 33, 34, 35]) [1, 3, 4, 8, 33, 34, 35, 62, 63, 64])
 (.seq (.block 5 (.seq (.reg [⟨some 66, .x (.mv (.t 64)), .none, false, []⟩,
   ⟨some 67, .x (.iadr 1 .none (.t 62) (.t 64)), .none, false, []⟩,
   ⟨some 68, .x (.load false 1 (.t 67)), .none, false, []⟩,
   ⟨some 10, .x (.asg (.t 66)), .none, false, []⟩,
   ⟨some 11, .x (.asg (.t 68)), .none, false, []⟩] false [1, 3, 4, 8, 10, 11, 33, 34, 35, 62, 63, 64])
  (.seq (.reg [⟨some 69, .x (.load true 2 (.t 8)), .none, false, []⟩,
   ⟨some 70, .x (.mv (.t 10)), .none, false, []⟩,
   ⟨some 71, .x (.call 98 [.t 69, .t 70] []), .none, false, []⟩,
   ⟨some 72, .x (.mv (.t 71)), .none, false, []⟩,
   ⟨some 73, .x (.mv (.t 4)), some (72, true), false, []⟩,
   ⟨some 74, .x (.mv (.t 11)), some (72, true), false, []⟩,
   ⟨some 75, .x (.callv (.t 73) [.t 74]), some (72, true), false, []⟩,
   ⟨some 76, .x (.un .not (.t 75)), some (72, true), false, []⟩,
   ⟨some 77, .x (.pick (.t 72) (.t 76) (.k (.bool false))), .none, false, []⟩] false [1, 3, 4, 8, 33, 34, 35, 62, 63, 64, 77])
  (.cond (.t 77) (.seq (.reg [⟨some 2, .x (.asg (.k (.int .i64 19))), .none, false, []⟩] false [2])
   (.ret))
  (.skip) [1, 3, 4, 8, 33, 34, 35, 62, 63, 64]))) [1, 3, 4, 8, 33, 34, 35, 62, 63, 64])
 (.reg [⟨some 78, .x (.bin .add (.t 64) (.k (.int .i64 1))), .none, false, []⟩,
  ⟨some 64, .x (.mv (.t 78)), .none, false, []⟩] false [1, 3, 4, 8, 33, 34, 35, 62, 63, 64])))
def h45l2 : HC :=
 .seq (.reg [⟨some 36, .x (.bin .lss (.t 35) (.t 34)), .none, false, []⟩] false [1, 3, 4, 33, 34, 35, 36])
 (.seq (.cond (.t 36) (.skip)
 (.exit 2 [1, 3]) [1, 3, 4, 33, 34, 35])
 (.seq (.block 3 (.seq (.reg [⟨some 37, .x (.mv (.t 35)), .none, false, []⟩,
   ⟨some 38, .x (.iadr 2 .none (.t 33) (.t 35)), .none, false, []⟩,
   ⟨some 39, .x (.load true 2 (.t 38)), .none, false, []⟩,
   ⟨some 8, .x (.alloc [.int .i64 0, .int .i64 0]), .none, false, []⟩,
   ⟨some 7, .x (.asg (.t 37)), .none, false, []⟩,
   ⟨.none, .x (.store 2 (.t 8) (.t 39)), .none, false, []⟩] false [1, 3, 4, 7, 8, 33, 34, 35])
  (.seq (.seq (.reg [⟨some 40, .x (.load true 2 (.t 8)), .none, false, []⟩,
   ⟨some 41, .x (.call 97 [.t 40] []), .none, false, []⟩,
   ⟨some 9, .x (.asg (.t 41)), .none, false, []⟩] false [1, 3, 4, 7, 8, 9, 33, 34, 35])
  (.seq (.reg [⟨some 42, .x (.mv (.t 9)), .none, false, []⟩,
   ⟨some 43, .x (.bin .neq (.t 42) (.k (.int .i64 0))), .none, false, []⟩,
   ⟨some 44, .x (.mv (.t 43)), .none, false, []⟩,
   ⟨some 45, .x (.fadr 2 (.t 1)), some (44, false), false, []⟩,
   ⟨some 46, .x (.load false 1 (.t 45)), some (44, false), false, []⟩,
   ⟨some 47, .x (.mv (.t 7)), some (44, false), false, []⟩,
   ⟨some 48, .x (.iadr 1 .none (.t 46) (.t 47)), some (44, false), false, []⟩,
   ⟨some 49, .x (.load false 1 (.t 48)), some (44, false), false, []⟩,
   ⟨some 50, .x (.len false (.t 49)), some (44, false), false, []⟩,
   ⟨some 51, .x (.fadr 0 (.t 8)), some (44, false), false, []⟩,
   ⟨some 52, .x (.load false 1 (.t 51)), some (44, false), false, []⟩,
   ⟨some 53, .x (.bin .neq (.t 50) (.t 52)), some (44, false), false, []⟩,
   ⟨some 54, .x (.pick (.t 44) (.k (.bool true)) (.t 53)), .none, false, []⟩] true [1, 3, 4, 7, 8, 33, 34, 35, 54])
  (.cond (.t 54) (.seq (.reg [⟨some 2, .x (.asg (.k (.int .i64 16))), .none, false, []⟩] false [2])
   (.ret))
  (.skip) [1, 3, 4, 7, 8, 33, 34, 35])))
  (.seq (.seq (.reg [⟨some 55, .x (.mv (.t 7)), .none, false, []⟩,
   ⟨some 56, .x (.load false 1 (.t 3)), .none, false, []⟩,
   ⟨some 57, .x (.bin .geq (.t 55) (.t 56)), .none, false, []⟩] false [1, 3, 4, 7, 8, 33, 34, 35, 57])
  (.cond (.t 57) (.seq (.reg [⟨some 2, .x (.asg (.k (.int .i64 14))), .none, false, []⟩] false [2])
   (.ret))
  (.skip) [1, 3, 4, 7, 8, 33, 34, 35]))
  (.seq (.reg [⟨some 58, .x (.fadr 2 (.t 1)), .none, false, []⟩,
   ⟨some 59, .x (.load false 1 (.t 58)), .none, false, []⟩,
   ⟨some 60, .x (.mv (.t 7)), .none, false, []⟩,
   ⟨some 61, .x (.iadr 1 .none (.t 59) (.t 60)), .none, false, []⟩,
   ⟨some 62, .x (.load false 1 (.t 61)), .none, false, []⟩,
   ⟨some 63, .x (.len false (.t 62)), .none, false, []⟩,
   ⟨some 64, .x (.mv (.k (.int .i64 0))), .none, false, []⟩] false [1, 3, 4, 8, 33, 34, 35, 62, 63, 64])
  (.block 4 (.loop h45l1 [1, 3, 4, 8, 33, 34, 35, 62, 63, 64]) [1, 3, 4, 33, 34, 35]))))) [1, 3, 4, 33, 34, 35])
 (.reg [⟨some 79, .x (.bin .add (.t 35) (.k (.int .i64 1))), .none, false, []⟩,
  ⟨some 35, .x (.mv (.t 79)), .none, false, []⟩] false [1, 3, 4, 33, 34, 35])))
def h45 : HF := ⟨1, [.tmp 2],
 .seq (.reg [⟨some 1, .x (.box (.t 0)), .none, false, []⟩,
  ⟨some 2, .x (.asg (.k (.int .i64 0))), .none, false, []⟩] false [1])
 (.seq (.seq (.reg [⟨some 12, .x (.fadr 1 (.t 1)), .none, false, []⟩,
  ⟨some 13, .x (.load false 1 (.t 12)), .none, false, []⟩,
  ⟨some 14, .x (.len false (.t 13)), .none, false, []⟩,
  ⟨some 15, .x (.fadr 2 (.t 1)), .none, false, []⟩,
  ⟨some 16, .x (.load false 1 (.t 15)), .none, false, []⟩,
  ⟨some 17, .x (.len false (.t 16)), .none, false, []⟩,
  ⟨some 18, .x (.bin .neq (.t 14) (.t 17)), .none, false, []⟩] false [1, 18])
 (.cond (.t 18) (.seq (.reg [⟨some 2, .x (.asg (.k (.int .i64 13))), .none, false, []⟩] false [2])
  (.ret))
 (.skip) [1]))
 (.seq (.reg [⟨some 3, .x (.alloc [.int .i64 0]), .none, false, []⟩,
  ⟨.none, .x (.store 1 (.t 3) (.k (.int .i64 0))), .none, false, []⟩] false [1, 3])
 (.seq (.reg [⟨some 19, .x (.mkfn 96 [.t 3]), .none, false, []⟩,
  ⟨some 4, .x (.asg (.t 19)), .none, false, []⟩] false [1, 3, 4])
 (.seq (.seq (.reg [⟨some 20, .x (.fadr 0 (.t 1)), .none, false, []⟩,
  ⟨some 21, .x (.load false 1 (.t 20)), .none, false, []⟩,
  ⟨some 22, .x (.len false (.t 21)), .none, false, []⟩,
  ⟨some 23, .x (.mv (.k (.int .i64 0))), .none, false, []⟩] false [1, 3, 4, 21, 22, 23])
 (.block 0 (.loop h45l0 [1, 3, 4, 21, 22, 23]) [1, 3, 4]))
 (.seq (.seq (.reg [⟨some 32, .x (.fadr 1 (.t 1)), .none, false, []⟩,
  ⟨some 33, .x (.load false 1 (.t 32)), .none, false, []⟩,
  ⟨some 34, .x (.len false (.t 33)), .none, false, []⟩,
  ⟨some 35, .x (.mv (.k (.int .i64 0))), .none, false, []⟩] false [1, 3, 4, 33, 34, 35])
 (.block 2 (.loop h45l2 [1, 3, 4, 33, 34, 35]) [1, 3]))
 (.seq (.seq (.reg [⟨some 80, .x (.load false 1 (.t 3)), .none, false, []⟩,
  ⟨some 81, .x (.fadr 1 (.t 1)), .none, false, []⟩,
  ⟨some 82, .x (.load false 1 (.t 81)), .none, false, []⟩,
  ⟨some 83, .x (.len false (.t 82)), .none, false, []⟩,
  ⟨some 84, .x (.bin .neq (.t 80) (.t 83)), .none, false, []⟩] false [84])
 (.cond (.t 84) (.seq (.reg [⟨some 2, .x (.asg (.k (.int .i64 20))), .none, false, []⟩] false [2])
  (.ret))
 (.skip) []))
 (.seq (.reg [⟨some 2, .x (.asg (.k (.int .i64 0))), .none, false, []⟩] false [2])
 (.ret))))))))⟩
def h46 : HF := ⟨1, [.tmp 2],
 .seq (.reg [⟨some 1, .x (.box (.t 0)), .none, false, []⟩,
  ⟨some 2, .x (.asg (.k (.int .i64 0))), .none, false, []⟩] false [1])
 (.seq (.seq (.reg [⟨some 8, .x (.fadr 1 (.t 1)), .none, false, []⟩,
  ⟨some 9, .x (.load false 1 (.t 8)), .none, false, []⟩,
  ⟨some 10, .x (.len false (.t 9)), .none, false, []⟩,
  ⟨some 11, .x (.fadr 2 (.t 1)), .none, false, []⟩,
  ⟨some 12, .x (.load false 1 (.t 11)), .none, false, []⟩,
  ⟨some 13, .x (.len false (.t 12)), .none, false, []⟩,
  ⟨some 14, .x (.bin .neq (.t 10) (.t 13)), .none, false, []⟩] false [1, 14])
 (.cond (.t 14) (.seq (.reg [⟨some 2, .x (.asg (.k (.int .i64 13))), .none, false, []⟩] false [2])
  (.ret))
 (.skip) [1]))
 (.seq (.reg [⟨some 3, .x (.asg (.k (.int .i64 0))), .none, false, []⟩] false [1, 3])
 (.seq (.seq (.reg [⟨some 4, .x (.asg (.k (.int .i64 0))), .none, false, []⟩] false [1, 3, 4])
 (.block 0 (.loop (.seq (.seq (.reg [⟨some 15, .x (.mv (.t 4)), .none, false, []⟩,
    ⟨some 16, .x (.fadr 0 (.t 1)), .none, false, []⟩,
    ⟨some 17, .x (.load false 1 (.t 16)), .none, false, []⟩,
    ⟨some 18, .x (.len false (.t 17)), .none, false, []⟩,
    ⟨some 19, .x (.bin .lss (.t 15) (.t 18)), .none, false, []⟩] false [1, 3, 4, 19])
   (.cond (.t 19) (.skip)
   (.exit 0 [1, 3]) [1, 3, 4]))
   (.seq (.block 1 (.reg [⟨some 22, .x (.mv (.t 3)), .none, false, []⟩,
     ⟨some 23, .x (.fadr 0 (.t 1)), .none, false, []⟩,
     ⟨some 24, .x (.load false 1 (.t 23)), .none, false, []⟩,
     ⟨some 25, .x (.mv (.t 4)), .none, false, []⟩,
     ⟨some 26, .x (.iadr 1 .none (.t 24) (.t 25)), .none, false, []⟩,
     ⟨some 27, .x (.load false 1 (.t 26)), .none, false, []⟩,
     ⟨some 28, .x (.call 99 [.t 22, .t 27] []), .none, false, []⟩,
     ⟨some 3, .x (.asg (.t 28)), .none, false, []⟩] false [1, 3, 4]) [1, 3, 4])
   (.reg [⟨some 20, .x (.mv (.t 4)), .none, false, []⟩,
    ⟨some 21, .x (.bin .add (.t 20) (.k (.int .i64 1))), .none, false, []⟩,
    ⟨some 4, .x (.asg (.t 21)), .none, false, []⟩] false [1, 3, 4]))) [1, 3, 4]) [1, 3]))
 (.seq (.seq (.reg [⟨some 29, .x (.mv (.t 3)), .none, false, []⟩,
  ⟨some 30, .x (.bin .lss (.t 29) (.k (.int .i64 0))), .none, false, []⟩] false [1, 3, 30])
 (.cond (.t 30) (.seq (.reg [⟨some 2, .x (.asg (.k (.int .i64 19))), .none, false, []⟩] false [2])
  (.ret))
 (.skip) [1, 3]))
 (.seq (.seq (.reg [⟨some 5, .x (.asg (.k (.int .i64 0))), .none, false, []⟩] false [1, 3, 5])
 (.block 2 (.loop (.seq (.seq (.reg [⟨some 31, .x (.mv (.t 5)), .none, false, []⟩,
    ⟨some 32, .x (.fadr 1 (.t 1)), .none, false, []⟩,
    ⟨some 33, .x (.load false 1 (.t 32)), .none, false, []⟩,
    ⟨some 34, .x (.len false (.t 33)), .none, false, []⟩,
    ⟨some 35, .x (.bin .lss (.t 31) (.t 34)), .none, false, []⟩] false [1, 3, 5, 35])
   (.cond (.t 35) (.skip)
   (.exit 2 [1, 3]) [1, 3, 5]))
   (.seq (.block 3 (.seq (.reg [⟨some 38, .x (.fadr 1 (.t 1)), .none, false, []⟩,
     ⟨some 39, .x (.load false 1 (.t 38)), .none, false, []⟩,
     ⟨some 40, .x (.mv (.t 5)), .none, false, []⟩,
     ⟨some 41, .x (.iadr 2 .none (.t 39) (.t 40)), .none, false, []⟩,
     ⟨some 42, .x (.load true 2 (.t 41)), .none, false, []⟩,
     ⟨some 6, .x (.alloc [.int .i64 0, .int .i64 0]), .none, false, []⟩,
     ⟨.none, .x (.store 2 (.t 6) (.t 42)), .none, false, []⟩] false [1, 3, 5, 6])
    (.seq (.seq (.reg [⟨some 43, .x (.load true 2 (.t 6)), .none, false, []⟩,
     ⟨some 44, .x (.call 62 [.t 43] []), .none, true, []⟩,
     ⟨some 45, .x (.bin .neq (.t 44) (.k (.int .i64 0))), .none, false, []⟩,
     ⟨some 46, .x (.mv (.t 45)), .none, false, []⟩,
     ⟨some 47, .x (.fadr 2 (.t 1)), some (46, false), false, []⟩,
     ⟨some 48, .x (.load false 1 (.t 47)), some (46, false), false, []⟩,
     ⟨some 49, .x (.mv (.t 5)), some (46, false), false, []⟩,
     ⟨some 50, .x (.iadr 1 .none (.t 48) (.t 49)), some (46, false), false, []⟩,
     ⟨some 51, .x (.load false 1 (.t 50)), some (46, false), false, []⟩,
     ⟨some 52, .x (.len false (.t 51)), some (46, false), false, []⟩,
     ⟨some 53, .x (.fadr 0 (.t 6)), some (46, false), false, []⟩,
     ⟨some 54, .x (.load false 1 (.t 53)), some (46, false), false, []⟩,
     ⟨some 55, .x (.bin .neq (.t 52) (.t 54)), some (46, false), false, []⟩,
     ⟨some 56, .x (.pick (.t 46) (.k (.bool true)) (.t 55)), .none, false, []⟩] true [1, 3, 5, 6, 56])
    (.cond (.t 56) (.seq (.reg [⟨some 2, .x (.asg (.k (.int .i64 16))), .none, false, []⟩] false [2])
     (.ret))
    (.skip) [1, 3, 5, 6]))
    (.seq (.seq (.reg [⟨some 57, .x (.mv (.t 5)), .none, false, []⟩,
     ⟨some 58, .x (.mv (.t 3)), .none, false, []⟩,
     ⟨some 59, .x (.bin .geq (.t 57) (.t 58)), .none, false, []⟩] false [1, 3, 5, 6, 59])
    (.cond (.t 59) (.seq (.reg [⟨some 2, .x (.asg (.k (.int .i64 14))), .none, false, []⟩] false [2])
     (.ret))
    (.skip) [1, 3, 5, 6]))
    (.seq (.seq (.reg [⟨some 7, .x (.asg (.k (.int .i64 0))), .none, false, []⟩] false [1, 3, 5, 6, 7])
    (.block 4 (.loop (.seq (.seq (.reg [⟨some 60, .x (.mv (.t 7)), .none, false, []⟩,
       ⟨some 61, .x (.fadr 0 (.t 6)), .none, false, []⟩,
       ⟨some 62, .x (.load false 1 (.t 61)), .none, false, []⟩,
       ⟨some 63, .x (.bin .lss (.t 60) (.t 62)), .none, false, []⟩] false [1, 3, 5, 6, 7, 63])
      (.cond (.t 63) (.skip)
      (.exit 4 [1, 3, 5]) [1, 3, 5, 6, 7]))
      (.seq (.block 5 (.seq (.reg [⟨some 66, .x (.load true 2 (.t 6)), .none, false, []⟩,
        ⟨some 67, .x (.mv (.t 7)), .none, false, []⟩,
        ⟨some 68, .x (.call 23 [.t 66, .t 67] []), .none, false, []⟩] false [1, 3, 5, 6, 7, 68])
       (.cond (.t 68) (.reg [⟨some 69, .x (.mv (.t 3)), .none, false, []⟩,
         ⟨some 70, .x (.fadr 2 (.t 1)), .none, false, []⟩,
         ⟨some 71, .x (.load false 1 (.t 70)), .none, false, []⟩,
         ⟨some 72, .x (.mv (.t 5)), .none, false, []⟩,
         ⟨some 73, .x (.iadr 1 .none (.t 71) (.t 72)), .none, false, []⟩,
         ⟨some 74, .x (.load false 1 (.t 73)), .none, false, []⟩,
         ⟨some 75, .x (.mv (.t 7)), .none, false, []⟩,
         ⟨some 76, .x (.iadr 1 .none (.t 74) (.t 75)), .none, false, []⟩,
         ⟨some 77, .x (.load false 1 (.t 76)), .none, false, []⟩,
         ⟨some 78, .x (.call 99 [.t 69, .t 77] []), .none, false, []⟩,
         ⟨some 3, .x (.asg (.t 78)), .none, false, []⟩] false [1, 3, 5, 6, 7])
       (.skip) [1, 3, 5, 6, 7])) [1, 3, 5, 6, 7])
      (.reg [⟨some 64, .x (.mv (.t 7)), .none, false, []⟩,
       ⟨some 65, .x (.bin .add (.t 64) (.k (.int .i64 1))), .none, false, []⟩,
       ⟨some 7, .x (.asg (.t 65)), .none, false, []⟩] false [1, 3, 5, 6, 7]))) [1, 3, 5, 6, 7]) [1, 3, 5]))
    (.seq (.reg [⟨some 79, .x (.mv (.t 3)), .none, false, []⟩,
     ⟨some 80, .x (.bin .lss (.t 79) (.k (.int .i64 0))), .none, false, []⟩] false [1, 3, 5, 80])
    (.cond (.t 80) (.seq (.reg [⟨some 2, .x (.asg (.k (.int .i64 19))), .none, false, []⟩] false [2])
     (.ret))
    (.skip) [1, 3, 5])))))) [1, 3, 5])
   (.reg [⟨some 36, .x (.mv (.t 5)), .none, false, []⟩,
    ⟨some 37, .x (.bin .add (.t 36) (.k (.int .i64 1))), .none, false, []⟩,
    ⟨some 5, .x (.asg (.t 37)), .none, false, []⟩] false [1, 3, 5]))) [1, 3, 5]) [1, 3]))
 (.seq (.seq (.reg [⟨some 81, .x (.mv (.t 3)), .none, false, []⟩,
  ⟨some 82, .x (.fadr 1 (.t 1)), .none, false, []⟩,
  ⟨some 83, .x (.load false 1 (.t 82)), .none, false, []⟩,
  ⟨some 84, .x (.len false (.t 83)), .none, false, []⟩,
  ⟨some 85, .x (.bin .neq (.t 81) (.t 84)), .none, false, []⟩] false [85])
 (.cond (.t 85) (.seq (.reg [⟨some 2, .x (.asg (.k (.int .i64 20))), .none, false, []⟩] false [2])
  (.ret))
 (.skip) []))
 (.seq (.reg [⟨some 2, .x (.asg (.k (.int .i64 0))), .none, false, []⟩] false [2])
 (.ret))))))))⟩
def h47 : HF := ⟨2, [.tmp 4],
 .seq (.reg [⟨some 2, .x (.box (.t 0)), .none, false, []⟩,
  ⟨some 3, .x (.box (.t 1)), .none, false, []⟩,
  ⟨some 4, .x (.asg (.k (.bool false))), .none, false, []⟩] false [2, 3])
 (.seq (.seq (.reg [⟨some 6, .x (.fadr 0 (.t 2)), .none, false, []⟩,
  ⟨some 7, .x (.load false 1 (.t 6)), .none, false, []⟩,
  ⟨some 8, .x (.fadr 0 (.t 3)), .none, false, []⟩,
  ⟨some 9, .x (.load false 1 (.t 8)), .none, false, []⟩,
  ⟨some 10, .x (.call 100 [.t 7, .t 9] []), .none, false, []⟩,
  ⟨some 11, .x (.un .not (.t 10)), .none, false, []⟩,
  ⟨some 12, .x (.mv (.t 11)), .none, false, []⟩,
  ⟨some 13, .x (.fadr 1 (.t 2)), some (12, false), false, []⟩,
  ⟨some 14, .x (.load false 1 (.t 13)), some (12, false), false, []⟩,
  ⟨some 15, .x (.fadr 1 (.t 3)), some (12, false), false, []⟩,
  ⟨some 16, .x (.load false 1 (.t 15)), some (12, false), false, []⟩,
  ⟨some 17, .x (.call 101 [.t 14, .t 16] []), some (12, false), false, []⟩,
  ⟨some 18, .x (.un .not (.t 17)), some (12, false), false, []⟩,
  ⟨some 19, .x (.pick (.t 12) (.k (.bool true)) (.t 18)), .none, false, []⟩,
  ⟨some 20, .x (.mv (.t 19)), .none, false, []⟩,
  ⟨some 21, .x (.fadr 2 (.t 2)), some (20, false), false, []⟩,
  ⟨some 22, .x (.load false 1 (.t 21)), some (20, false), false, []⟩,
  ⟨some 23, .x (.len false (.t 22)), some (20, false), false, []⟩,
  ⟨some 24, .x (.fadr 2 (.t 3)), some (20, false), false, []⟩,
  ⟨some 25, .x (.load false 1 (.t 24)), some (20, false), false, []⟩,
  ⟨some 26, .x (.len false (.t 25)), some (20, false), false, []⟩,
  ⟨some 27, .x (.bin .neq (.t 23) (.t 26)), some (20, false), false, []⟩,
  ⟨some 28, .x (.pick (.t 20) (.k (.bool true)) (.t 27)), .none, false, []⟩] false [2, 3, 28])
 (.cond (.t 28) (.seq (.reg [⟨some 4, .x (.asg (.k (.bool false))), .none, false, []⟩] false [4])
  (.ret))
 (.skip) [2, 3]))
 (.seq (.seq (.reg [⟨some 29, .x (.fadr 2 (.t 2)), .none, false, []⟩,
  ⟨some 30, .x (.load false 1 (.t 29)), .none, false, []⟩,
  ⟨some 31, .x (.len false (.t 30)), .none, false, []⟩,
  ⟨some 32, .x (.mv (.k (.int .i64 0))), .none, false, []⟩] false [2, 3, 31, 32])
 (.block 0 (.loop (.seq (.reg [⟨some 33, .x (.bin .lss (.t 32) (.t 31)), .none, false, []⟩] false [2, 3, 31, 32, 33])
   (.seq (.cond (.t 33) (.skip)
   (.exit 0 []) [2, 3, 31, 32])
   (.seq (.block 1 (.seq (.reg [⟨some 34, .x (.mv (.t 32)), .none, false, []⟩,
     ⟨some 5, .x (.asg (.t 34)), .none, false, []⟩] false [2, 3, 5, 31, 32])
    (.seq (.reg [⟨some 35, .x (.fadr 2 (.t 2)), .none, false, []⟩,
     ⟨some 36, .x (.load false 1 (.t 35)), .none, false, []⟩,
     ⟨some 37, .x (.mv (.t 5)), .none, false, []⟩,
     ⟨some 38, .x (.iadr 1 .none (.t 36) (.t 37)), .none, false, []⟩,
     ⟨some 39, .x (.load false 1 (.t 38)), .none, false, []⟩,
     ⟨some 40, .x (.fadr 2 (.t 3)), .none, false, []⟩,
     ⟨some 41, .x (.load false 1 (.t 40)), .none, false, []⟩,
     ⟨some 42, .x (.mv (.t 5)), .none, false, []⟩,
     ⟨some 43, .x (.iadr 1 .none (.t 41) (.t 42)), .none, false, []⟩,
     ⟨some 44, .x (.load false 1 (.t 43)), .none, false, []⟩,
     ⟨some 45, .x (.call 102 [.t 39, .t 44] []), .none, true, []⟩,
     ⟨some 46, .x (.un .not (.t 45)), .none, false, []⟩] true [2, 3, 31, 32, 46])
    (.cond (.t 46) (.seq (.reg [⟨some 4, .x (.asg (.k (.bool false))), .none, false, []⟩] false [4])
     (.ret))
    (.skip) [2, 3, 31, 32]))) [2, 3, 31, 32])
   (.reg [⟨some 47, .x (.bin .add (.t 32) (.k (.int .i64 1))), .none, false, []⟩,
    ⟨some 32, .x (.mv (.t 47)), .none, false, []⟩] false [2, 3, 31, 32])))) [2, 3, 31, 32]) []))
 (.seq (.reg [⟨some 4, .x (.asg (.k (.bool true))), .none, false, []⟩] false [4])
 (.ret))))⟩
def h48 : HF := ⟨1, [.tmp 2],
 .seq (.reg [⟨some 1, .x (.box (.t 0)), .none, false, []⟩,
  ⟨some 2, .x (.asg (.k (.int .i64 0))), .none, false, []⟩] false [1])
 (.seq (.reg [⟨some 3, .x (.asg (.k (.int .i64 0))), .none, false, []⟩] false [1, 3])
 (.seq (.seq (.reg [⟨some 6, .x (.fadr 1 (.t 1)), .none, false, []⟩,
  ⟨some 7, .x (.load false 1 (.t 6)), .none, false, []⟩,
  ⟨some 8, .x (.len false (.t 7)), .none, false, []⟩,
  ⟨some 9, .x (.mv (.k (.int .i64 0))), .none, false, []⟩] false [3, 7, 8, 9])
 (.block 0 (.loop (.seq (.reg [⟨some 10, .x (.bin .lss (.t 9) (.t 8)), .none, false, []⟩] false [3, 7, 8, 9, 10])
   (.seq (.cond (.t 10) (.skip)
   (.exit 0 [3]) [3, 7, 8, 9])
   (.seq (.block 1 (.seq (.reg [⟨some 11, .x (.iadr 2 .none (.t 7) (.t 9)), .none, false, []⟩,
     ⟨some 12, .x (.load true 2 (.t 11)), .none, false, []⟩,
     ⟨some 5, .x (.alloc [.int .i64 0, .int .i64 0]), .none, false, []⟩,
     ⟨.none, .x (.store 2 (.t 5) (.t 12)), .none, false, []⟩] false [3, 5, 7, 8, 9])
    (.reg [⟨some 13, .x (.mv (.t 3)), .none, false, []⟩,
     ⟨some 14, .x (.fadr 0 (.t 5)), .none, false, []⟩,
     ⟨some 15, .x (.load false 1 (.t 14)), .none, false, []⟩,
     ⟨some 16, .x (.bin .add (.k (.int .i64 1)) (.t 15)), .none, false, []⟩,
     ⟨some 17, .x (.bin .add (.t 13) (.t 16)), .none, false, []⟩,
     ⟨some 3, .x (.asg (.t 17)), .none, false, []⟩] false [3, 7, 8, 9])) [3, 7, 8, 9])
   (.reg [⟨some 18, .x (.bin .add (.t 9) (.k (.int .i64 1))), .none, false, []⟩,
    ⟨some 9, .x (.mv (.t 18)), .none, false, []⟩] false [3, 7, 8, 9])))) [3, 7, 8, 9]) [3]))
 (.seq (.reg [⟨some 19, .x (.mv (.t 3)), .none, false, []⟩,
  ⟨some 2, .x (.asg (.t 19)), .none, false, []⟩] false [2])
 (.ret))))⟩
def h49 : HF := ⟨1, [.tmp 2],
 .seq (.reg [⟨some 1, .x (.box (.t 0)), .none, false, []⟩,
  ⟨some 2, .x (.asg (.k (.int .i64 0))), .none, false, []⟩] false [1])
 (.seq (.reg [⟨some 3, .x (.asg (.k (.int .i64 0))), .none, false, []⟩] false [1, 3])
 (.seq (.seq (.reg [⟨some 4, .x (.asg (.k (.int .i64 0))), .none, false, []⟩] false [1, 3, 4])
 (.block 0 (.loop (.seq (.seq (.reg [⟨some 5, .x (.mv (.t 4)), .none, false, []⟩,
    ⟨some 6, .x (.fadr 1 (.t 1)), .none, false, []⟩,
    ⟨some 7, .x (.load false 1 (.t 6)), .none, false, []⟩,
    ⟨some 8, .x (.len false (.t 7)), .none, false, []⟩,
    ⟨some 9, .x (.bin .lss (.t 5) (.t 8)), .none, false, []⟩] false [1, 3, 4, 9])
   (.cond (.t 9) (.skip)
   (.exit 0 [3]) [1, 3, 4]))
   (.seq (.block 1 (.reg [⟨some 12, .x (.mv (.t 3)), .none, false, []⟩,
     ⟨some 13, .x (.bin .add (.t 12) (.k (.int .i64 1))), .none, false, []⟩,
     ⟨some 14, .x (.fadr 1 (.t 1)), .none, false, []⟩,
     ⟨some 15, .x (.load false 1 (.t 14)), .none, false, []⟩,
     ⟨some 16, .x (.mv (.t 4)), .none, false, []⟩,
     ⟨some 17, .x (.iadr 2 .none (.t 15) (.t 16)), .none, false, []⟩,
     ⟨some 18, .x (.fadr 0 (.t 17)), .none, false, []⟩,
     ⟨some 19, .x (.load false 1 (.t 18)), .none, false, []⟩,
     ⟨some 20, .x (.bin .add (.t 13) (.t 19)), .none, false, []⟩,
     ⟨some 3, .x (.asg (.t 20)), .none, false, []⟩] false [1, 3, 4]) [1, 3, 4])
   (.reg [⟨some 10, .x (.mv (.t 4)), .none, false, []⟩,
    ⟨some 11, .x (.bin .add (.t 10) (.k (.int .i64 1))), .none, false, []⟩,
    ⟨some 4, .x (.asg (.t 11)), .none, false, []⟩] false [1, 3, 4]))) [1, 3, 4]) [3]))
 (.seq (.reg [⟨some 21, .x (.mv (.t 3)), .none, false, []⟩,
  ⟨some 2, .x (.asg (.t 21)), .none, false, []⟩] false [2])
 (.ret))))⟩
def h54 : HF := ⟨1, [.tmp 2, .tmp 3],
 .seq (.reg [⟨some 1, .x (.box (.t 0)), .none, false, []⟩,
  ⟨some 2, .x (.asg (.k (.nilp))), .none, false, []⟩,
  ⟨some 3, .x (.asg (.k (.nils))), .none, false, []⟩] false [1])
 (.seq (.reg [⟨some 14, .x (.call 34 [] []), .none, false, []⟩,
  ⟨some 4, .x (.asg (.t 14)), .none, false, []⟩] false [1, 4])
 (.seq (.seq (.reg [⟨some 15, .x (.fadr 1 (.t 1)), .none, false, []⟩,
  ⟨some 16, .x (.load false 1 (.t 15)), .none, false, []⟩,
  ⟨some 17, .x (.len false (.t 16)), .none, false, []⟩,
  ⟨some 18, .x (.mv (.k (.int .i64 0))), .none, false, []⟩] false [1, 4, 16, 17, 18])
 (.block 0 (.loop (.seq (.reg [⟨some 19, .x (.bin .lss (.t 18) (.t 17)), .none, false, []⟩] false [1, 4, 16, 17, 18, 19])
   (.seq (.cond (.t 19) (.skip)
   (.exit 0 [1, 4]) [1, 4, 16, 17, 18])
   (.seq (.block 1 (.seq (.reg [⟨some 20, .x (.iadr 2 .none (.t 16) (.t 18)), .none, false, []⟩,
     ⟨some 21, .x (.load true 2 (.t 20)), .none, false, []⟩,
     ⟨some 6, .x (.alloc [.int .i64 0, .int .i64 0]), .none, false, []⟩,
     ⟨.none, .x (.store 2 (.t 6) (.t 21)), .none, false, []⟩] false [1, 4, 6, 16, 17, 18])
    (.reg [⟨some 22, .x (.mv (.t 4)), .none, false, []⟩,
     ⟨some 23, .x (.load true 2 (.t 6)), .none, false, []⟩,
     ⟨some 24, .x (.call 36 [.t 22, .t 23] []), .none, false, []⟩] false [1, 4, 16, 17, 18])) [1, 4, 16, 17, 18])
   (.reg [⟨some 25, .x (.bin .add (.t 18) (.k (.int .i64 1))), .none, false, []⟩,
    ⟨some 18, .x (.mv (.t 25)), .none, false, []⟩] false [1, 4, 16, 17, 18])))) [1, 4, 16, 17, 18]) [1, 4]))
 (.seq (.seq (.reg [⟨some 26, .x (.fadr 2 (.t 1)), .none, false, []⟩,
  ⟨some 27, .x (.load false 1 (.t 26)), .none, false, []⟩,
  ⟨some 28, .x (.len false (.t 27)), .none, false, []⟩,
  ⟨some 29, .x (.mv (.k (.int .i64 0))), .none, false, []⟩] false [1, 4, 27, 28, 29])
 (.block 2 (.loop (.seq (.reg [⟨some 30, .x (.bin .lss (.t 29) (.t 28)), .none, false, []⟩] false [1, 4, 27, 28, 29, 30])
   (.seq (.cond (.t 30) (.skip)
   (.exit 2 [1, 4]) [1, 4, 27, 28, 29])
   (.seq (.block 3 (.seq (.reg [⟨some 31, .x (.mv (.t 29)), .none, false, []⟩,
     ⟨some 32, .x (.iadr 1 .none (.t 27) (.t 29)), .none, false, []⟩,
     ⟨some 33, .x (.load false 1 (.t 32)), .none, false, []⟩,
     ⟨some 7, .x (.asg (.t 31)), .none, false, []⟩,
     ⟨some 8, .x (.asg (.t 33)), .none, false, []⟩] false [1, 4, 7, 8, 27, 28, 29])
    (.seq (.reg [⟨some 34, .x (.mv (.t 8)), .none, false, []⟩,
     ⟨some 35, .x (.len false (.t 34)), .none, false, []⟩,
     ⟨some 36, .x (.mv (.k (.int .i64 0))), .none, false, []⟩] false [1, 4, 7, 27, 28, 29, 34, 35, 36])
    (.block 4 (.loop (.seq (.reg [⟨some 37, .x (.bin .lss (.t 36) (.t 35)), .none, false, []⟩] false [1, 4, 7, 27, 28, 29, 34, 35, 36, 37])
      (.seq (.cond (.t 37) (.skip)
      (.exit 4 [1, 4, 27, 28, 29]) [1, 4, 7, 27, 28, 29, 34, 35, 36])
      (.seq (.block 5 (.seq (.reg [⟨some 38, .x (.mv (.t 36)), .none, false, []⟩,
        ⟨some 39, .x (.iadr 1 .none (.t 34) (.t 36)), .none, false, []⟩,
        ⟨some 40, .x (.load false 1 (.t 39)), .none, false, []⟩,
        ⟨some 9, .x (.asg (.t 38)), .none, false, []⟩,
        ⟨some 10, .x (.asg (.t 40)), .none, false, []⟩] false [1, 4, 7, 9, 10, 27, 28, 29, 34, 35, 36])
       (.reg [⟨some 41, .x (.mv (.t 4)), .none, false, []⟩,
        ⟨some 42, .x (.mv (.t 7)), .none, false, []⟩,
        ⟨some 43, .x (.bin .add (.t 42) (.k (.int .i64 1))), .none, false, []⟩,
        ⟨some 44, .x (.mv (.t 9)), .none, false, []⟩,
        ⟨some 45, .x (.fadr 1 (.t 1)), .none, false, []⟩,
        ⟨some 46, .x (.load false 1 (.t 45)), .none, false, []⟩,
        ⟨some 47, .x (.mv (.t 7)), .none, false, []⟩,
        ⟨some 48, .x (.iadr 2 .none (.t 46) (.t 47)), .none, false, []⟩,
        ⟨some 49, .x (.load true 2 (.t 48)), .none, false, []⟩,
        ⟨some 50, .x (.mv (.t 9)), .none, false, []⟩,
        ⟨some 51, .x (.call 98 [.t 49, .t 50] []), .none, false, []⟩,
        ⟨some 52, .x (.mv (.t 10)), .none, false, []⟩,
        ⟨some 53, .x (.call 38 [.t 41, .t 43, .t 44, .t 51, .t 52] []), .none, false, []⟩] false [1, 4, 7, 27, 28, 29, 34, 35, 36])) [1, 4, 7, 27, 28, 29, 34, 35, 36])
      (.reg [⟨some 54, .x (.bin .add (.t 36) (.k (.int .i64 1))), .none, false, []⟩,
       ⟨some 36, .x (.mv (.t 54)), .none, false, []⟩] false [1, 4, 7, 27, 28, 29, 34, 35, 36])))) [1, 4, 7, 27, 28, 29, 34, 35, 36]) [1, 4, 27, 28, 29]))) [1, 4, 27, 28, 29])
   (.reg [⟨some 55, .x (.bin .add (.t 29) (.k (.int .i64 1))), .none, false, []⟩,
    ⟨some 29, .x (.mv (.t 55)), .none, false, []⟩] false [1, 4, 27, 28, 29])))) [1, 4, 27, 28, 29]) [1, 4]))
 (.seq (.reg [⟨some 11, .x (.asg (.k (.nils))), .none, false, []⟩] false [1, 4, 11])
 (.seq (.seq (.reg [⟨some 56, .x (.fadr 0 (.t 1)), .none, false, []⟩,
  ⟨some 57, .x (.load false 1 (.t 56)), .none, false, []⟩,
  ⟨some 58, .x (.len false (.t 57)), .none, false, []⟩,
  ⟨some 59, .x (.mv (.k (.int .i64 0))), .none, false, []⟩] false [4, 11, 57, 58, 59])
 (.block 6 (.loop (.seq (.reg [⟨some 60, .x (.bin .lss (.t 59) (.t 58)), .none, false, []⟩] false [4, 11, 57, 58, 59, 60])
   (.seq (.cond (.t 60) (.skip)
   (.exit 6 [4, 11]) [4, 11, 57, 58, 59])
   (.seq (.block 7 (.seq (.reg [⟨some 61, .x (.iadr 1 .none (.t 57) (.t 59)), .none, false, []⟩,
     ⟨some 62, .x (.load false 1 (.t 61)), .none, false, []⟩,
     ⟨some 13, .x (.asg (.t 62)), .none, false, []⟩] false [4, 11, 13, 57, 58, 59])
    (.reg [⟨some 63, .x (.mv (.t 11)), .none, false, []⟩,
     ⟨some 64, .x (.mv (.t 13)), .none, false, []⟩,
     ⟨some 65, .x (.bsl 1 1 [.int .i64 0] [(0, 1, .t 64)]), .none, false, []⟩,
     ⟨some 66, .x (.app 1 8 (.t 63) (.t 65)), .none, false, []⟩,
     ⟨some 11, .x (.asg (.t 66)), .none, false, []⟩] false [4, 11, 57, 58, 59])) [4, 11, 57, 58, 59])
   (.reg [⟨some 67, .x (.bin .add (.t 59) (.k (.int .i64 1))), .none, false, []⟩,
    ⟨some 59, .x (.mv (.t 67)), .none, false, []⟩] false [4, 11, 57, 58, 59])))) [4, 11, 57, 58, 59]) [4, 11]))
 (.seq (.reg [⟨some 68, .x (.mv (.t 4)), .none, false, []⟩,
  ⟨some 69, .x (.mv (.t 11)), .none, false, []⟩,
  ⟨some 2, .x (.asg (.t 68)), .none, false, []⟩,
  ⟨some 3, .x (.asg (.t 69)), .none, false, []⟩] false [2, 3])
 (.ret)))))))⟩
def h62 : HF := ⟨1, [.tmp 2],
 .seq (.reg [⟨some 1, .x (.box (.t 0)), .none, false, []⟩,
  ⟨some 2, .x (.asg (.k (.int .i64 0))), .none, false, []⟩] false [1])
 (.seq (.seq (.reg [⟨some 3, .x (.fadr 0 (.t 1)), .none, false, []⟩,
  ⟨some 4, .x (.load false 1 (.t 3)), .none, false, []⟩,
  ⟨some 5, .x (.bin .lss (.t 4) (.k (.int .i64 0))), .none, false, []⟩,
  ⟨some 6, .x (.mv (.t 5)), .none, false, []⟩,
  ⟨some 7, .x (.fadr 0 (.t 1)), some (6, false), false, []⟩,
  ⟨some 8, .x (.load false 1 (.t 7)), some (6, false), false, []⟩,
  ⟨some 9, .x (.bin .gtr (.t 8) (.k (.int .i64 16))), some (6, false), false, []⟩,
  ⟨some 10, .x (.pick (.t 6) (.k (.bool true)) (.t 9)), .none, false, []⟩] false [1, 10])
 (.cond (.t 10) (.seq (.reg [⟨some 2, .x (.asg (.k (.int .i64 16))), .none, false, []⟩] false [2])
  (.ret))
 (.skip) [1]))
 (.seq (.seq (.reg [⟨some 11, .x (.fadr 1 (.t 1)), .none, false, []⟩,
  ⟨some 12, .x (.load false 1 (.t 11)), .none, false, []⟩,
  ⟨some 13, .x (.bin .lss (.t 12) (.k (.int .i64 0))), .none, false, []⟩,
  ⟨some 14, .x (.mv (.t 13)), .none, false, []⟩,
  ⟨some 15, .x (.fadr 1 (.t 1)), some (14, false), false, []⟩,
  ⟨some 16, .x (.load false 1 (.t 15)), some (14, false), false, [8]⟩,
  ⟨some 17, .x (.fadr 0 (.t 1)), some (14, false), false, []⟩,
  ⟨some 18, .x (.load false 1 (.t 17)), some (14, false), false, []⟩,
  ⟨some 19, .x (.call 75 [.t 18] []), some (14, false), true, []⟩,
  ⟨some 20, .x (.bin .geq (.t 16) (.t 19)), some (14, false), false, []⟩,
  ⟨some 21, .x (.pick (.t 14) (.k (.bool true)) (.t 20)), .none, false, []⟩] true [21])
 (.cond (.t 21) (.seq (.reg [⟨some 2, .x (.asg (.k (.int .i64 16))), .none, false, []⟩] false [2])
  (.ret))
 (.skip) []))
 (.seq (.reg [⟨some 2, .x (.asg (.k (.int .i64 0))), .none, false, []⟩] false [2])
 (.ret))))⟩
def h75 : HF := ⟨1, [.tmp 2],
 .seq (.reg [⟨some 2, .x (.asg (.k (.int .i64 0))), .none, false, []⟩] false [0])
 (.seq (.reg [⟨some 3, .x (.asg (.k (.int .i64 1))), .none, false, []⟩] false [0, 3])
 (.seq (.seq (.reg [⟨some 4, .x (.asg (.k (.int .i64 0))), .none, false, []⟩] false [0, 3, 4])
 (.block 0 (.loop (.seq (.seq (.reg [⟨some 5, .x (.mv (.t 4)), .none, false, []⟩,
    ⟨some 6, .x (.mv (.t 0)), .none, false, []⟩,
    ⟨some 7, .x (.bin .lss (.t 5) (.t 6)), .none, false, []⟩] false [0, 3, 4, 7])
   (.cond (.t 7) (.skip)
   (.exit 0 [3]) [0, 3, 4]))
   (.seq (.block 1 (.reg [⟨some 10, .x (.mv (.t 3)), .none, false, []⟩,
     ⟨some 11, .x (.bin .mul (.t 10) (.k (.int .i64 2))), .none, false, []⟩,
     ⟨some 3, .x (.asg (.t 11)), .none, false, []⟩] false [0, 3, 4]) [0, 3, 4])
   (.reg [⟨some 8, .x (.mv (.t 4)), .none, false, []⟩,
    ⟨some 9, .x (.bin .add (.t 8) (.k (.int .i64 1))), .none, false, []⟩,
    ⟨some 4, .x (.asg (.t 9)), .none, false, []⟩] false [0, 3, 4]))) [0, 3, 4]) [3]))
 (.seq (.reg [⟨some 12, .x (.mv (.t 3)), .none, false, []⟩,
  ⟨some 2, .x (.asg (.t 12)), .none, false, []⟩] false [2])
 (.ret))))⟩
def h86 : HF := ⟨2, [.tmp 4],
 .seq (.reg [⟨some 4, .x (.asg (.k (.bool false))), .none, false, []⟩] false [0, 1])
 (.seq (.seq (.reg [⟨some 6, .x (.mv (.t 0)), .none, false, []⟩,
  ⟨some 7, .x (.len false (.t 6)), .none, false, []⟩,
  ⟨some 8, .x (.mv (.t 1)), .none, false, []⟩,
  ⟨some 9, .x (.len false (.t 8)), .none, false, []⟩,
  ⟨some 10, .x (.bin .gtr (.t 7) (.t 9)), .none, false, []⟩] false [0, 1, 10])
 (.cond (.t 10) (.seq (.reg [⟨some 4, .x (.asg (.k (.bool false))), .none, false, []⟩] false [4])
  (.ret))
 (.skip) [0, 1]))
 (.seq (.seq (.reg [⟨some 5, .x (.asg (.k (.int .i64 0))), .none, false, []⟩] false [0, 1, 5])
 (.block 0 (.loop (.seq (.seq (.reg [⟨some 11, .x (.mv (.t 5)), .none, false, []⟩,
    ⟨some 12, .x (.mv (.t 0)), .none, false, []⟩,
    ⟨some 13, .x (.len false (.t 12)), .none, false, []⟩,
    ⟨some 14, .x (.bin .lss (.t 11) (.t 13)), .none, false, []⟩] false [0, 1, 5, 14])
   (.cond (.t 14) (.skip)
   (.exit 0 []) [0, 1, 5]))
   (.seq (.block 1 (.seq (.reg [⟨some 17, .x (.mv (.t 0)), .none, false, []⟩,
     ⟨some 18, .x (.mv (.t 5)), .none, false, []⟩,
     ⟨some 19, .x (.iadr 1 .none (.t 17) (.t 18)), .none, false, []⟩,
     ⟨some 20, .x (.load false 1 (.t 19)), .none, false, []⟩,
     ⟨some 21, .x (.mv (.t 1)), .none, false, []⟩,
     ⟨some 22, .x (.mv (.t 5)), .none, false, []⟩,
     ⟨some 23, .x (.iadr 1 .none (.t 21) (.t 22)), .none, false, []⟩,
     ⟨some 24, .x (.load false 1 (.t 23)), .none, false, []⟩,
     ⟨some 25, .x (.bin .neq (.t 20) (.t 24)), .none, false, []⟩] true [0, 1, 5, 25])
    (.cond (.t 25) (.seq (.reg [⟨some 4, .x (.asg (.k (.bool false))), .none, false, []⟩] false [4])
     (.ret))
    (.skip) [0, 1, 5])) [0, 1, 5])
   (.reg [⟨some 15, .x (.mv (.t 5)), .none, false, []⟩,
    ⟨some 16, .x (.bin .add (.t 15) (.k (.int .i64 1))), .none, false, []⟩,
    ⟨some 5, .x (.asg (.t 16)), .none, false, []⟩] false [0, 1, 5]))) [0, 1, 5]) []))
 (.seq (.reg [⟨some 4, .x (.asg (.k (.bool true))), .none, false, []⟩] false [4])
 (.ret))))⟩
def h87 : HF := ⟨4, [.tmp 8, .tmp 9],
 .seq (.reg [⟨some 8, .x (.asg (.k (.nilp))), .none, false, []⟩,
  ⟨some 9, .x (.asg (.k (.int .i64 0))), .none, false, []⟩] false [0, 1, 2, 3])
 (.seq (.block 0 (.seq (.reg [⟨some 12, .x (.mv (.t 1)), .none, false, []⟩,
   ⟨some 13, .x (.bin .eql (.t 12) (.k (.int .i64 0))), .none, false, []⟩,
   ⟨some 11, .x (.asg (.t 13)), .none, false, []⟩] false [0, 1, 2, 3, 11])
  (.cond (.t 11) (.seq (.reg [⟨some 8, .x (.asg (.k (.nilp))), .none, false, []⟩,
    ⟨some 9, .x (.asg (.k (.int .i64 1))), .none, false, []⟩] false [8, 9])
   (.ret))
  (.seq (.reg [⟨some 15, .x (.mv (.t 1)), .none, false, []⟩,
    ⟨some 16, .x (.bin .lss (.t 15) (.k (.int .i64 0))), .none, false, []⟩,
    ⟨some 17, .x (.mv (.t 16)), .none, false, []⟩,
    ⟨some 18, .x (.mv (.t 1)), some (17, false), false, []⟩,
    ⟨some 19, .x (.mv (.t 0)), some (17, false), false, []⟩,
    ⟨some 20, .x (.nilck (.t 19)), some (17, false), false, []⟩,
    ⟨some 21, .x (.fadr 0 (.t 20)), some (17, false), false, []⟩,
    ⟨some 22, .x (.load false 1 (.t 21)), some (17, false), false, []⟩,
    ⟨some 23, .x (.len false (.t 22)), some (17, false), false, []⟩,
    ⟨some 24, .x (.bin .gtr (.t 18) (.t 23)), some (17, false), false, []⟩,
    ⟨some 25, .x (.pick (.t 17) (.k (.bool true)) (.t 24)), .none, false, []⟩,
    ⟨some 14, .x (.asg (.t 25)), .none, false, []⟩] false [0, 1, 2, 3, 14])
   (.cond (.t 14) (.seq (.reg [⟨some 8, .x (.asg (.k (.nilp))), .none, false, []⟩,
     ⟨some 9, .x (.asg (.k (.int .i64 2))), .none, false, []⟩] false [8, 9])
    (.ret))
   (.skip) [0, 1, 2, 3])) [0, 1, 2, 3])) [0, 1, 2, 3])
 (.seq (.reg [⟨some 26, .x (.mv (.t 0)), .none, false, []⟩,
  ⟨some 27, .x (.nilck (.t 26)), .none, false, []⟩,
  ⟨some 28, .x (.fadr 0 (.t 27)), .none, false, []⟩,
  ⟨some 29, .x (.load false 1 (.t 28)), .none, false, []⟩,
  ⟨some 30, .x (.mv (.t 1)), .none, false, []⟩,
  ⟨some 31, .x (.bin .sub (.t 30) (.k (.int .i64 1))), .none, false, []⟩,
  ⟨some 32, .x (.iadr 3 .none (.t 29) (.t 31)), .none, false, []⟩,
  ⟨some 10, .x (.asg (.t 32)), .none, false, []⟩] false [2, 3, 10])
 (.seq (.seq (.reg [⟨some 33, .x (.mv (.t 2)), .none, false, []⟩,
  ⟨some 34, .x (.bin .lss (.t 33) (.k (.int .i64 0))), .none, false, []⟩,
  ⟨some 35, .x (.mv (.t 34)), .none, false, []⟩,
  ⟨some 36, .x (.mv (.t 2)), some (35, false), false, []⟩,
  ⟨some 37, .x (.mv (.t 10)), some (35, false), false, []⟩,
  ⟨some 38, .x (.nilck (.t 37)), some (35, false), false, []⟩,
  ⟨some 39, .x (.fadr 0 (.t 38)), some (35, false), false, []⟩,
  ⟨some 40, .x (.fadr 0 (.t 39)), some (35, false), false, []⟩,
  ⟨some 41, .x (.load false 1 (.t 40)), some (35, false), false, []⟩,
  ⟨some 42, .x (.bin .geq (.t 36) (.t 41)), some (35, false), false, []⟩,
  ⟨some 43, .x (.pick (.t 35) (.k (.bool true)) (.t 42)), .none, false, []⟩,
  ⟨some 44, .x (.mv (.t 43)), .none, false, []⟩,
  ⟨some 45, .x (.mv (.t 10)), some (44, false), false, []⟩,
  ⟨some 46, .x (.nilck (.t 45)), some (44, false), false, []⟩,
  ⟨some 47, .x (.fadr 0 (.t 46)), some (44, false), false, []⟩,
  ⟨some 48, .x (.load true 2 (.t 47)), some (44, false), false, []⟩,
  ⟨some 49, .x (.mv (.t 2)), some (44, false), false, []⟩,
  ⟨some 50, .x (.call 98 [.t 48, .t 49] []), some (44, false), false, []⟩,
  ⟨some 51, .x (.mv (.t 3)), some (44, false), false, []⟩,
  ⟨some 52, .x (.beq true (.t 50) (.t 51)), some (44, false), false, []⟩,
  ⟨some 53, .x (.pick (.t 44) (.k (.bool true)) (.t 52)), .none, false, []⟩] false [2, 10, 53])
 (.cond (.t 53) (.seq (.reg [⟨some 8, .x (.asg (.k (.nilp))), .none, false, []⟩,
   ⟨some 9, .x (.asg (.k (.int .i64 2))), .none, false, []⟩] false [8, 9])
  (.ret))
 (.skip) [2, 10]))
 (.seq (.reg [⟨some 54, .x (.mv (.t 10)), .none, false, []⟩,
  ⟨some 55, .x (.nilck (.t 54)), .none, false, []⟩,
  ⟨some 56, .x (.fadr 2 (.t 55)), .none, false, []⟩,
  ⟨some 57, .x (.load false 1 (.t 56)), .none, false, []⟩,
  ⟨some 58, .x (.mv (.t 2)), .none, false, []⟩,
  ⟨some 59, .x (.iadr 1 .none (.t 57) (.t 58)), .none, false, []⟩,
  ⟨some 8, .x (.asg (.t 59)), .none, false, []⟩,
  ⟨some 9, .x (.asg (.k (.int .i64 0))), .none, false, []⟩] false [8, 9])
 (.ret)))))⟩
def h89 : HF := ⟨2, [.cell 4 true 3],
 .seq (.reg [⟨some 2, .x (.box (.t 0)), .none, false, []⟩,
  ⟨some 4, .x (.alloc [.nils, .nils, .nils]), .none, false, []⟩] false [1, 2, 4])
 (.seq (.reg [⟨some 5, .x (.alloc [.nils, .nils, .nils]), .none, false, []⟩] false [1, 2, 4, 5])
 (.seq (.reg [⟨some 6, .x (.alloc [.nils]), .none, false, []⟩] false [1, 2, 4, 5, 6])
 (.seq (.reg [⟨some 17, .x (.mkfn 118 [.t 6]), .none, false, []⟩,
  ⟨some 7, .x (.asg (.t 17)), .none, false, []⟩] false [1, 2, 4, 5, 6, 7])
 (.seq (.seq (.reg [⟨some 18, .x (.mv (.t 1)), .none, false, []⟩,
  ⟨some 19, .x (.len false (.t 18)), .none, false, []⟩,
  ⟨some 20, .x (.mv (.k (.int .i64 0))), .none, false, []⟩] false [2, 4, 5, 6, 7, 18, 19, 20])
 (.block 0 (.loop (.seq (.reg [⟨some 21, .x (.bin .lss (.t 20) (.t 19)), .none, false, []⟩] false [2, 4, 5, 6, 7, 18, 19, 20, 21])
   (.seq (.cond (.t 21) (.skip)
   (.exit 0 [2, 4, 5, 6, 7]) [2, 4, 5, 6, 7, 18, 19, 20])
   (.seq (.block 1 (.seq (.reg [⟨some 22, .x (.iadr 1 .none (.t 18) (.t 20)), .none, false, []⟩,
     ⟨some 23, .x (.load false 1 (.t 22)), .none, false, []⟩,
     ⟨some 9, .x (.asg (.t 23)), .none, false, []⟩] false [2, 4, 5, 6, 7, 9, 18, 19, 20])
    (.reg [⟨some 24, .x (.fadr 0 (.t 5)), .none, false, []⟩,
     ⟨some 25, .x (.load false 1 (.t 24)), .none, false, [4]⟩,
     ⟨some 26, .x (.mv (.t 7)), .none, false, []⟩,
     ⟨some 27, .x (.mv (.t 9)), .none, false, []⟩,
     ⟨some 28, .x (.callv (.t 26) [.t 27]), .none, true, []⟩,
     ⟨some 29, .x (.bsl 1 1 [.int .i64 0] [(0, 1, .t 28)]), .none, false, []⟩,
     ⟨some 30, .x (.app 1 8 (.t 25) (.t 29)), .none, true, []⟩,
     ⟨some 31, .x (.fadr 0 (.t 5)), .none, false, []⟩,
     ⟨.none, .x (.store 1 (.t 31) (.t 30)), .none, true, []⟩] true [2, 4, 5, 6, 7, 18, 19, 20])) [2, 4, 5, 6, 7, 18, 19, 20])
   (.reg [⟨some 32, .x (.bin .add (.t 20) (.k (.int .i64 1))), .none, false, []⟩,
    ⟨some 20, .x (.mv (.t 32)), .none, false, []⟩] false [2, 4, 5, 6, 7, 18, 19, 20])))) [2, 4, 5, 6, 7, 18, 19, 20]) [2, 4, 5, 6, 7]))
 (.seq (.seq (.reg [⟨some 10, .x (.asg (.k (.int .i64 0))), .none, false, []⟩] false [2, 4, 5, 6, 7, 10])
 (.block 2 (.loop (.seq (.seq (.reg [⟨some 33, .x (.mv (.t 10)), .none, false, []⟩,
    ⟨some 34, .x (.load false 1 (.t 6)), .none, false, []⟩,
    ⟨some 35, .x (.len false (.t 34)), .none, false, []⟩,
    ⟨some 36, .x (.bin .lss (.t 33) (.t 35)), .none, false, []⟩] false [2, 4, 5, 6, 7, 10, 36])
   (.cond (.t 36) (.skip)
   (.exit 2 [4, 5]) [2, 4, 5, 6, 7, 10]))
   (.seq (.block 3 (.seq (.reg [⟨some 39, .x (.fadr 0 (.t 2)), .none, false, []⟩,
     ⟨some 40, .x (.load false 1 (.t 39)), .none, false, []⟩,
     ⟨some 41, .x (.load false 1 (.t 6)), .none, false, []⟩,
     ⟨some 42, .x (.mv (.t 10)), .none, false, []⟩,
     ⟨some 43, .x (.iadr 1 .none (.t 41) (.t 42)), .none, false, []⟩,
     ⟨some 44, .x (.load false 1 (.t 43)), .none, false, []⟩,
     ⟨some 45, .x (.callv (.t 40) [.t 44]), .none, true, []⟩,
     ⟨some 11, .x (.alloc [.int .i64 0, .int .i64 0]), .none, false, []⟩,
     ⟨.none, .x (.store 2 (.t 11) (.t 45)), .none, true, []⟩] true [2, 4, 5, 6, 7, 10, 11])
    (.seq (.reg [⟨some 46, .x (.fadr 0 (.t 11)), .none, false, []⟩,
     ⟨some 47, .x (.load false 1 (.t 46)), .none, false, []⟩,
     ⟨some 48, .x (.mksl 1 8 [.int .i64 0] (.t 47) (.t 47)), .none, false, []⟩,
     ⟨some 12, .x (.asg (.t 48)), .none, false, []⟩] false [2, 4, 5, 6, 7, 10, 11, 12])
    (.seq (.seq (.reg [⟨some 49, .x (.mv (.t 12)), .none, false, []⟩,
     ⟨some 50, .x (.len false (.t 49)), .none, false, []⟩,
     ⟨some 51, .x (.mv (.k (.int .i64 0))), .none, false, []⟩] false [2, 4, 5, 6, 7, 10, 11, 12, 50, 51])
    (.block 4 (.loop (.seq (.reg [⟨some 52, .x (.bin .lss (.t 51) (.t 50)), .none, false, []⟩] false [2, 4, 5, 6, 7, 10, 11, 12, 50, 51, 52])
      (.seq (.cond (.t 52) (.skip)
      (.exit 4 [2, 4, 5, 6, 7, 10, 11, 12]) [2, 4, 5, 6, 7, 10, 11, 12, 50, 51])
      (.seq (.block 5 (.seq (.reg [⟨some 53, .x (.mv (.t 51)), .none, false, []⟩,
        ⟨some 13, .x (.asg (.t 53)), .none, false, []⟩] false [2, 4, 5, 6, 7, 10, 11, 12, 13, 50, 51])
       (.seq (.reg [⟨some 54, .x (.load true 2 (.t 11)), .none, false, []⟩,
        ⟨some 55, .x (.mv (.t 13)), .none, false, []⟩,
        ⟨some 56, .x (.call 98 [.t 54, .t 55] []), .none, false, []⟩,
        ⟨some 14, .x (.asg (.t 56)), .none, false, []⟩] false [2, 4, 5, 6, 7, 10, 11, 12, 13, 14, 50, 51])
       (.seq (.reg [⟨some 58, .x (.fadr 1 (.t 2)), .none, false, []⟩,
        ⟨some 59, .x (.load false 1 (.t 58)), .none, false, []⟩,
        ⟨some 60, .x (.load false 1 (.t 6)), .none, false, []⟩,
        ⟨some 61, .x (.mv (.t 10)), .none, false, []⟩,
        ⟨some 62, .x (.iadr 1 .none (.t 60) (.t 61)), .none, false, []⟩,
        ⟨some 63, .x (.load false 1 (.t 62)), .none, false, []⟩,
        ⟨some 64, .x (.mv (.t 13)), .none, false, []⟩,
        ⟨some 65, .x (.mv (.t 14)), .none, false, []⟩,
        ⟨some 66, .x (.callv (.t 59) [.t 63, .t 64, .t 65]), .none, true, []⟩,
        ⟨some 57, .x (.mv (.t 66)), .none, false, []⟩,
        ⟨some 67, .x (.ext (.t 57) 0), .none, false, []⟩,
        ⟨some 68, .x (.ext (.t 57) 1), .none, false, []⟩,
        ⟨some 15, .x (.asg (.t 67)), .none, false, []⟩,
        ⟨some 16, .x (.asg (.t 68)), .none, false, []⟩] true [2, 4, 5, 6, 7, 10, 11, 12, 13, 14, 15, 50, 51])
       (.seq (.seq (.reg [⟨some 69, .x (.mv (.t 14)), .none, false, []⟩] false [2, 4, 5, 6, 7, 10, 11, 12, 13, 15, 50, 51, 69])
       (.cond (.t 69) (.reg [⟨some 70, .x (.mv (.t 7)), .none, false, []⟩,
         ⟨some 71, .x (.mv (.t 15)), .none, false, []⟩,
         ⟨some 72, .x (.callv (.t 70) [.t 71]), .none, false, []⟩,
         ⟨some 15, .x (.asg (.t 72)), .none, false, []⟩] false [2, 4, 5, 6, 7, 10, 11, 12, 13, 15, 50, 51])
       (.skip) [2, 4, 5, 6, 7, 10, 11, 12, 13, 15, 50, 51]))
       (.reg [⟨some 73, .x (.mv (.t 12)), .none, false, []⟩,
        ⟨some 74, .x (.mv (.t 13)), .none, false, []⟩,
        ⟨some 75, .x (.mv (.t 15)), .none, false, []⟩,
        ⟨some 76, .x (.iadr 1 .none (.t 73) (.t 74)), .none, false, []⟩,
        ⟨.none, .x (.store 1 (.t 76) (.t 75)), .none, false, []⟩] false [2, 4, 5, 6, 7, 10, 11, 12, 50, 51]))))) [2, 4, 5, 6, 7, 10, 11, 12, 50, 51])
      (.reg [⟨some 77, .x (.bin .add (.t 51) (.k (.int .i64 1))), .none, false, []⟩,
       ⟨some 51, .x (.mv (.t 77)), .none, false, []⟩] false [2, 4, 5, 6, 7, 10, 11, 12, 50, 51])))) [2, 4, 5, 6, 7, 10, 11, 12, 50, 51]) [2, 4, 5, 6, 7, 10, 11, 12]))
    (.reg [⟨some 78, .x (.fadr 1 (.t 5)), .none, false, []⟩,
     ⟨some 79, .x (.load false 1 (.t 78)), .none, false, []⟩,
     ⟨some 80, .x (.load true 2 (.t 11)), .none, false, []⟩,
     ⟨some 81, .x (.bsl 2 1 [.int .i64 0, .int .i64 0] [(0, 2, .t 80)]), .none, false, []⟩,
     ⟨some 82, .x (.app 2 16 (.t 79) (.t 81)), .none, true, []⟩,
     ⟨some 83, .x (.fadr 2 (.t 5)), .none, false, []⟩,
     ⟨some 84, .x (.load false 1 (.t 83)), .none, false, [4]⟩,
     ⟨some 85, .x (.mv (.t 12)), .none, false, []⟩,
     ⟨some 86, .x (.bsl 1 1 [.nils] [(0, 1, .t 85)]), .none, false, []⟩,
     ⟨some 87, .x (.app 1 24 (.t 84) (.t 86)), .none, true, []⟩,
     ⟨some 88, .x (.fadr 1 (.t 5)), .none, false, []⟩,
     ⟨.none, .x (.store 1 (.t 88) (.t 82)), .none, true, []⟩,
     ⟨some 89, .x (.fadr 2 (.t 5)), .none, false, []⟩,
     ⟨.none, .x (.store 1 (.t 89) (.t 87)), .none, true, []⟩] true [2, 4, 5, 6, 7, 10])))) [2, 4, 5, 6, 7, 10])
   (.reg [⟨some 37, .x (.mv (.t 10)), .none, false, []⟩,
    ⟨some 38, .x (.bin .add (.t 37) (.k (.int .i64 1))), .none, false, []⟩,
    ⟨some 10, .x (.asg (.t 38)), .none, false, []⟩] false [2, 4, 5, 6, 7, 10]))) [2, 4, 5, 6, 7, 10]) [4, 5]))
 (.seq (.reg [⟨some 90, .x (.load true 3 (.t 5)), .none, false, []⟩,
  ⟨.none, .x (.store 3 (.t 4) (.t 90)), .none, false, []⟩] false [4])
 (.ret)))))))⟩
def h90 : HF := ⟨2, [.cell 4 true 2],
 .seq (.reg [⟨some 4, .x (.alloc [.int .i64 0, .int .i64 0]), .none, false, []⟩] false [0, 1, 4])
 (.seq (.seq (.reg [⟨some 5, .x (.mv (.t 1)), .none, false, []⟩,
  ⟨some 6, .x (.bin .lss (.t 5) (.k (.int .i64 1))), .none, false, []⟩,
  ⟨some 7, .x (.mv (.t 6)), .none, false, []⟩,
  ⟨some 8, .x (.mv (.t 1)), some (7, false), false, []⟩,
  ⟨some 9, .x (.mv (.t 0)), some (7, false), false, []⟩,
  ⟨some 10, .x (.nilck (.t 9)), some (7, false), false, []⟩,
  ⟨some 11, .x (.fadr 0 (.t 10)), some (7, false), false, []⟩,
  ⟨some 12, .x (.load false 1 (.t 11)), some (7, false), false, []⟩,
  ⟨some 13, .x (.len false (.t 12)), some (7, false), false, []⟩,
  ⟨some 14, .x (.bin .gtr (.t 8) (.t 13)), some (7, false), false, []⟩,
  ⟨some 15, .x (.pick (.t 7) (.k (.bool true)) (.t 14)), .none, false, []⟩] false [0, 1, 4, 15])
 (.cond (.t 15) (.seq (.reg [⟨some 16, .x (.build [.int .i64 0, .int .i64 0] []), .none, false, []⟩,
   ⟨.none, .x (.store 2 (.t 4) (.t 16)), .none, false, []⟩] false [4])
  (.ret))
 (.skip) [0, 1, 4]))
 (.seq (.reg [⟨some 17, .x (.mv (.t 0)), .none, false, []⟩,
  ⟨some 18, .x (.nilck (.t 17)), .none, false, []⟩,
  ⟨some 19, .x (.fadr 0 (.t 18)), .none, false, []⟩,
  ⟨some 20, .x (.load false 1 (.t 19)), .none, false, []⟩,
  ⟨some 21, .x (.mv (.t 1)), .none, false, []⟩,
  ⟨some 22, .x (.bin .sub (.t 21) (.k (.int .i64 1))), .none, false, []⟩,
  ⟨some 23, .x (.iadr 3 .none (.t 20) (.t 22)), .none, false, []⟩,
  ⟨some 24, .x (.fadr 0 (.t 23)), .none, false, []⟩,
  ⟨some 25, .x (.load true 2 (.t 24)), .none, false, []⟩,
  ⟨.none, .x (.store 2 (.t 4) (.t 25)), .none, false, []⟩] false [4])
 (.ret)))⟩
def h91 : HF := ⟨4, [.tmp 8, .tmp 9],
 .seq (.reg [⟨some 8, .x (.asg (.k (.int .i64 0))), .none, false, []⟩,
  ⟨some 9, .x (.asg (.k (.int .i64 0))), .none, false, []⟩] false [0, 1, 2, 3])
 (.seq (.reg [⟨some 13, .x (.mv (.t 0)), .none, false, []⟩,
  ⟨some 14, .x (.mv (.t 1)), .none, false, []⟩,
  ⟨some 15, .x (.mv (.t 2)), .none, false, []⟩,
  ⟨some 16, .x (.mv (.t 3)), .none, false, []⟩,
  ⟨some 17, .x (.call 87 [.t 13, .t 14, .t 15, .t 16] []), .none, false, []⟩,
  ⟨some 12, .x (.mv (.t 17)), .none, false, []⟩,
  ⟨some 18, .x (.ext (.t 12) 0), .none, false, []⟩,
  ⟨some 19, .x (.ext (.t 12) 1), .none, false, []⟩,
  ⟨some 10, .x (.asg (.t 18)), .none, false, []⟩,
  ⟨some 11, .x (.asg (.t 19)), .none, false, []⟩] false [10, 11])
 (.seq (.seq (.reg [⟨some 20, .x (.mv (.t 11)), .none, false, []⟩,
  ⟨some 21, .x (.bin .neq (.t 20) (.k (.int .i64 0))), .none, false, []⟩] false [10, 11, 21])
 (.cond (.t 21) (.seq (.reg [⟨some 22, .x (.mv (.t 11)), .none, false, []⟩,
   ⟨some 8, .x (.asg (.k (.int .i64 0))), .none, false, []⟩,
   ⟨some 9, .x (.asg (.t 22)), .none, false, []⟩] false [8, 9])
  (.ret))
 (.skip) [10]))
 (.seq (.reg [⟨some 23, .x (.mv (.t 10)), .none, false, []⟩,
  ⟨some 24, .x (.nilck (.t 23)), .none, false, []⟩,
  ⟨some 25, .x (.load false 1 (.t 24)), .none, false, []⟩,
  ⟨some 8, .x (.asg (.t 25)), .none, false, []⟩,
  ⟨some 9, .x (.asg (.k (.int .i64 0))), .none, false, []⟩] false [8, 9])
 (.ret))))⟩
def h95 : HF := ⟨2, [.tmp 4],
 .seq (.reg [⟨some 2, .x (.box (.t 0)), .none, false, []⟩,
  ⟨some 4, .x (.asg (.k (.int .i64 0))), .none, false, []⟩] false [1, 2])
 (.seq (.reg [⟨some 7, .x (.fadr 0 (.t 2)), .none, false, []⟩,
  ⟨some 8, .x (.load false 1 (.t 7)), .none, false, []⟩,
  ⟨some 9, .x (.len false (.t 8)), .none, false, []⟩,
  ⟨some 10, .x (.fadr 1 (.t 2)), .none, false, []⟩,
  ⟨some 11, .x (.load false 1 (.t 10)), .none, false, []⟩,
  ⟨some 12, .x (.len false (.t 11)), .none, false, []⟩,
  ⟨some 13, .x (.bin .add (.t 9) (.t 12)), .none, false, []⟩,
  ⟨some 5, .x (.asg (.t 13)), .none, false, []⟩] false [1, 2, 5])
 (.seq (.seq (.reg [⟨some 6, .x (.asg (.k (.int .i64 0))), .none, false, []⟩] false [1, 2, 5, 6])
 (.block 0 (.loop (.seq (.seq (.reg [⟨some 14, .x (.mv (.t 6)), .none, false, []⟩,
    ⟨some 15, .x (.fadr 2 (.t 2)), .none, false, []⟩,
    ⟨some 16, .x (.load false 1 (.t 15)), .none, false, []⟩,
    ⟨some 17, .x (.len false (.t 16)), .none, false, []⟩,
    ⟨some 18, .x (.bin .lss (.t 14) (.t 17)), .none, false, []⟩,
    ⟨some 19, .x (.mv (.t 18)), .none, false, []⟩,
    ⟨some 20, .x (.mv (.t 5)), some (19, true), false, []⟩,
    ⟨some 21, .x (.mv (.t 1)), some (19, true), false, []⟩,
    ⟨some 22, .x (.bin .leq (.t 20) (.t 21)), some (19, true), false, []⟩,
    ⟨some 23, .x (.pick (.t 19) (.t 22) (.k (.bool false))), .none, false, []⟩] false [1, 2, 5, 6, 23])
   (.cond (.t 23) (.skip)
   (.exit 0 [5]) [1, 2, 5, 6]))
   (.seq (.block 1 (.reg [⟨some 26, .x (.mv (.t 5)), .none, false, []⟩,
     ⟨some 27, .x (.bin .add (.t 26) (.k (.int .i64 1))), .none, false, []⟩,
     ⟨some 28, .x (.fadr 2 (.t 2)), .none, false, []⟩,
     ⟨some 29, .x (.load false 1 (.t 28)), .none, false, []⟩,
     ⟨some 30, .x (.mv (.t 6)), .none, false, []⟩,
     ⟨some 31, .x (.iadr 1 .none (.t 29) (.t 30)), .none, false, []⟩,
     ⟨some 32, .x (.load false 1 (.t 31)), .none, false, []⟩,
     ⟨some 33, .x (.len false (.t 32)), .none, false, []⟩,
     ⟨some 34, .x (.bin .add (.t 27) (.t 33)), .none, false, []⟩,
     ⟨some 5, .x (.asg (.t 34)), .none, false, []⟩] false [1, 2, 5, 6]) [1, 2, 5, 6])
   (.reg [⟨some 24, .x (.mv (.t 6)), .none, false, []⟩,
    ⟨some 25, .x (.bin .add (.t 24) (.k (.int .i64 1))), .none, false, []⟩,
    ⟨some 6, .x (.asg (.t 25)), .none, false, []⟩] false [1, 2, 5, 6]))) [1, 2, 5, 6]) [5]))
 (.seq (.reg [⟨some 35, .x (.mv (.t 5)), .none, false, []⟩,
  ⟨some 4, .x (.asg (.t 35)), .none, false, []⟩] false [4])
 (.ret))))⟩
def h96 : HF := ⟨2, [.tmp 3],
 .seq (.reg [⟨some 3, .x (.asg (.k (.bool false))), .none, false, []⟩] false [0, 1])
 (.seq (.seq (.reg [⟨some 4, .x (.mv (.t 0)), .none, false, []⟩,
  ⟨some 5, .x (.bin .lss (.t 4) (.k (.int .i64 0))), .none, false, []⟩,
  ⟨some 6, .x (.mv (.t 5)), .none, false, []⟩,
  ⟨some 7, .x (.mv (.t 0)), some (6, false), false, []⟩,
  ⟨some 8, .x (.load false 1 (.t 1)), some (6, false), false, []⟩,
  ⟨some 9, .x (.bin .add (.t 8) (.k (.int .i64 1))), some (6, false), false, []⟩,
  ⟨some 10, .x (.bin .gtr (.t 7) (.t 9)), some (6, false), false, []⟩,
  ⟨some 11, .x (.pick (.t 6) (.k (.bool true)) (.t 10)), .none, false, []⟩] false [0, 1, 11])
 (.cond (.t 11) (.seq (.reg [⟨some 3, .x (.asg (.k (.bool false))), .none, false, []⟩] false [3])
  (.ret))
 (.skip) [0, 1]))
 (.seq (.reg [⟨some 12, .x (.load false 1 (.t 1)), .none, false, []⟩,
  ⟨some 13, .x (.mv (.t 0)), .none, false, []⟩,
  ⟨some 14, .x (.mx (.t 12) (.t 13)), .none, false, []⟩,
  ⟨.none, .x (.store 1 (.t 1) (.t 14)), .none, false, []⟩] false [])
 (.seq (.reg [⟨some 3, .x (.asg (.k (.bool true))), .none, false, []⟩] false [3])
 (.ret))))⟩
def h97 : HF := ⟨1, [.tmp 2],
 .seq (.reg [⟨some 1, .x (.box (.t 0)), .none, false, []⟩,
  ⟨some 2, .x (.asg (.k (.int .i64 0))), .none, false, []⟩] false [1])
 (.seq (.seq (.reg [⟨some 3, .x (.fadr 0 (.t 1)), .none, false, []⟩,
  ⟨some 4, .x (.load false 1 (.t 3)), .none, false, []⟩,
  ⟨some 5, .x (.bin .lss (.t 4) (.k (.int .i64 0))), .none, false, []⟩,
  ⟨some 6, .x (.mv (.t 5)), .none, false, []⟩,
  ⟨some 7, .x (.fadr 0 (.t 1)), some (6, false), false, []⟩,
  ⟨some 8, .x (.load false 1 (.t 7)), some (6, false), false, []⟩,
  ⟨some 9, .x (.bin .gtr (.t 8) (.k (.int .i64 16))), some (6, false), false, []⟩,
  ⟨some 10, .x (.pick (.t 6) (.k (.bool true)) (.t 9)), .none, false, []⟩,
  ⟨some 11, .x (.mv (.t 10)), .none, false, []⟩,
  ⟨some 12, .x (.fadr 1 (.t 1)), some (11, false), false, []⟩,
  ⟨some 13, .x (.load false 1 (.t 12)), some (11, false), false, []⟩,
  ⟨some 14, .x (.bin .lss (.t 13) (.k (.int .i64 0))), some (11, false), false, []⟩,
  ⟨some 15, .x (.pick (.t 11) (.k (.bool true)) (.t 14)), .none, false, []⟩,
  ⟨some 16, .x (.mv (.t 15)), .none, false, []⟩,
  ⟨some 17, .x (.fadr 1 (.t 1)), some (16, false), false, []⟩,
  ⟨some 18, .x (.load false 1 (.t 17)), some (16, false), false, []⟩,
  ⟨some 19, .x (.fadr 0 (.t 1)), some (16, false), false, []⟩,
  ⟨some 20, .x (.load false 1 (.t 19)), some (16, false), false, []⟩,
  ⟨some 21, .x (.bin .shl (.k (.int .i64 1)) (.t 20)), some (16, false), false, []⟩,
  ⟨some 22, .x (.bin .geq (.t 18) (.t 21)), some (16, false), false, []⟩,
  ⟨some 23, .x (.pick (.t 16) (.k (.bool true)) (.t 22)), .none, false, []⟩] true [23])
 (.cond (.t 23) (.seq (.reg [⟨some 2, .x (.asg (.k (.int .i64 16))), .none, false, []⟩] false [2])
  (.ret))
 (.skip) []))
 (.seq (.reg [⟨some 2, .x (.asg (.k (.int .i64 0))), .none, false, []⟩] false [2])
 (.ret)))⟩
def h98 : HF := ⟨2, [.tmp 4],
 .seq (.reg [⟨some 2, .x (.box (.t 0)), .none, false, []⟩,
  ⟨some 4, .x (.asg (.k (.bool false))), .none, false, []⟩] false [1, 2])
 (.seq (.reg [⟨some 5, .x (.mv (.t 1)), .none, false, []⟩,
  ⟨some 6, .x (.bin .geq (.t 5) (.k (.int .i64 0))), .none, false, []⟩,
  ⟨some 7, .x (.mv (.t 6)), .none, false, []⟩,
  ⟨some 8, .x (.mv (.t 1)), some (7, true), false, []⟩,
  ⟨some 9, .x (.fadr 0 (.t 2)), some (7, true), false, []⟩,
  ⟨some 10, .x (.load false 1 (.t 9)), some (7, true), false, []⟩,
  ⟨some 11, .x (.bin .lss (.t 8) (.t 10)), some (7, true), false, []⟩,
  ⟨some 12, .x (.pick (.t 7) (.t 11) (.k (.bool false))), .none, false, []⟩,
  ⟨some 13, .x (.mv (.t 12)), .none, false, []⟩,
  ⟨some 14, .x (.fadr 1 (.t 2)), some (13, true), false, []⟩,
  ⟨some 15, .x (.load false 1 (.t 14)), some (13, true), false, [11]⟩,
  ⟨some 16, .x (.call 120 [] []), some (13, true), true, []⟩,
  ⟨some 17, .x (.mv (.t 1)), some (13, true), false, []⟩,
  ⟨some 18, .x (.idx false 1 16 (.t 16) (.t 17)), some (13, true), false, []⟩,
  ⟨some 19, .x (.bin .and (.t 15) (.t 18)), some (13, true), false, []⟩,
  ⟨some 20, .x (.bin .neq (.t 19) (.k (.int .i64 0))), some (13, true), false, []⟩,
  ⟨some 21, .x (.pick (.t 13) (.t 20) (.k (.bool false))), .none, false, []⟩,
  ⟨some 4, .x (.asg (.t 21)), .none, false, []⟩] true [4])
 (.ret))⟩
def h99 : HF := ⟨2, [.tmp 4],
 .seq (.reg [⟨some 4, .x (.asg (.k (.int .i64 0))), .none, false, []⟩] false [0, 1])
 (.seq (.seq (.reg [⟨some 5, .x (.mv (.t 0)), .none, false, []⟩,
  ⟨some 6, .x (.bin .lss (.t 5) (.k (.int .i64 0))), .none, false, []⟩,
  ⟨some 7, .x (.mv (.t 6)), .none, false, []⟩,
  ⟨some 8, .x (.mv (.t 1)), some (7, false), false, []⟩,
  ⟨some 9, .x (.bin .lss (.t 8) (.k (.int .i64 0))), some (7, false), false, []⟩,
  ⟨some 10, .x (.pick (.t 7) (.k (.bool true)) (.t 9)), .none, false, []⟩,
  ⟨some 11, .x (.mv (.t 10)), .none, false, []⟩,
  ⟨some 12, .x (.mv (.t 1)), some (11, false), false, []⟩,
  ⟨some 13, .x (.mv (.t 0)), some (11, false), false, []⟩,
  ⟨some 14, .x (.bin .add (.t 13) (.k (.int .i64 1))), some (11, false), false, []⟩,
  ⟨some 15, .x (.bin .gtr (.t 12) (.t 14)), some (11, false), false, []⟩,
  ⟨some 16, .x (.pick (.t 11) (.k (.bool true)) (.t 15)), .none, false, []⟩] false [0, 1, 16])
 (.cond (.t 16) (.seq (.reg [⟨some 4, .x (.asg (.k (.int .i64 (-1)))), .none, false, []⟩] false [4])
  (.ret))
 (.skip) [0, 1]))
 (.seq (.seq (.reg [⟨some 17, .x (.mv (.t 1)), .none, false, []⟩,
  ⟨some 18, .x (.mv (.t 0)), .none, false, []⟩,
  ⟨some 19, .x (.bin .gtr (.t 17) (.t 18)), .none, false, []⟩] false [0, 1, 19])
 (.cond (.t 19) (.seq (.reg [⟨some 20, .x (.mv (.t 1)), .none, false, []⟩,
   ⟨some 4, .x (.asg (.t 20)), .none, false, []⟩] false [4])
  (.ret))
 (.skip) [0]))
 (.seq (.reg [⟨some 21, .x (.mv (.t 0)), .none, false, []⟩,
  ⟨some 4, .x (.asg (.t 21)), .none, false, []⟩] false [4])
 (.ret))))⟩
def h100 : HF := ⟨2, [.tmp 4],
 .seq (.reg [⟨some 4, .x (.asg (.k (.bool false))), .none, false, []⟩] false [0, 1])
 (.seq (.seq (.reg [⟨some 6, .x (.mv (.t 0)), .none, false, []⟩,
  ⟨some 7, .x (.len false (.t 6)), .none, false, []⟩,
  ⟨some 8, .x (.mv (.t 1)), .none, false, []⟩,
  ⟨some 9, .x (.len false (.t 8)), .none, false, []⟩,
  ⟨some 10, .x (.bin .neq (.t 7) (.t 9)), .none, false, []⟩] false [0, 1, 10])
 (.cond (.t 10) (.seq (.reg [⟨some 4, .x (.asg (.k (.bool false))), .none, false, []⟩] false [4])
  (.ret))
 (.skip) [0, 1]))
 (.seq (.seq (.reg [⟨some 11, .x (.mv (.t 0)), .none, false, []⟩,
  ⟨some 12, .x (.len false (.t 11)), .none, false, []⟩,
  ⟨some 13, .x (.mv (.k (.int .i64 0))), .none, false, []⟩] false [0, 1, 12, 13])
 (.block 0 (.loop (.seq (.reg [⟨some 14, .x (.bin .lss (.t 13) (.t 12)), .none, false, []⟩] false [0, 1, 12, 13, 14])
   (.seq (.cond (.t 14) (.skip)
   (.exit 0 []) [0, 1, 12, 13])
   (.seq (.block 1 (.seq (.reg [⟨some 15, .x (.mv (.t 13)), .none, false, []⟩,
     ⟨some 5, .x (.asg (.t 15)), .none, false, []⟩] false [0, 1, 5, 12, 13])
    (.seq (.reg [⟨some 16, .x (.mv (.t 0)), .none, false, []⟩,
     ⟨some 17, .x (.mv (.t 5)), .none, false, []⟩,
     ⟨some 18, .x (.iadr 1 .none (.t 16) (.t 17)), .none, false, []⟩,
     ⟨some 19, .x (.load false 1 (.t 18)), .none, false, []⟩,
     ⟨some 20, .x (.mv (.t 1)), .none, false, []⟩,
     ⟨some 21, .x (.mv (.t 5)), .none, false, []⟩,
     ⟨some 22, .x (.iadr 1 .none (.t 20) (.t 21)), .none, false, []⟩,
     ⟨some 23, .x (.load false 1 (.t 22)), .none, false, []⟩,
     ⟨some 24, .x (.bin .neq (.t 19) (.t 23)), .none, false, []⟩] true [0, 1, 12, 13, 24])
    (.cond (.t 24) (.seq (.reg [⟨some 4, .x (.asg (.k (.bool false))), .none, false, []⟩] false [4])
     (.ret))
    (.skip) [0, 1, 12, 13]))) [0, 1, 12, 13])
   (.reg [⟨some 25, .x (.bin .add (.t 13) (.k (.int .i64 1))), .none, false, []⟩,
    ⟨some 13, .x (.mv (.t 25)), .none, false, []⟩] false [0, 1, 12, 13])))) [0, 1, 12, 13]) []))
 (.seq (.reg [⟨some 4, .x (.asg (.k (.bool true))), .none, false, []⟩] false [4])
 (.ret))))⟩
def h101 : HF := ⟨2, [.tmp 4],
 .seq (.reg [⟨some 4, .x (.asg (.k (.bool false))), .none, false, []⟩] false [0, 1])
 (.seq (.seq (.reg [⟨some 6, .x (.mv (.t 0)), .none, false, []⟩,
  ⟨some 7, .x (.len false (.t 6)), .none, false, []⟩,
  ⟨some 8, .x (.mv (.t 1)), .none, false, []⟩,
  ⟨some 9, .x (.len false (.t 8)), .none, false, []⟩,
  ⟨some 10, .x (.bin .neq (.t 7) (.t 9)), .none, false, []⟩] false [0, 1, 10])
 (.cond (.t 10) (.seq (.reg [⟨some 4, .x (.asg (.k (.bool false))), .none, false, []⟩] false [4])
  (.ret))
 (.skip) [0, 1]))
 (.seq (.seq (.reg [⟨some 11, .x (.mv (.t 0)), .none, false, []⟩,
  ⟨some 12, .x (.len false (.t 11)), .none, false, []⟩,
  ⟨some 13, .x (.mv (.k (.int .i64 0))), .none, false, []⟩] false [0, 1, 12, 13])
 (.block 0 (.loop (.seq (.reg [⟨some 14, .x (.bin .lss (.t 13) (.t 12)), .none, false, []⟩] false [0, 1, 12, 13, 14])
   (.seq (.cond (.t 14) (.skip)
   (.exit 0 []) [0, 1, 12, 13])
   (.seq (.block 1 (.seq (.reg [⟨some 15, .x (.mv (.t 13)), .none, false, []⟩,
     ⟨some 5, .x (.asg (.t 15)), .none, false, []⟩] false [0, 1, 5, 12, 13])
    (.seq (.reg [⟨some 16, .x (.mv (.t 0)), .none, false, []⟩,
     ⟨some 17, .x (.mv (.t 5)), .none, false, []⟩,
     ⟨some 18, .x (.iadr 2 .none (.t 16) (.t 17)), .none, false, []⟩,
     ⟨some 19, .x (.load true 2 (.t 18)), .none, false, []⟩,
     ⟨some 20, .x (.mv (.t 1)), .none, false, []⟩,
     ⟨some 21, .x (.mv (.t 5)), .none, false, []⟩,
     ⟨some 22, .x (.iadr 2 .none (.t 20) (.t 21)), .none, false, []⟩,
     ⟨some 23, .x (.load true 2 (.t 22)), .none, false, []⟩,
     ⟨some 24, .x (.aeq true [.int .i64 0, .int .i64 0] (.t 19) (.t 23)), .none, false, []⟩] true [0, 1, 12, 13, 24])
    (.cond (.t 24) (.seq (.reg [⟨some 4, .x (.asg (.k (.bool false))), .none, false, []⟩] false [4])
     (.ret))
    (.skip) [0, 1, 12, 13]))) [0, 1, 12, 13])
   (.reg [⟨some 25, .x (.bin .add (.t 13) (.k (.int .i64 1))), .none, false, []⟩,
    ⟨some 13, .x (.mv (.t 25)), .none, false, []⟩] false [0, 1, 12, 13])))) [0, 1, 12, 13]) []))
 (.seq (.reg [⟨some 4, .x (.asg (.k (.bool true))), .none, false, []⟩] false [4])
 (.ret))))⟩
def h102 : HF := ⟨2, [.tmp 4],
 .seq (.reg [⟨some 4, .x (.asg (.k (.bool false))), .none, false, []⟩] false [0, 1])
 (.seq (.seq (.reg [⟨some 6, .x (.mv (.t 0)), .none, false, []⟩,
  ⟨some 7, .x (.len false (.t 6)), .none, false, []⟩,
  ⟨some 8, .x (.mv (.t 1)), .none, false, []⟩,
  ⟨some 9, .x (.len false (.t 8)), .none, false, []⟩,
  ⟨some 10, .x (.bin .neq (.t 7) (.t 9)), .none, false, []⟩] false [0, 1, 10])
 (.cond (.t 10) (.seq (.reg [⟨some 4, .x (.asg (.k (.bool false))), .none, false, []⟩] false [4])
  (.ret))
 (.skip) [0, 1]))
 (.seq (.seq (.reg [⟨some 11, .x (.mv (.t 0)), .none, false, []⟩,
  ⟨some 12, .x (.len false (.t 11)), .none, false, []⟩,
  ⟨some 13, .x (.mv (.k (.int .i64 0))), .none, false, []⟩] false [0, 1, 12, 13])
 (.block 0 (.loop (.seq (.reg [⟨some 14, .x (.bin .lss (.t 13) (.t 12)), .none, false, []⟩] false [0, 1, 12, 13, 14])
   (.seq (.cond (.t 14) (.skip)
   (.exit 0 []) [0, 1, 12, 13])
   (.seq (.block 1 (.seq (.reg [⟨some 15, .x (.mv (.t 13)), .none, false, []⟩,
     ⟨some 5, .x (.asg (.t 15)), .none, false, []⟩] false [0, 1, 5, 12, 13])
    (.seq (.reg [⟨some 16, .x (.mv (.t 0)), .none, false, []⟩,
     ⟨some 17, .x (.mv (.t 5)), .none, false, []⟩,
     ⟨some 18, .x (.iadr 1 .none (.t 16) (.t 17)), .none, false, []⟩,
     ⟨some 19, .x (.load false 1 (.t 18)), .none, false, []⟩,
     ⟨some 20, .x (.mv (.t 1)), .none, false, []⟩,
     ⟨some 21, .x (.mv (.t 5)), .none, false, []⟩,
     ⟨some 22, .x (.iadr 1 .none (.t 20) (.t 21)), .none, false, []⟩,
     ⟨some 23, .x (.load false 1 (.t 22)), .none, false, []⟩,
     ⟨some 24, .x (.bin .neq (.t 19) (.t 23)), .none, false, []⟩] true [0, 1, 12, 13, 24])
    (.cond (.t 24) (.seq (.reg [⟨some 4, .x (.asg (.k (.bool false))), .none, false, []⟩] false [4])
     (.ret))
    (.skip) [0, 1, 12, 13]))) [0, 1, 12, 13])
   (.reg [⟨some 25, .x (.bin .add (.t 13) (.k (.int .i64 1))), .none, false, []⟩,
    ⟨some 13, .x (.mv (.t 25)), .none, false, []⟩] false [0, 1, 12, 13])))) [0, 1, 12, 13]) []))
 (.seq (.reg [⟨some 4, .x (.asg (.k (.bool true))), .none, false, []⟩] false [4])
 (.ret))))⟩
def h118 : HF := ⟨2, [.tmp 3],
 .seq (.reg [⟨some 3, .x (.asg (.k (.int .i64 0))), .none, false, []⟩] false [0, 1])
 (.seq (.seq (.reg [⟨some 5, .x (.mv (.t 0)), .none, false, []⟩,
  ⟨some 6, .x (.bin .eql (.t 5) (.k (.int .i64 0))), .none, false, []⟩] false [0, 1, 6])
 (.cond (.t 6) (.seq (.reg [⟨some 3, .x (.asg (.k (.int .i64 0))), .none, false, []⟩] false [3])
  (.ret))
 (.skip) [0, 1]))
 (.seq (.reg [⟨some 7, .x (.load false 1 (.t 1)), .none, false, []⟩,
  ⟨some 8, .x (.mv (.t 0)), .none, false, []⟩,
  ⟨some 9, .x (.call 119 [.t 7, .t 8] []), .none, false, []⟩,
  ⟨some 4, .x (.asg (.t 9)), .none, false, []⟩] false [0, 1, 4])
 (.seq (.seq (.reg [⟨some 10, .x (.mv (.t 4)), .none, false, []⟩,
  ⟨some 11, .x (.bin .lss (.t 10) (.k (.int .i64 0))), .none, false, []⟩] false [0, 1, 4, 11])
 (.cond (.t 11) (.seq (.reg [⟨some 12, .x (.load false 1 (.t 1)), .none, false, []⟩,
   ⟨some 13, .x (.mv (.t 0)), .none, false, []⟩,
   ⟨some 14, .x (.bsl 1 1 [.int .i64 0] [(0, 1, .t 13)]), .none, false, []⟩,
   ⟨some 15, .x (.app 1 8 (.t 12) (.t 14)), .none, false, []⟩,
   ⟨.none, .x (.store 1 (.t 1) (.t 15)), .none, false, []⟩] false [1])
  (.reg [⟨some 16, .x (.load false 1 (.t 1)), .none, false, []⟩,
   ⟨some 17, .x (.len false (.t 16)), .none, false, []⟩,
   ⟨some 18, .x (.bin .sub (.t 17) (.k (.int .i64 1))), .none, false, []⟩,
   ⟨some 4, .x (.asg (.t 18)), .none, false, []⟩] false [4]))
 (.skip) [4]))
 (.seq (.reg [⟨some 19, .x (.mv (.t 4)), .none, false, []⟩,
  ⟨some 20, .x (.bin .add (.t 19) (.k (.int .i64 1))), .none, false, []⟩,
  ⟨some 3, .x (.asg (.t 20)), .none, false, []⟩] false [3])
 (.ret)))))⟩
def h119 : HF := ⟨2, [.tmp 4],
 .seq (.reg [⟨some 4, .x (.asg (.k (.int .i64 0))), .none, false, []⟩] false [0, 1])
 (.seq (.seq (.reg [⟨some 6, .x (.mv (.t 0)), .none, false, []⟩,
  ⟨some 7, .x (.len false (.t 6)), .none, false, []⟩,
  ⟨some 8, .x (.mv (.k (.int .i64 0))), .none, false, []⟩] false [0, 1, 7, 8])
 (.block 0 (.loop (.seq (.reg [⟨some 9, .x (.bin .lss (.t 8) (.t 7)), .none, false, []⟩] false [0, 1, 7, 8, 9])
   (.seq (.cond (.t 9) (.skip)
   (.exit 0 []) [0, 1, 7, 8])
   (.seq (.block 1 (.seq (.reg [⟨some 10, .x (.mv (.t 8)), .none, false, []⟩,
     ⟨some 5, .x (.asg (.t 10)), .none, false, []⟩] false [0, 1, 5, 7, 8])
    (.seq (.reg [⟨some 11, .x (.mv (.t 1)), .none, false, []⟩,
     ⟨some 12, .x (.mv (.t 0)), .none, false, []⟩,
     ⟨some 13, .x (.mv (.t 5)), .none, false, []⟩,
     ⟨some 14, .x (.iadr 1 .none (.t 12) (.t 13)), .none, false, []⟩,
     ⟨some 15, .x (.load false 1 (.t 14)), .none, false, []⟩,
     ⟨some 16, .x (.bin .eql (.t 11) (.t 15)), .none, false, []⟩] false [0, 1, 5, 7, 8, 16])
    (.cond (.t 16) (.seq (.reg [⟨some 17, .x (.mv (.t 5)), .none, false, []⟩,
      ⟨some 4, .x (.asg (.t 17)), .none, false, []⟩] false [4])
     (.ret))
    (.skip) [0, 1, 7, 8]))) [0, 1, 7, 8])
   (.reg [⟨some 18, .x (.bin .add (.t 8) (.k (.int .i64 1))), .none, false, []⟩,
    ⟨some 8, .x (.mv (.t 18)), .none, false, []⟩] false [0, 1, 7, 8])))) [0, 1, 7, 8]) []))
 (.seq (.reg [⟨some 4, .x (.asg (.k (.int .i64 (-1)))), .none, false, []⟩] false [4])
 (.ret)))⟩
def h120 : HF := ⟨0, [.cell 0 true 16],
 .seq (.reg [⟨some 0, .x (.alloc [.int .i64 0, .int .i64 0, .int .i64 0, .int .i64 0, .int .i64 0, .int .i64 0, .int .i64 0, .int .i64 0, .int .i64 0, .int .i64 0, .int .i64 0, .int .i64 0, .int .i64 0, .int .i64 0, .int .i64 0, .int .i64 0]), .none, false, []⟩] false [0])
 (.seq (.reg [⟨some 1, .x (.build [.int .i64 0, .int .i64 0, .int .i64 0, .int .i64 0, .int .i64 0, .int .i64 0, .int .i64 0, .int .i64 0, .int .i64 0, .int .i64 0, .int .i64 0, .int .i64 0, .int .i64 0, .int .i64 0, .int .i64 0, .int .i64 0] [(0, 1, .k (.int .i64 1)), (1, 1, .k (.int .i64 2)), (2, 1, .k (.int .i64 4)), (3, 1, .k (.int .i64 8)), (4, 1, .k (.int .i64 16)), (5, 1, .k (.int .i64 32)), (6, 1, .k (.int .i64 64)), (7, 1, .k (.int .i64 128)), (8, 1, .k (.int .i64 256)), (9, 1, .k (.int .i64 512)), (10, 1, .k (.int .i64 1024)), (11, 1, .k (.int .i64 2048)), (12, 1, .k (.int .i64 4096)), (13, 1, .k (.int .i64 8192)), (14, 1, .k (.int .i64 16384)), (15, 1, .k (.int .i64 32768))]), .none, false, []⟩,
  ⟨.none, .x (.store 16 (.t 0) (.t 1)), .none, false, []⟩] false [0])
 (.ret))⟩
def TL : List (Nat × HF) := [(7, h7), (23, h23), (29, h29), (32, h32), (33, h33), (34, h34), (36, h36), (38, h38), (40, h40), (41, h41), (44, h44), (45, h45), (46, h46), (47, h47), (48, h48), (49, h49), (54, h54), (62, h62), (75, h75), (86, h86), (87, h87), (89, h89), (90, h90), (91, h91), (95, h95), (96, h96), (97, h97), (98, h98), (99, h99), (100, h100), (101, h101), (102, h102), (118, h118), (119, h119), (120, h120)]
def TH : Nat → Option HF := fun f => lookH f TL
end Go.Ab

/-
  Calls that Ab answers; loops at work.
-/
namespace Go.Ab
open Go
set_option linter.unusedVariables false
set_option linter.unusedSimpArgs false

noncomputable def pureC (T : Nat → Option XF) (l : List Nat) : Calls' := fun f ws => if l.contains f = true then evI T f ws else Option.none
theorem pureC_ok {P : Program} (hm : P.follows .mixedOrders = true) {T : Nat → Option XF} (hT : TOk P T) (l : List Nat) : CallOk P (pureC T l) := by
  intro f ws r outs h
  unfold pureC at h
  split at h
  · obtain ⟨n, hn⟩ := evI_some.1 h
    exact evF_sound hm hT n f ws r outs hn
  · cases h

theorem evP_callC {C : Calls'} {L : XO → PV} {S : Subs} {f : Nat} {as : List XO} : evP C L S (.call f as []) =
    oel (lendL S (as.map L)) (fun ws => oel (C f ws) (fun r => if (r.1.flat || !((as.map L).any lent)) = true then some r.1 else Option.none) (fun _ => Option.none)) (fun _ => Option.none) := by
  simp only [evP]
  cases lendL S (as.map L) with
  | none => rfl
  | some ws =>
    simp only [oel]
    cases C f ws with
    | none => rfl
    | some r => obtain ⟨a, b⟩ := r; rfl

section
variable {C : Calls'} {K : HCalls} {T : Nat → Option HF}
theorem Run.all {c : HC} {s s' : HS} {ex : Ex} (h : Run C K T c s ex s') : ∃ n, ∀ a b, n ≤ a → n ≤ b → evHC C (evHF C K T a) b c s = some (ex, s') := by
  obtain ⟨n, hn⟩ := h
  exact ⟨n, fun a b ha hb => evHC_mono (evHF_mono ha) hb hn⟩
theorem Ans.all {f : Nat} {ws : List HV} {st st' : HSt} {r : HV} (h : Ans C K T f ws st r st') : ∃ n, ∀ a, n ≤ a → evHF C K T a f ws st = some (r, st') := by
  obtain ⟨n, hn⟩ := h
  exact ⟨n, fun a ha => evHF_mono ha _ _ _ _ hn⟩
theorem Run.of {c : HC} {s s' : HS} {ex : Ex} (n : Nat) (h : evHC C (evHF C K T n) n c s = some (ex, s')) : Run C K T c s ex s' := ⟨n, h⟩
end
end Go.Ab

/-
  The equations by which code is gone through. Printed by mkrn.py.
-/
namespace Go.Ab
open Go
set_option linter.unusedVariables false
set_option maxRecDepth 100000
theorem rna0 : type_of% (And.intro (And.intro (And.intro (And.intro (And.intro @evX_seq (And.intro @evX_block @evX_cond)) (And.intro (And.intro @evX_reg @evX_regD) (And.intro @evX_skip @evX_exit))) (And.intro (And.intro (And.intro @evX_ret @step.eq_1) (And.intro @steps.eq_1 @steps.eq_2)) (And.intro (And.intro @stepP.eq_1 @evP.eq_1) (And.intro @evP.eq_2 @evP.eq_3)))) (And.intro (And.intro (And.intro @evP.eq_4 (And.intro @evP.eq_5 @evP.eq_6)) (And.intro (And.intro @evP.eq_7 @evP.eq_8) (And.intro @evP.eq_9 @evP.eq_10))) (And.intro (And.intro (And.intro @evP.eq_11 @evP.eq_12) (And.intro @evP.eq_13 @evP.eq_14)) (And.intro (And.intro @evP.eq_15 @evP.eq_16) (And.intro @evP.eq_17 @evP.eq_18))))) (And.intro (And.intro (And.intro (And.intro @evP.eq_19 (And.intro @evP.eq_20 @evP.eq_21)) (And.intro (And.intro @evP.eq_22 @evP.eq_23) (And.intro @evP.eq_24 @evP.eq_25))) (And.intro (And.intro (And.intro @evP.eq_26 @evP.eq_27) (And.intro @evP.eq_28 @evP.eq_29)) (And.intro (And.intro @evP.eq_30 @evP.eq_31) (And.intro @evS.eq_1 @evS.eq_3)))) (And.intro (And.intro (And.intro @evS.eq_5 (And.intro @evS.eq_6 @evS.eq_9)) (And.intro (And.intro @evS.eq_11 @evS.eq_14) (And.intro @blocked.eq_1 @wants.eq_1))) (And.intro (And.intro (And.intro @wantsG.eq_1 @wantsG.eq_2) (And.intro @skipped.eq_1 @look.eq_1)) (And.intro (And.intro @lookG.eq_1 @lookG.eq_2) (And.intro @lookG.eq_3 @al.eq_1)))))) := (And.intro (And.intro (And.intro (And.intro (And.intro @evX_seq (And.intro @evX_block @evX_cond)) (And.intro (And.intro @evX_reg @evX_regD) (And.intro @evX_skip @evX_exit))) (And.intro (And.intro (And.intro @evX_ret @step.eq_1) (And.intro @steps.eq_1 @steps.eq_2)) (And.intro (And.intro @stepP.eq_1 @evP.eq_1) (And.intro @evP.eq_2 @evP.eq_3)))) (And.intro (And.intro (And.intro @evP.eq_4 (And.intro @evP.eq_5 @evP.eq_6)) (And.intro (And.intro @evP.eq_7 @evP.eq_8) (And.intro @evP.eq_9 @evP.eq_10))) (And.intro (And.intro (And.intro @evP.eq_11 @evP.eq_12) (And.intro @evP.eq_13 @evP.eq_14)) (And.intro (And.intro @evP.eq_15 @evP.eq_16) (And.intro @evP.eq_17 @evP.eq_18))))) (And.intro (And.intro (And.intro (And.intro @evP.eq_19 (And.intro @evP.eq_20 @evP.eq_21)) (And.intro (And.intro @evP.eq_22 @evP.eq_23) (And.intro @evP.eq_24 @evP.eq_25))) (And.intro (And.intro (And.intro @evP.eq_26 @evP.eq_27) (And.intro @evP.eq_28 @evP.eq_29)) (And.intro (And.intro @evP.eq_30 @evP.eq_31) (And.intro @evS.eq_1 @evS.eq_3)))) (And.intro (And.intro (And.intro @evS.eq_5 (And.intro @evS.eq_6 @evS.eq_9)) (And.intro (And.intro @evS.eq_11 @evS.eq_14) (And.intro @blocked.eq_1 @wants.eq_1))) (And.intro (And.intro (And.intro @wantsG.eq_1 @wantsG.eq_2) (And.intro @skipped.eq_1 @look.eq_1)) (And.intro (And.intro @lookG.eq_1 @lookG.eq_2) (And.intro @lookG.eq_3 @al.eq_1))))))
theorem rna1 : type_of% (And.intro (And.intro (And.intro (And.intro (And.intro @al.eq_2 (And.intro @al.eq_3 @al.eq_4)) (And.intro (And.intro @al.eq_5 @al.eq_6) (And.intro @alL.eq_1 @alL.eq_2))) (And.intro (And.intro (And.intro @purge1.eq_1 @purge1.eq_2) (And.intro @purge1.eq_3 @purge1.eq_4)) (And.intro (And.intro @purge1.eq_5 @purgeL.eq_1) (And.intro @purgeL.eq_2 @Env.get.eq_1)))) (And.intro (And.intro (And.intro @Env.get.eq_2 (And.intro @Env.set.eq_1 @Env.set.eq_2)) (And.intro (And.intro @Env.keep.eq_1 @Env.keep.eq_2) (And.intro @Env.purgeBy.eq_1 @Env.purgeBy.eq_2))) (And.intro (And.intro (And.intro @Env.purge.eq_1 @Env.setD.eq_1) (And.intro @Env.sub.eq_1 @Env.upd.eq_1)) (And.intro (And.intro @sub.eq_1 @sub.eq_2) (And.intro @upd.eq_1 @upd.eq_2))))) (And.intro (And.intro (And.intro (And.intro @kids.eq_1 (And.intro @kids.eq_2 @kids.eq_3)) (And.intro (And.intro @kids.eq_4 @setKid.eq_1) (And.intro @setKid.eq_2 @setKid.eq_3))) (And.intro (And.intro (And.intro @setKid.eq_4 @frz.eq_1) (And.intro @frz.eq_2 @frz.eq_3)) (And.intro (And.intro @frz.eq_4 @frz.eq_5) (And.intro @frz.eq_6 @frz.eq_7)))) (And.intro (And.intro (And.intro @frz.eq_8 (And.intro @frz.eq_9 @frzL.eq_1)) (And.intro (And.intro @frzL.eq_2 @refs.eq_1) (And.intro @refs.eq_2 @refs.eq_3))) (And.intro (And.intro (And.intro @refs.eq_4 @refs.eq_5) (And.intro @refsL.eq_1 @refsL.eq_2)) (And.intro (And.intro @noOwn.eq_1 @noOwn.eq_2) (And.intro @noOwn.eq_3 @noOwn.eq_4)))))) := (And.intro (And.intro (And.intro (And.intro (And.intro @al.eq_2 (And.intro @al.eq_3 @al.eq_4)) (And.intro (And.intro @al.eq_5 @al.eq_6) (And.intro @alL.eq_1 @alL.eq_2))) (And.intro (And.intro (And.intro @purge1.eq_1 @purge1.eq_2) (And.intro @purge1.eq_3 @purge1.eq_4)) (And.intro (And.intro @purge1.eq_5 @purgeL.eq_1) (And.intro @purgeL.eq_2 @Env.get.eq_1)))) (And.intro (And.intro (And.intro @Env.get.eq_2 (And.intro @Env.set.eq_1 @Env.set.eq_2)) (And.intro (And.intro @Env.keep.eq_1 @Env.keep.eq_2) (And.intro @Env.purgeBy.eq_1 @Env.purgeBy.eq_2))) (And.intro (And.intro (And.intro @Env.purge.eq_1 @Env.setD.eq_1) (And.intro @Env.sub.eq_1 @Env.upd.eq_1)) (And.intro (And.intro @sub.eq_1 @sub.eq_2) (And.intro @upd.eq_1 @upd.eq_2))))) (And.intro (And.intro (And.intro (And.intro @kids.eq_1 (And.intro @kids.eq_2 @kids.eq_3)) (And.intro (And.intro @kids.eq_4 @setKid.eq_1) (And.intro @setKid.eq_2 @setKid.eq_3))) (And.intro (And.intro (And.intro @setKid.eq_4 @frz.eq_1) (And.intro @frz.eq_2 @frz.eq_3)) (And.intro (And.intro @frz.eq_4 @frz.eq_5) (And.intro @frz.eq_6 @frz.eq_7)))) (And.intro (And.intro (And.intro @frz.eq_8 (And.intro @frz.eq_9 @frzL.eq_1)) (And.intro (And.intro @frzL.eq_2 @refs.eq_1) (And.intro @refs.eq_2 @refs.eq_3))) (And.intro (And.intro (And.intro @refs.eq_4 @refs.eq_5) (And.intro @refsL.eq_1 @refsL.eq_2)) (And.intro (And.intro @noOwn.eq_1 @noOwn.eq_2) (And.intro @noOwn.eq_3 @noOwn.eq_4))))))
theorem rna2 : type_of% (And.intro (And.intro (And.intro (And.intro (And.intro @noOwn.eq_5 (And.intro @noOwnL.eq_1 @noOwnL.eq_2)) (And.intro (And.intro @PV.free.eq_1 @PV.free.eq_2) (And.intro @PV.free.eq_3 @PV.free.eq_4))) (And.intro (And.intro (And.intro @PV.free.eq_5 @PV.free.eq_6) (And.intro @PV.free.eq_7 @PV.free.eq_8)) (And.intro (And.intro @take1.eq_1 @take1.eq_2) (And.intro @takeL.eq_1 @takeL.eq_2)))) (And.intro (And.intro (And.intro @copy1.eq_1 (And.intro @copyL.eq_1 @copyL.eq_2)) (And.intro (And.intro @pass1.eq_1 @pass1.eq_2) (And.intro @pass1.eq_3 @passL.eq_1))) (And.intro (And.intro (And.intro @passL.eq_2 @share.eq_1) (And.intro @lend.eq_1 @lend.eq_2)) (And.intro (And.intro @lend1.eq_1 @lendL.eq_1) (And.intro @lendL.eq_2 @lend1L.eq_1))))) (And.intro (And.intro (And.intro (And.intro @lend1L.eq_2 (And.intro @give.eq_1 @give.eq_2)) (And.intro (And.intro @give.eq_3 @give.eq_4) (And.intro @resVal.eq_1 @resVal.eq_2))) (And.intro (And.intro (And.intro @resL.eq_1 @resL.eq_2) (And.intro @outsOf.eq_1 @outsOf.eq_2)) (And.intro (And.intro @tupOf.eq_1 @params.eq_1) (And.intro @params.eq_2 @stepD.eq_1)))) (And.intro (And.intro (And.intro @stepsD.eq_1 (And.intro @stepsD.eq_2 @regD.eq_1)) (And.intro (And.intro @dstsOf.eq_1 @dstsOf.eq_2) (And.intro @setCells.eq_1 @setCells.eq_2))) (And.intro (And.intro (And.intro @putObj.eq_1 @cells.eq_1) (And.intro @fillP.eq_1 @fillP.eq_2)) (And.intro (And.intro @rep.eq_1 @rep.eq_2) (And.intro @part.eq_1 @objCells.eq_1)))))) := (And.intro (And.intro (And.intro (And.intro (And.intro @noOwn.eq_5 (And.intro @noOwnL.eq_1 @noOwnL.eq_2)) (And.intro (And.intro @PV.free.eq_1 @PV.free.eq_2) (And.intro @PV.free.eq_3 @PV.free.eq_4))) (And.intro (And.intro (And.intro @PV.free.eq_5 @PV.free.eq_6) (And.intro @PV.free.eq_7 @PV.free.eq_8)) (And.intro (And.intro @take1.eq_1 @take1.eq_2) (And.intro @takeL.eq_1 @takeL.eq_2)))) (And.intro (And.intro (And.intro @copy1.eq_1 (And.intro @copyL.eq_1 @copyL.eq_2)) (And.intro (And.intro @pass1.eq_1 @pass1.eq_2) (And.intro @pass1.eq_3 @passL.eq_1))) (And.intro (And.intro (And.intro @passL.eq_2 @share.eq_1) (And.intro @lend.eq_1 @lend.eq_2)) (And.intro (And.intro @lend1.eq_1 @lendL.eq_1) (And.intro @lendL.eq_2 @lend1L.eq_1))))) (And.intro (And.intro (And.intro (And.intro @lend1L.eq_2 (And.intro @give.eq_1 @give.eq_2)) (And.intro (And.intro @give.eq_3 @give.eq_4) (And.intro @resVal.eq_1 @resVal.eq_2))) (And.intro (And.intro (And.intro @resL.eq_1 @resL.eq_2) (And.intro @outsOf.eq_1 @outsOf.eq_2)) (And.intro (And.intro @tupOf.eq_1 @params.eq_1) (And.intro @params.eq_2 @stepD.eq_1)))) (And.intro (And.intro (And.intro @stepsD.eq_1 (And.intro @stepsD.eq_2 @regD.eq_1)) (And.intro (And.intro @dstsOf.eq_1 @dstsOf.eq_2) (And.intro @setCells.eq_1 @setCells.eq_2))) (And.intro (And.intro (And.intro @putObj.eq_1 @cells.eq_1) (And.intro @fillP.eq_1 @fillP.eq_2)) (And.intro (And.intro @rep.eq_1 @rep.eq_2) (And.intro @part.eq_1 @objCells.eq_1))))))
theorem rna3 : type_of% (And.intro (And.intro (And.intro (And.intro (And.intro @objCells.eq_2 (And.intro @pvBin.eq_1 @pvBin.eq_2)) (And.intro (And.intro @intBin.eq_1 @intBin.eq_2) (And.intro @intBin.eq_3 @intBin.eq_4))) (And.intro (And.intro (And.intro @intBin.eq_5 @intBin.eq_6) (And.intro @intBin.eq_7 @intBin.eq_8)) (And.intro (And.intro @intBin.eq_9 @intBin.eq_10) (And.intro @intBin.eq_11 @intBin.eq_12)))) (And.intro (And.intro (And.intro @intBin.eq_13 (And.intro @intBin.eq_14 @intBin.eq_15)) (And.intro (And.intro @intBin.eq_16 @intBin.eq_17) (And.intro @strBin.eq_1 @strBin.eq_2))) (And.intro (And.intro (And.intro @strBin.eq_3 @slCells.eq_1) (And.intro @slCells.eq_2 @slCells.eq_3)) (And.intro (And.intro @bnd.eq_1 @bnd.eq_2) (And.intro @refAt.eq_1 @refAt.eq_2))))) (And.intro (And.intro (And.intro (And.intro @waysOf.eq_1 (And.intro @und.eq_1 @deep.eq_1)) (And.intro (And.intro @canUpd.eq_1 @isT.eq_1) (And.intro @setO.eq_1 @setO.eq_2))) (And.intro (And.intro (And.intro @boxOnly.eq_1 @boxOnly.eq_2) (And.intro @purges.eq_1 @purges.eq_2)) (And.intro (And.intro @PV.lok.eq_1 @PV.lok.eq_2) (And.intro @eqCells.eq_1 @eqCells.eq_2)))) (And.intro (And.intro (And.intro @eqCells.eq_3 (And.intro @eqCells.eq_4 @pvBeq.eq_1)) (And.intro (And.intro @pvAeq.eq_1 @pvPeq.eq_1) (And.intro @pvPeq.eq_2 @pvPeq.eq_3))) (And.intro (And.intro (And.intro @pvPeq.eq_4 @pvPeq.eq_5) (And.intro @pvUn.eq_1 @pvUn.eq_2)) (And.intro (And.intro @PV.isNone.eq_1 @lent.eq_1) (And.intro @lent.eq_2 @lent.eq_3)))))) := (And.intro (And.intro (And.intro (And.intro (And.intro @objCells.eq_2 (And.intro @pvBin.eq_1 @pvBin.eq_2)) (And.intro (And.intro @intBin.eq_1 @intBin.eq_2) (And.intro @intBin.eq_3 @intBin.eq_4))) (And.intro (And.intro (And.intro @intBin.eq_5 @intBin.eq_6) (And.intro @intBin.eq_7 @intBin.eq_8)) (And.intro (And.intro @intBin.eq_9 @intBin.eq_10) (And.intro @intBin.eq_11 @intBin.eq_12)))) (And.intro (And.intro (And.intro @intBin.eq_13 (And.intro @intBin.eq_14 @intBin.eq_15)) (And.intro (And.intro @intBin.eq_16 @intBin.eq_17) (And.intro @strBin.eq_1 @strBin.eq_2))) (And.intro (And.intro (And.intro @strBin.eq_3 @slCells.eq_1) (And.intro @slCells.eq_2 @slCells.eq_3)) (And.intro (And.intro @bnd.eq_1 @bnd.eq_2) (And.intro @refAt.eq_1 @refAt.eq_2))))) (And.intro (And.intro (And.intro (And.intro @waysOf.eq_1 (And.intro @und.eq_1 @deep.eq_1)) (And.intro (And.intro @canUpd.eq_1 @isT.eq_1) (And.intro @setO.eq_1 @setO.eq_2))) (And.intro (And.intro (And.intro @boxOnly.eq_1 @boxOnly.eq_2) (And.intro @purges.eq_1 @purges.eq_2)) (And.intro (And.intro @PV.lok.eq_1 @PV.lok.eq_2) (And.intro @eqCells.eq_1 @eqCells.eq_2)))) (And.intro (And.intro (And.intro @eqCells.eq_3 (And.intro @eqCells.eq_4 @pvBeq.eq_1)) (And.intro (And.intro @pvAeq.eq_1 @pvPeq.eq_1) (And.intro @pvPeq.eq_2 @pvPeq.eq_3))) (And.intro (And.intro (And.intro @pvPeq.eq_4 @pvPeq.eq_5) (And.intro @pvUn.eq_1 @pvUn.eq_2)) (And.intro (And.intro @PV.isNone.eq_1 @lent.eq_1) (And.intro @lent.eq_2 @lent.eq_3))))))
theorem rna4 : type_of% (And.intro (And.intro (And.intro (And.intro @PV.flat1.eq_1 @PV.flat1.eq_2) (And.intro @PV.flat1.eq_3 @PV.flat.eq_1)) (And.intro (And.intro @PV.flat.eq_2 @norm1.eq_1) (And.intro @lendCaps.eq_1 @lendCaps.eq_2))) (And.intro (And.intro (And.intro @fgt.eq_1 @seqK.eq_1) (And.intro @blockK.eq_1 @condK.eq_1)) (And.intro (And.intro @condK.eq_2 @PV.isView.eq_1) (And.intro @PV.isRef.eq_1 @bytesOf.eq_1)))) := (And.intro (And.intro (And.intro (And.intro @PV.flat1.eq_1 @PV.flat1.eq_2) (And.intro @PV.flat1.eq_3 @PV.flat.eq_1)) (And.intro (And.intro @PV.flat.eq_2 @norm1.eq_1) (And.intro @lendCaps.eq_1 @lendCaps.eq_2))) (And.intro (And.intro (And.intro @fgt.eq_1 @seqK.eq_1) (And.intro @blockK.eq_1 @condK.eq_1)) (And.intro (And.intro @condK.eq_2 @PV.isView.eq_1) (And.intro @PV.isRef.eq_1 @bytesOf.eq_1))))
theorem rnb0 : (∀ (r : Nat) (p : List Nat) (b : Bool), al r p (.bool b) = (.bool b)) ∧
  (∀ (r : Nat) (p : List Nat) (k : IntKind) (n : Int), al r p (.int k n) = (.int k n)) ∧
  (∀ (r : Nat) (p : List Nat) (s : List UInt8), al r p (.str s) = (.str s)) ∧
  (∀ (r : Nat) (p : List Nat) , al r p (.nilp) = (.nilp)) ∧
  (∀ (r : Nat) (p : List Nat) , al r p (.nilf) = (.nilf)) ∧
  (∀ (r : Nat) (p : List Nat) (l : Nat) (c : List PV), al r p (.sl l c) = (.sl l c)) ∧
  (∀ (r : Nat) (p : List Nat) (c : List PV), al r p (.sp c) = (.sp c)) ∧
  (∀ (r : Nat) (p : List Nat) , al r p (.nils) = (.nils)) ∧
  (∀ (r : Nat) (p : List Nat) , al r p (PV.none) = (PV.none)) ∧
  (∀ (r : Nat) (p : List Nat) (r2 : Nat) (p2 : List Nat) (o l z : Nat), al r p (.view r2 p2 o l z) = (.view r2 p2 o l z)) ∧
  (∀ (r : Nat) (p : List Nat) (r2 : Nat) (p2 : List Nat) (i n : Nat), al r p (.ref r2 p2 i n) = (.ref r2 p2 i n)) ∧
  (∀ (f : Nat → List Nat → Bool) (b : Bool), purge1 f (.bool b) = (.bool b)) ∧
  (∀ (f : Nat → List Nat → Bool) (k : IntKind) (n : Int), purge1 f (.int k n) = (.int k n)) ∧
  (∀ (f : Nat → List Nat → Bool) (s : List UInt8), purge1 f (.str s) = (.str s)) ∧
  (∀ (f : Nat → List Nat → Bool) , purge1 f (.nilp) = (.nilp)) ∧
  (∀ (f : Nat → List Nat → Bool) , purge1 f (.nilf) = (.nilf)) ∧
  (∀ (f : Nat → List Nat → Bool) (l : Nat) (c : List PV), purge1 f (.sl l c) = (.sl l c)) ∧
  (∀ (f : Nat → List Nat → Bool) (c : List PV), purge1 f (.sp c) = (.sp c)) ∧
  (∀ (f : Nat → List Nat → Bool) , purge1 f (.nils) = (.nils)) ∧
  (∀ (f : Nat → List Nat → Bool) , purge1 f (PV.none) = (PV.none)) ∧
  (∀ (f : Nat → List Nat → Bool) (a l : Nat) (c : List PV), purge1 f (.own a l c) = (.own a l c)) ∧
  (∀ (f : Nat → List Nat → Bool) (c : List PV), purge1 f (.box c) = (.box c)) ∧
  (∀  (k : IntKind) (n : Int), kids (.int k n) = []) ∧
  (∀  (b : Bool), frz (.bool b) = some (.bool b)) ∧
  (∀  (k : IntKind) (n : Int), frz (.int k n) = some (.int k n)) ∧
  (∀  (s : List UInt8), frz (.str s) = some (.str s)) ∧
  (frz (.nilp) = some (.nilp)) ∧
  (frz (.nilf) = some (.nilf)) ∧
  (∀  (l : Nat) (c : List PV), frz (.sl l c) = some (.sl l c)) ∧
  (∀  (c : List PV), frz (.sp c) = some (.sp c)) ∧
  (∀  (b : Bool), refs (.bool b) = []) ∧
  (∀  (k : IntKind) (n : Int), refs (.int k n) = []) ∧
  (∀  (s : List UInt8), refs (.str s) = []) ∧
  (refs (.nilp) = []) ∧
  (refs (.nilf) = []) ∧
  (∀  (l : Nat) (c : List PV), refs (.sl l c) = []) ∧
  (∀  (c : List PV), refs (.sp c) = []) ∧
  (refs (.nils) = []) ∧
  (refs (PV.none) = []) ∧
  (∀  (a l : Nat) (c : List PV), refs (.own a l c) = []) ∧
  (∀  (c : List PV), refs (.box c) = []) ∧
  (∀ (ds : List Nat) (b : Bool), noRefs ds (.bool b) = true) ∧
  (∀ (ds : List Nat) (k : IntKind) (n : Int), noRefs ds (.int k n) = true) ∧
  (∀ (ds : List Nat) (s : List UInt8), noRefs ds (.str s) = true) ∧
  (∀ (ds : List Nat) , noRefs ds (.nilp) = true) ∧
  (∀ (ds : List Nat) , noRefs ds (.nilf) = true) ∧
  (∀ (ds : List Nat) (l : Nat) (c : List PV), noRefs ds (.sl l c) = true) ∧
  (∀ (ds : List Nat) (c : List PV), noRefs ds (.sp c) = true) ∧
  (∀ (ds : List Nat) , noRefs ds (.nils) = true) ∧
  (∀ (ds : List Nat) , noRefs ds (PV.none) = true) ∧
  (∀ (ds : List Nat) (a l : Nat) (c : List PV), noRefs ds (.own a l c) = true) ∧
  (∀ (ds : List Nat) (c : List PV), noRefs ds (.box c) = true) ∧
  (∀ (ds : List Nat) (r : Nat) (p : List Nat) (i n : Nat), noRefs ds (.ref r p i n) = (!ds.contains r && true)) ∧
  (∀ (ds : List Nat) (r : Nat) (p : List Nat) (o l z : Nat), noRefs ds (.view r p o l z) = (!ds.contains r && true)) ∧
  (∀ (ds : List Nat), noRefs ds (.tup []) = true) ∧
  (∀  (b : Bool), noOwn (.bool b) = true) ∧
  (∀  (k : IntKind) (n : Int), noOwn (.int k n) = true) ∧
  (∀  (s : List UInt8), noOwn (.str s) = true) ∧
  (noOwn (.nilp) = true) ∧
  (noOwn (.nilf) = true) := by
  refine ⟨?_, ?_, ?_, ?_, ?_, ?_, ?_, ?_, ?_, ?_, ?_, ?_, ?_, ?_, ?_, ?_, ?_, ?_, ?_, ?_, ?_, ?_, ?_, ?_, ?_, ?_, ?_, ?_, ?_, ?_, ?_, ?_, ?_, ?_, ?_, ?_, ?_, ?_, ?_, ?_, ?_, ?_, ?_, ?_, ?_, ?_, ?_, ?_, ?_, ?_, ?_, ?_, ?_, ?_, ?_, ?_, ?_, ?_, ?_, ?_⟩ <;> intros <;> rfl
theorem rnb1 : (∀  (l : Nat) (c : List PV), noOwn (.sl l c) = true) ∧
  (∀  (c : List PV), noOwn (.sp c) = true) ∧
  (noOwn (.nils) = true) ∧
  (noOwn (PV.none) = true) ∧
  (∀  (r2 : Nat) (p2 : List Nat) (o l z : Nat), noOwn (.view r2 p2 o l z) = true) ∧
  (∀  (r2 : Nat) (p2 : List Nat) (i n : Nat), noOwn (.ref r2 p2 i n) = true) ∧
  (∀  (b : Bool), PV.free (.bool b) = true) ∧
  (∀  (k : IntKind) (n : Int), PV.free (.int k n) = true) ∧
  (∀  (s : List UInt8), PV.free (.str s) = true) ∧
  (PV.free (.nilp) = true) ∧
  (PV.free (.nilf) = true) ∧
  (∀  (l : Nat) (c : List PV), PV.free (.sl l c) = true) ∧
  (∀  (c : List PV), PV.free (.sp c) = true) ∧
  (PV.free (.nils) = true) ∧
  (∀ (e : Env) (b : Bool), take1 e (.bool b) = some ((.bool b), e)) ∧
  (∀ (e : Env) (k : IntKind) (n : Int), take1 e (.int k n) = some ((.int k n), e)) ∧
  (∀ (e : Env) (s : List UInt8), take1 e (.str s) = some ((.str s), e)) ∧
  (∀ (e : Env) , take1 e (.nilp) = some ((.nilp), e)) ∧
  (∀ (e : Env) , take1 e (.nilf) = some ((.nilf), e)) ∧
  (∀ (e : Env) (l : Nat) (c : List PV), take1 e (.sl l c) = some ((.sl l c), e)) ∧
  (∀ (e : Env) (c : List PV), take1 e (.sp c) = some ((.sp c), e)) ∧
  (∀ (e : Env) , take1 e (.nils) = some ((.nils), e)) ∧
  (∀ (e : Env) (b : Bool), copy1 e (.bool b) = some ((.bool b), e)) ∧
  (∀ (e : Env) (k : IntKind) (n : Int), copy1 e (.int k n) = some ((.int k n), e)) ∧
  (∀ (e : Env) (s : List UInt8), copy1 e (.str s) = some ((.str s), e)) ∧
  (∀ (e : Env) , copy1 e (.nilp) = some ((.nilp), e)) ∧
  (∀ (e : Env) , copy1 e (.nilf) = some ((.nilf), e)) ∧
  (∀ (e : Env) (l : Nat) (c : List PV), copy1 e (.sl l c) = some ((.sl l c), e)) ∧
  (∀ (e : Env) (c : List PV), copy1 e (.sp c) = some ((.sp c), e)) ∧
  (∀ (e : Env) , copy1 e (.nils) = some ((.nils), e)) ∧
  (∀ (e : Env) (b : Bool), pass1 e (.bool b) = some ((.bool b), e)) ∧
  (∀ (e : Env) (k : IntKind) (n : Int), pass1 e (.int k n) = some ((.int k n), e)) ∧
  (∀ (e : Env) (s : List UInt8), pass1 e (.str s) = some ((.str s), e)) ∧
  (∀ (e : Env) , pass1 e (.nilp) = some ((.nilp), e)) ∧
  (∀ (e : Env) , pass1 e (.nilf) = some ((.nilf), e)) ∧
  (∀ (e : Env) (l : Nat) (c : List PV), pass1 e (.sl l c) = some ((.sl l c), e)) ∧
  (∀ (e : Env) (c : List PV), pass1 e (.sp c) = some ((.sp c), e)) ∧
  (∀ (e : Env) , pass1 e (.nils) = copy1 e (.nils)) ∧
  (∀ (e : Env) (r2 : Nat) (p2 : List Nat) (o l z : Nat), pass1 e (.view r2 p2 o l z) = copy1 e (.view r2 p2 o l z)) ∧
  (∀ (S : Subs) (b : Bool), lend1 S (.bool b) = some (.bool b)) ∧
  (∀ (S : Subs) (k : IntKind) (n : Int), lend1 S (.int k n) = some (.int k n)) ∧
  (∀ (S : Subs) (s : List UInt8), lend1 S (.str s) = some (.str s)) ∧
  (∀ (S : Subs) , lend1 S (.nilp) = some (.nilp)) ∧
  (∀ (S : Subs) , lend1 S (.nilf) = some (.nilf)) ∧
  (∀ (S : Subs) (l : Nat) (c : List PV), lend1 S (.sl l c) = some (.sl l c)) ∧
  (∀ (S : Subs) (c : List PV), lend1 S (.sp c) = some (.sp c)) ∧
  (∀ (S : Subs) , lend1 S (.nils) = some (.nils)) ∧
  (∀ (S : Subs) (r2 : Nat) (p2 : List Nat) (i n : Nat), lend1 S (.ref r2 p2 i n) = none) ∧
  (∀ (S : Subs) (b : Bool), lend S (.bool b) = lend1 S (.bool b)) ∧
  (∀ (S : Subs) (k : IntKind) (n : Int), lend S (.int k n) = lend1 S (.int k n)) ∧
  (∀ (S : Subs) (s : List UInt8), lend S (.str s) = lend1 S (.str s)) ∧
  (∀ (S : Subs) , lend S (.nilp) = lend1 S (.nilp)) ∧
  (∀ (S : Subs) , lend S (.nilf) = lend1 S (.nilf)) ∧
  (∀ (S : Subs) (l : Nat) (c : List PV), lend S (.sl l c) = lend1 S (.sl l c)) ∧
  (∀ (S : Subs) (c : List PV), lend S (.sp c) = lend1 S (.sp c)) ∧
  (∀ (S : Subs) , lend S (.nils) = lend1 S (.nils)) ∧
  (∀ (S : Subs) (r2 : Nat) (p2 : List Nat) (o l z : Nat), lend S (.view r2 p2 o l z) = lend1 S (.view r2 p2 o l z)) ∧
  (∀ (S : Subs) (r2 : Nat) (p2 : List Nat) (i n : Nat), lend S (.ref r2 p2 i n) = lend1 S (.ref r2 p2 i n)) ∧
  (∀ (kp : Bool) (e : Env) (b : Bool), give kp e (.bool b) = some ((.bool b), e)) ∧
  (∀ (kp : Bool) (e : Env) (k : IntKind) (n : Int), give kp e (.int k n) = some ((.int k n), e)) := by
  refine ⟨?_, ?_, ?_, ?_, ?_, ?_, ?_, ?_, ?_, ?_, ?_, ?_, ?_, ?_, ?_, ?_, ?_, ?_, ?_, ?_, ?_, ?_, ?_, ?_, ?_, ?_, ?_, ?_, ?_, ?_, ?_, ?_, ?_, ?_, ?_, ?_, ?_, ?_, ?_, ?_, ?_, ?_, ?_, ?_, ?_, ?_, ?_, ?_, ?_, ?_, ?_, ?_, ?_, ?_, ?_, ?_, ?_, ?_, ?_, ?_⟩ <;> intros <;> rfl
theorem rnb2 : (∀ (kp : Bool) (e : Env) (s : List UInt8), give kp e (.str s) = some ((.str s), e)) ∧
  (∀ (kp : Bool) (e : Env) , give kp e (.nilp) = some ((.nilp), e)) ∧
  (∀ (kp : Bool) (e : Env) , give kp e (.nilf) = some ((.nilf), e)) ∧
  (∀ (kp : Bool) (e : Env) (l : Nat) (c : List PV), give kp e (.sl l c) = some ((.sl l c), e)) ∧
  (∀ (kp : Bool) (e : Env) (c : List PV), give kp e (.sp c) = some ((.sp c), e)) ∧
  (∀ (a b : PV) (r : List PV), tupOf (a :: b :: r) = .tup (a :: b :: r)) ∧
  (tupOf [] = .tup []) ∧
  (∀  (b : Bool), objCells (.bool b) = Option.none) ∧
  (∀  (k : IntKind) (n : Int), objCells (.int k n) = Option.none) ∧
  (∀  (s : List UInt8), objCells (.str s) = Option.none) ∧
  (objCells (.nilp) = Option.none) ∧
  (objCells (.nilf) = Option.none) ∧
  (∀  (l : Nat) (c : List PV), objCells (.sl l c) = Option.none) ∧
  (∀  (c : List PV), objCells (.sp c) = Option.none) ∧
  (objCells (.nils) = Option.none) ∧
  (objCells (PV.none) = Option.none) ∧
  (∀  (b : Bool), cells (.bool b) = [(.bool b)]) ∧
  (∀  (k : IntKind) (n : Int), cells (.int k n) = [(.int k n)]) ∧
  (∀  (s : List UInt8), cells (.str s) = [(.str s)]) ∧
  (cells (.nilp) = [(.nilp)]) ∧
  (cells (.nilf) = [(.nilf)]) ∧
  (∀  (l : Nat) (c : List PV), cells (.sl l c) = [(.sl l c)]) ∧
  (∀  (c : List PV), cells (.sp c) = [(.sp c)]) ∧
  (cells (.nils) = [(.nils)]) ∧
  (∀  (r2 : Nat) (p2 : List Nat) (o l z : Nat), cells (.view r2 p2 o l z) = [(.view r2 p2 o l z)]) ∧
  (∀  (r2 : Nat) (p2 : List Nat) (i n : Nat), cells (.ref r2 p2 i n) = [(.ref r2 p2 i n)]) ∧
  (∀  (b : Bool), waysOf (.bool b) = refs (.bool b)) ∧
  (∀  (k : IntKind) (n : Int), waysOf (.int k n) = refs (.int k n)) ∧
  (∀  (s : List UInt8), waysOf (.str s) = refs (.str s)) ∧
  (waysOf (.nilp) = refs (.nilp)) ∧
  (waysOf (.nilf) = refs (.nilf)) ∧
  (∀  (l : Nat) (c : List PV), waysOf (.sl l c) = refs (.sl l c)) ∧
  (∀  (c : List PV), waysOf (.sp c) = refs (.sp c)) ∧
  (waysOf (.nils) = refs (.nils)) ∧
  (∀  (r2 : Nat) (p2 : List Nat) (o l z : Nat), waysOf (.view r2 p2 o l z) = refs (.view r2 p2 o l z)) ∧
  (∀  (b : Bool), boxOnly (.bool b) = PV.none) ∧
  (∀  (k : IntKind) (n : Int), boxOnly (.int k n) = PV.none) ∧
  (∀  (s : List UInt8), boxOnly (.str s) = PV.none) ∧
  (boxOnly (.nilp) = PV.none) ∧
  (boxOnly (.nilf) = PV.none) ∧
  (∀  (l : Nat) (c : List PV), boxOnly (.sl l c) = PV.none) ∧
  (∀  (c : List PV), boxOnly (.sp c) = PV.none) ∧
  (boxOnly (.nils) = PV.none) ∧
  (boxOnly (PV.none) = PV.none) ∧
  (∀  (r2 : Nat) (p2 : List Nat) (o l z : Nat), boxOnly (.view r2 p2 o l z) = PV.none) ∧
  (∀  (r2 : Nat) (p2 : List Nat) (i n : Nat), boxOnly (.ref r2 p2 i n) = PV.none) ∧
  (∀ (c : List PV), boxOnly (.agg c) = .none) ∧
  (∀ (c : List PV), boxOnly (.tup c) = .none) ∧
  (∀  (b : Bool), PV.lok (.bool b) = true) ∧
  (∀  (k : IntKind) (n : Int), PV.lok (.int k n) = true) ∧
  (∀  (s : List UInt8), PV.lok (.str s) = true) ∧
  (PV.lok (.nilp) = true) ∧
  (PV.lok (.nilf) = true) ∧
  (∀  (l : Nat) (c : List PV), PV.lok (.sl l c) = true) ∧
  (∀  (c : List PV), PV.lok (.sp c) = true) ∧
  (PV.lok (.nils) = true) ∧
  (∀  (b : Bool), PV.isNone (.bool b) = false) ∧
  (∀  (k : IntKind) (n : Int), PV.isNone (.int k n) = false) ∧
  (∀  (s : List UInt8), PV.isNone (.str s) = false) ∧
  (PV.isNone (.nilp) = false) := by
  refine ⟨?_, ?_, ?_, ?_, ?_, ?_, ?_, ?_, ?_, ?_, ?_, ?_, ?_, ?_, ?_, ?_, ?_, ?_, ?_, ?_, ?_, ?_, ?_, ?_, ?_, ?_, ?_, ?_, ?_, ?_, ?_, ?_, ?_, ?_, ?_, ?_, ?_, ?_, ?_, ?_, ?_, ?_, ?_, ?_, ?_, ?_, ?_, ?_, ?_, ?_, ?_, ?_, ?_, ?_, ?_, ?_, ?_, ?_, ?_, ?_⟩ <;> intros <;> rfl
theorem rnb3 : (PV.isNone (.nilf) = false) ∧
  (∀  (l : Nat) (c : List PV), PV.isNone (.sl l c) = false) ∧
  (∀  (c : List PV), PV.isNone (.sp c) = false) ∧
  (PV.isNone (.nils) = false) ∧
  (∀  (r2 : Nat) (p2 : List Nat) (o l z : Nat), PV.isNone (.view r2 p2 o l z) = false) ∧
  (∀  (r2 : Nat) (p2 : List Nat) (i n : Nat), PV.isNone (.ref r2 p2 i n) = false) ∧
  (∀ (c : List PV), PV.isNone (.agg c) = false) ∧
  (∀  (b : Bool), PV.isView (.bool b) = false) ∧
  (∀  (k : IntKind) (n : Int), PV.isView (.int k n) = false) ∧
  (∀  (s : List UInt8), PV.isView (.str s) = false) ∧
  (PV.isView (.nilp) = false) ∧
  (PV.isView (.nilf) = false) ∧
  (∀  (l : Nat) (c : List PV), PV.isView (.sl l c) = false) ∧
  (∀  (c : List PV), PV.isView (.sp c) = false) ∧
  (PV.isView (.nils) = false) ∧
  (∀  (b : Bool), lent (.bool b) = false) ∧
  (∀  (k : IntKind) (n : Int), lent (.int k n) = false) ∧
  (∀  (s : List UInt8), lent (.str s) = false) ∧
  (lent (.nilp) = false) ∧
  (lent (.nilf) = false) ∧
  (∀  (l : Nat) (c : List PV), lent (.sl l c) = false) ∧
  (∀  (c : List PV), lent (.sp c) = false) ∧
  (lent (.nils) = false) ∧
  (∀  (r2 : Nat) (p2 : List Nat) (i n : Nat), lent (.ref r2 p2 i n) = false) ∧
  (PV.flat1 (.nilp) = false) ∧
  (∀  (l : Nat) (c : List PV), PV.flat1 (.sl l c) = false) ∧
  (∀  (c : List PV), PV.flat1 (.sp c) = false) ∧
  (∀  (b : Bool), PV.flat (.bool b) = PV.flat1 (.bool b)) ∧
  (∀  (k : IntKind) (n : Int), PV.flat (.int k n) = PV.flat1 (.int k n)) ∧
  (∀  (s : List UInt8), PV.flat (.str s) = PV.flat1 (.str s)) ∧
  (PV.flat (.nilp) = PV.flat1 (.nilp)) ∧
  (PV.flat (.nilf) = PV.flat1 (.nilf)) ∧
  (∀  (l : Nat) (c : List PV), PV.flat (.sl l c) = PV.flat1 (.sl l c)) ∧
  (∀  (c : List PV), PV.flat (.sp c) = PV.flat1 (.sp c)) ∧
  (∀  (b : Bool), norm1 (.bool b) = (.bool b)) ∧
  (∀  (k : IntKind) (n : Int), norm1 (.int k n) = (.int k n)) ∧
  (∀  (s : List UInt8), norm1 (.str s) = (.str s)) ∧
  (norm1 (.nilp) = (.nilp)) ∧
  (norm1 (.nilf) = (.nilf)) ∧
  (∀  (l : Nat) (c : List PV), norm1 (.sl l c) = (.sl l c)) ∧
  (∀  (c : List PV), norm1 (.sp c) = (.sp c)) ∧
  (∀ (ws : List PV), argsIn false ws = ws.map normA) ∧
  (∀ (ws : List PV), argsIn true ws = ws) ∧
  (∀  (b : Bool), normA (.bool b) = (.bool b)) ∧
  (∀  (k : IntKind) (n : Int), normA (.int k n) = (.int k n)) ∧
  (∀  (s : List UInt8), normA (.str s) = (.str s)) ∧
  (normA (.nilp) = (.nilp)) ∧
  (normA (.nilf) = (.nilf)) ∧
  (∀  (l : Nat) (c : List PV), normA (.sl l c) = (.sl l c)) ∧
  (∀  (c : List PV), normA (.sp c) = (.sp c)) ∧
  (∀  (r2 : Nat) (p2 : List Nat) (o l z : Nat), normA (.view r2 p2 o l z) = (.view r2 p2 o l z)) ∧
  (∀  (r2 : Nat) (p2 : List Nat) (i n : Nat), normA (.ref r2 p2 i n) = (.ref r2 p2 i n)) ∧
  (∀  (a l : Nat) (c : List PV), normA (.own a l c) = (.own a l c)) ∧
  (∀  (c : List PV), normA (.box c) = (.box c)) ∧
  (normA .nils = .sl 0 []) ∧
  (∀ (c : List PV), normA (.agg c) = .agg (c.map norm1)) ∧
  (∀ (f : Nat) (c : List PV), normA (.fn f c) = .fn f c) ∧
  (∀ (e : Env) (vs : List PV), rowAt e [] vs = Option.none) ∧
  (∀ (e : Env) (k : Nat) (m : List Nat) (vs : List PV), rowAt e (k :: m) vs = (match vs[k]? with | some (.view q p off len z) => (match e.sub q p with | .own sz n cs => if off = 0 ∧ len = n ∧ z = sz then some (k, q, p, sz, n, cs) else Option.none | _ => Option.none) | _ => Option.none)) ∧
  (∀ (r : List PV) (b : Bool), refAt ((.bool b) :: r) = (refAt r).map fun (k, q) => (k + 1, q)) := by
  refine ⟨?_, ?_, ?_, ?_, ?_, ?_, ?_, ?_, ?_, ?_, ?_, ?_, ?_, ?_, ?_, ?_, ?_, ?_, ?_, ?_, ?_, ?_, ?_, ?_, ?_, ?_, ?_, ?_, ?_, ?_, ?_, ?_, ?_, ?_, ?_, ?_, ?_, ?_, ?_, ?_, ?_, ?_, ?_, ?_, ?_, ?_, ?_, ?_, ?_, ?_, ?_, ?_, ?_, ?_, ?_, ?_, ?_, ?_, ?_, ?_⟩ <;> intros <;> rfl
theorem rnb4 : (∀ (r : List PV) (k : IntKind) (n : Int), refAt ((.int k n) :: r) = (refAt r).map fun (k, q) => (k + 1, q)) ∧
  (∀ (r : List PV) (s : List UInt8), refAt ((.str s) :: r) = (refAt r).map fun (k, q) => (k + 1, q)) ∧
  (∀ (r : List PV) , refAt ((.nilp) :: r) = (refAt r).map fun (k, q) => (k + 1, q)) ∧
  (∀ (r : List PV) , refAt ((.nilf) :: r) = (refAt r).map fun (k, q) => (k + 1, q)) ∧
  (∀ (r : List PV) (l : Nat) (c : List PV), refAt ((.sl l c) :: r) = (refAt r).map fun (k, q) => (k + 1, q)) ∧
  (∀ (r : List PV) (c : List PV), refAt ((.sp c) :: r) = (refAt r).map fun (k, q) => (k + 1, q)) ∧
  (∀ (r : List PV) , refAt ((.nils) :: r) = (refAt r).map fun (k, q) => (k + 1, q)) ∧
  (∀ (c r : List PV), refAt (.agg c :: r) = (refAt r).map fun (k, q) => (k + 1, q)) ∧
  (∀ (C : Calls') (L : XO → PV) (S : Subs) (x : XO), evP C L S (.asg x) = Option.none) ∧
  (∀ (C : Calls') (L : XO → PV) (S : Subs) (n : Nat) (x y : XO), evP C L S (.store n x y) = Option.none) ∧
  (∀ (C : Calls') (L : XO → PV) (S : Subs) (x : XO), blocked C L S (.asg x) = false) ∧
  (∀ (C : Calls') (L : XO → PV) (S : Subs) (n : Nat) (x y : XO), blocked C L S (.store n x y) = false) ∧
  (∀ (C : Calls') (L : XO → PV) (S : Subs) (n m : Nat) (x y : XO), blocked C L S (.app n m x y) = false) ∧
  (∀ (C : Calls') (L : XO → PV) (S : Subs) (x : XO) (n : Nat), blocked C L S (.ext x n) = false) ∧
  (∀ (C : Calls') (L : XO → PV) (S : Subs) (n m : Nat) (z : List PV) (p : List (Nat × Nat × XO)), blocked C L S (.bsl n m z p) = false) ∧
  (∀ (C : Calls') (L : XO → PV) (S : Subs) (x : XO), blocked C L S (.box x) = false) ∧
  (∀ (k : IntKind) (x y : Int), intBits .and k x y = some (bAnd k x y)) ∧
  (∀ (k : IntKind) (x y : Int), intBits .or k x y = some (bOr k x y)) ∧
  (∀ (k : IntKind) (x y : Int), intBits .xor k x y = some (bXor k x y)) ∧
  (IntKind.bits .i8 = 8) ∧
  (IntKind.bits .u8 = 8) ∧
  (IntKind.bits .i16 = 16) ∧
  (IntKind.bits .u16 = 16) ∧
  (IntKind.bits .i32 = 32) ∧
  (IntKind.bits .u32 = 32) ∧
  (IntKind.bits .i64 = 64) ∧
  (IntKind.bits .u64 = 64) ∧
  ((true == true) = true) ∧
  ((true == false) = false) ∧
  ((false == true) = false) ∧
  ((false == false) = true) ∧
  (∀ (id : Nat) (e : Env) (k : Env → Option (Ex × Env)), seqK (some (.exit id, e)) k = some (.exit id, e)) ∧
  (∀ (e : Env) (k : Env → Option (Ex × Env)), seqK (some (.ret, e)) k = some (.ret, e)) ∧
  (∀ (i : Nat) (e : Env), blockK i (some (.norm, e)) = some (.norm, e)) ∧
  (∀ (i : Nat) (e : Env), blockK i (some (.ret, e)) = some (.ret, e)) ∧
  (∀ (l : List Nat) (i : Nat) (e : Env), fgt l (some (.exit i, e)) = some (.exit i, e)) ∧
  (∀ (l : List Nat) (e : Env), fgt l (some (.ret, e)) = some (.ret, e)) ∧
  (∀ (x : XF) (ws : List PV) (e : Env), retK x ws (some (.ret, e)) = (resL x.keep e x.res).map fun (vs, e') => (tupOf vs, outsOf x.prot e' 0 ws)) ∧
  (∀ (x : XF) (ws : List PV) (e : Env), retK x ws (some (.norm, e)) = (resL x.keep e x.res).map fun (vs, e') => (tupOf vs, outsOf x.prot e' 0 ws)) ∧
  (∀ (d : Nat) (w : Bool) (g : Nat → PV), wantsG g (some (d, w)) = (match g d with | .bool b => some (b == w) | .tup [] => some false | _ => Option.none)) := by
  refine ⟨?_, ?_, ?_, ?_, ?_, ?_, ?_, ?_, ?_, ?_, ?_, ?_, ?_, ?_, ?_, ?_, ?_, ?_, ?_, ?_, ?_, ?_, ?_, ?_, ?_, ?_, ?_, ?_, ?_, ?_, ?_, ?_, ?_, ?_, ?_, ?_, ?_, ?_, ?_, ?_⟩ <;> intros <;> rfl
theorem rn : type_of% (And.intro (And.intro (And.intro rna0 rna1) (And.intro rna2 (And.intro rna3 rna4))) (And.intro (And.intro rnb0 rnb1) (And.intro rnb2 (And.intro rnb3 rnb4)))) := (And.intro (And.intro (And.intro rna0 rna1) (And.intro rna2 (And.intro rna3 rna4))) (And.intro (And.intro rnb0 rnb1) (And.intro rnb2 (And.intro rnb3 rnb4))))
theorem nzg : (∀ (k : IntKind) (xs : List Int), (xs.flatMap (cint k)).length = xs.length * 1) ∧ (∀ (xs : List Bool), (xs.flatMap cbool).length = xs.length * 1) ∧ (∀ (xs : List Str), (xs.flatMap cstr).length = xs.length * 1) ∧ (∀ (α : Type) (c : α → List PV) (xs : List (List α)), (xs.flatMap (csl c)).length = xs.length * 1) ∧
  (∀ (k : IntKind) (xs : List Int), frzL (xs.flatMap (cint k)) = some (xs.flatMap (cint k))) ∧ (∀ (xs : List Bool), frzL (xs.flatMap cbool) = some (xs.flatMap cbool)) ∧ (∀ (xs : List Str), frzL (xs.flatMap cstr) = some (xs.flatMap cstr)) ∧ (∀ (α : Type) (c : α → List PV) (xs : List (List α)), frzL (xs.flatMap (csl c)) = some (xs.flatMap (csl c))) ∧
  (∀ (k : IntKind) (xs : List Int), (xs.flatMap (cint k)).all PV.free = true) ∧ (∀ (xs : List Bool), (xs.flatMap cbool).all PV.free = true) ∧ (∀ (xs : List Str), (xs.flatMap cstr).all PV.free = true) ∧ (∀ (α : Type) (c : α → List PV) (xs : List (List α)), (xs.flatMap (csl c)).all PV.free = true) ∧
  (∀ (k : IntKind) (xs : List Int), (xs.flatMap (cint k)).take (xs.length * 1) = xs.flatMap (cint k)) ∧ (∀ (xs : List Bool), (xs.flatMap cbool).take (xs.length * 1) = xs.flatMap cbool) ∧ (∀ (xs : List Str), (xs.flatMap cstr).take (xs.length * 1) = xs.flatMap cstr) ∧ (∀ (α : Type) (c : α → List PV) (xs : List (List α)), (xs.flatMap (csl c)).take (xs.length * 1) = xs.flatMap (csl c)) ∧
  (∀ (k : IntKind) (ds : List Nat) (xs : List Int), (xs.flatMap (cint k)).all (noRefs ds) = true) ∧ (∀ (ds : List Nat) (xs : List Bool), (xs.flatMap cbool).all (noRefs ds) = true) ∧ (∀ (ds : List Nat) (xs : List Str), (xs.flatMap cstr).all (noRefs ds) = true) ∧ (∀ (α : Type) (c : α → List PV) (ds : List Nat) (xs : List (List α)), (xs.flatMap (csl c)).all (noRefs ds) = true) ∧ (∀ n : Nat, (n = n * 1) = True) :=
  ⟨fun k => enl_len (sz_int k), enl_len sz_bool, enl_len sz_str, fun _ c => enl_len (sz_sl c), fun k => enl_frz (fz_int k), enl_frz fz_bool, enl_frz fz_str, fun _ c => enl_frz (fz_sl c), fun k => enl_free (fz_int k), enl_free fz_bool, enl_free fz_str, fun _ c => enl_free (fz_sl c), fun k => enl_take (sz_int k), enl_take sz_bool, enl_take sz_str, fun _ c => enl_take (sz_sl c), fun k => enl_noRefs (fz_int k), enl_noRefs fz_bool, enl_noRefs fz_str, fun _ c => enl_noRefs (fz_sl c), fun n => by simp⟩
theorem nzi : (∀ (x : Nat), (x = x) = True) := fun _ => by simp
theorem nzc : ((0 : Nat) : Int) = 0 ∧ ((1 : Nat) : Int) = 1 ∧ ((2 : Nat) : Int) = 2 ∧ ((3 : Nat) : Int) = 3 ∧ ((4 : Nat) : Int) = 4 ∧ ((5 : Nat) : Int) = 5 ∧ ((6 : Nat) : Int) = 6 ∧ ((7 : Nat) : Int) = 7 ∧ ((8 : Nat) : Int) = 8 ∧ ((9 : Nat) : Int) = 9 ∧ ((10 : Nat) : Int) = 10 ∧ ((11 : Nat) : Int) = 11 ∧ ((12 : Nat) : Int) = 12 ∧ ((13 : Nat) : Int) = 13 ∧ ((14 : Nat) : Int) = 14 ∧ ((15 : Nat) : Int) = 15 ∧ ((16 : Nat) : Int) = 16 := ⟨rfl, rfl, rfl, rfl, rfl, rfl, rfl, rfl, rfl, rfl, rfl, rfl, rfl, rfl, rfl, rfl, rfl⟩
theorem nzt : (∀ (σ ρ β : Type) (f : σ → β) (g : ρ → β) (s : σ), stpK f g (.next s) = f s) ∧ (∀ (σ ρ β : Type) (f : σ → β) (g : ρ → β) (r : ρ), stpK f g (.stop r) = g r) := ⟨fun _ _ _ _ _ _ => rfl, fun _ _ _ _ _ _ => rfl⟩
theorem nz : type_of% (And.intro (And.intro (And.intro (And.intro (And.intro (And.intro nzg nzc) (And.intro nzt (And.intro @List.length_nil.{0} @List.flatMap_nil.{0, 0}))) (And.intro (And.intro @mkOwn_nil @mkOwn_succ) (And.intro @mkView_nil (And.intro @mkView_succ @List.length_cons.{0})))) (And.intro (And.intro (And.intro @List.flatMap_cons.{0, 0} @List.length_set.{0}) (And.intro @List.append_nil.{0} (And.intro @List.cons_append.{0} @List.nil_append.{0}))) (And.intro (And.intro @Nat.zero_add @Nat.zero_mul) (And.intro @List.drop_zero.{0} (And.intro @Nat.le_refl @eq_self.{1}))))) (And.intro (And.intro (And.intro (And.intro @and_true @true_and) (And.intro @and_self (And.intro @ne_eq.{1} @not_true_eq_false))) (And.intro (And.intro @not_false_eq_true @or_false) (And.intro @false_or (And.intro @or_self @Bool.or_true)))) (And.intro (And.intro (And.intro @Bool.true_or @Bool.or_false) (And.intro @Bool.false_or (And.intro @Bool.and_true @Bool.true_and))) (And.intro (And.intro @Bool.and_false (And.intro @Bool.false_and @Bool.not_true)) (And.intro @Bool.not_false (And.intro @List.isEmpty_nil.{0} @List.all_cons.{0})))))) (And.intro (And.intro (And.intro (And.intro (And.intro @List.all_nil.{0} @List.any_cons.{0}) (And.intro @List.any_nil.{0} (And.intro @List.map_cons.{0, 0} @List.map_nil.{0, 0}))) (And.intro (And.intro @List.getElem?_cons_zero.{0} @List.getElem?_cons_succ.{0}) (And.intro @List.set_cons_zero.{0} (And.intro @List.set_cons_succ.{0} @List.take_succ_cons.{0})))) (And.intro (And.intro (And.intro @List.take_zero.{0} @List.drop_succ_cons.{0}) (And.intro @List.take_nil.{0} (And.intro @List.drop_nil.{0} @Bool.not_eq_false))) (And.intro (And.intro @Bool.not_eq_true @Bool.true_eq_false) (And.intro @beq_self_eq_true.{0} (And.intro @lim_eq @refs_mkOwn))))) (And.intro (And.intro (And.intro (And.intro @noRefs_mkOwn @noRefs_agg) (And.intro @purge1_mkOwn (And.intro @noOwnL_int @purgeL_int))) (And.intro (And.intro @alL_int @refsL_int) (And.intro @bytesOf_enl (And.intro @cint.eq_1 @cbool.eq_1)))) (And.intro (And.intro (And.intro @cstr.eq_1 @csl.eq_1) (And.intro @decide_true (And.intro @decide_false @Option.bind_some.{0, 0}))) (And.intro (And.intro @List.isPrefixOf_nil_left.{0} (And.intro @Bool.false_xor @Bool.true_xor)) (And.intro @List.length_append.{0} (And.intro @List.replicate_zero.{0} @List.flatMap_append.{0, 0}))))))) := (And.intro (And.intro (And.intro (And.intro (And.intro (And.intro nzg nzc) (And.intro nzt (And.intro @List.length_nil.{0} @List.flatMap_nil.{0, 0}))) (And.intro (And.intro @mkOwn_nil @mkOwn_succ) (And.intro @mkView_nil (And.intro @mkView_succ @List.length_cons.{0})))) (And.intro (And.intro (And.intro @List.flatMap_cons.{0, 0} @List.length_set.{0}) (And.intro @List.append_nil.{0} (And.intro @List.cons_append.{0} @List.nil_append.{0}))) (And.intro (And.intro @Nat.zero_add @Nat.zero_mul) (And.intro @List.drop_zero.{0} (And.intro @Nat.le_refl @eq_self.{1}))))) (And.intro (And.intro (And.intro (And.intro @and_true @true_and) (And.intro @and_self (And.intro @ne_eq.{1} @not_true_eq_false))) (And.intro (And.intro @not_false_eq_true @or_false) (And.intro @false_or (And.intro @or_self @Bool.or_true)))) (And.intro (And.intro (And.intro @Bool.true_or @Bool.or_false) (And.intro @Bool.false_or (And.intro @Bool.and_true @Bool.true_and))) (And.intro (And.intro @Bool.and_false (And.intro @Bool.false_and @Bool.not_true)) (And.intro @Bool.not_false (And.intro @List.isEmpty_nil.{0} @List.all_cons.{0})))))) (And.intro (And.intro (And.intro (And.intro (And.intro @List.all_nil.{0} @List.any_cons.{0}) (And.intro @List.any_nil.{0} (And.intro @List.map_cons.{0, 0} @List.map_nil.{0, 0}))) (And.intro (And.intro @List.getElem?_cons_zero.{0} @List.getElem?_cons_succ.{0}) (And.intro @List.set_cons_zero.{0} (And.intro @List.set_cons_succ.{0} @List.take_succ_cons.{0})))) (And.intro (And.intro (And.intro @List.take_zero.{0} @List.drop_succ_cons.{0}) (And.intro @List.take_nil.{0} (And.intro @List.drop_nil.{0} @Bool.not_eq_false))) (And.intro (And.intro @Bool.not_eq_true @Bool.true_eq_false) (And.intro @beq_self_eq_true.{0} (And.intro @lim_eq @refs_mkOwn))))) (And.intro (And.intro (And.intro (And.intro @noRefs_mkOwn @noRefs_agg) (And.intro @purge1_mkOwn (And.intro @noOwnL_int @purgeL_int))) (And.intro (And.intro @alL_int @refsL_int) (And.intro @bytesOf_enl (And.intro @cint.eq_1 @cbool.eq_1)))) (And.intro (And.intro (And.intro @cstr.eq_1 @csl.eq_1) (And.intro @decide_true (And.intro @decide_false @Option.bind_some.{0, 0}))) (And.intro (And.intro @List.isPrefixOf_nil_left.{0} (And.intro @Bool.false_xor @Bool.true_xor)) (And.intro @List.length_append.{0} (And.intro @List.replicate_zero.{0} @List.flatMap_append.{0, 0})))))))
end Go.Ab

/-
  Printed by gen.py.
-/
namespace Go.Ab
open Go
set_option linter.unusedVariables false
set_option linter.unusedSimpArgs false
set_option maxRecDepth 100000
set_option maxHeartbeats 4000000
structure Shape where
  Slots : Int
  Mask : Int
  deriving DecidableEq
instance : Inhabited Shape := ⟨⟨default, default⟩⟩
def cShape (x : Shape) : List PV := [.int .i64 x.Slots, .int .i64 x.Mask]
theorem szShape : Sz cShape 2 := fun _ => rfl
theorem fzShape : Fz cShape := fun _ => ⟨rfl, rfl⟩
theorem nzShape : type_of% (And.intro @cShape.eq_1 (And.intro (enl_len szShape) (And.intro (enl_frz fzShape) (And.intro (enl_free fzShape) (And.intro (enl_take szShape) (And.intro (enl_purge fzShape) (And.intro (enl_al fzShape) (And.intro (enl_refs fzShape) ((enl_noRefs fzShape)))))))))) := And.intro @cShape.eq_1 (And.intro (enl_len szShape) (And.intro (enl_frz fzShape) (And.intro (enl_free fzShape) (And.intro (enl_take szShape) (And.intro (enl_purge fzShape) (And.intro (enl_al fzShape) (And.intro (enl_refs fzShape) ((enl_noRefs fzShape)))))))))
structure Form where
  Roots : List Int
  Shapes : List Shape
  Slots : List (List Int)
  deriving DecidableEq
instance : Inhabited Form := ⟨⟨default, default, default⟩⟩
def cForm (x : Form) : List PV := [.sl x.Roots.length (x.Roots.flatMap (cint .i64)), .sl x.Shapes.length (x.Shapes.flatMap cShape), .sl x.Slots.length (x.Slots.flatMap (csl (cint .i64)))]
theorem szForm : Sz cForm 3 := fun _ => rfl
theorem fzForm : Fz cForm := fun _ => ⟨rfl, rfl⟩
theorem nzForm : type_of% (And.intro @cForm.eq_1 (And.intro (enl_len szForm) (And.intro (enl_frz fzForm) (And.intro (enl_free fzForm) (And.intro (enl_take szForm) (And.intro (enl_purge fzForm) (And.intro (enl_al fzForm) (And.intro (enl_refs fzForm) ((enl_noRefs fzForm)))))))))) := And.intro @cForm.eq_1 (And.intro (enl_len szForm) (And.intro (enl_frz fzForm) (And.intro (enl_free fzForm) (And.intro (enl_take szForm) (And.intro (enl_purge fzForm) (And.intro (enl_al fzForm) (And.intro (enl_refs fzForm) ((enl_noRefs fzForm)))))))))
noncomputable def r28_Weight_l3_b (p0 : Form) (p1 : Int) (n1 : Int) (i2 : Int) : Option (Stp (Int × Int) Int) :=
  if ((decide (i2 < ((p0.Slots.length : Int)))) && (decide (n1 ≤ p1))) then
    (ix p0.Slots i2).bind fun x_4 =>
    some (.next (IntKind.wrap .i64 ((IntKind.wrap .i64 (n1 + 1)) + ((x_4.length : Int))), IntKind.wrap .i64 (i2 + 1)))
  else
    some (.stop n1)
noncomputable def r28_Weight_l3 (p0 : Form) (p1 : Int) (s : Int × Int) : Option Int := runL (fun s => r28_Weight_l3_b p0 p1 s.1 s.2) s
noncomputable def r28_Weight (p0 : Form) (p1 : Int) : Option Int :=
  (r28_Weight_l3 p0 p1 (IntKind.wrap .i64 (((p0.Roots.length : Int)) + ((p0.Shapes.length : Int))), 0)).bind fun n5 =>
  some n5
noncomputable def l28_light (p0 : Form) : Option Bool :=
  (r28_Weight p0 300).bind fun r1 =>
  some (decide (r1 ≤ 300))
noncomputable def r28_next (p0 : Int) (p1 : Int) : Option Int :=
  if ((decide (p0 < 0)) || (((decide (p1 < 0)) || (decide ((IntKind.wrap .i64 (p0 + 1)) < p1))))) then
    some (-1)
  else
  if decide (p0 < p1) then
    some p1
  else
    some p0
noncomputable def r03_power_l1_b (p0 : Int) (out1 : Int) (i2 : Int) : Option (Stp (Int × Int) Int) :=
  if decide (i2 < p0) then
    some (.next (IntKind.wrap .i64 (out1 * 2), IntKind.wrap .i64 (i2 + 1)))
  else
    some (.stop out1)
noncomputable def r03_power_l1 (p0 : Int) (s : Int × Int) : Option Int := runL (fun s => r03_power_l1_b p0 s.1 s.2) s
noncomputable def r03_power (p0 : Int) : Option Int :=
  (r03_power_l1 p0 (1, 0)).bind fun out3 =>
  some out3
noncomputable def r03_Check_j2 (p0 : Shape) : Option Bool :=
  if decide (p0.Mask < 0) then
    some true
  else
    (r03_power p0.Slots).bind fun r2 =>
    some (decide (r2 ≤ p0.Mask))
noncomputable def r03_Check (p0 : Shape) : Option Int :=
  if ((decide (p0.Slots < 0)) || (decide (16 < p0.Slots))) then
    some 16
  else
    (r03_Check_j2 p0).bind fun v3 =>
    if v3 then
      some 16
    else
      some 0
noncomputable def r03_Pointer (p0 : Shape) (p1 : Int) : Option Bool :=
  if ((decide (p1 < 0)) || (decide (p0.Slots ≤ p1))) then
    some false
  else
    (r03_power p1).bind fun r2 =>
    if decide (r2 = 0) then
      Option.none
    else
      some ((Int.tmod (IntKind.wrap .i64 (Int.tdiv p0.Mask r2)) 2) == 1)
noncomputable def r28_Check_l1_b (p0 : Form) (v1 : Int) (v2 : Int) : Option (Stp (Int × Int) Int) :=
  if decide (v2 < ((p0.Roots.length : Int))) then
    (ix p0.Roots v2).bind fun x_3 =>
    (r28_next v1 x_3).bind fun r4 =>
    some (.next (r4, IntKind.wrap .i64 (v2 + 1)))
  else
    some (.stop v1)
noncomputable def r28_Check_l1 (p0 : Form) (s : Int × Int) : Option Int := runL (fun s => r28_Check_l1_b p0 s.1 s.2) s
noncomputable def r28_Check_j20 (p0 : Form) (v6 : Int) (v7 : Int) (x_8 : Shape) : Option Bool :=
  (r03_Check x_8).bind fun r9 =>
  if (r9 != 0) then
    some true
  else
    (ix p0.Slots v7).bind fun x_10 =>
    some (((x_10.length : Int)) != x_8.Slots)
noncomputable def r28_Check_j24 (p0 : Form) (v7 : Int) (x_8 : Shape) (v12 : Int) (v13 : Int) (r14 : Bool) : Option Int :=
  if r14 then
    (ix p0.Slots v7).bind fun x_15 =>
    (ix x_15 v13).bind fun x_16 =>
    (r28_next v12 x_16).bind fun r17 =>
    some r17
  else
    some v12
noncomputable def r28_Check_l25_b (p0 : Form) (v7 : Int) (x_8 : Shape) (v12 : Int) (v13 : Int) : Option (Stp (Int × Int) Int) :=
  if decide (v13 < x_8.Slots) then
    (r03_Pointer x_8 v13).bind fun r14 =>
    (r28_Check_j24 p0 v7 x_8 v12 v13 r14).bind fun v18 =>
    some (.next (v18, IntKind.wrap .i64 (v13 + 1)))
  else
    some (.stop v12)
noncomputable def r28_Check_l25 (p0 : Form) (v7 : Int) (x_8 : Shape) (s : Int × Int) : Option Int := runL (fun s => r28_Check_l25_b p0 v7 x_8 s.1 s.2) s
noncomputable def r28_Check_l26_b (p0 : Form) (v6 : Int) (v7 : Int) : Option (Stp (Int × Int) (Stp Int Int)) :=
  if decide (v7 < ((p0.Shapes.length : Int))) then
    (ix p0.Shapes v7).bind fun x_8 =>
    (r28_Check_j20 p0 v6 v7 x_8).bind fun v11 =>
    if v11 then
      some (.stop (.stop (16)))
    else
    if decide (v6 ≤ v7) then
      some (.stop (.stop (14)))
    else
      (r28_Check_l25 p0 v7 x_8 (v6, 0)).bind fun v19 =>
      if decide (v19 < 0) then
        some (.stop (.stop (19)))
      else
        some (.next (v19, IntKind.wrap .i64 (v7 + 1)))
  else
    some (.stop (.next v6))
noncomputable def r28_Check_l26 (p0 : Form) (s : Int × Int) : Option (Stp Int Int) := runL (fun s => r28_Check_l26_b p0 s.1 s.2) s
noncomputable def r28_Check (p0 : Form) : Option Int :=
  if (((p0.Shapes.length : Int)) != ((p0.Slots.length : Int))) then
    some 13
  else
    (r28_Check_l1 p0 (0, 0)).bind fun v5 =>
    if decide (v5 < 0) then
      some 19
    else
      (r28_Check_l26 p0 (v5, 0)).bind fun
        | .next v20 =>
          if (v20 != ((p0.Shapes.length : Int))) then
            some 20
          else
            some 0
        | .stop v21 =>
          some v21
noncomputable def slices_Equal_intint_l1_b (p0 : List Int) (p1 : List Int) (v1 : Int) : Option (Stp Int (Stp Unit Unit)) :=
  if decide (v1 < ((p0.length : Int))) then
    (ix p0 v1).bind fun x_2 =>
    (ix p1 v1).bind fun x_3 =>
    if (x_2 != x_3) then
      some (.stop (.stop (())))
    else
      some (.next (IntKind.wrap .i64 (v1 + 1)))
  else
    some (.stop (.next ()))
noncomputable def slices_Equal_intint_l1 (p0 : List Int) (p1 : List Int) (s : Int) : Option (Stp Unit Unit) := runL (fun s => slices_Equal_intint_l1_b p0 p1 s) s
noncomputable def slices_Equal_intint (p0 : List Int) (p1 : List Int) : Option Bool :=
  if (((p0.length : Int)) != ((p1.length : Int))) then
    some false
  else
    (slices_Equal_intint_l1 p0 p1 0).bind fun
      | .next _ =>
        some true
      | .stop _ =>
        some false
noncomputable def slices_Equal_apiShapeapiShape_l1_b (p0 : List Shape) (p1 : List Shape) (v1 : Int) : Option (Stp Int (Stp Unit Unit)) :=
  if decide (v1 < ((p0.length : Int))) then
    (ix p0 v1).bind fun x_2 =>
    (ix p1 v1).bind fun x_3 =>
    if (!((x_2.Slots == x_3.Slots) && (x_2.Mask == x_3.Mask))) then
      some (.stop (.stop (())))
    else
      some (.next (IntKind.wrap .i64 (v1 + 1)))
  else
    some (.stop (.next ()))
noncomputable def slices_Equal_apiShapeapiShape_l1 (p0 : List Shape) (p1 : List Shape) (s : Int) : Option (Stp Unit Unit) := runL (fun s => slices_Equal_apiShapeapiShape_l1_b p0 p1 s) s
noncomputable def slices_Equal_apiShapeapiShape (p0 : List Shape) (p1 : List Shape) : Option Bool :=
  if (((p0.length : Int)) != ((p1.length : Int))) then
    some false
  else
    (slices_Equal_apiShapeapiShape_l1 p0 p1 0).bind fun
      | .next _ =>
        some true
      | .stop _ =>
        some false
noncomputable def slices_Equal_int64int64_l1_b (p0 : List Int) (p1 : List Int) (v1 : Int) : Option (Stp Int (Stp Unit Unit)) :=
  if decide (v1 < ((p0.length : Int))) then
    (ix p0 v1).bind fun x_2 =>
    (ix p1 v1).bind fun x_3 =>
    if (x_2 != x_3) then
      some (.stop (.stop (())))
    else
      some (.next (IntKind.wrap .i64 (v1 + 1)))
  else
    some (.stop (.next ()))
noncomputable def slices_Equal_int64int64_l1 (p0 : List Int) (p1 : List Int) (s : Int) : Option (Stp Unit Unit) := runL (fun s => slices_Equal_int64int64_l1_b p0 p1 s) s
noncomputable def slices_Equal_int64int64 (p0 : List Int) (p1 : List Int) : Option Bool :=
  if (((p0.length : Int)) != ((p1.length : Int))) then
    some false
  else
    (slices_Equal_int64int64_l1 p0 p1 0).bind fun
      | .next _ =>
        some true
      | .stop _ =>
        some false
noncomputable def canon_Same_j1 (p0 : Form) (p1 : Form) : Option Bool :=
  (slices_Equal_intint p0.Roots p1.Roots).bind fun r1 =>
  if (!r1) then
    some true
  else
    (slices_Equal_apiShapeapiShape p0.Shapes p1.Shapes).bind fun r2 =>
    if (!r2) then
      some true
    else
      some (((p0.Slots.length : Int)) != ((p1.Slots.length : Int)))
noncomputable def canon_Same_l2_b (p0 : Form) (p1 : Form) (v4 : Int) : Option (Stp Int (Stp Unit Unit)) :=
  if decide (v4 < ((p0.Slots.length : Int))) then
    (ix p0.Slots v4).bind fun x_5 =>
    (ix p1.Slots v4).bind fun x_6 =>
    (slices_Equal_int64int64 x_5 x_6).bind fun r7 =>
    if (!r7) then
      some (.stop (.stop (())))
    else
      some (.next (IntKind.wrap .i64 (v4 + 1)))
  else
    some (.stop (.next ()))
noncomputable def canon_Same_l2 (p0 : Form) (p1 : Form) (s : Int) : Option (Stp Unit Unit) := runL (fun s => canon_Same_l2_b p0 p1 s) s
noncomputable def canon_Same (p0 : Form) (p1 : Form) : Option Bool :=
  (canon_Same_j1 p0 p1).bind fun v3 =>
  if v3 then
    some false
  else
    (canon_Same_l2 p0 p1 0).bind fun
      | .next _ =>
        some true
      | .stop _ =>
        some false
noncomputable def r05_Ints_l1_b (p0 : List Int) (p1 : List Int) (i1 : Int) : Option (Stp Int (Stp Unit Unit)) :=
  if decide (i1 < ((p0.length : Int))) then
    (ix p0 i1).bind fun x_2 =>
    (ix p1 i1).bind fun x_3 =>
    if (x_2 != x_3) then
      some (.stop (.stop (())))
    else
      some (.next (IntKind.wrap .i64 (i1 + 1)))
  else
    some (.stop (.next ()))
noncomputable def r05_Ints_l1 (p0 : List Int) (p1 : List Int) (s : Int) : Option (Stp Unit Unit) := runL (fun s => r05_Ints_l1_b p0 p1 s) s
noncomputable def r05_Ints (p0 : List Int) (p1 : List Int) : Option Bool :=
  if (((p0.length : Int)) != ((p1.length : Int))) then
    some false
  else
    (r05_Ints_l1 p0 p1 0).bind fun
      | .next _ =>
        some true
      | .stop _ =>
        some false
noncomputable def r13_Begins_l1_b (p0 : List Int) (p1 : List Int) (i1 : Int) : Option (Stp Int (Stp Unit Unit)) :=
  if decide (i1 < ((p0.length : Int))) then
    (ix p0 i1).bind fun x_2 =>
    (ix p1 i1).bind fun x_3 =>
    if (x_2 != x_3) then
      some (.stop (.stop (())))
    else
      some (.next (IntKind.wrap .i64 (i1 + 1)))
  else
    some (.stop (.next ()))
noncomputable def r13_Begins_l1 (p0 : List Int) (p1 : List Int) (s : Int) : Option (Stp Unit Unit) := runL (fun s => r13_Begins_l1_b p0 p1 s) s
noncomputable def r13_Begins (p0 : List Int) (p1 : List Int) : Option Bool :=
  if decide (((p1.length : Int)) < ((p0.length : Int))) then
    some false
  else
    (r13_Begins_l1 p0 p1 0).bind fun
      | .next _ =>
        some true
      | .stop _ =>
        some false
noncomputable def r13_Nums_j1 (p0 : List Int) (p1 : List Int) : Option Bool :=
  if (((p0.length : Int)) == ((p1.length : Int))) then
    (r13_Begins p0 p1).bind fun r1 =>
    some r1
  else
    some false
noncomputable def r13_Nums (p0 : List Int) (p1 : List Int) : Option Bool :=
  (r13_Nums_j1 p0 p1).bind fun v2 =>
  some v2
noncomputable def r28_Same_j1 (p0 : Form) (p1 : Form) : Option Bool :=
  (r05_Ints p0.Roots p1.Roots).bind fun r1 =>
  if (!r1) then
    some true
  else
  if (((p0.Shapes.length : Int)) != ((p1.Shapes.length : Int))) then
    some true
  else
    some (((p0.Slots.length : Int)) != ((p1.Slots.length : Int)))
noncomputable def r28_Same_l2_b (p0 : Form) (p1 : Form) (v3 : Int) : Option (Stp Int (Stp Unit Unit)) :=
  if decide (v3 < ((p0.Shapes.length : Int))) then
    (ix p0.Shapes v3).bind fun x_4 =>
    (ix p1.Shapes v3).bind fun x_5 =>
    if (!((x_4.Slots == x_5.Slots) && (x_4.Mask == x_5.Mask))) then
      some (.stop (.stop (())))
    else
      some (.next (IntKind.wrap .i64 (v3 + 1)))
  else
    some (.stop (.next ()))
noncomputable def r28_Same_l2 (p0 : Form) (p1 : Form) (s : Int) : Option (Stp Unit Unit) := runL (fun s => r28_Same_l2_b p0 p1 s) s
noncomputable def r28_Same_l3_b (p0 : Form) (p1 : Form) (v6 : Int) : Option (Stp Int (Stp Unit Unit)) :=
  if decide (v6 < ((p0.Slots.length : Int))) then
    (ix p0.Slots v6).bind fun x_7 =>
    (ix p1.Slots v6).bind fun x_8 =>
    (r13_Nums x_7 x_8).bind fun r9 =>
    if (!r9) then
      some (.stop (.stop (())))
    else
      some (.next (IntKind.wrap .i64 (v6 + 1)))
  else
    some (.stop (.next ()))
noncomputable def r28_Same_l3 (p0 : Form) (p1 : Form) (s : Int) : Option (Stp Unit Unit) := runL (fun s => r28_Same_l3_b p0 p1 s) s
noncomputable def r28_Same (p0 : Form) (p1 : Form) : Option Bool :=
  (r28_Same_j1 p0 p1).bind fun v2 =>
  if v2 then
    some false
  else
    (r28_Same_l2 p0 p1 0).bind fun
      | .next _ =>
        (r28_Same_l3 p0 p1 0).bind fun
          | .next _ =>
            some true
          | .stop _ =>
            some false
      | .stop _ =>
        some false
noncomputable def canon_Words_l1_b (p0 : Form) (n1 : Int) (v2 : Int) : Option (Stp (Int × Int) Int) :=
  if decide (v2 < ((p0.Shapes.length : Int))) then
    (ix p0.Shapes v2).bind fun x_3 =>
    some (.next (IntKind.wrap .i64 (n1 + (IntKind.wrap .i64 (1 + x_3.Slots))), IntKind.wrap .i64 (v2 + 1)))
  else
    some (.stop n1)
noncomputable def canon_Words_l1 (p0 : Form) (s : Int × Int) : Option Int := runL (fun s => canon_Words_l1_b p0 s.1 s.2) s
noncomputable def canon_Words (p0 : Form) : Option Int :=
  (canon_Words_l1 p0 (0, 0)).bind fun n4 =>
  some n4
noncomputable def r28_Words_l1_b (p0 : Form) (n1 : Int) (i2 : Int) : Option (Stp (Int × Int) Int) :=
  if decide (i2 < ((p0.Shapes.length : Int))) then
    (ix p0.Shapes i2).bind fun x_3 =>
    some (.next (IntKind.wrap .i64 ((IntKind.wrap .i64 (n1 + 1)) + x_3.Slots), IntKind.wrap .i64 (i2 + 1)))
  else
    some (.stop n1)
noncomputable def r28_Words_l1 (p0 : Form) (s : Int × Int) : Option Int := runL (fun s => r28_Words_l1_b p0 s.1 s.2) s
noncomputable def r28_Words (p0 : Form) : Option Int :=
  (r28_Words_l1 p0 (0, 0)).bind fun n4 =>
  some n4
noncomputable def shape_Check (p0 : Shape) : Option Int :=
  if ((decide (p0.Slots < 0)) || (((decide (16 < p0.Slots)) || (((decide (p0.Mask < 0)) || (decide ((IntKind.wrap .i64 (1 * 2 ^ (min p0.Slots.toNat 64))) ≤ p0.Mask))))))) then
    some 16
  else
    some 0
noncomputable def shape_bits : Option (List Int) :=
  some ([1, 2, 4, 8, 16, 32, 64, 128, 256, 512, 1024, 2048, 4096, 8192, 16384, 32768])
noncomputable def shape_Pointer_j1 (p0 : Shape) (p1 : Int) : Option Bool :=
  if decide (0 ≤ p1) then
    if decide (p1 < p0.Slots) then
      (shape_bits).bind fun r1 =>
      (ixa r1 16 p1).bind fun x_2 =>
      some ((bAnd .i64 p0.Mask x_2) != 0)
    else
      some false
  else
    some false
noncomputable def shape_Pointer (p0 : Shape) (p1 : Int) : Option Bool :=
  (shape_Pointer_j1 p0 p1).bind fun v3 =>
  some v3
end Go.Ab

namespace Go.Ab
open Go
set_option linter.unusedVariables false
set_option linter.unusedSimpArgs false
set_option maxRecDepth 10000
set_option maxHeartbeats 4000000

variable {K : HCalls} {C : Calls'}

/-- the number of an object, as it is met -/
def mxI (a b : Int) : Int := if a < b then b else a
def nx (most v : Int) : Option Int := if v < 0 ∨ IntKind.wrap .i64 (most + 1) < v then Option.none else some (mxI most v)
def nxs : Int → List Int → Option Int
  | m, [] => some m
  | m, v :: r => (nx m v).bind fun m' => nxs m' r

theorem e96f (hk : ∀ ws st, K 96 ws st = .none) {most v : Int} (h : nx most v = Option.none) (n : Nat) (st : HSt) (x : HB) (g : HSt) :
    evHF C K TH (n + 12) 96 [.p (.int .i64 v), .ptr (st.length + 1) 0] (st ++ (x :: .box [.p (.int .i64 most)] :: g)) = some (.p (.bool false), st ++ (x :: .box [.p (.int .i64 most)] :: g)) := by
  refine evHF_in (n := n + 11) hk (x := h96) rfl rfl ?_
  by_cases h1 : v < 0
  · simp (config := { maxSteps := 4000000 }) [↓evP_callC, ↓oel_some, ↓oel_none, ↓bel_true, ↓bel_false, ↓hvel_true, ↓hvel_false, ↓exel_norm, ↓exel_ret, ↓exel_exit, ↓retel_norm, ↓retel_ret, oel_some, oel_none, bel_true, bel_false, hvel_true, hvel_false, exel_norm, exel_ret, exel_exit, retel_norm, retel_ret, fgtH_norm, fgtH_ret, fgtH_exit, blkel_norm, blkel_ret, blkel_exit, get_nil, get_cons, set_nil, set_cons, keep_nil, keep_cons, params_nil, params_cons, lookHG_t, lookHG_k, lookHG_f, alG, lookPG_t, lookPG_k, lookPG_f, wantsE_none, wantsE_some, wantB_bool, wantB_skip, stepsH_nil, stepsH_cons, stepH_eq, stepHL_eq, evHP_x, evHP_bm, evHP_snil, evHP_slc0, evHP_copy, evHC_skip, evHC_ret, evHC_exit, evHC_reg, evHC_regD, evHC_seq, evHC_cond, evHC_block, evHC_loop, HOp.temps, HOp.opds, XOp.opds, optO, tempsO, hland, land1, evHX, evHV, evHN, evP, evHS, toP, vis, PV.loose, noOwn, noOwnL, refs, refsL, fresh, al, alL, fr_none, fr_bool, fr_int, fr_str, fr_nilp, fr_nils, fr_nilf, fr_sl, fr_sp, fr_ref, fr_view, fr_box, fr_own, fr_agg, fr_tup, fr_fn, setH, pvBin, intBin, fillH, fillP, PV.lok, cellsH, cells, HV.one, partsO, mkAgg, mkTup, allP, setCellsH, blkCells, partH, resHL, resH1, resT, tupHOf, slElems, bnd, idxOk, pvPeq, pvBeq, pvUn, mkOwn, rep, lendL, lend, lend1, lend1L, PV.flat, PV.flat1, lent, PV.isView, getElem?_len, getElem?_len0, set_len0, set_len, lim, part, norm1, slCells, h96, h1]
  · have h2 : IntKind.wrap .i64 (most + 1) < v := by
      simp only [nx] at h
      split at h
      · omega
      · cases h
    simp (config := { maxSteps := 4000000 }) [↓evP_callC, ↓oel_some, ↓oel_none, ↓bel_true, ↓bel_false, ↓hvel_true, ↓hvel_false, ↓exel_norm, ↓exel_ret, ↓exel_exit, ↓retel_norm, ↓retel_ret, oel_some, oel_none, bel_true, bel_false, hvel_true, hvel_false, exel_norm, exel_ret, exel_exit, retel_norm, retel_ret, fgtH_norm, fgtH_ret, fgtH_exit, blkel_norm, blkel_ret, blkel_exit, get_nil, get_cons, set_nil, set_cons, keep_nil, keep_cons, params_nil, params_cons, lookHG_t, lookHG_k, lookHG_f, alG, lookPG_t, lookPG_k, lookPG_f, wantsE_none, wantsE_some, wantB_bool, wantB_skip, stepsH_nil, stepsH_cons, stepH_eq, stepHL_eq, evHP_x, evHP_bm, evHP_snil, evHP_slc0, evHP_copy, evHC_skip, evHC_ret, evHC_exit, evHC_reg, evHC_regD, evHC_seq, evHC_cond, evHC_block, evHC_loop, HOp.temps, HOp.opds, XOp.opds, optO, tempsO, hland, land1, evHX, evHV, evHN, evP, evHS, toP, vis, PV.loose, noOwn, noOwnL, refs, refsL, fresh, al, alL, fr_none, fr_bool, fr_int, fr_str, fr_nilp, fr_nils, fr_nilf, fr_sl, fr_sp, fr_ref, fr_view, fr_box, fr_own, fr_agg, fr_tup, fr_fn, setH, pvBin, intBin, fillH, fillP, PV.lok, cellsH, cells, HV.one, partsO, mkAgg, mkTup, allP, setCellsH, blkCells, partH, resHL, resH1, resT, tupHOf, slElems, bnd, idxOk, pvPeq, pvBeq, pvUn, mkOwn, rep, lendL, lend, lend1, lend1L, PV.flat, PV.flat1, lent, PV.isView, getElem?_len, getElem?_len0, set_len0, set_len, lim, part, norm1, slCells, h96, h1, h2]

theorem e96t (hk : ∀ ws st, K 96 ws st = .none) {most v m' : Int} (h : nx most v = some m') (n : Nat) (st : HSt) (x : HB) (g : HSt) :
    evHF C K TH (n + 12) 96 [.p (.int .i64 v), .ptr (st.length + 1) 0] (st ++ (x :: .box [.p (.int .i64 most)] :: g)) = some (.p (.bool true), st ++ (x :: .box [.p (.int .i64 m')] :: g)) := by
  refine evHF_in (n := n + 11) hk (x := h96) rfl rfl ?_
  simp only [nx] at h
  split at h
  · cases h
  · rename_i h0
    have h1 : ¬ v < 0 := by omega
    have h2 : ¬ IntKind.wrap .i64 (most + 1) < v := by omega
    obtain rfl := Option.some.inj h
    unfold mxI
    by_cases h3 : most < v
    · simp (config := { maxSteps := 4000000 }) [↓evP_callC, ↓oel_some, ↓oel_none, ↓bel_true, ↓bel_false, ↓hvel_true, ↓hvel_false, ↓exel_norm, ↓exel_ret, ↓exel_exit, ↓retel_norm, ↓retel_ret, oel_some, oel_none, bel_true, bel_false, hvel_true, hvel_false, exel_norm, exel_ret, exel_exit, retel_norm, retel_ret, fgtH_norm, fgtH_ret, fgtH_exit, blkel_norm, blkel_ret, blkel_exit, get_nil, get_cons, set_nil, set_cons, keep_nil, keep_cons, params_nil, params_cons, lookHG_t, lookHG_k, lookHG_f, alG, lookPG_t, lookPG_k, lookPG_f, wantsE_none, wantsE_some, wantB_bool, wantB_skip, stepsH_nil, stepsH_cons, stepH_eq, stepHL_eq, evHP_x, evHP_bm, evHP_snil, evHP_slc0, evHP_copy, evHC_skip, evHC_ret, evHC_exit, evHC_reg, evHC_regD, evHC_seq, evHC_cond, evHC_block, evHC_loop, HOp.temps, HOp.opds, XOp.opds, optO, tempsO, hland, land1, evHX, evHV, evHN, evP, evHS, toP, vis, PV.loose, noOwn, noOwnL, refs, refsL, fresh, al, alL, fr_none, fr_bool, fr_int, fr_str, fr_nilp, fr_nils, fr_nilf, fr_sl, fr_sp, fr_ref, fr_view, fr_box, fr_own, fr_agg, fr_tup, fr_fn, setH, pvBin, intBin, fillH, fillP, PV.lok, cellsH, cells, HV.one, partsO, mkAgg, mkTup, allP, setCellsH, blkCells, partH, resHL, resH1, resT, tupHOf, slElems, bnd, idxOk, pvPeq, pvBeq, pvUn, mkOwn, rep, lendL, lend, lend1, lend1L, PV.flat, PV.flat1, lent, PV.isView, getElem?_len, getElem?_len0, set_len0, set_len, lim, part, norm1, slCells, h96, h1, h2, h3]
    · simp (config := { maxSteps := 4000000 }) [↓evP_callC, ↓oel_some, ↓oel_none, ↓bel_true, ↓bel_false, ↓hvel_true, ↓hvel_false, ↓exel_norm, ↓exel_ret, ↓exel_exit, ↓retel_norm, ↓retel_ret, oel_some, oel_none, bel_true, bel_false, hvel_true, hvel_false, exel_norm, exel_ret, exel_exit, retel_norm, retel_ret, fgtH_norm, fgtH_ret, fgtH_exit, blkel_norm, blkel_ret, blkel_exit, get_nil, get_cons, set_nil, set_cons, keep_nil, keep_cons, params_nil, params_cons, lookHG_t, lookHG_k, lookHG_f, alG, lookPG_t, lookPG_k, lookPG_f, wantsE_none, wantsE_some, wantB_bool, wantB_skip, stepsH_nil, stepsH_cons, stepH_eq, stepHL_eq, evHP_x, evHP_bm, evHP_snil, evHP_slc0, evHP_copy, evHC_skip, evHC_ret, evHC_exit, evHC_reg, evHC_regD, evHC_seq, evHC_cond, evHC_block, evHC_loop, HOp.temps, HOp.opds, XOp.opds, optO, tempsO, hland, land1, evHX, evHV, evHN, evP, evHS, toP, vis, PV.loose, noOwn, noOwnL, refs, refsL, fresh, al, alL, fr_none, fr_bool, fr_int, fr_str, fr_nilp, fr_nils, fr_nilf, fr_sl, fr_sp, fr_ref, fr_view, fr_box, fr_own, fr_agg, fr_tup, fr_fn, setH, pvBin, intBin, fillH, fillP, PV.lok, cellsH, cells, HV.one, partsO, mkAgg, mkTup, allP, setCellsH, blkCells, partH, resHL, resH1, resT, tupHOf, slElems, bnd, idxOk, pvPeq, pvBeq, pvUn, mkOwn, rep, lendL, lend, lend1, lend1L, PV.flat, PV.flat1, lent, PV.isView, getElem?_len, getElem?_len0, set_len0, set_len, lim, part, norm1, slCells, h96, h1, h2, h3]
end Go.Ab

namespace Go.Ab
open Go
set_option linter.unusedVariables false
set_option linter.unusedSimpArgs false
set_option maxRecDepth 10000
set_option maxHeartbeats 4000000

variable {K : HCalls} {C : Calls'}

theorem wrN {i : Nat} (h : i < 140737488355328) : IntKind.wrap .i64 ((i : Int) + 1) = ((i + 1 : Nat) : Int) := by
  rw [wrap_id (by omega) (by omega)]; omega

def env0 (A : Nat) (cs : List PV) (N i : Nat) : HEnv := [(1, .ptr A 0), (3, .ptr (A + 1) 0), (4, .fn 96 [.ptr (A + 1) 0]), (21, .p (.sl N cs)), (22, .p (.int .i64 N)), (23, .p (.int .i64 i))]

theorem loop0 (hk : ∀ ws st, K 96 ws st = .none) (R : List Int) (cs : List PV) (hcs : ∀ i v, R[i]? = some v → (cs.drop i).take 1 = [.int .i64 v]) (hN : R.length < 140737488355328) (st : HSt) (x : HB) (g : HSt) :
    ∀ (k i : Nat) (most : Int), R.length - i = k → i ≤ R.length →
      (∀ m', nxs most (R.drop i) = some m' → Run C K TH (.loop h45l0 [1, 3, 4, 21, 22, 23]) (env0 st.length cs R.length i, st ++ (x :: .box [.p (.int .i64 most)] :: g)) (.exit 0)
        ([(1, .ptr st.length 0), (3, .ptr (st.length + 1) 0), (4, .fn 96 [.ptr (st.length + 1) 0])], st ++ (x :: .box [.p (.int .i64 m')] :: g))) ∧
      (nxs most (R.drop i) = Option.none → ∃ m', Run C K TH (.loop h45l0 [1, 3, 4, 21, 22, 23]) (env0 st.length cs R.length i, st ++ (x :: .box [.p (.int .i64 most)] :: g)) .ret
        ([(2, .p (.int .i64 19))], st ++ (x :: .box [.p (.int .i64 m')] :: g))) := by
  intro k
  induction k with
  | zero =>
    intro i most hk' hi
    have hlt : ¬ i < R.length := by omega
    have h1 : R.drop i = [] := List.drop_eq_nil_of_le (by omega)
    rw [h1]
    refine ⟨fun m' h => ?_, fun h => by cases h⟩
    obtain rfl := Option.some.inj h
    refine Run.loopX (Run.of 40 ?_) (by simp)
    simp (config := { maxSteps := 4000000 }) [↓evP_callC, ↓oel_some, ↓oel_none, ↓bel_true, ↓bel_false, ↓hvel_true, ↓hvel_false, ↓exel_norm, ↓exel_ret, ↓exel_exit, ↓retel_norm, ↓retel_ret, oel_some, oel_none, bel_true, bel_false, hvel_true, hvel_false, exel_norm, exel_ret, exel_exit, retel_norm, retel_ret, fgtH_norm, fgtH_ret, fgtH_exit, blkel_norm, blkel_ret, blkel_exit, get_nil, get_cons, set_nil, set_cons, keep_nil, keep_cons, params_nil, params_cons, lookHG_t, lookHG_k, lookHG_f, alG, lookPG_t, lookPG_k, lookPG_f, wantsE_none, wantsE_some, wantB_bool, wantB_skip, stepsH_nil, stepsH_cons, stepH_eq, stepHL_eq, evHP_x, evHP_bm, evHP_snil, evHP_slc0, evHP_copy, evHC_skip, evHC_ret, evHC_exit, evHC_reg, evHC_regD, evHC_seq, evHC_cond, evHC_block, evHC_loop, HOp.temps, HOp.opds, XOp.opds, optO, tempsO, hland, land1, evHX, evHV, evHN, evP, evHS, toP, vis, PV.loose, noOwn, noOwnL, refs, refsL, fresh, al, alL, fr_none, fr_bool, fr_int, fr_str, fr_nilp, fr_nils, fr_nilf, fr_sl, fr_sp, fr_ref, fr_view, fr_box, fr_own, fr_agg, fr_tup, fr_fn, setH, pvBin, intBin, fillH, fillP, PV.lok, cellsH, cells, HV.one, partsO, mkAgg, mkTup, allP, setCellsH, blkCells, partH, resHL, resH1, resT, tupHOf, slElems, bnd, idxOk, pvPeq, pvBeq, pvUn, mkOwn, rep, lendL, lend, lend1, lend1L, PV.flat, PV.flat1, lent, PV.isView, getElem?_len, getElem?_len0, set_len0, set_len, lim, part, norm1, slCells, h45l0, env0, hlt]
  | succ k ih =>
    intro i most hk' hi
    have hlt : i < R.length := by omega
    obtain ⟨v, hv⟩ : ∃ v, R[i]? = some v := ⟨R[i], List.getElem?_eq_getElem hlt⟩
    have h1 : R.drop i = v :: R.drop (i + 1) := by
      rw [List.drop_eq_getElem_cons hlt]
      congr 1
      rw [List.getElem?_eq_getElem hlt] at hv
      exact Option.some.inj hv
    have h2 := hcs i v hv
    have hw := wrN (i := i) (by omega)
    rw [h1]
    have hstep : ∀ m1, nx most v = some m1 → Run C K TH h45l0 (env0 st.length cs R.length i, st ++ (x :: .box [.p (.int .i64 most)] :: g)) .norm (env0 st.length cs R.length (i + 1), st ++ (x :: .box [.p (.int .i64 m1)] :: g)) := by
      intro m1 hm
      have e := fun n => e96t (C := C) hk hm n st x g
      refine Run.of 40 ?_
      simp (config := { maxSteps := 4000000 }) [↓evP_callC, ↓oel_some, ↓oel_none, ↓bel_true, ↓bel_false, ↓hvel_true, ↓hvel_false, ↓exel_norm, ↓exel_ret, ↓exel_exit, ↓retel_norm, ↓retel_ret, oel_some, oel_none, bel_true, bel_false, hvel_true, hvel_false, exel_norm, exel_ret, exel_exit, retel_norm, retel_ret, fgtH_norm, fgtH_ret, fgtH_exit, blkel_norm, blkel_ret, blkel_exit, get_nil, get_cons, set_nil, set_cons, keep_nil, keep_cons, params_nil, params_cons, lookHG_t, lookHG_k, lookHG_f, alG, lookPG_t, lookPG_k, lookPG_f, wantsE_none, wantsE_some, wantB_bool, wantB_skip, stepsH_nil, stepsH_cons, stepH_eq, stepHL_eq, evHP_x, evHP_bm, evHP_snil, evHP_slc0, evHP_copy, evHC_skip, evHC_ret, evHC_exit, evHC_reg, evHC_regD, evHC_seq, evHC_cond, evHC_block, evHC_loop, HOp.temps, HOp.opds, XOp.opds, optO, tempsO, hland, land1, evHX, evHV, evHN, evP, evHS, toP, vis, PV.loose, noOwn, noOwnL, refs, refsL, fresh, al, alL, fr_none, fr_bool, fr_int, fr_str, fr_nilp, fr_nils, fr_nilf, fr_sl, fr_sp, fr_ref, fr_view, fr_box, fr_own, fr_agg, fr_tup, fr_fn, setH, pvBin, intBin, fillH, fillP, PV.lok, cellsH, cells, HV.one, partsO, mkAgg, mkTup, allP, setCellsH, blkCells, partH, resHL, resH1, resT, tupHOf, slElems, bnd, idxOk, pvPeq, pvBeq, pvUn, mkOwn, rep, lendL, lend, lend1, lend1L, PV.flat, PV.flat1, lent, PV.isView, getElem?_len, getElem?_len0, set_len0, set_len, lim, part, norm1, slCells, h45l0, env0, hlt, h2, hw, e]
    refine ⟨fun m' h => ?_, fun h => ?_⟩
    · simp only [nxs, Option.bind_eq_some_iff] at h
      obtain ⟨m1, hm, hr⟩ := h
      exact Run.loopN (hstep m1 hm) ((ih (i + 1) m1 (by omega) (by omega)).1 m' hr)
    · cases hm : nx most v with
      | some m1 =>
        simp only [nxs, hm, Option.bind_some] at h
        obtain ⟨m', hr⟩ := (ih (i + 1) m1 (by omega) (by omega)).2 h
        exact ⟨m', Run.loopN (hstep m1 hm) hr⟩
      | none =>
        have e := fun n => e96f (C := C) hk hm n st x g
        refine ⟨most, Run.loopX (Run.of 40 ?_) (by simp)⟩
        simp (config := { maxSteps := 4000000 }) [↓evP_callC, ↓oel_some, ↓oel_none, ↓bel_true, ↓bel_false, ↓hvel_true, ↓hvel_false, ↓exel_norm, ↓exel_ret, ↓exel_exit, ↓retel_norm, ↓retel_ret, oel_some, oel_none, bel_true, bel_false, hvel_true, hvel_false, exel_norm, exel_ret, exel_exit, retel_norm, retel_ret, fgtH_norm, fgtH_ret, fgtH_exit, blkel_norm, blkel_ret, blkel_exit, get_nil, get_cons, set_nil, set_cons, keep_nil, keep_cons, params_nil, params_cons, lookHG_t, lookHG_k, lookHG_f, alG, lookPG_t, lookPG_k, lookPG_f, wantsE_none, wantsE_some, wantB_bool, wantB_skip, stepsH_nil, stepsH_cons, stepH_eq, stepHL_eq, evHP_x, evHP_bm, evHP_snil, evHP_slc0, evHP_copy, evHC_skip, evHC_ret, evHC_exit, evHC_reg, evHC_regD, evHC_seq, evHC_cond, evHC_block, evHC_loop, HOp.temps, HOp.opds, XOp.opds, optO, tempsO, hland, land1, evHX, evHV, evHN, evP, evHS, toP, vis, PV.loose, noOwn, noOwnL, refs, refsL, fresh, al, alL, fr_none, fr_bool, fr_int, fr_str, fr_nilp, fr_nils, fr_nilf, fr_sl, fr_sp, fr_ref, fr_view, fr_box, fr_own, fr_agg, fr_tup, fr_fn, setH, pvBin, intBin, fillH, fillP, PV.lok, cellsH, cells, HV.one, partsO, mkAgg, mkTup, allP, setCellsH, blkCells, partH, resHL, resH1, resT, tupHOf, slElems, bnd, idxOk, pvPeq, pvBeq, pvUn, mkOwn, rep, lendL, lend, lend1, lend1L, PV.flat, PV.flat1, lent, PV.isView, getElem?_len, getElem?_len0, set_len0, set_len, lim, part, norm1, slCells, h45l0, env0, hlt, h2, hw, e]
end Go.Ab

namespace Go.Ab
open Go
set_option linter.unusedVariables false
set_option linter.unusedSimpArgs false
set_option maxRecDepth 10000
set_option maxHeartbeats 4000000

variable {K : HCalls} {C : Calls'}

def slo (P : Nat → Bool) : Nat → Int → List Int → Option Int
  | _, m, [] => some m
  | i, m, v :: r => if P i = true then (nx m v).bind fun m' => slo P (i + 1) m' r else slo P (i + 1) m r

def env1 (A B : Nat) (cs1 cs : List PV) (N1 j N i : Nat) : HEnv := [(1, .ptr A 0), (3, .ptr (A + 1) 0), (4, .fn 96 [.ptr (A + 1) 0]), (8, .ptr (A + (B + 2)) 0), (33, .p (.sl N1 cs1)), (34, .p (.int .i64 N1)), (35, .p (.int .i64 j)), (62, .p (.sl N cs)), (63, .p (.int .i64 N)), (64, .p (.int .i64 i))]
def env2 (A : Nat) (cs1 : List PV) (N1 j : Nat) : HEnv := [(1, .ptr A 0), (3, .ptr (A + 1) 0), (4, .fn 96 [.ptr (A + 1) 0]), (33, .p (.sl N1 cs1)), (34, .p (.int .i64 N1)), (35, .p (.int .i64 j))]

theorem loop1 (hk : ∀ ws st, K 96 ws st = .none) (R : List Int) (cs : List PV) (hcs : ∀ i v, R[i]? = some v → (cs.drop i).take 1 = [.int .i64 v]) (hN : R.length < 140737488355328) (st : HSt) (x : HB) (g : HSt) (cs1 : List PV) (N1 j : Nat)
    (a b : Int) (P : Nat → Bool) (o98 : List PV) (c98 : ∀ i : Nat, C 98 [.agg [.int .i64 a, .int .i64 b], .int .i64 i] = some (.bool (P i), o98)) :
    ∀ (k i : Nat) (most : Int), R.length - i = k → i ≤ R.length →
      (∀ m', slo P i most (R.drop i) = some m' → Run C K TH (.loop h45l1 [1, 3, 4, 8, 33, 34, 35, 62, 63, 64]) (env1 st.length g.length cs1 cs N1 j R.length i, st ++ (x :: .box [.p (.int .i64 most)] :: (g ++ [.box [.p (.int .i64 a), .p (.int .i64 b)]]))) (.exit 4)
        (env2 st.length cs1 N1 j, st ++ (x :: .box [.p (.int .i64 m')] :: (g ++ [.box [.p (.int .i64 a), .p (.int .i64 b)]])))) ∧
      (slo P i most (R.drop i) = Option.none → ∃ m', Run C K TH (.loop h45l1 [1, 3, 4, 8, 33, 34, 35, 62, 63, 64]) (env1 st.length g.length cs1 cs N1 j R.length i, st ++ (x :: .box [.p (.int .i64 most)] :: (g ++ [.box [.p (.int .i64 a), .p (.int .i64 b)]]))) .ret
        ([(2, .p (.int .i64 19))], st ++ (x :: .box [.p (.int .i64 m')] :: (g ++ [.box [.p (.int .i64 a), .p (.int .i64 b)]])))) := by
  intro k
  induction k with
  | zero =>
    intro i most hk' hi
    have hlt : ¬ i < R.length := by omega
    have h1 : R.drop i = [] := List.drop_eq_nil_of_le (by omega)
    rw [h1]
    refine ⟨fun m' h => ?_, fun h => by cases h⟩
    obtain rfl := Option.some.inj h
    refine Run.loopX (Run.of 40 ?_) (by simp)
    simp (config := { maxSteps := 4000000 }) [↓evP_callC, ↓oel_some, ↓oel_none, ↓bel_true, ↓bel_false, ↓hvel_true, ↓hvel_false, ↓exel_norm, ↓exel_ret, ↓exel_exit, ↓retel_norm, ↓retel_ret, oel_some, oel_none, bel_true, bel_false, hvel_true, hvel_false, exel_norm, exel_ret, exel_exit, retel_norm, retel_ret, fgtH_norm, fgtH_ret, fgtH_exit, blkel_norm, blkel_ret, blkel_exit, get_nil, get_cons, set_nil, set_cons, keep_nil, keep_cons, params_nil, params_cons, lookHG_t, lookHG_k, lookHG_f, alG, lookPG_t, lookPG_k, lookPG_f, wantsE_none, wantsE_some, wantB_bool, wantB_skip, stepsH_nil, stepsH_cons, stepH_eq, stepHL_eq, evHP_x, evHP_bm, evHP_snil, evHP_slc0, evHP_copy, evHC_skip, evHC_ret, evHC_exit, evHC_reg, evHC_regD, evHC_seq, evHC_cond, evHC_block, evHC_loop, HOp.temps, HOp.opds, XOp.opds, optO, tempsO, hland, land1, evHX, evHV, evHN, evP, evHS, toP, vis, PV.loose, noOwn, noOwnL, refs, refsL, fresh, al, alL, fr_none, fr_bool, fr_int, fr_str, fr_nilp, fr_nils, fr_nilf, fr_sl, fr_sp, fr_ref, fr_view, fr_box, fr_own, fr_agg, fr_tup, fr_fn, setH, pvBin, intBin, fillH, fillP, PV.lok, cellsH, cells, HV.one, partsO, mkAgg, mkTup, allP, setCellsH, blkCells, partH, resHL, resH1, resT, tupHOf, slElems, bnd, idxOk, pvPeq, pvBeq, pvUn, mkOwn, rep, lendL, lend, lend1, lend1L, PV.flat, PV.flat1, lent, PV.isView, getElem?_len, getElem?_len0, set_len0, set_len, lim, part, norm1, slCells, h45l1, env1, env2, hlt, len_app]
  | succ k ih =>
    intro i most hk' hi
    have hlt : i < R.length := by omega
    obtain ⟨v, hv⟩ : ∃ v, R[i]? = some v := ⟨R[i], List.getElem?_eq_getElem hlt⟩
    have h1 : R.drop i = v :: R.drop (i + 1) := by
      rw [List.drop_eq_getElem_cons hlt]
      congr 1
      rw [List.getElem?_eq_getElem hlt] at hv
      exact Option.some.inj hv
    have h2 := hcs i v hv
    have hw := wrN (i := i) (by omega)
    have hc := c98 i
    rw [h1]
    cases hp : P i with
    | false =>
      rw [hp] at hc
      have hs : Run C K TH h45l1 (env1 st.length g.length cs1 cs N1 j R.length i, st ++ (x :: .box [.p (.int .i64 most)] :: (g ++ [.box [.p (.int .i64 a), .p (.int .i64 b)]]))) .norm (env1 st.length g.length cs1 cs N1 j R.length (i + 1), st ++ (x :: .box [.p (.int .i64 most)] :: (g ++ [.box [.p (.int .i64 a), .p (.int .i64 b)]]))) := by
        refine Run.of 40 ?_
        simp (config := { maxSteps := 4000000 }) [↓evP_callC, ↓oel_some, ↓oel_none, ↓bel_true, ↓bel_false, ↓hvel_true, ↓hvel_false, ↓exel_norm, ↓exel_ret, ↓exel_exit, ↓retel_norm, ↓retel_ret, oel_some, oel_none, bel_true, bel_false, hvel_true, hvel_false, exel_norm, exel_ret, exel_exit, retel_norm, retel_ret, fgtH_norm, fgtH_ret, fgtH_exit, blkel_norm, blkel_ret, blkel_exit, get_nil, get_cons, set_nil, set_cons, keep_nil, keep_cons, params_nil, params_cons, lookHG_t, lookHG_k, lookHG_f, alG, lookPG_t, lookPG_k, lookPG_f, wantsE_none, wantsE_some, wantB_bool, wantB_skip, stepsH_nil, stepsH_cons, stepH_eq, stepHL_eq, evHP_x, evHP_bm, evHP_snil, evHP_slc0, evHP_copy, evHC_skip, evHC_ret, evHC_exit, evHC_reg, evHC_regD, evHC_seq, evHC_cond, evHC_block, evHC_loop, HOp.temps, HOp.opds, XOp.opds, optO, tempsO, hland, land1, evHX, evHV, evHN, evP, evHS, toP, vis, PV.loose, noOwn, noOwnL, refs, refsL, fresh, al, alL, fr_none, fr_bool, fr_int, fr_str, fr_nilp, fr_nils, fr_nilf, fr_sl, fr_sp, fr_ref, fr_view, fr_box, fr_own, fr_agg, fr_tup, fr_fn, setH, pvBin, intBin, fillH, fillP, PV.lok, cellsH, cells, HV.one, partsO, mkAgg, mkTup, allP, setCellsH, blkCells, partH, resHL, resH1, resT, tupHOf, slElems, bnd, idxOk, pvPeq, pvBeq, pvUn, mkOwn, rep, lendL, lend, lend1, lend1L, PV.flat, PV.flat1, lent, PV.isView, getElem?_len, getElem?_len0, set_len0, set_len, lim, part, norm1, slCells, h45l1, env1, hlt, h2, hw, hc, len_app]
      simp only [slo, hp, Bool.false_eq_true, if_false]
      exact ⟨fun m' h => Run.loopN hs ((ih (i + 1) most (by omega) (by omega)).1 m' h), fun h => by
        obtain ⟨m', hr⟩ := (ih (i + 1) most (by omega) (by omega)).2 h
        exact ⟨m', Run.loopN hs hr⟩⟩
    | true =>
      rw [hp] at hc
      simp only [slo, hp, if_true]
      cases hm : nx most v with
      | some m1 =>
        have e := fun n => e96t (C := C) hk hm n st x (g ++ [.box [.p (.int .i64 a), .p (.int .i64 b)]])
        have hs : Run C K TH h45l1 (env1 st.length g.length cs1 cs N1 j R.length i, st ++ (x :: .box [.p (.int .i64 most)] :: (g ++ [.box [.p (.int .i64 a), .p (.int .i64 b)]]))) .norm (env1 st.length g.length cs1 cs N1 j R.length (i + 1), st ++ (x :: .box [.p (.int .i64 m1)] :: (g ++ [.box [.p (.int .i64 a), .p (.int .i64 b)]]))) := by
          refine Run.of 40 ?_
          simp (config := { maxSteps := 4000000 }) [↓evP_callC, ↓oel_some, ↓oel_none, ↓bel_true, ↓bel_false, ↓hvel_true, ↓hvel_false, ↓exel_norm, ↓exel_ret, ↓exel_exit, ↓retel_norm, ↓retel_ret, oel_some, oel_none, bel_true, bel_false, hvel_true, hvel_false, exel_norm, exel_ret, exel_exit, retel_norm, retel_ret, fgtH_norm, fgtH_ret, fgtH_exit, blkel_norm, blkel_ret, blkel_exit, get_nil, get_cons, set_nil, set_cons, keep_nil, keep_cons, params_nil, params_cons, lookHG_t, lookHG_k, lookHG_f, alG, lookPG_t, lookPG_k, lookPG_f, wantsE_none, wantsE_some, wantB_bool, wantB_skip, stepsH_nil, stepsH_cons, stepH_eq, stepHL_eq, evHP_x, evHP_bm, evHP_snil, evHP_slc0, evHP_copy, evHC_skip, evHC_ret, evHC_exit, evHC_reg, evHC_regD, evHC_seq, evHC_cond, evHC_block, evHC_loop, HOp.temps, HOp.opds, XOp.opds, optO, tempsO, hland, land1, evHX, evHV, evHN, evP, evHS, toP, vis, PV.loose, noOwn, noOwnL, refs, refsL, fresh, al, alL, fr_none, fr_bool, fr_int, fr_str, fr_nilp, fr_nils, fr_nilf, fr_sl, fr_sp, fr_ref, fr_view, fr_box, fr_own, fr_agg, fr_tup, fr_fn, setH, pvBin, intBin, fillH, fillP, PV.lok, cellsH, cells, HV.one, partsO, mkAgg, mkTup, allP, setCellsH, blkCells, partH, resHL, resH1, resT, tupHOf, slElems, bnd, idxOk, pvPeq, pvBeq, pvUn, mkOwn, rep, lendL, lend, lend1, lend1L, PV.flat, PV.flat1, lent, PV.isView, getElem?_len, getElem?_len0, set_len0, set_len, lim, part, norm1, slCells, h45l1, env1, hlt, h2, hw, hc, e, len_app]
        simp only [Option.bind_some]
        exact ⟨fun m' h => Run.loopN hs ((ih (i + 1) m1 (by omega) (by omega)).1 m' h), fun h => by
          obtain ⟨m', hr⟩ := (ih (i + 1) m1 (by omega) (by omega)).2 h
          exact ⟨m', Run.loopN hs hr⟩⟩
      | none =>
        have e := fun n => e96f (C := C) hk hm n st x (g ++ [.box [.p (.int .i64 a), .p (.int .i64 b)]])
        refine ⟨fun m' h => by simp at h, fun _ => ⟨most, Run.loopX (Run.of 40 ?_) (by simp)⟩⟩
        simp (config := { maxSteps := 4000000 }) [↓evP_callC, ↓oel_some, ↓oel_none, ↓bel_true, ↓bel_false, ↓hvel_true, ↓hvel_false, ↓exel_norm, ↓exel_ret, ↓exel_exit, ↓retel_norm, ↓retel_ret, oel_some, oel_none, bel_true, bel_false, hvel_true, hvel_false, exel_norm, exel_ret, exel_exit, retel_norm, retel_ret, fgtH_norm, fgtH_ret, fgtH_exit, blkel_norm, blkel_ret, blkel_exit, get_nil, get_cons, set_nil, set_cons, keep_nil, keep_cons, params_nil, params_cons, lookHG_t, lookHG_k, lookHG_f, alG, lookPG_t, lookPG_k, lookPG_f, wantsE_none, wantsE_some, wantB_bool, wantB_skip, stepsH_nil, stepsH_cons, stepH_eq, stepHL_eq, evHP_x, evHP_bm, evHP_snil, evHP_slc0, evHP_copy, evHC_skip, evHC_ret, evHC_exit, evHC_reg, evHC_regD, evHC_seq, evHC_cond, evHC_block, evHC_loop, HOp.temps, HOp.opds, XOp.opds, optO, tempsO, hland, land1, evHX, evHV, evHN, evP, evHS, toP, vis, PV.loose, noOwn, noOwnL, refs, refsL, fresh, al, alL, fr_none, fr_bool, fr_int, fr_str, fr_nilp, fr_nils, fr_nilf, fr_sl, fr_sp, fr_ref, fr_view, fr_box, fr_own, fr_agg, fr_tup, fr_fn, setH, pvBin, intBin, fillH, fillP, PV.lok, cellsH, cells, HV.one, partsO, mkAgg, mkTup, allP, setCellsH, blkCells, partH, resHL, resH1, resT, tupHOf, slElems, bnd, idxOk, pvPeq, pvBeq, pvUn, mkOwn, rep, lendL, lend, lend1, lend1L, PV.flat, PV.flat1, lent, PV.isView, getElem?_len, getElem?_len0, set_len0, set_len, lim, part, norm1, slCells, h45l1, env1, hlt, h2, hw, hc, e, len_app]
end Go.Ab

namespace Go.Ab
open Go
set_option linter.unusedVariables false
set_option linter.unusedSimpArgs false
set_option maxRecDepth 10000
set_option maxHeartbeats 4000000

variable {K : HCalls} {C : Calls'}

def outr (okS : Shape → Bool) (P : Shape → Nat → Bool) : Nat → Int → List (Shape × List Int) → Stp Int Int
  | _, m, [] => .next m
  | j, m, (x, l) :: r => if okS x = false ∨ (l.length : Int) ≠ x.Slots then .stop 16 else if m ≤ (j : Int) then .stop 14 else
    match slo (P x) 0 m l with
    | .none => .stop 19
    | some m' => outr okS P (j + 1) m' r

/-- the heap while canon.Check is at work -/
def hp45 (st : HSt) (c0 : PV) (N1 : Nat) (cs1 csS : List PV) (most : Int) (g : HSt) : HSt := st ++ (.box [.p c0, .p (.sl N1 cs1), .p (.sl N1 csS)] :: .box [.p (.int .i64 most)] :: g)

theorem iter2 (hk : ∀ ws st, K 96 ws st = .none) (st : HSt) (c0 : PV) (N1 : Nat) (hN1 : N1 < 140737488355328) (cs1 csS : List PV) (okS : Shape → Bool) (P : Shape → Nat → Bool) (o97 o98 : List PV)
    (c97 : ∀ x : Shape, C 97 [.agg [.int .i64 x.Slots, .int .i64 x.Mask]] = some (.int .i64 (if okS x = true then 0 else 16), o97))
    (c98 : ∀ (x : Shape), okS x = true → ∀ (i : Nat), C 98 [.agg [.int .i64 x.Slots, .int .i64 x.Mask], .int .i64 i] = some (.bool (P x i), o98))
    (j : Nat) (hj : j < N1) (x : Shape) (l : List Int) (hl : l.length < 140737488355328) (cs : List PV) (hcs : ∀ i v, l[i]? = some v → (cs.drop i).take 1 = [.int .i64 v])
    (h1 : (cs1.drop (j * 2)).take 2 = [.int .i64 x.Slots, .int .i64 x.Mask]) (h2 : (csS.drop j).take 1 = [.sl l.length cs]) (most : Int) (g : HSt) :
    match (if okS x = false ∨ (l.length : Int) ≠ x.Slots then .stop 16 else if most ≤ (j : Int) then .stop 14 else
      match slo (P x) 0 most l with
      | .none => .stop 19
      | some m' => .next m' : Stp Int Int) with
    | .next m' => ∃ g', Run C K TH h45l2 (env2 st.length cs1 N1 j, hp45 st c0 N1 cs1 csS most g) .norm (env2 st.length cs1 N1 (j + 1), hp45 st c0 N1 cs1 csS m' g')
    | .stop c => ∃ g' m', Run C K TH h45l2 (env2 st.length cs1 N1 j, hp45 st c0 N1 cs1 csS most g) .ret ([(2, .p (.int .i64 c))], hp45 st c0 N1 cs1 csS m' g') := by
  have hc := c97 x
  have hw := wrN (i := j) (by omega)
  by_cases ho : okS x = false
  · rw [if_pos (.inl ho)]
    simp only [ho, Bool.false_eq_true, if_false] at hc
    apply Exists.intro
    apply Exists.intro
    refine Run.of 60 ?_
    simp (config := { maxSteps := 4000000 }) [↓evP_callC, ↓oel_some, ↓oel_none, ↓bel_true, ↓bel_false, ↓hvel_true, ↓hvel_false, ↓exel_norm, ↓exel_ret, ↓exel_exit, ↓retel_norm, ↓retel_ret, oel_some, oel_none, bel_true, bel_false, hvel_true, hvel_false, exel_norm, exel_ret, exel_exit, retel_norm, retel_ret, fgtH_norm, fgtH_ret, fgtH_exit, blkel_norm, blkel_ret, blkel_exit, get_nil, get_cons, set_nil, set_cons, keep_nil, keep_cons, params_nil, params_cons, lookHG_t, lookHG_k, lookHG_f, alG, lookPG_t, lookPG_k, lookPG_f, wantsE_none, wantsE_some, wantB_bool, wantB_skip, stepsH_nil, stepsH_cons, stepH_eq, stepHL_eq, evHP_x, evHP_bm, evHP_snil, evHP_slc0, evHP_copy, evHC_skip, evHC_ret, evHC_exit, evHC_reg, evHC_regD, evHC_seq, evHC_cond, evHC_block, HOp.temps, HOp.opds, XOp.opds, optO, tempsO, hland, land1, evHX, evHV, evHN, evP, evHS, toP, vis, PV.loose, noOwn, noOwnL, refs, refsL, fresh, al, alL, fr_none, fr_bool, fr_int, fr_str, fr_nilp, fr_nils, fr_nilf, fr_sl, fr_sp, fr_ref, fr_view, fr_box, fr_own, fr_agg, fr_tup, fr_fn, setH, pvBin, intBin, fillH, fillP, PV.lok, cellsH, cells, HV.one, partsO, mkAgg, mkTup, allP, setCellsH, blkCells, partH, resHL, resH1, resT, tupHOf, slElems, bnd, idxOk, pvPeq, pvBeq, pvUn, mkOwn, rep, lendL, lend, lend1, lend1L, PV.flat, PV.flat1, lent, PV.isView, getElem?_len, getElem?_len0, set_len0, set_len, lim, part, norm1, slCells, h45l2, env2, hp45, hj, h1, h2, hc, len_app, regHD_eq, traceHD_nil, traceHD_cons, stepHD_eq, isFresh, stableAll, stableOp, lastO]
    all_goals exact ⟨rfl, rfl⟩
  · have ho' : okS x = true := by simpa using ho
    simp only [ho', if_true] at hc
    by_cases hl2 : (l.length : Int) = x.Slots
    · rw [if_neg (by simp [ho', hl2])]
      by_cases hm : most ≤ (j : Int)
      · rw [if_pos hm]
        apply Exists.intro
        apply Exists.intro
        refine Run.of 60 ?_
        simp (config := { maxSteps := 4000000 }) [↓evP_callC, ↓oel_some, ↓oel_none, ↓bel_true, ↓bel_false, ↓hvel_true, ↓hvel_false, ↓exel_norm, ↓exel_ret, ↓exel_exit, ↓retel_norm, ↓retel_ret, oel_some, oel_none, bel_true, bel_false, hvel_true, hvel_false, exel_norm, exel_ret, exel_exit, retel_norm, retel_ret, fgtH_norm, fgtH_ret, fgtH_exit, blkel_norm, blkel_ret, blkel_exit, get_nil, get_cons, set_nil, set_cons, keep_nil, keep_cons, params_nil, params_cons, lookHG_t, lookHG_k, lookHG_f, alG, lookPG_t, lookPG_k, lookPG_f, wantsE_none, wantsE_some, wantB_bool, wantB_skip, stepsH_nil, stepsH_cons, stepH_eq, stepHL_eq, evHP_x, evHP_bm, evHP_snil, evHP_slc0, evHP_copy, evHC_skip, evHC_ret, evHC_exit, evHC_reg, evHC_regD, evHC_seq, evHC_cond, evHC_block, HOp.temps, HOp.opds, XOp.opds, optO, tempsO, hland, land1, evHX, evHV, evHN, evP, evHS, toP, vis, PV.loose, noOwn, noOwnL, refs, refsL, fresh, al, alL, fr_none, fr_bool, fr_int, fr_str, fr_nilp, fr_nils, fr_nilf, fr_sl, fr_sp, fr_ref, fr_view, fr_box, fr_own, fr_agg, fr_tup, fr_fn, setH, pvBin, intBin, fillH, fillP, PV.lok, cellsH, cells, HV.one, partsO, mkAgg, mkTup, allP, setCellsH, blkCells, partH, resHL, resH1, resT, tupHOf, slElems, bnd, idxOk, pvPeq, pvBeq, pvUn, mkOwn, rep, lendL, lend, lend1, lend1L, PV.flat, PV.flat1, lent, PV.isView, getElem?_len, getElem?_len0, set_len0, set_len, lim, part, norm1, slCells, h45l2, env2, hp45, hj, h1, h2, hc, hl2, hm, len_app, regHD_eq, traceHD_nil, traceHD_cons, stepHD_eq, isFresh, stableAll, stableOp, lastO]
        all_goals exact ⟨rfl, rfl⟩
      · rw [if_neg hm]
        have L := loop1 hk l cs hcs hl st (.box [.p c0, .p (.sl N1 cs1), .p (.sl N1 csS)]) g cs1 N1 j x.Slots x.Mask (P x) o98 (c98 x ho') l.length 0 most (by simp) (by omega)
        rw [List.drop_zero] at L
        cases hs : slo (P x) 0 most l with
        | some m' =>
          obtain ⟨n0, hn0⟩ := Run.all (L.1 m' hs)
          simp [env1, env2, hl2] at hn0
          apply Exists.intro
          refine Run.of (n0 + 60) ?_
          simp (config := { maxSteps := 4000000 }) [↓evP_callC, ↓oel_some, ↓oel_none, ↓bel_true, ↓bel_false, ↓hvel_true, ↓hvel_false, ↓exel_norm, ↓exel_ret, ↓exel_exit, ↓retel_norm, ↓retel_ret, oel_some, oel_none, bel_true, bel_false, hvel_true, hvel_false, exel_norm, exel_ret, exel_exit, retel_norm, retel_ret, fgtH_norm, fgtH_ret, fgtH_exit, blkel_norm, blkel_ret, blkel_exit, get_nil, get_cons, set_nil, set_cons, keep_nil, keep_cons, params_nil, params_cons, lookHG_t, lookHG_k, lookHG_f, alG, lookPG_t, lookPG_k, lookPG_f, wantsE_none, wantsE_some, wantB_bool, wantB_skip, stepsH_nil, stepsH_cons, stepH_eq, stepHL_eq, evHP_x, evHP_bm, evHP_snil, evHP_slc0, evHP_copy, evHC_skip, evHC_ret, evHC_exit, evHC_reg, evHC_regD, evHC_seq, evHC_cond, evHC_block, HOp.temps, HOp.opds, XOp.opds, optO, tempsO, hland, land1, evHX, evHV, evHN, evP, evHS, toP, vis, PV.loose, noOwn, noOwnL, refs, refsL, fresh, al, alL, fr_none, fr_bool, fr_int, fr_str, fr_nilp, fr_nils, fr_nilf, fr_sl, fr_sp, fr_ref, fr_view, fr_box, fr_own, fr_agg, fr_tup, fr_fn, setH, pvBin, intBin, fillH, fillP, PV.lok, cellsH, cells, HV.one, partsO, mkAgg, mkTup, allP, setCellsH, blkCells, partH, resHL, resH1, resT, tupHOf, slElems, bnd, idxOk, pvPeq, pvBeq, pvUn, mkOwn, rep, lendL, lend, lend1, lend1L, PV.flat, PV.flat1, lent, PV.isView, getElem?_len, getElem?_len0, set_len0, set_len, lim, part, norm1, slCells, h45l2, env2, hp45, hj, h1, h2, hc, hl2, hm, hn0, hw, len_app, regHD_eq, traceHD_nil, traceHD_cons, stepHD_eq, isFresh, stableAll, stableOp, lastO]
          all_goals exact rfl
        | none =>
          obtain ⟨m', hr⟩ := L.2 hs
          obtain ⟨n0, hn0⟩ := Run.all hr
          simp [env1, env2, hl2] at hn0
          apply Exists.intro
          apply Exists.intro
          refine Run.of (n0 + 60) ?_
          simp (config := { maxSteps := 4000000 }) [↓evP_callC, ↓oel_some, ↓oel_none, ↓bel_true, ↓bel_false, ↓hvel_true, ↓hvel_false, ↓exel_norm, ↓exel_ret, ↓exel_exit, ↓retel_norm, ↓retel_ret, oel_some, oel_none, bel_true, bel_false, hvel_true, hvel_false, exel_norm, exel_ret, exel_exit, retel_norm, retel_ret, fgtH_norm, fgtH_ret, fgtH_exit, blkel_norm, blkel_ret, blkel_exit, get_nil, get_cons, set_nil, set_cons, keep_nil, keep_cons, params_nil, params_cons, lookHG_t, lookHG_k, lookHG_f, alG, lookPG_t, lookPG_k, lookPG_f, wantsE_none, wantsE_some, wantB_bool, wantB_skip, stepsH_nil, stepsH_cons, stepH_eq, stepHL_eq, evHP_x, evHP_bm, evHP_snil, evHP_slc0, evHP_copy, evHC_skip, evHC_ret, evHC_exit, evHC_reg, evHC_regD, evHC_seq, evHC_cond, evHC_block, HOp.temps, HOp.opds, XOp.opds, optO, tempsO, hland, land1, evHX, evHV, evHN, evP, evHS, toP, vis, PV.loose, noOwn, noOwnL, refs, refsL, fresh, al, alL, fr_none, fr_bool, fr_int, fr_str, fr_nilp, fr_nils, fr_nilf, fr_sl, fr_sp, fr_ref, fr_view, fr_box, fr_own, fr_agg, fr_tup, fr_fn, setH, pvBin, intBin, fillH, fillP, PV.lok, cellsH, cells, HV.one, partsO, mkAgg, mkTup, allP, setCellsH, blkCells, partH, resHL, resH1, resT, tupHOf, slElems, bnd, idxOk, pvPeq, pvBeq, pvUn, mkOwn, rep, lendL, lend, lend1, lend1L, PV.flat, PV.flat1, lent, PV.isView, getElem?_len, getElem?_len0, set_len0, set_len, lim, part, norm1, slCells, h45l2, env2, hp45, hj, h1, h2, hc, hl2, hm, hn0, hw, len_app, regHD_eq, traceHD_nil, traceHD_cons, stepHD_eq, isFresh, stableAll, stableOp, lastO]
          all_goals exact ⟨rfl, rfl⟩
    · rw [if_pos (.inr hl2)]
      have hl3 : ((l.length : Int) != x.Slots) = true := by simpa using hl2
      apply Exists.intro
      apply Exists.intro
      refine Run.of 60 ?_
      simp (config := { maxSteps := 4000000 }) [↓evP_callC, ↓oel_some, ↓oel_none, ↓bel_true, ↓bel_false, ↓hvel_true, ↓hvel_false, ↓exel_norm, ↓exel_ret, ↓exel_exit, ↓retel_norm, ↓retel_ret, oel_some, oel_none, bel_true, bel_false, hvel_true, hvel_false, exel_norm, exel_ret, exel_exit, retel_norm, retel_ret, fgtH_norm, fgtH_ret, fgtH_exit, blkel_norm, blkel_ret, blkel_exit, get_nil, get_cons, set_nil, set_cons, keep_nil, keep_cons, params_nil, params_cons, lookHG_t, lookHG_k, lookHG_f, alG, lookPG_t, lookPG_k, lookPG_f, wantsE_none, wantsE_some, wantB_bool, wantB_skip, stepsH_nil, stepsH_cons, stepH_eq, stepHL_eq, evHP_x, evHP_bm, evHP_snil, evHP_slc0, evHP_copy, evHC_skip, evHC_ret, evHC_exit, evHC_reg, evHC_regD, evHC_seq, evHC_cond, evHC_block, HOp.temps, HOp.opds, XOp.opds, optO, tempsO, hland, land1, evHX, evHV, evHN, evP, evHS, toP, vis, PV.loose, noOwn, noOwnL, refs, refsL, fresh, al, alL, fr_none, fr_bool, fr_int, fr_str, fr_nilp, fr_nils, fr_nilf, fr_sl, fr_sp, fr_ref, fr_view, fr_box, fr_own, fr_agg, fr_tup, fr_fn, setH, pvBin, intBin, fillH, fillP, PV.lok, cellsH, cells, HV.one, partsO, mkAgg, mkTup, allP, setCellsH, blkCells, partH, resHL, resH1, resT, tupHOf, slElems, bnd, idxOk, pvPeq, pvBeq, pvUn, mkOwn, rep, lendL, lend, lend1, lend1L, PV.flat, PV.flat1, lent, PV.isView, getElem?_len, getElem?_len0, set_len0, set_len, lim, part, norm1, slCells, h45l2, env2, hp45, hj, h1, h2, hc, hl3, len_app, regHD_eq, traceHD_nil, traceHD_cons, stepHD_eq, isFresh, stableAll, stableOp, lastO]
      all_goals exact ⟨rfl, rfl⟩
end Go.Ab
