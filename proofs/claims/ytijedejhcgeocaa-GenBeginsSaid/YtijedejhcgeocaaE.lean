/-
  Calls into an empty store; code without fuel.
-/
import Derived.Test.YtijedejhcgeocaaD
import Derived.Test.YtijedejhcgeocaaC
namespace Go.Ab
open Go
set_option linter.unusedVariables false
set_option linter.unusedSimpArgs false

def HV.isP : HV → Bool
  | .p v => v.loose
  | _ => false

/-- a callee that is handed what is shared alone, and answers what holds no memory: whatever else there is -/
def sealed (H : HCalls) : HCalls := fun f ws st =>
  if ws.all HV.isP then match H f ws [] with
    | some (.p v, _) => if v.flat then some (.p v, st) else Option.none
    | _ => Option.none
  else Option.none

section
variable {P : Program}

theorem sealed_ok {H : HCalls} (hH : HCallOk P H) : HCallOk P (sealed H) := by
  intro f ws st r st' h
  unfold sealed at h
  split at h
  case isFalse => cases h
  rename_i hall
  split at h
  case h_2 => cases h
  rename_i v st1 hev
  split at h
  case isFalse => cases h
  rename_i hflat
  simp only [Option.some.injEq, Prod.mk.injEq] at h
  obtain ⟨rfl, rfl⟩ := h
  obtain ⟨hfn, hcalls⟩ := hH f ws [] _ _ hev
  refine ⟨hfn, fun args w L A hsz O bd Hargs => ?_⟩
  have W0 := WF.outAll O.wf
  have O0 : HOk w (fun b j => outAll (L b j)) [] [] := by
    refine ⟨W0, rfl, fun b j r p i h _ => ?_, fun a k h => by simp at h, fun a b o m k h => by simp at h, fun a a' b o m o' m' ks vs h => by simp at h⟩
    cases e : L b j <;> simp [e, outAll] at h
  have shO : ∀ b j, L b j = .sh → outAll (L b j) = .sh := fun b j h => by rw [h]; rfl
  refine Calls.mono (hcalls args w _ [] hsz O0 (fun b j q p i h => by cases e : L b j <;> simp [e, outAll] at h) fun i hi => ?_) fun en w' he => ?_
  · have h1 := List.all_eq_true.1 hall _ (List.getElem_mem hi)
    have h2 := Hargs i hi
    generalize ws[i] = x at h1 h2
    cases x with
    | p pv =>
      obtain ⟨h3, h4⟩ := h2.pv
      exact .p _ _ h3 (h4.frame (fun b j hr => by rw [shO b j hr.shared, hr.shared]) (fun q hq => by rw [loose_refs h3] at hq; cases hq) fun _ _ _ => rfl)
    | _ => simp [HV.isP] at h1
  · cases en with
    | panicked => exact he.elim
    | outgrown => exact he.elim
    | returned u =>
      obtain ⟨L', A', O', bd', Hr, E⟩ := he
      obtain ⟨hl, Hr⟩ := Hr.pv
      have blk : ∀ b, b < w.heap.size → SameBlk (fun b j => outAll (L b j)) b w.heap[b]? w'.heap[b]? := fun b hb => by
        rcases E.blk b hb with ⟨a, o, m, es, c, h, _⟩ | h
        · simp at h
        · exact h
      have blk' : ∀ b, b < w.heap.size → SameBlk L b w.heap[b]? w'.heap[b]? := fun b hb => (blk b hb).weaken fun j hj => by
        rcases hj with hj | hj <;> simp [hj, outAll]
      let L2 : LM := fun b j => if b < w.heap.size then L b j else .out
      have hin : ∀ {b j}, b < w.heap.size → L2 b j = L b j := fun {b j} h => by simp only [L2, h, if_true]
      have cell : ∀ b j, L b j ≠ .out → w'.cell? ⟨b, j, Option.none⟩ = w.cell? ⟨b, j, Option.none⟩ ∧ w'.frozen? ⟨b, j, Option.none⟩ = w.frozen? ⟨b, j, Option.none⟩ := fun b j h => by
        have hb := O.wf.lt h
        obtain ⟨v, hv⟩ := O.wf.ex b j h
        have hs := blk b hb
        cases e : w.heap[b]? with
        | none => simp [World.cell?, e] at hv
        | some ob =>
          rw [e] at hs
          cases ob with
          | cells c t fr =>
            cases e' : w'.heap[b]? with
            | none => rw [e'] at hs; cases hs
            | some ob' =>
              rw [e'] at hs
              cases ob' with
              | cells c' t' fr' =>
                obtain ⟨rfl, rfl, h3, h4⟩ := hs
                refine ⟨?_, by simp [World.frozen?, e, e']⟩
                have := h4 j (by cases e2 : L b j <;> simp [e2, outAll])
                simp only [World.cell?, e, e']
                simpa using this
              | _ => cases hs
          | _ => simp [World.cell?, e] at hv
      have W : WF w' L2 := by
        refine ⟨fun b j b' j' r p i h h' => ?_, fun b j h => ?_, fun b j r p i h => ?_⟩
        · have hb : b < w.heap.size := by apply Classical.byContradiction; intro hn; simp [L2, hn] at h
          have hb' : b' < w.heap.size := by apply Classical.byContradiction; intro hn; simp [L2, hn] at h'
          rw [hin hb] at h; rw [hin hb'] at h'
          exact O.wf.inj _ _ _ _ _ _ _ h h'
        · have hb : b < w.heap.size := by apply Classical.byContradiction; intro hn; simp [L2, hn] at h
          rw [hin hb] at h
          obtain ⟨v, hv⟩ := O.wf.ex b j h
          exact ⟨v, by rw [(cell b j h).1, hv]⟩
        · have hb : b < w.heap.size := by apply Classical.byContradiction; intro hn; simp [L2, hn] at h
          rw [hin hb] at h
          rw [(cell b j (by rw [h]; simp)).2]; exact O.wf.thaw _ _ _ _ _ h
      have E2 : Evo w L A w' L2 A := ⟨E.os, E.tape, E.output, E.size, fun b j hb _ => hin hb, fun b hb => .inr (blk' b hb), Nat.le_refl _, fun _ _ => .inl rfl, fun a b o m h _ => .inl ⟨a, o, m, h⟩⟩
      have Ex : Ext w L w' L2 := ⟨E.os, E.tape, E.output, E.size, fun b j hb _ => hin hb, blk'⟩
      have G : Go1 w L w' L2 := ⟨W, Ex, fun b j h => hin (O.wf.lt (fun e => by rw [e] at h; exact h)), fun b j h => (cell b j (fun e => by rw [e] at h; exact h)).1⟩
      have O2 : HOk w' L2 A st := O.grow G fun b j r p i h _ => by
        have hb : b < w.heap.size := by apply Classical.byContradiction; intro hn; simp [L2, hn] at h
        rwa [hin hb] at h
      refine ⟨L2, A, O2, fun b j q p i h => ?_, .p _ _ hl (flat_rep Hr hflat), E2⟩
      have hb : b < w.heap.size := by apply Classical.byContradiction; intro hn; simp [L2, hn] at h
      rw [hin hb] at h
      exact bd _ _ _ _ _ h

end

/-! ### Monotony -/
def HLe (H H' : HCalls) : Prop := ∀ f ws st r, H f ws st = some r → H' f ws st = some r
theorem HLe.refl (H : HCalls) : HLe H H := fun _ _ _ _ h => h

section
variable {C : Calls'} {H H' : HCalls}

theorem evHS_mono (h : HLe H H') {L : XO → HV} {st : HSt} {x : HOp} {r : HV × HSt} (hv : evHS H L st x = some r) : evHS H' L st x = some r := by
  cases x with
  | x o =>
    cases o
    case call f as ms => simp only [evHS] at hv ⊢; exact h _ _ _ _ hv
    case callv f as =>
      simp only [evHS] at hv ⊢
      split at hv
      · exact h _ _ _ _ hv
      · exact h _ _ _ _ hv
      · exact h _ _ _ _ hv
      · cases hv
    all_goals exact hv
  | _ => exact hv

theorem stepHL_mono (h : HLe H H') {s s' : HS} {o : HI} (hv : stepHL C H s o = some s') : stepHL C H' s o = some s' := by
  unfold stepHL at hv ⊢
  split at hv
  · rename_i v e; (try simp only [e]); exact hv
  · rename_i e
    (try simp only [e])
    split at hv
    · rename_i v st e2
      simp only [evHS_mono h e2]; exact hv
    · cases hv

theorem stepH_mono (h : HLe H H') {s s' : HS} {o : HI} (hv : stepH C H s o = some s') : stepH C H' s o = some s' := by
  unfold stepH at hv ⊢
  split at hv
  · rename_i e; (try simp only [e]); exact stepHL_mono h hv
  · rename_i e; (try simp only [e]); exact hv
  · cases hv

theorem stepsH_mono (h : HLe H H') : ∀ {l : List HI} {s s' : HS}, stepsH C H s l = some s' → stepsH C H' s l = some s'
  | [], s, s', hv => hv
  | o :: l, s, s', hv => by
    simp only [stepsH] at hv ⊢
    split at hv
    · rename_i s1 e; simp only [stepH_mono h e]; exact stepsH_mono h hv
    · cases hv

theorem traceHD_mono (h : HLe H H') : ∀ {l : List HI} {s : HS} {tr : List HS}, traceHD C H s l = some tr → traceHD C H' s l = some tr
  | [], s, tr, hv => hv
  | o :: l, s, tr, hv => by
    simp only [traceHD] at hv ⊢
    split at hv
    · rename_i hb
      rw [if_pos hb]
      split at hv
      · rename_i s1 e
        simp only [Option.map_eq_some_iff] at hv
        obtain ⟨t, ht, rfl⟩ := hv
        simp only [stepH_mono h e, traceHD_mono h ht, Option.map_some]
      · cases hv
    · rename_i hb
      rw [if_neg hb]
      split at hv
      · rename_i d v e
        simp only [Option.map_eq_some_iff] at hv
        obtain ⟨t, ht, rfl⟩ := hv
        simp only [e, traceHD_mono h ht, Option.map_some]
      · cases hv

theorem regHD_mono (h : HLe H H') {s s' : HS} {l : List HI} (hv : regHD C H s l = some s') : regHD C H' s l = some s' := by
  unfold regHD at hv ⊢
  split at hv
  · rename_i hf
    rw [if_pos hf]
    split at hv
    · rename_i tr e; simp only [traceHD_mono h e]; exact hv
    · cases hv
  · cases hv

theorem fgtH_inv {k : List Nat} {x : Option (Ex × HS)} {y : Ex × HS} (h : fgtH k x = some y) : ∃ z, x = some z ∧ ∀ x', x' = some z → fgtH k x' = some y := by
  cases x with
  | none => simp [fgtH] at h
  | some z => exact ⟨z, rfl, fun x' e => by rw [e]; exact h⟩

theorem evHC_mono (h : HLe H H') : ∀ {n m : Nat} {c : HC} {s : HS} {x : Ex × HS}, n ≤ m → evHC C H n c s = some x → evHC C H' m c s = some x
  | 0, m, c, s, x, _, hv => by simp [evHC] at hv
  | n + 1, 0, c, s, x, hle, hv => by omega
  | n + 1, m + 1, c, s, x, hle, hv => by
    have ih : ∀ {c : HC} {s : HS} {x : Ex × HS}, evHC C H n c s = some x → evHC C H' m c s = some x := fun hv => evHC_mono h (by omega) hv
    cases c with
    | skip => exact hv
    | reg ops draw keep =>
      simp only [evHC, Option.map_eq_some_iff] at hv ⊢
      obtain ⟨s1, h1, rfl⟩ := hv
      refine ⟨s1, ?_, rfl⟩
      cases draw with
      | true => simp only [if_true] at h1 ⊢; exact regHD_mono h h1
      | false => simp only [Bool.false_eq_true, if_false] at h1 ⊢; exact stepsH_mono h h1
    | seq a b =>
      simp only [evHC] at hv ⊢
      split at hv
      · rename_i s1 e; simp only [ih e]; exact ih hv
      · rename_i hno
        have := ih hv
        rw [this]
        obtain ⟨ex, s1⟩ := x
        cases ex with
        | norm => exact absurd hv (hno _)
        | _ => rfl
    | cond c a b k =>
      simp only [evHC] at hv ⊢
      obtain ⟨z, hz, hf⟩ := fgtH_inv hv
      refine hf _ ?_
      split at hz
      · rename_i e; (try simp only [e]); exact ih hz
      · rename_i e; (try simp only [e]); exact ih hz
      · cases hz
    | block id b k =>
      simp only [evHC] at hv ⊢
      cases hb : evHC C H n b s with
      | none => rw [hb] at hv; simp [fgtH] at hv
      | some q => rw [hb] at hv; rw [ih hb]; exact hv
    | loop b k =>
      simp only [evHC] at hv ⊢
      cases hb : evHC C H n b s with
      | none => rw [hb] at hv; simp [fgtH] at hv
      | some q =>
        rw [hb] at hv; rw [ih hb]
        obtain ⟨ex, s1⟩ := q
        cases ex with
        | norm => simp only [fgtH] at hv ⊢; exact ih hv
        | exit id => exact hv
        | ret => exact hv
    | exit id k => exact hv
    | ret => exact hv

variable {K : HCalls} {T : Nat → Option HF}

theorem evHF_mono : ∀ {n m : Nat}, n ≤ m → HLe (evHF C K T n) (evHF C K T m)
  | 0, m, _, f, ws, st, r, h => by simp [evHF] at h
  | n + 1, 0, hle, f, ws, st, r, h => by omega
  | n + 1, m + 1, hle, f, ws, st, r, h => by
    simp only [evHF] at h ⊢
    split at h
    · rename_i k hk; (try simp only [hk]); exact h
    · rename_i hk
      (try simp only [hk])
      split at h
      · rename_i x hx
        (try simp only [hx])
        split at h
        · rename_i hl
          rw [if_pos hl]
          have hle' : HLe (evHF C K T n) (evHF C K T m) := evHF_mono (by omega)
          cases hb : evHC C (evHF C K T n) n x.body (paramsH 0 ws, st) with
          | none => rw [hb] at h; cases h
          | some q => rw [hb] at h; rw [evHC_mono hle' (by omega) hb]; exact h
        · cases h
      · cases h

/-! ### What code does, without fuel -/
/-- a function answers -/
def Ans (C : Calls') (K : HCalls) (T : Nat → Option HF) (f : Nat) (ws : List HV) (st : HSt) (r : HV) (st' : HSt) : Prop := ∃ n, evHF C K T n f ws st = some (r, st')
/-- code comes to an end -/
def Run (C : Calls') (K : HCalls) (T : Nat → Option HF) (c : HC) (s : HS) (ex : Ex) (s' : HS) : Prop := ∃ n, evHC C (evHF C K T n) n c s = some (ex, s')
/-- operations in a row -/
def Seq (C : Calls') (K : HCalls) (T : Nat → Option HF) (s : HS) (ops : List HI) (s' : HS) : Prop := ∃ n, stepsH C (evHF C K T n) s ops = some s'

theorem Run.up {c : HC} {s s' : HS} {ex : Ex} {n m : Nat} (hle : n ≤ m) (h : evHC C (evHF C K T n) n c s = some (ex, s')) : evHC C (evHF C K T m) m c s = some (ex, s') := evHC_mono (evHF_mono hle) hle h

theorem Ans.known {f : Nat} {ws : List HV} {st st' : HSt} {r : HV} (h : K f ws st = some (r, st')) : Ans C K T f ws st r st' := ⟨1, by simp only [evHF, h]⟩

theorem Ans.intro {f : Nat} {x : HF} (hk : ∀ ws st, K f ws st = Option.none) (hx : T f = some x) {ws : List HV} (hl : ws.length = x.np) {st : HSt} {ex : Ex} {s : HS} (hb : Run C K T x.body (paramsH 0 ws, st) ex s) (hex : ∀ id, ex ≠ .exit id) {vs : List HV}
    (hr : resHL (hland s (x.res.map resT)) x.res = some vs) {r : HV} {st' : HSt} (h1 : r = tupHOf vs) (h2 : st' = (hland s (x.res.map resT)).2) : Ans C K T f ws st r st' := by
  obtain ⟨n, hn⟩ := hb
  refine ⟨n + 1, ?_⟩
  subst h1; subst h2
  simp only [evHF, hk, hx, hl, if_true, hn]
  cases ex with
  | norm => simp [hr]
  | ret => simp [hr]
  | exit id => exact absurd rfl (hex id)

theorem Run.skip {s : HS} : Run C K T .skip s .norm s := ⟨1, rfl⟩
theorem Run.ret {s : HS} : Run C K T .ret s .ret s := ⟨1, rfl⟩
theorem Run.exit {s : HS} {id : Nat} {k : List Nat} : Run C K T (.exit id k) s (.exit id) (s.1.keep k, s.2) := ⟨1, rfl⟩

theorem Run.seq {a b : HC} {s s1 s2 : HS} {ex : Ex} (h1 : Run C K T a s .norm s1) (h2 : Run C K T b s1 ex s2) : Run C K T (.seq a b) s ex s2 := by
  obtain ⟨n, hn⟩ := h1
  obtain ⟨m, hm⟩ := h2
  refine ⟨max n m + 1, ?_⟩
  have e1 := evHC_mono (evHF_mono (C := C) (K := K) (T := T) (show n ≤ max n m + 1 by omega)) (show n ≤ max n m by omega) hn
  have e2 := evHC_mono (evHF_mono (C := C) (K := K) (T := T) (show m ≤ max n m + 1 by omega)) (show m ≤ max n m by omega) hm
  simp only [evHC, e1, e2]

theorem Run.seqX {a b : HC} {s s1 : HS} {ex : Ex} (h1 : Run C K T a s ex s1) (hx : ex ≠ .norm) : Run C K T (.seq a b) s ex s1 := by
  obtain ⟨n, hn⟩ := h1
  refine ⟨n + 1, ?_⟩
  have e1 := evHC_mono (evHF_mono (C := C) (K := K) (T := T) (show n ≤ n + 1 by omega)) (Nat.le_refl n) hn
  simp only [evHC, e1]
  cases ex with
  | norm => exact absurd rfl hx
  | _ => rfl

def fgtS (k : List Nat) (ex : Ex) (s : HS) : HS := match ex with
  | .norm => (s.1.keep k, s.2)
  | _ => s

theorem fgtH_S (k : List Nat) (ex : Ex) (s : HS) : fgtH k (some (ex, s)) = some (ex, fgtS k ex s) := by cases ex <;> rfl

theorem Run.condT {c : XO} {a b : HC} {k : List Nat} {s s1 : HS} {ex : Ex} (hc : lookHG s.1.get c = .p (.bool true)) (h : Run C K T a s ex s1) : Run C K T (.cond c a b k) s ex (fgtS k ex s1) := by
  obtain ⟨n, hn⟩ := h
  refine ⟨n + 1, ?_⟩
  have e1 := evHC_mono (evHF_mono (C := C) (K := K) (T := T) (show n ≤ n + 1 by omega)) (Nat.le_refl n) hn
  simp only [evHC, hc, e1, fgtH_S]

theorem Run.condF {c : XO} {a b : HC} {k : List Nat} {s s1 : HS} {ex : Ex} (hc : lookHG s.1.get c = .p (.bool false)) (h : Run C K T b s ex s1) : Run C K T (.cond c a b k) s ex (fgtS k ex s1) := by
  obtain ⟨n, hn⟩ := h
  refine ⟨n + 1, ?_⟩
  have e1 := evHC_mono (evHF_mono (C := C) (K := K) (T := T) (show n ≤ n + 1 by omega)) (Nat.le_refl n) hn
  simp only [evHC, hc, e1, fgtH_S]

def blockX (id : Nat) : Ex → Ex
  | .exit id' => if id' = id then .norm else .exit id'
  | e => e

theorem Run.block {id : Nat} {b : HC} {k : List Nat} {s s1 : HS} {ex : Ex} (h : Run C K T b s ex s1) : Run C K T (.block id b k) s (blockX id ex) (fgtS k (blockX id ex) s1) := by
  obtain ⟨n, hn⟩ := h
  refine ⟨n + 1, ?_⟩
  have e1 := evHC_mono (evHF_mono (C := C) (K := K) (T := T) (show n ≤ n + 1 by omega)) (Nat.le_refl n) hn
  simp only [evHC, e1]
  cases ex with
  | norm => rfl
  | ret => rfl
  | exit id' =>
    by_cases hid : id' = id
    · simp only [hid, if_true, blockX]; rfl
    · simp only [hid, if_false, blockX]; rfl

theorem Run.loopX {b : HC} {k : List Nat} {s s1 : HS} {ex : Ex} (h : Run C K T b s ex s1) (hx : ex ≠ .norm) : Run C K T (.loop b k) s ex s1 := by
  obtain ⟨n, hn⟩ := h
  refine ⟨n + 1, ?_⟩
  have e1 := evHC_mono (evHF_mono (C := C) (K := K) (T := T) (show n ≤ n + 1 by omega)) (Nat.le_refl n) hn
  simp only [evHC, e1, fgtH_S]
  cases ex with
  | norm => exact absurd rfl hx
  | _ => rfl

theorem Run.loopN {b : HC} {k : List Nat} {s s1 s2 : HS} {ex : Ex} (h : Run C K T b s .norm s1) (h2 : Run C K T (.loop b k) (s1.1.keep k, s1.2) ex s2) : Run C K T (.loop b k) s ex s2 := by
  obtain ⟨n, hn⟩ := h
  obtain ⟨m, hm⟩ := h2
  refine ⟨max n m + 1, ?_⟩
  have e1 := evHC_mono (evHF_mono (C := C) (K := K) (T := T) (show n ≤ max n m + 1 by omega)) (show n ≤ max n m by omega) hn
  have e2 := evHC_mono (evHF_mono (C := C) (K := K) (T := T) (show m ≤ max n m + 1 by omega)) (show m ≤ max n m by omega) hm
  simp only [evHC, e1, fgtH_S, fgtS, e2]

/-- a loop with a measure -/
theorem Run.loop {b : HC} {k : List Nat} {ex : Ex} (I : HS → Prop) (Q : HS → Prop) (μ : HS → Nat)
    (step : ∀ s, I s → (∃ s1, Run C K T b s ex s1 ∧ ex ≠ .norm ∧ Q s1) ∨ ∃ s1, Run C K T b s .norm s1 ∧ I (s1.1.keep k, s1.2) ∧ μ (s1.1.keep k, s1.2) < μ s) : ∀ s, I s → ∃ s', Run C K T (.loop b k) s ex s' ∧ Q s' := by
  intro s
  induction hn : μ s using Nat.strongRecOn generalizing s with
  | ind n ih =>
    intro hs
    rcases step s hs with ⟨s1, h1, h2, h3⟩ | ⟨s1, h1, h2, h3⟩
    · exact ⟨s1, .loopX h1 h2, h3⟩
    · obtain ⟨s', h4, h5⟩ := ih _ (by omega) _ rfl h2
      exact ⟨s', .loopN h1 h4, h5⟩

theorem Run.reg {ops : List HI} {keep : List Nat} {s s' : HS} (h : Seq C K T s ops s') : Run C K T (.reg ops false keep) s .norm (s'.1.keep keep, s'.2) := by
  obtain ⟨n, hn⟩ := h
  refine ⟨n + 1, ?_⟩
  have := stepsH_mono (C := C) (evHF_mono (C := C) (K := K) (T := T) (show n ≤ n + 1 by omega)) hn
  simp only [evHC, Bool.false_eq_true, if_false, this, Option.map_some]

theorem Run.regD {ops : List HI} {keep : List Nat} {s s' : HS} (h : ∃ n, regHD C (evHF C K T n) s ops = some s') : Run C K T (.reg ops true keep) s .norm (s'.1.keep keep, s'.2) := by
  obtain ⟨n, hn⟩ := h
  refine ⟨n + 1, ?_⟩
  have := regHD_mono (C := C) (evHF_mono (C := C) (K := K) (T := T) (show n ≤ n + 1 by omega)) hn
  simp only [evHC, if_true, this, Option.map_some]

theorem Seq.nil {s : HS} : Seq C K T s [] s := ⟨0, rfl⟩
theorem Seq.cons {s s1 s' : HS} {o : HI} {r : List HI} (h : ∃ n, stepH C (evHF C K T n) s o = some s1) (h2 : Seq C K T s1 r s') : Seq C K T s (o :: r) s' := by
  obtain ⟨n, hn⟩ := h
  obtain ⟨m, hm⟩ := h2
  refine ⟨max n m, ?_⟩
  simp only [stepsH, stepH_mono (evHF_mono (C := C) (K := K) (T := T) (show n ≤ max n m by omega)) hn]
  exact stepsH_mono (evHF_mono (C := C) (K := K) (T := T) (show m ≤ max n m by omega)) hm

end
end Go.Ab

/-
  The evaluator's equations, so that simp goes no further than a path goes.
-/
namespace Go.Ab
open Go
set_option linter.unusedVariables false
set_option linter.unusedSimpArgs false

def oel {α β : Type} (x : Option α) (f : α → β) (g : Unit → β) : β := match x with
  | some v => f v
  | Option.none => g ()
@[congr] theorem oel_congr {α β : Type} {x y : Option α} {f : α → β} {g : Unit → β} (h : x = y) : oel x f g = oel y f g := by rw [h]
theorem oel_some {α β : Type} {v : α} {f : α → β} {g : Unit → β} : oel (some v) f g = f v := (rfl)
theorem oel_none {α β : Type} {f : α → β} {g : Unit → β} : oel Option.none f g = g () := (rfl)

def bel {β : Type} (x : Bool) (f g : Unit → β) : β := match x with
  | true => f ()
  | false => g ()
@[congr] theorem bel_congr {β : Type} {x y : Bool} {f g : Unit → β} (h : x = y) : bel x f g = bel y f g := by rw [h]
theorem bel_true {β : Type} {f g : Unit → β} : bel true f g = f () := (rfl)
theorem bel_false {β : Type} {f g : Unit → β} : bel false f g = g () := (rfl)

def hvel {β : Type} (x : HV) (f g : Unit → Option β) : Option β := match x with
  | .p (.bool true) => f ()
  | .p (.bool false) => g ()
  | _ => Option.none
@[congr] theorem hvel_congr {β : Type} {x y : HV} {f g : Unit → Option β} (h : x = y) : hvel x f g = hvel y f g := by rw [h]
theorem hvel_true {β : Type} {f g : Unit → Option β} : hvel (.p (.bool true)) f g = f () := (rfl)
theorem hvel_false {β : Type} {f g : Unit → Option β} : hvel (.p (.bool false)) f g = g () := (rfl)

def exel (x : Option (Ex × HS)) (f : HS → Option (Ex × HS)) : Option (Ex × HS) := match x with
  | some (.norm, s) => f s
  | r => r
@[congr] theorem exel_congr {x y : Option (Ex × HS)} {f : HS → Option (Ex × HS)} (h : x = y) : exel x f = exel y f := by rw [h]
theorem exel_norm {s : HS} {f : HS → Option (Ex × HS)} : exel (some (.norm, s)) f = f s := (rfl)
theorem exel_ret {s : HS} {f : HS → Option (Ex × HS)} : exel (some (.ret, s)) f = some (.ret, s) := (rfl)
theorem exel_exit {s : HS} {i : Nat} {f : HS → Option (Ex × HS)} : exel (some (.exit i, s)) f = some (.exit i, s) := (rfl)

def retel {β : Type} (x : Option (Ex × HS)) (f : HS → Option β) : Option β := match x with
  | some (.exit _, _) => Option.none
  | some (_, s) => f s
  | Option.none => Option.none
@[congr] theorem retel_congr {β : Type} {x y : Option (Ex × HS)} {f : HS → Option β} (h : x = y) : retel x f = retel y f := by rw [h]
theorem retel_norm {β : Type} {s : HS} {f : HS → Option β} : retel (some (.norm, s)) f = f s := (rfl)
theorem retel_ret {β : Type} {s : HS} {f : HS → Option β} : retel (some (.ret, s)) f = f s := (rfl)

theorem fgtH_norm {k : List Nat} {s : HS} : fgtH k (some (.norm, s)) = some (.norm, (s.1.keep k, s.2)) := (rfl)
theorem fgtH_ret {k : List Nat} {s : HS} : fgtH k (some (.ret, s)) = some (.ret, s) := (rfl)
theorem fgtH_exit {k : List Nat} {i : Nat} {s : HS} : fgtH k (some (.exit i, s)) = some (.exit i, s) := (rfl)

def blkel (id : Nat) : Option (Ex × HS) → Option (Ex × HS)
  | some (.exit id', s') => if id' = id then some (.norm, s') else some (.exit id', s')
  | r => r
theorem blkel_norm {id : Nat} {s : HS} : blkel id (some (.norm, s)) = some (.norm, s) := (rfl)
theorem blkel_ret {id : Nat} {s : HS} : blkel id (some (.ret, s)) = some (.ret, s) := (rfl)
theorem blkel_exit {id i : Nat} {s : HS} : blkel id (some (.exit i, s)) = if i = id then some (.norm, s) else some (.exit i, s) := (rfl)

theorem get_nil {t : Nat} : HEnv.get [] t = .p .none := (rfl)
theorem get_cons {k t : Nat} {v : HV} {r : HEnv} : HEnv.get ((k, v) :: r) t = if t = k then v else HEnv.get r t := (rfl)
theorem set_nil {t : Nat} {v : HV} : HEnv.set [] t v = [(t, v)] := (rfl)
theorem set_cons {k t : Nat} {x v : HV} {r : HEnv} : HEnv.set ((k, x) :: r) t v = if t < k then (t, v) :: (k, x) :: r else if t = k then (t, v) :: r else (k, x) :: HEnv.set r t v := (rfl)
theorem keep_nil {l : List Nat} : HEnv.keep l [] = [] := (rfl)
theorem keep_cons {l : List Nat} {k : Nat} {x : HV} {r : HEnv} : HEnv.keep l ((k, x) :: r) = if l.contains k = true then (k, x) :: HEnv.keep l r else HEnv.keep l r := (rfl)
theorem params_nil {i : Nat} : paramsH i [] = [] := (rfl)
theorem params_cons {i : Nat} {v : HV} {r : List HV} : paramsH i (v :: r) = (i, v) :: paramsH (i + 1) r := (rfl)
theorem lookHG_t {g : Nat → HV} {n : Nat} : lookHG g (.t n) = vis (g n) := (rfl)
theorem lookHG_k {g : Nat → HV} {v : PV} : lookHG g (.k v) = .p v := (rfl)
theorem lookHG_f {g : Nat → HV} {n : Nat} : lookHG g (.f n) = .p (.fn n []) := (rfl)
def alG (n : Nat) : PV → PV
  | .agg cs => .agg (alL n [] 0 cs)
  | .tup cs => if noOwnL cs then .tup cs else .none
  | v => al n [] v
theorem lookPG_t {g : Nat → HV} {n : Nat} : lookPG g (.t n) = alG n (toP (g n)) := by
  show lookG (fun t => toP (g t)) (.t n) = _
  simp only [lookG]
  cases toP (g n) <;> rfl
theorem lookPG_k {g : Nat → HV} {v : PV} : lookPG g (.k v) = v := (rfl)
theorem lookPG_f {g : Nat → HV} {n : Nat} : lookPG g (.f n) = .fn n [] := (rfl)

def wantsE (e : HEnv) (g : Option (Nat × Bool)) : Option Bool := wantsG (fun t => toP (e.get t)) g
theorem wantsE_none {e : HEnv} : wantsE e Option.none = some true := (rfl)
def wantB (want : Bool) : PV → Option Bool
  | .bool b => some (b == want)
  | .tup [] => some false
  | _ => Option.none
theorem wantsE_some {e : HEnv} {d : Nat} {b : Bool} : wantsE e (some (d, b)) = wantB b (toP (e.get d)) := by
  simp only [wantsE, wantsG]
  cases toP (e.get d) with
  | tup cs => cases cs <;> rfl
  | _ => rfl
theorem wantB_bool {w b : Bool} : wantB w (.bool b) = some (b == w) := (rfl)
theorem wantB_skip {w : Bool} : wantB w (.tup []) = some false := (rfl)

section
variable {C : Calls'} {H K : HCalls} {T : Nat → Option HF}

theorem stepsH_nil {s : HS} : stepsH C H s [] = some s := (rfl)
theorem stepsH_cons {s : HS} {o : HI} {r : List HI} : stepsH C H s (o :: r) = oel (stepH C H s o) (fun s' => stepsH C H s' r) (fun _ => Option.none) := by
  simp only [stepsH]
  cases stepH C H s o <;> rfl

theorem stepH_eq {e : HEnv} {st : HSt} {dst : Option Nat} {op : HOp} {g : Option (Nat × Bool)} {bar : Bool} {ls : List Nat} : stepH C H (e, st) ⟨dst, op, g, bar, ls⟩ =
    oel (wantsE e g) (fun b => bel b (fun _ => stepHL C H (hland (e, st) op.temps) ⟨dst, op, g, bar, ls⟩) (fun _ => some (setH e dst (.p (.tup [])), st))) (fun _ => Option.none) := by
  simp only [stepH, wantsE]
  cases wantsG (fun t => toP (e.get t)) g with
  | none => rfl
  | some b => cases b <;> rfl

theorem stepHL_eq {e : HEnv} {st : HSt} {dst : Option Nat} {op : HOp} {g : Option (Nat × Bool)} {bar : Bool} {ls : List Nat} : stepHL C H (e, st) ⟨dst, op, g, bar, ls⟩ =
    oel (evHP C (lookHG e.get) (lookPG e.get) st op) (fun v => oel dst (fun d => some (e.set d v, st)) (fun _ => Option.none))
      (fun _ => oel (evHS H (lookHG e.get) st op) (fun r => some (setH e dst r.1, r.2)) (fun _ => Option.none)) := by
  simp only [stepHL]
  cases evHP C (lookHG e.get) (lookPG e.get) st op with
  | some v => cases dst <;> rfl
  | none => cases evHS H (lookHG e.get) st op <;> rfl

theorem evHP_x {L : XO → HV} {LP : XO → PV} {st : HSt} {o : XOp} : evHP C L LP st (.x o) =
    oel (evHX L st o) some (fun _ => oel (evP C LP (fun _ _ => .none) o) (fun v => if (v.loose || fresh v) = true then some (.p v) else Option.none) (fun _ => evHN L o)) := by
  simp only [evHP]
  cases evHX L st o with
  | some v => rfl
  | none => cases evP C LP (fun _ _ => .none) o <;> rfl
theorem evHP_bm {L : XO → HV} {LP : XO → PV} {st : HSt} {f : Nat} {l : List XO} : evHP C L LP st (.bm f l) = some (.bm f (l.map L)) := (rfl)
theorem evHP_snil {L : XO → HV} {LP : XO → PV} {st : HSt} {n : Bool} {x : XO} : evHP C L LP st (.snil n x) = evHV L st (.snil n x) := (rfl)
theorem evHP_slc0 {L : XO → HV} {LP : XO → PV} {st : HSt} {x : XO} : evHP C L LP st (.slc0 x) = evHV L st (.slc0 x) := (rfl)
theorem evHP_copy {L : XO → HV} {LP : XO → PV} {st : HSt} {n : Nat} {d s : XO} : evHP C L LP st (.copy n d s) = Option.none := (rfl)

variable {n : Nat}
theorem evHC_skip {s : HS} : evHC C H (n + 1) .skip s = some (.norm, s) := (rfl)
theorem evHC_ret {s : HS} : evHC C H (n + 1) .ret s = some (.ret, s) := (rfl)
theorem evHC_exit {s : HS} {i : Nat} {k : List Nat} : evHC C H (n + 1) (.exit i k) s = some (.exit i, (s.1.keep k, s.2)) := (rfl)
theorem evHC_reg {s : HS} {ops : List HI} {k : List Nat} : evHC C H (n + 1) (.reg ops false k) s = oel (stepsH C H s ops) (fun s' => some (.norm, (s'.1.keep k, s'.2))) (fun _ => Option.none) := by
  simp only [evHC, Bool.false_eq_true, if_false]
  cases stepsH C H s ops <;> rfl
theorem evHC_regD {s : HS} {ops : List HI} {k : List Nat} : evHC C H (n + 1) (.reg ops true k) s = oel (regHD C H s ops) (fun s' => some (.norm, (s'.1.keep k, s'.2))) (fun _ => Option.none) := by
  simp only [evHC, if_true]
  cases regHD C H s ops <;> rfl
theorem evHC_seq {s : HS} {a b : HC} : evHC C H (n + 1) (.seq a b) s = exel (evHC C H n a s) (fun s' => evHC C H n b s') := by
  simp only [evHC]
  cases evHC C H n a s with
  | none => rfl
  | some r => obtain ⟨ex, s'⟩ := r; cases ex <;> rfl
theorem evHC_cond {s : HS} {x : XO} {a b : HC} {k : List Nat} : evHC C H (n + 1) (.cond x a b k) s = fgtH k (hvel (lookHG s.1.get x) (fun _ => evHC C H n a s) (fun _ => evHC C H n b s)) := by
  simp only [evHC]
  congr 1
theorem evHC_block {s : HS} {i : Nat} {b : HC} {k : List Nat} : evHC C H (n + 1) (.block i b k) s = fgtH k (blkel i (evHC C H n b s)) := by
  simp only [evHC]
  congr 1
theorem evHC_loop {s : HS} {b : HC} {k : List Nat} : evHC C H (n + 1) (.loop b k) s = exel (fgtH k (evHC C H n b s)) (fun s' => evHC C H n (.loop b k) s') := by
  simp only [evHC]
  cases fgtH k (evHC C H n b s) with
  | none => rfl
  | some r => obtain ⟨ex, s'⟩ := r; cases ex <;> rfl

theorem evHF_eq {f : Nat} {args : List HV} {st : HSt} : evHF C K T (n + 1) f args st =
    oel (K f args st) some (fun _ => oel (T f) (fun x => if args.length = x.np then
      retel (evHC C (evHF C K T n) n x.body (paramsH 0 args, st)) (fun s => oel (resHL (hland s (x.res.map resT)) x.res) (fun vs => some (tupHOf vs, (hland s (x.res.map resT)).2)) (fun _ => Option.none))
      else Option.none) (fun _ => Option.none)) := by
  simp only [evHF]
  cases K f args st with
  | some r => rfl
  | none =>
    cases T f with
    | none => rfl
    | some x =>
      show (if args.length = x.np then _ else _) = (if args.length = x.np then _ else _)
      by_cases h : args.length = x.np
      · rw [if_pos h, if_pos h]
        cases evHC C (evHF C K T n) n x.body (paramsH 0 args, st) with
        | none => rfl
        | some r =>
          obtain ⟨ex, s⟩ := r
          cases ex with
          | exit i => rfl
          | norm => simp only [retel]; cases resHL (hland s (x.res.map resT)) x.res <;> rfl
          | ret => simp only [retel]; cases resHL (hland s (x.res.map resT)) x.res <;> rfl
      · rw [if_neg h, if_neg h]

theorem regHD_eq {e : HEnv} {st : HSt} {ops : List HI} : regHD C H (e, st) ops =
    if (hland (e, st) (e.map (·.1))).1.all (fun x => !isFresh x.2) = true then
      oel (traceHD C H (hland (e, st) (e.map (·.1))) ops) (fun tr => if stableAll tr tr ops = true then lastO tr else Option.none) (fun _ => Option.none)
    else Option.none := by
  simp only [regHD]
  split
  · cases traceHD C H (hland (e, st) (e.map (·.1))) ops <;> rfl
  · rfl

theorem traceHD_nil {s : HS} : traceHD C H s [] = some [s] := (rfl)
theorem traceHD_cons {e : HEnv} {st : HSt} {dst : Option Nat} {op : HOp} {g : Option (Nat × Bool)} {bar : Bool} {ls : List Nat} {r : List HI} : traceHD C H (e, st) (⟨dst, op, g, bar, ls⟩ :: r) =
    bel bar (fun _ => oel (stepH C H (e, st) ⟨dst, op, g, bar, ls⟩) (fun s' => oel (traceHD C H s' r) (fun t => some ((e, st) :: t)) (fun _ => Option.none)) (fun _ => Option.none))
      (fun _ => oel (stepHD C st e ⟨dst, op, g, bar, ls⟩) (fun p => oel (traceHD C H (e.set p.1 p.2, st) r) (fun t => some ((e, st) :: t)) (fun _ => Option.none)) (fun _ => Option.none)) := by
  simp only [traceHD]
  cases bar with
  | true =>
    simp only [if_true, bel]
    cases stepH C H (e, st) ⟨dst, op, g, true, ls⟩ with
    | none => rfl
    | some s' => cases hh : traceHD C H s' r <;> simp [oel, hh]
  | false =>
    simp only [Bool.false_eq_true, if_false, bel]
    cases stepHD C st e ⟨dst, op, g, false, ls⟩ with
    | none => rfl
    | some s' => obtain ⟨d, v⟩ := s'; cases hh : traceHD C H (e.set d v, st) r <;> simp [oel, hh]

theorem stepHD_eq {e : HEnv} {st : HSt} {d : Nat} {op : HOp} {g : Option (Nat × Bool)} {bar : Bool} {ls : List Nat} : stepHD C st e ⟨some d, op, g, bar, ls⟩ =
    oel (wantsE e g) (fun b => bel b (fun _ => oel (evHP C (lookHG e.get) (lookPG e.get) st op) (fun v => some (d, v)) (fun _ => Option.none)) (fun _ => some (d, .p (.tup [])))) (fun _ => Option.none) := by
  simp only [stepHD, wantsE]
  cases wantsG (fun t => toP (e.get t)) g with
  | none => rfl
  | some b =>
    cases b with
    | false => rfl
    | true => simp only [oel, bel]; cases evHP C (lookHG e.get) (lookPG e.get) st op <;> rfl
end

theorem fr_none : (PV.none ).free = false := (rfl)
theorem fr_bool (b : Bool) : (PV.bool b).free = true := (rfl)
theorem fr_int (k : IntKind) (n : Int) : (PV.int k n).free = true := (rfl)
theorem fr_str (s : List UInt8) : (PV.str s).free = true := (rfl)
theorem fr_nilp : (PV.nilp ).free = true := (rfl)
theorem fr_nils : (PV.nils ).free = true := (rfl)
theorem fr_nilf : (PV.nilf ).free = true := (rfl)
theorem fr_sl (n : Nat) (cs : List PV) : (PV.sl n cs).free = true := (rfl)
theorem fr_sp (cs : List PV) : (PV.sp cs).free = true := (rfl)
theorem fr_ref (r : Nat) (p : List Nat) (i n : Nat) : (PV.ref r p i n).free = false := (rfl)
theorem fr_view (r : Nat) (p : List Nat) (o l z : Nat) : (PV.view r p o l z).free = false := (rfl)
theorem fr_box (cs : List PV) : (PV.box cs).free = false := (rfl)
theorem fr_own (sz len : Nat) (cs : List PV) : (PV.own sz len cs).free = false := (rfl)
theorem fr_agg (cs : List PV) : (PV.agg cs).free = false := (rfl)
theorem fr_tup (cs : List PV) : (PV.tup cs).free = false := (rfl)
theorem fr_fn (f : Nat) (cs : List PV) : (PV.fn f cs).free = false := (rfl)
theorem getElem?_len {α : Type} (l r : List α) (k : Nat) : (l ++ r)[l.length + k]? = r[k]? := by
  rw [List.getElem?_append_right (by omega)]; congr 1; omega
theorem getElem?_len0 {α : Type} (l r : List α) : (l ++ r)[l.length]? = r[0]? := by
  rw [List.getElem?_append_right (by omega)]; congr 1; omega
theorem set_len0 {α : Type} (l r : List α) (x : α) : (l ++ r).set l.length x = l ++ r.set 0 x := by
  rw [List.set_append_right _ _ (by omega)]; congr 2; omega
theorem set_len {α : Type} (l r : List α) (k : Nat) (x : α) : (l ++ r).set (l.length + k) x = l ++ r.set k x := by
  rw [List.set_append_right _ _ (by omega)]; congr 2; omega
theorem len_app {α : Type} (l r : List α) : (l ++ r).length = l.length + r.length := List.length_append

/-- no function is answered by Ab -/
def C0 : Calls' := fun _ _ => Option.none
theorem C0_ok {P : Program} : CallOk P C0 := fun _ _ _ _ h => by cases h
theorem evP_call0 {L : XO → PV} {S : Subs} {f : Nat} {as : List XO} {ms : List Nat} : evP C0 L S (.call f as ms) = Option.none := by
  cases ms with
  | nil =>
    simp only [evP, C0]
    split <;> rfl
  | cons => rfl
theorem evP_callv0 {L : XO → PV} {S : Subs} {x : XO} {as : List XO} : evP C0 L S (.callv x as) = Option.none := by
  simp only [evP, C0]
  split
  · split <;> rfl
  · rfl
/-- into a function's body -/
theorem evHF_in {C : Calls'} {K : HCalls} {T : Nat → Option HF} {n : Nat} {f : Nat} {args : List HV} {st : HSt} {x : HF} (hk : ∀ ws st, K f ws st = Option.none) (hT : T f = some x) (hl : args.length = x.np) {r : Option (HV × HSt)}
    (h : retel (evHC C (evHF C K T n) n x.body (paramsH 0 args, st)) (fun s => oel (resHL (hland s (x.res.map resT)) x.res) (fun vs => some (tupHOf vs, (hland s (x.res.map resT)).2)) (fun _ => Option.none)) = r) : evHF C K T (n + 1) f args st = r := by
  rw [evHF_eq, hk, hT, oel_none, oel_some, if_pos hl]; exact h

end Go.Ab

/-
  A law's row, out of what the evaluator with handles answers.
-/
namespace Go.Ab
open Go Go.ChangeShapes Go.WideShapes Go.ChangeAt Go.RowKit
set_option linter.unusedVariables false
set_option linter.unusedSimpArgs false

section
variable {H : Type} {enc : TypeId × Value → H} {P : Program} {w : World}

theorem looseL_of {cs : List PV} (h : ∀ i (hi : i < cs.length), cs[i].free = true) : PV.loose (.agg cs) = true := by
  have h1 : noOwnL cs = true := noOwnL_of fun c hc => by obtain ⟨i, hi, rfl⟩ := List.getElem_of_mem hc; exact free_noOwn (h i hi)
  have h2 : refsL cs = [] := refsL_nil fun i hi => free_refs (h i hi)
  simp [PV.loose, noOwn, refs, h1, h2]

theorem arg_repH {n : Nat} {t : TypeId} {v : Value} {d : DataW H} {ps : List MemPlace} {base : Nat} {sp : Nat → Bool} {held : Bool} (hp : plainTy P n t = true) (hval : Value.okWide P w .any base t v) (h : DataW.Trod enc P w 0 sp held t v d ps) :
    ∃ pv, argPV P n t d = some pv ∧ (∀ hd, RepV w (allSh w) hd pv v) ∧ pv.loose = true := by
  obtain ⟨fuel, hf⟩ := h
  obtain ⟨pvs, h1, h2, h3⟩ := trod_rep _ _ _ _ _ _ hp hf
  have agg : ∀ cs, v = .agg cs → (∀ hd, RepV w (allSh w) hd (.agg pvs) v) ∧ PV.loose (.agg pvs) = true := fun cs hv => by
    subst hv
    have hl : cs.size = pvs.length := by simpa [Value.cells] using h2.symm
    refine ⟨fun hd => .agg _ _ _ hl fun i hi => ?_, looseL_of fun i hi => (h3 i hi).2⟩
    have := (h3 i hi).1.any (h3 i hi).2 (Hd.snoc hd i)
    simpa [Value.cells, Array.getD, List.getD, show i < cs.size by omega] using this
  have one : (∀ cs, v ≠ .agg cs) → ∃ x, pvs = [x] ∧ (∀ hd, RepV w (allSh w) hd x v) ∧ x.loose = true := fun hv => by
    have hc : v.cells = #[v] := by cases v <;> first | rfl | exact absurd rfl (hv _)
    rw [hc] at h2 h3
    obtain ⟨x, rfl⟩ := List.length_eq_one_iff.1 (show pvs.length = 1 by simpa using h2)
    have := h3 0 (by simp)
    exact ⟨x, rfl, fun hd => by simpa using this.1.any this.2 hd, free_loose (by simpa using this.2)⟩
  unfold argPV
  cases n with
  | zero => simp [plainTy] at hp
  | succ n =>
    simp only [plainTy] at hp
    unfold Value.okWide at hval
    cases hu : P.underlying t with
    | none => rw [hu] at hp; cases hp
    | some td =>
      rw [hu] at hp hval
      cases td with
      | struct fs =>
        obtain ⟨cs, hv, _⟩ := hval
        exact ⟨.agg pvs, by simp [h1], agg cs hv⟩
      | array m e =>
        obtain ⟨cs, hv, _⟩ := hval
        exact ⟨.agg pvs, by simp [h1], agg cs hv⟩
      | bool =>
        obtain ⟨x, rfl, hx⟩ := one (fun cs hv => by subst hv; simp [Cell.okWide, hu, Cell.ok] at hval)
        exact ⟨x, by simp [h1], hx⟩
      | int k =>
        obtain ⟨x, rfl, hx⟩ := one (fun cs hv => by subst hv; simp [Cell.okWide, hu, Cell.ok] at hval)
        exact ⟨x, by simp [h1], hx⟩
      | string =>
        obtain ⟨x, rfl, hx⟩ := one (fun cs hv => by subst hv; simp [Cell.okWide, hu, Cell.ok] at hval)
        exact ⟨x, by simp [h1], hx⟩
      | slice e =>
        obtain ⟨x, rfl, hx⟩ := one (fun cs hv => by subst hv; simp [Cell.okWide, hu, Cell.ok] at hval)
        exact ⟨x, by simp [h1], hx⟩
      | _ => cases hp

theorem args_repH {n : Nat} {base : Nat} {sp : Nat → Bool} {held : Bool} : ∀ {ts : List TypeId} {vs : List Value} {ds : List (DataW H)} {ps : List MemPlace}, ts.all (fun t => plainTy P n t) = true →
    (∀ (j : Nat) t v, ts[j]? = some t → vs[j]? = some v → Value.okWide P w .any base t v) → DataW.TrodAll enc P w 0 sp held ts vs ds ps →
    ∃ ws, argsPV P n ts ds = some ws ∧ ws.length = vs.length ∧ vs.length = ts.length ∧ ds.length = ts.length ∧ ∀ i (hi : i < ws.length) (hi' : i < vs.length), (∀ hd, RepV w (allSh w) hd ws[i] vs[i]) ∧ ws[i].loose = true
  | [], vs, ds, ps, hp, hval, h => by
    cases vs <;> cases ds <;> simp [DataW.TrodAll] at h
    exact ⟨[], rfl, rfl, rfl, rfl, fun i hi => by simp at hi⟩
  | t :: ts, vs, ds, ps, hp, hval, h => by
    obtain ⟨v, vs', d, ds', p, q, rfl, rfl, rfl, h1, h2⟩ := trodAll_cons h
    simp only [List.all_cons, Bool.and_eq_true] at hp
    obtain ⟨pv, h3, h4, h5⟩ := arg_repH hp.1 (hval 0 t v rfl rfl) h1
    obtain ⟨ws, h6, h7, h8, h9, h10⟩ := args_repH hp.2 (fun j t' v' ht hv => hval (j + 1) t' v' (by simpa using ht) (by simpa using hv)) h2
    refine ⟨pv :: ws, by simp [argsPV, h3, h6], by simp [h7], by simp [h8], by simp [h9], fun i hi hi' => ?_⟩
    cases i with
    | zero => exact ⟨h4, h5⟩
    | succ i => exact h10 i (by simpa using hi) (by simpa using hi')


theorem law_contractH {HC : HCalls} (hH : HCallOk P HC) (hl : laidOutB P = true) {f : Nat} {fn : Func} {rt : TypeId} (hr : fn.resultTypes = #[rt]) (hrt : P.underlying rt = some .bool)
    {ts : List TypeId} {N : Nat} (hps : fn.params.toList = ts) (hplain : ts.all (fun t => plainTy P N t) = true) (hread : ts.all (fun t => P.readableRec t && decide (t < P.types.size)) = true)
    {s : ChangeSpec} (hvars : s.vars = []) {args : Array Value} {ds gs : List (DataW H)} {before : List MemPlace} {base : Nat} (hs0 : ds.length = ts.length → s.fn H ds = { results := [.lit (.bool true)], args := ds })
    (hval : ∀ (j : Nat) t v, fn.params[j]? = some t → args[j]? = some v → Value.okWide P w .any base t v)
    (hW : DataW.Whole enc P fn.params.toList s.vars false w args.toList ds gs before)
    (hwt : (DataW.weightsEach P (fn.params.toList ++ s.plain.varTypes P) (ds ++ gs)).all (· ≤ reachBytes) = true)
    (law : ∀ ws, (argsPV P N ts ds = some ws ∧ ∀ x ∈ DataW.weightsEach P ts ds, x ≤ reachBytes) → ∃ st', HC f (ws.map .p) [] = some (.p (.bool true), st')) :
    Calls P f args w fun e w' => ∃ v, e = .returned v ∧ s.post enc P fn false true false false w args v w' := by
  have hW' := hW
  obtain ⟨p, q, hA, hV, rfl, hfz, hnd⟩ := hW
  rw [hps] at hA
  obtain ⟨ws, h1, h2, h3, h4, h5⟩ := args_repH hplain (fun j t v ht hv => hval j t v (by rw [← hps] at ht; simpa using ht) (by simpa using hv)) hA
  have hs := hs0 h4
  have hwt' : ∀ x ∈ DataW.weightsEach P ts ds, x ≤ reachBytes := fun x hx => by
    have := List.all_eq_true.1 hwt x (by rw [hps]; exact weightsEach_left h4 x hx)
    simpa using this
  obtain ⟨st', hev⟩ := law ws ⟨h1, hwt'⟩
  obtain ⟨_, hcall⟩ := hH f (ws.map .p) _ _ _ hev
  have hsz : args.size = (ws.map HV.p).length := by simpa using h2.symm
  have O0 : HOk w (allSh w) [] [] := by
    refine ⟨allSh_wf w, rfl, fun b j r p i h _ => ?_, fun a k h => by simp at h, fun a b o m k h => by simp at h, fun a a' b o m o' m' ks vs h => by simp at h⟩
    simp only [allSh] at h; split at h <;> cases h
  refine Calls.mono (hcall args w (allSh w) [] hsz O0 (fun b j q p i h => by simp only [allSh] at h; split at h <;> cases h) fun i hi => ?_) fun e w' he => ?_
  · have hi0 : i < ws.length := by simpa using hi
    have hi' : i < args.size := by omega
    have := h5 i hi0 (by simpa using hi')
    have h6 := this.1 Option.none
    have : RepH w (allSh w) [] (.p ws[i]) (args.getD i undef) := .p _ _ this.2 (by simpa [Array.getD, hi'] using h6)
    simpa using this
  · cases e with
    | returned v =>
      obtain ⟨L', A', O', _, HR, E0⟩ := he
      have E : Ext w (allSh w) w' L' := ⟨E0.os, E0.tape, E0.output, E0.size, E0.lab, fun b hb => by
        rcases E0.blk b hb with ⟨a, o, m, es, c, h, _⟩ | h
        · simp at h
        · exact h⟩
      have hb := below_of_ext E
      obtain ⟨_, HR⟩ := HR.pv
      cases HR
      have hq : q = [] ∧ gs = [] := by
        rw [hvars] at hV
        cases gs with
        | nil => exact ⟨by simpa [DataW.TrodVars] using hV, rfl⟩
        | cons g gs => simp [DataW.TrodVars] at hV
      obtain ⟨rfl, rfl⟩ := hq
      have hlt : ∀ x ∈ p, x.block < w.heap.size := fun x hx => hW'.lt x (by simp [hx])
      refine ⟨_, rfl, ds, [], p ++ [], [], p, [], hW', ?_, ?_, ?_, hb.frame _, fun h => by cases h⟩
      · rw [List.append_nil, hs, hr]
        exact trodAll_mk1 (shut_bool hrt true)
      · rw [List.append_nil, hs, hps]
        exact trods_stay hl hread hA (fun x hx => hb.same (hlt x hx)) (fun x hx => by simpa using hlt x hx)
      · rw [List.append_nil, hs, hvars]; rfl
    | panicked => exact he.elim
    | outgrown => exact he.elim
end
end Go.Ab

/- printed -/
namespace Go.Ab
open Go
set_option maxRecDepth 100000
def h11 : HF := ⟨2, [.tmp 4],
 .seq (.reg [⟨some 4, .x (.asg (.k (.bool false))), .none, false, []⟩] false [0, 1])
 (.seq (.seq (.reg [⟨some 9, .x (.mv (.t 0)), .none, false, []⟩,
  ⟨some 10, .x (.bin .gtr (.t 9) (.k (.int .i64 5000))), .none, false, []⟩,
  ⟨some 11, .x (.mv (.t 10)), .none, false, []⟩,
  ⟨some 12, .x (.mv (.t 0)), some (11, true), false, []⟩,
  ⟨some 13, .x (.bin .leq (.t 12) (.k (.int .i64 1048576))), some (11, true), false, []⟩,
  ⟨some 14, .x (.pick (.t 11) (.t 13) (.k (.bool false))), .none, false, []⟩,
  ⟨some 15, .x (.mv (.t 14)), .none, false, []⟩,
  ⟨some 16, .x (.mv (.t 1)), some (15, false), false, []⟩,
  ⟨some 17, .x (.bin .gtr (.t 16) (.k (.int .i64 5000))), some (15, false), false, []⟩,
  ⟨some 18, .x (.mv (.t 17)), some (15, false), false, []⟩,
  ⟨some 19, .x (.mv (.t 1)), some (18, true), false, []⟩,
  ⟨some 20, .x (.bin .leq (.t 19) (.k (.int .i64 1048576))), some (18, true), false, []⟩,
  ⟨some 21, .x (.pick (.t 18) (.t 20) (.k (.bool false))), some (15, false), false, []⟩,
  ⟨some 22, .x (.pick (.t 15) (.k (.bool true)) (.t 21)), .none, false, []⟩] false [0, 1, 22])
 (.cond (.t 22) (.seq (.reg [⟨some 23, .x (.call 56 [] []), .none, false, []⟩,
   ⟨some 4, .x (.asg (.t 23)), .none, false, []⟩] false [4])
  (.ret))
 (.skip) [0, 1]))
 (.seq (.reg [⟨some 25, .x (.mv (.t 0)), .none, false, []⟩,
  ⟨some 26, .x (.mv (.t 1)), .none, false, []⟩,
  ⟨some 27, .x (.call 57 [.t 25, .t 26] []), .none, false, []⟩,
  ⟨some 24, .x (.mv (.t 27)), .none, false, []⟩,
  ⟨some 28, .x (.ext (.t 24) 0), .none, false, []⟩,
  ⟨some 29, .x (.ext (.t 24) 1), .none, false, []⟩,
  ⟨some 5, .x (.asg (.t 28)), .none, false, []⟩,
  ⟨some 6, .x (.asg (.t 29)), .none, false, []⟩] false [0, 1, 5, 6])
 (.seq (.reg [⟨some 31, .x (.mv (.t 0)), .none, false, []⟩,
  ⟨some 32, .x (.mv (.t 1)), .none, false, []⟩,
  ⟨some 33, .x (.call 58 [.t 31, .t 32] []), .none, false, []⟩,
  ⟨some 30, .x (.mv (.t 33)), .none, false, []⟩,
  ⟨some 34, .x (.ext (.t 30) 0), .none, false, []⟩,
  ⟨some 35, .x (.ext (.t 30) 1), .none, false, []⟩,
  ⟨some 7, .x (.alloc [.nils, .int .i64 0, .int .i64 0, .int .i64 0, .int .i64 0, .int .i64 0, .int .i64 0, .int .i64 0, .int .i64 0, .int .i64 0, .nils, .int .i64 0, .int .i64 0]), .none, false, []⟩,
  ⟨.none, .x (.store 13 (.t 7) (.t 34)), .none, false, []⟩,
  ⟨some 8, .x (.asg (.t 35)), .none, false, []⟩] false [5, 6, 8])
 (.seq (.reg [⟨some 36, .x (.mv (.t 6)), .none, false, []⟩,
  ⟨some 37, .x (.mv (.t 8)), .none, false, []⟩,
  ⟨some 38, .x (.bin .eql (.t 36) (.t 37)), .none, false, []⟩,
  ⟨some 39, .x (.mv (.t 38)), .none, false, []⟩,
  ⟨some 40, .x (.mv (.t 5)), some (39, true), false, []⟩,
  ⟨some 41, .x (.peq false (.t 40) (.k (.nilp))), some (39, true), false, []⟩,
  ⟨some 42, .x (.mv (.t 6)), some (39, true), false, []⟩,
  ⟨some 43, .x (.bin .neq (.t 42) (.k (.int .i64 0))), some (39, true), false, []⟩,
  ⟨some 44, .x (.beq false (.t 41) (.t 43)), some (39, true), false, []⟩,
  ⟨some 45, .x (.pick (.t 39) (.t 44) (.k (.bool false))), .none, false, []⟩,
  ⟨some 46, .x (.mv (.t 45)), .none, false, []⟩,
  ⟨some 47, .x (.call 56 [] []), some (46, true), false, []⟩,
  ⟨some 48, .x (.pick (.t 46) (.t 47) (.k (.bool false))), .none, false, []⟩,
  ⟨some 4, .x (.asg (.t 48)), .none, false, []⟩] false [4])
 (.ret)))))⟩
def h18 : HF := ⟨5, [.cell 10 true 3, .tmp 11],
 .seq (.reg [⟨some 7, .x (.box (.t 2)), .none, false, []⟩,
  ⟨some 10, .x (.alloc [.int .i64 0, .int .i64 0, .int .i64 0]), .none, false, []⟩,
  ⟨some 11, .x (.asg (.k (.nils))), .none, false, []⟩] false [0, 1, 3, 4, 7, 10])
 (.seq (.reg [⟨some 21, .x (.mv (.t 0)), .none, false, []⟩,
  ⟨some 22, .x (.mv (.t 1)), .none, false, []⟩,
  ⟨some 23, .x (.load true 3 (.t 7)), .none, false, []⟩,
  ⟨some 24, .x (.build [.nilp, .nils, .int .i64 0, .int .i64 0, .int .i64 0] [(0, 1, .t 21), (1, 1, .t 22), (2, 3, .t 23)]), .none, false, []⟩,
  ⟨some 25, .x (.box (.t 24)), .none, false, []⟩,
  ⟨some 12, .x (.alloc [.nilp]), .none, false, []⟩,
  ⟨.none, .x (.store 1 (.t 12) (.t 25)), .none, false, []⟩] false [0, 3, 4, 7, 10, 12])
 (.seq (.reg [⟨some 26, .x (.mv (.t 3)), .none, false, []⟩,
  ⟨some 27, .x (.len false (.t 26)), .none, false, []⟩,
  ⟨some 28, .x (.mksl 1 8 [.int .i64 0] (.t 27) (.t 27)), .none, false, []⟩,
  ⟨some 13, .x (.asg (.t 28)), .none, false, []⟩] false [0, 3, 4, 7, 10, 12, 13])
 (.seq (.seq (.reg [⟨some 29, .x (.mv (.t 3)), .none, false, []⟩,
  ⟨some 30, .x (.len false (.t 29)), .none, false, []⟩,
  ⟨some 31, .x (.mv (.k (.int .i64 0))), .none, false, []⟩] false [0, 4, 7, 10, 12, 13, 29, 30, 31])
 (.block 0 (.loop (.seq (.reg [⟨some 32, .x (.bin .lss (.t 31) (.t 30)), .none, false, []⟩] false [0, 4, 7, 10, 12, 13, 29, 30, 31, 32])
   (.seq (.cond (.t 32) (.skip)
   (.exit 0 [0, 4, 7, 10, 12, 13]) [0, 4, 7, 10, 12, 13, 29, 30, 31])
   (.seq (.block 1 (.seq (.reg [⟨some 33, .x (.mv (.t 31)), .none, false, []⟩,
     ⟨some 34, .x (.iadr 1 .none (.t 29) (.t 31)), .none, false, []⟩,
     ⟨some 35, .x (.load false 1 (.t 34)), .none, false, []⟩,
     ⟨some 14, .x (.asg (.t 33)), .none, false, []⟩,
     ⟨some 15, .x (.asg (.t 35)), .none, false, []⟩] false [0, 4, 7, 10, 12, 13, 14, 15, 29, 30, 31])
    (.reg [⟨some 36, .x (.mv (.t 13)), .none, false, []⟩,
     ⟨some 37, .x (.mv (.t 14)), .none, false, []⟩,
     ⟨some 38, .x (.load false 1 (.t 12)), .none, false, []⟩,
     ⟨some 39, .x (.mv (.t 15)), .none, false, []⟩,
     ⟨some 40, .x (.call 70 [.t 38, .t 39] []), .none, false, []⟩,
     ⟨some 41, .x (.iadr 1 .none (.t 36) (.t 37)), .none, false, []⟩,
     ⟨.none, .x (.store 1 (.t 41) (.t 40)), .none, false, []⟩] false [0, 4, 7, 10, 12, 13, 29, 30, 31])) [0, 4, 7, 10, 12, 13, 29, 30, 31])
   (.reg [⟨some 42, .x (.bin .add (.t 31) (.k (.int .i64 1))), .none, false, []⟩,
    ⟨some 31, .x (.mv (.t 42)), .none, false, []⟩] false [0, 4, 7, 10, 12, 13, 29, 30, 31])))) [0, 4, 7, 10, 12, 13, 29, 30, 31]) [0, 4, 7, 10, 12, 13]))
 (.seq (.seq (.reg [⟨some 43, .x (.mv (.t 4)), .none, false, []⟩,
  ⟨some 44, .x (.len false (.t 43)), .none, false, []⟩,
  ⟨some 45, .x (.mv (.k (.int .i64 0))), .none, false, []⟩] false [0, 7, 10, 12, 13, 43, 44, 45])
 (.block 2 (.loop (.seq (.reg [⟨some 46, .x (.bin .lss (.t 45) (.t 44)), .none, false, []⟩] false [0, 7, 10, 12, 13, 43, 44, 45, 46])
   (.seq (.cond (.t 46) (.skip)
   (.exit 2 [0, 7, 10, 12, 13]) [0, 7, 10, 12, 13, 43, 44, 45])
   (.seq (.block 3 (.seq (.reg [⟨some 47, .x (.iadr 1 .none (.t 43) (.t 45)), .none, false, []⟩,
     ⟨some 48, .x (.load false 1 (.t 47)), .none, false, []⟩,
     ⟨some 17, .x (.asg (.t 48)), .none, false, []⟩] false [0, 7, 10, 12, 13, 17, 43, 44, 45])
    (.reg [⟨some 49, .x (.mv (.t 0)), .none, false, []⟩,
     ⟨some 50, .x (.mv (.t 17)), .none, false, []⟩,
     ⟨some 51, .x (.mkfn 72 [.t 12]), .none, false, []⟩,
     ⟨some 52, .x (.call 71 [.t 49, .t 50, .t 51] []), .none, false, []⟩] false [0, 7, 10, 12, 13, 43, 44, 45])) [0, 7, 10, 12, 13, 43, 44, 45])
   (.reg [⟨some 53, .x (.bin .add (.t 45) (.k (.int .i64 1))), .none, false, []⟩,
    ⟨some 45, .x (.mv (.t 53)), .none, false, []⟩] false [0, 7, 10, 12, 13, 43, 44, 45])))) [0, 7, 10, 12, 13, 43, 44, 45]) [0, 7, 10, 12, 13]))
 (.seq (.seq (.reg [⟨some 54, .x (.fadr 2 (.t 7)), .none, false, []⟩,
  ⟨some 55, .x (.load false 1 (.t 54)), .none, false, []⟩,
  ⟨some 18, .x (.asg (.t 55)), .none, false, []⟩] false [0, 10, 12, 13, 18])
 (.block 4 (.loop (.seq (.seq (.reg [⟨some 56, .x (.mv (.t 18)), .none, false, []⟩,
    ⟨some 57, .x (.load false 1 (.t 12)), .none, false, []⟩,
    ⟨some 58, .x (.nilck (.t 57)), .none, false, []⟩,
    ⟨some 59, .x (.fadr 2 (.t 58)), .none, false, []⟩,
    ⟨some 60, .x (.fadr 2 (.t 59)), .none, false, []⟩,
    ⟨some 61, .x (.load false 1 (.t 60)), .none, false, []⟩,
    ⟨some 62, .x (.bin .lss (.t 56) (.t 61)), .none, false, []⟩] false [0, 10, 12, 13, 18, 62])
   (.cond (.t 62) (.skip)
   (.exit 4 [10, 12, 13]) [0, 10, 12, 13, 18]))
   (.block 5 (.seq (.reg [⟨some 64, .x (.mv (.t 0)), .none, false, []⟩,
     ⟨some 65, .x (.mv (.t 18)), .none, false, []⟩,
     ⟨some 66, .x (.call 22 [.t 64, .t 65] []), .none, false, []⟩,
     ⟨some 63, .x (.mv (.t 66)), .none, false, []⟩,
     ⟨some 67, .x (.ext (.t 63) 0), .none, false, []⟩,
     ⟨some 68, .x (.ext (.t 63) 1), .none, false, []⟩,
     ⟨some 19, .x (.alloc [.int .i64 0, .int .i64 0]), .none, false, []⟩,
     ⟨.none, .x (.store 2 (.t 19) (.t 67)), .none, false, []⟩,
     ⟨some 20, .x (.asg (.t 68)), .none, false, []⟩] false [0, 10, 12, 13, 18, 19])
    (.seq (.reg [⟨some 69, .x (.mv (.t 0)), .none, false, []⟩,
     ⟨some 70, .x (.mv (.t 18)), .none, false, []⟩,
     ⟨some 71, .x (.mkfn 73 [.t 12]), .none, false, []⟩,
     ⟨some 72, .x (.call 71 [.t 69, .t 70, .t 71] []), .none, false, []⟩] false [0, 10, 12, 13, 18, 19])
    (.reg [⟨some 73, .x (.mv (.t 18)), .none, false, []⟩,
     ⟨some 74, .x (.fadr 0 (.t 19)), .none, false, []⟩,
     ⟨some 75, .x (.load false 1 (.t 74)), .none, false, []⟩,
     ⟨some 76, .x (.bin .add (.k (.int .i64 1)) (.t 75)), .none, false, []⟩,
     ⟨some 77, .x (.bin .add (.t 73) (.t 76)), .none, false, []⟩,
     ⟨some 18, .x (.asg (.t 77)), .none, false, []⟩] false [0, 10, 12, 13, 18]))) [0, 10, 12, 13, 18])) [0, 10, 12, 13, 18]) [10, 12, 13]))
 (.seq (.reg [⟨some 78, .x (.load false 1 (.t 12)), .none, false, []⟩,
  ⟨some 79, .x (.nilck (.t 78)), .none, false, []⟩,
  ⟨some 80, .x (.fadr 2 (.t 79)), .none, false, []⟩,
  ⟨some 81, .x (.load true 3 (.t 80)), .none, false, []⟩,
  ⟨some 82, .x (.mv (.t 13)), .none, false, []⟩,
  ⟨.none, .x (.store 3 (.t 10) (.t 81)), .none, false, []⟩,
  ⟨some 11, .x (.asg (.t 82)), .none, false, []⟩] false [10, 11])
 (.ret)))))))⟩
def h22 : HF := ⟨2, [.cell 4 true 2, .tmp 5],
 .seq (.reg [⟨some 4, .x (.alloc [.int .i64 0, .int .i64 0]), .none, false, []⟩,
  ⟨some 5, .x (.asg (.k (.int .i64 0))), .none, false, []⟩] false [0, 1, 4])
 (.seq (.seq (.reg [⟨some 6, .x (.mv (.t 1)), .none, false, []⟩,
  ⟨some 7, .x (.bin .lss (.t 6) (.k (.int .i64 1))), .none, false, []⟩,
  ⟨some 8, .x (.mv (.t 7)), .none, false, []⟩,
  ⟨some 9, .x (.mv (.t 1)), some (8, false), false, []⟩,
  ⟨some 10, .x (.mv (.t 0)), some (8, false), false, []⟩,
  ⟨some 11, .x (.nilck (.t 10)), some (8, false), false, []⟩,
  ⟨some 12, .x (.fadr 0 (.t 11)), some (8, false), false, []⟩,
  ⟨some 13, .x (.load false 1 (.t 12)), some (8, false), false, []⟩,
  ⟨some 14, .x (.len false (.t 13)), some (8, false), false, []⟩,
  ⟨some 15, .x (.bin .geq (.t 9) (.t 14)), some (8, false), false, []⟩,
  ⟨some 16, .x (.pick (.t 8) (.k (.bool true)) (.t 15)), .none, false, []⟩] false [0, 1, 4, 16])
 (.cond (.t 16) (.seq (.reg [⟨some 17, .x (.build [.int .i64 0, .int .i64 0] []), .none, false, []⟩,
   ⟨.none, .x (.store 2 (.t 4) (.t 17)), .none, false, []⟩,
   ⟨some 5, .x (.asg (.k (.int .i64 20))), .none, false, []⟩] false [4, 5])
  (.ret))
 (.skip) [0, 1, 4]))
 (.seq (.reg [⟨some 18, .x (.mv (.t 0)), .none, false, []⟩,
  ⟨some 19, .x (.nilck (.t 18)), .none, false, []⟩,
  ⟨some 20, .x (.fadr 0 (.t 19)), .none, false, []⟩,
  ⟨some 21, .x (.load false 1 (.t 20)), .none, false, []⟩,
  ⟨some 22, .x (.mv (.t 1)), .none, false, []⟩,
  ⟨some 23, .x (.iadr 1 .none (.t 21) (.t 22)), .none, false, []⟩,
  ⟨some 24, .x (.load false 1 (.t 23)), .none, false, []⟩,
  ⟨some 25, .x (.call 74 [.t 24] []), .none, false, []⟩,
  ⟨some 26, .x (.ext (.t 25) 0), .none, false, []⟩,
  ⟨some 27, .x (.ext (.t 25) 1), .none, false, []⟩,
  ⟨.none, .x (.store 2 (.t 4) (.t 26)), .none, false, []⟩,
  ⟨some 5, .x (.asg (.t 27)), .none, false, []⟩] false [4, 5])
 (.ret)))⟩
def h24 : HF := ⟨3, [.tmp 6],
 .seq (.reg [⟨some 6, .x (.asg (.k (.int .i64 0))), .none, false, []⟩] false [0, 1, 2])
 (.seq (.reg [⟨some 7, .x (.mv (.t 0)), .none, false, []⟩,
  ⟨some 8, .x (.nilck (.t 7)), .none, false, []⟩,
  ⟨some 9, .x (.fadr 0 (.t 8)), .none, false, []⟩,
  ⟨some 10, .x (.load false 1 (.t 9)), .none, false, []⟩,
  ⟨some 11, .x (.mv (.t 1)), .none, false, []⟩,
  ⟨some 12, .x (.bin .add (.t 11) (.k (.int .i64 1))), .none, false, []⟩,
  ⟨some 13, .x (.mv (.t 2)), .none, false, []⟩,
  ⟨some 14, .x (.bin .add (.t 12) (.t 13)), .none, false, []⟩,
  ⟨some 15, .x (.iadr 1 .none (.t 10) (.t 14)), .none, false, []⟩,
  ⟨some 16, .x (.load false 1 (.t 15)), .none, false, []⟩,
  ⟨some 6, .x (.asg (.t 16)), .none, false, []⟩] false [6])
 (.ret))⟩
def h27 : HF := ⟨4, [.tmp 8, .tmp 9],
 .seq (.reg [⟨some 4, .x (.box (.t 0)), .none, false, []⟩,
  ⟨some 5, .x (.box (.t 1)), .none, false, []⟩,
  ⟨some 8, .x (.asg (.k (.nils))), .none, false, []⟩,
  ⟨some 9, .x (.asg (.k (.int .i64 0))), .none, false, []⟩] false [2, 3, 4, 5])
 (.seq (.reg [⟨some 10, .x (.alloc [.nils]), .none, false, []⟩] false [2, 3, 4, 5, 10])
 (.seq (.reg [⟨some 19, .x (.load false 1 (.t 4)), .none, false, []⟩,
  ⟨some 20, .x (.nilck (.t 19)), .none, false, []⟩,
  ⟨some 21, .x (.fadr 0 (.t 20)), .none, false, []⟩,
  ⟨some 22, .x (.load false 1 (.t 21)), .none, false, []⟩,
  ⟨some 23, .x (.len false (.t 22)), .none, false, []⟩,
  ⟨some 24, .x (.mksl 1 8 [.int .i64 0] (.t 23) (.t 23)), .none, false, []⟩,
  ⟨some 11, .x (.alloc [.nils]), .none, false, []⟩,
  ⟨.none, .x (.store 1 (.t 11) (.t 24)), .none, false, []⟩] false [2, 3, 4, 5, 10, 11])
 (.seq (.reg [⟨some 12, .x (.alloc [.int .i64 0]), .none, false, []⟩,
  ⟨.none, .x (.store 1 (.t 12) (.k (.int .i64 0))), .none, false, []⟩] false [2, 3, 4, 5, 10, 11, 12])
 (.seq (.reg [⟨some 25, .x (.mkfn 77 [.t 5, .t 11, .t 10, .t 4, .t 12]), .none, false, []⟩,
  ⟨some 13, .x (.alloc [.nilf]), .none, false, []⟩,
  ⟨.none, .x (.store 1 (.t 13) (.t 25)), .none, false, []⟩] false [2, 3, 4, 10, 12, 13])
 (.seq (.seq (.reg [⟨some 26, .x (.mv (.t 2)), .none, false, []⟩,
  ⟨some 27, .x (.len false (.t 26)), .none, false, []⟩,
  ⟨some 28, .x (.mv (.k (.int .i64 0))), .none, false, []⟩] false [3, 4, 10, 12, 13, 26, 27, 28])
 (.block 0 (.loop (.seq (.reg [⟨some 29, .x (.bin .lss (.t 28) (.t 27)), .none, false, []⟩] false [3, 4, 10, 12, 13, 26, 27, 28, 29])
   (.seq (.cond (.t 29) (.skip)
   (.exit 0 [3, 4, 10, 12, 13]) [3, 4, 10, 12, 13, 26, 27, 28])
   (.seq (.block 1 (.seq (.reg [⟨some 30, .x (.iadr 1 .none (.t 26) (.t 28)), .none, false, []⟩,
     ⟨some 31, .x (.load false 1 (.t 30)), .none, false, []⟩,
     ⟨some 15, .x (.asg (.t 31)), .none, false, []⟩] false [3, 4, 10, 12, 13, 15, 26, 27, 28])
    (.reg [⟨some 32, .x (.load false 1 (.t 13)), .none, false, []⟩,
     ⟨some 33, .x (.mv (.t 15)), .none, false, []⟩,
     ⟨some 34, .x (.callv (.t 32) [.t 33]), .none, false, []⟩] false [3, 4, 10, 12, 13, 26, 27, 28])) [3, 4, 10, 12, 13, 26, 27, 28])
   (.reg [⟨some 35, .x (.bin .add (.t 28) (.k (.int .i64 1))), .none, false, []⟩,
    ⟨some 28, .x (.mv (.t 35)), .none, false, []⟩] false [3, 4, 10, 12, 13, 26, 27, 28])))) [3, 4, 10, 12, 13, 26, 27, 28]) [3, 4, 10, 12, 13]))
 (.seq (.seq (.reg [⟨some 36, .x (.mv (.t 3)), .none, false, []⟩,
  ⟨some 37, .x (.len false (.t 36)), .none, false, []⟩,
  ⟨some 38, .x (.mv (.k (.int .i64 0))), .none, false, []⟩] false [4, 10, 12, 13, 36, 37, 38])
 (.block 2 (.loop (.seq (.reg [⟨some 39, .x (.bin .lss (.t 38) (.t 37)), .none, false, []⟩] false [4, 10, 12, 13, 36, 37, 38, 39])
   (.seq (.cond (.t 39) (.skip)
   (.exit 2 [4, 10, 12, 13]) [4, 10, 12, 13, 36, 37, 38])
   (.seq (.block 3 (.seq (.reg [⟨some 40, .x (.iadr 1 .none (.t 36) (.t 38)), .none, false, []⟩,
     ⟨some 41, .x (.load false 1 (.t 40)), .none, false, []⟩,
     ⟨some 17, .x (.asg (.t 41)), .none, false, []⟩] false [4, 10, 12, 13, 17, 36, 37, 38])
    (.reg [⟨some 42, .x (.load false 1 (.t 4)), .none, false, []⟩,
     ⟨some 43, .x (.mv (.t 17)), .none, false, []⟩,
     ⟨some 44, .x (.mkfn 80 [.t 13]), .none, false, []⟩,
     ⟨some 45, .x (.call 71 [.t 42, .t 43, .t 44] []), .none, false, []⟩] false [4, 10, 12, 13, 36, 37, 38])) [4, 10, 12, 13, 36, 37, 38])
   (.reg [⟨some 46, .x (.bin .add (.t 38) (.k (.int .i64 1))), .none, false, []⟩,
    ⟨some 38, .x (.mv (.t 46)), .none, false, []⟩] false [4, 10, 12, 13, 36, 37, 38])))) [4, 10, 12, 13, 36, 37, 38]) [4, 10, 12, 13]))
 (.seq (.seq (.reg [⟨some 18, .x (.asg (.k (.int .i64 0))), .none, false, []⟩] false [4, 10, 12, 13, 18])
 (.block 4 (.loop (.seq (.seq (.reg [⟨some 47, .x (.mv (.t 18)), .none, false, []⟩,
    ⟨some 48, .x (.load false 1 (.t 10)), .none, false, []⟩,
    ⟨some 49, .x (.len false (.t 48)), .none, false, []⟩,
    ⟨some 50, .x (.bin .lss (.t 47) (.t 49)), .none, false, []⟩] false [4, 10, 12, 13, 18, 50])
   (.cond (.t 50) (.skip)
   (.exit 4 [10, 12]) [4, 10, 12, 13, 18]))
   (.seq (.block 5 (.reg [⟨some 53, .x (.load false 1 (.t 4)), .none, false, []⟩,
     ⟨some 54, .x (.load false 1 (.t 10)), .none, false, []⟩,
     ⟨some 55, .x (.mv (.t 18)), .none, false, []⟩,
     ⟨some 56, .x (.iadr 1 .none (.t 54) (.t 55)), .none, false, []⟩,
     ⟨some 57, .x (.load false 1 (.t 56)), .none, false, []⟩,
     ⟨some 58, .x (.mkfn 81 [.t 13]), .none, false, []⟩,
     ⟨some 59, .x (.call 71 [.t 53, .t 57, .t 58] []), .none, true, []⟩] true [4, 10, 12, 13, 18]) [4, 10, 12, 13, 18])
   (.reg [⟨some 51, .x (.mv (.t 18)), .none, false, []⟩,
    ⟨some 52, .x (.bin .add (.t 51) (.k (.int .i64 1))), .none, false, []⟩,
    ⟨some 18, .x (.asg (.t 52)), .none, false, []⟩] false [4, 10, 12, 13, 18]))) [4, 10, 12, 13, 18]) [10, 12]))
 (.seq (.reg [⟨some 60, .x (.load false 1 (.t 10)), .none, false, []⟩,
  ⟨some 61, .x (.load false 1 (.t 12)), .none, false, []⟩,
  ⟨some 8, .x (.asg (.t 60)), .none, false, []⟩,
  ⟨some 9, .x (.asg (.t 61)), .none, false, []⟩] true [8, 9])
 (.ret)))))))))⟩
def h29 : HF := ⟨2, [.tmp 4],
 .seq (.reg [⟨some 4, .x (.asg (.k (.bool false))), .none, false, []⟩] false [0, 1])
 (.seq (.seq (.reg [⟨some 6, .x (.mv (.t 0)), .none, false, []⟩,
  ⟨some 7, .x (.len false (.t 6)), .none, false, []⟩,
  ⟨some 8, .x (.mv (.t 1)), .none, false, []⟩,
  ⟨some 9, .x (.len false (.t 8)), .none, false, []⟩,
  ⟨some 10, .x (.bin .neq (.t 7) (.t 9)), .none, false, []⟩] false [0, 1, 10])
 (.cond (.t 10) (.seq (.reg [⟨some 4, .x (.asg (.k (.bool false))), .none, false, []⟩] false [4])
  (.ret))
 (.skip) [0, 1]))
 (.seq (.seq (.reg [⟨some 5, .x (.asg (.k (.int .i64 0))), .none, false, []⟩] false [0, 1, 5])
 (.block 0 (.loop (.seq (.seq (.reg [⟨some 11, .x (.mv (.t 5)), .none, false, []⟩,
    ⟨some 12, .x (.mv (.t 0)), .none, false, []⟩,
    ⟨some 13, .x (.len false (.t 12)), .none, false, []⟩,
    ⟨some 14, .x (.bin .lss (.t 11) (.t 13)), .none, false, []⟩] false [0, 1, 5, 14])
   (.cond (.t 14) (.skip)
   (.exit 0 []) [0, 1, 5]))
   (.seq (.block 1 (.seq (.reg [⟨some 17, .x (.mv (.t 0)), .none, false, []⟩,
     ⟨some 18, .x (.mv (.t 5)), .none, false, []⟩,
     ⟨some 19, .x (.iadr 1 .none (.t 17) (.t 18)), .none, false, []⟩,
     ⟨some 20, .x (.load false 1 (.t 19)), .none, false, []⟩,
     ⟨some 21, .x (.mv (.t 1)), .none, false, []⟩,
     ⟨some 22, .x (.mv (.t 5)), .none, false, []⟩,
     ⟨some 23, .x (.iadr 1 .none (.t 21) (.t 22)), .none, false, []⟩,
     ⟨some 24, .x (.load false 1 (.t 23)), .none, false, []⟩,
     ⟨some 25, .x (.bin .neq (.t 20) (.t 24)), .none, false, []⟩] true [0, 1, 5, 25])
    (.cond (.t 25) (.seq (.reg [⟨some 4, .x (.asg (.k (.bool false))), .none, false, []⟩] false [4])
     (.ret))
    (.skip) [0, 1, 5])) [0, 1, 5])
   (.reg [⟨some 15, .x (.mv (.t 5)), .none, false, []⟩,
    ⟨some 16, .x (.bin .add (.t 15) (.k (.int .i64 1))), .none, false, []⟩,
    ⟨some 5, .x (.asg (.t 16)), .none, false, []⟩] false [0, 1, 5]))) [0, 1, 5]) []))
 (.seq (.reg [⟨some 4, .x (.asg (.k (.bool true))), .none, false, []⟩] false [4])
 (.ret))))⟩
def h52 : HF := ⟨2, [.tmp 4, .tmp 5],
 .seq (.reg [⟨some 4, .x (.asg (.k (.nils))), .none, false, []⟩,
  ⟨some 5, .x (.asg (.k (.bool false))), .none, false, []⟩] false [0, 1])
 (.seq (.reg [⟨some 9, .x (.mv (.t 0)), .none, false, []⟩,
  ⟨some 10, .x (.nilck (.t 9)), .none, false, []⟩,
  ⟨some 11, .x (.fadr 1 (.t 10)), .none, false, []⟩,
  ⟨some 12, .x (.load true 3 (.t 11)), .none, false, []⟩,
  ⟨some 13, .x (.bsl 3 1 [.int .i64 0, .int .i64 0, .int .i64 0] [(0, 3, .t 12)]), .none, false, []⟩,
  ⟨some 6, .x (.asg (.t 13)), .none, false, []⟩] false [0, 1, 6])
 (.seq (.seq (.reg [⟨some 15, .x (.mv (.t 0)), .none, false, []⟩,
  ⟨some 16, .x (.nilck (.t 15)), .none, false, []⟩,
  ⟨some 17, .x (.fadr 0 (.t 16)), .none, false, []⟩,
  ⟨some 18, .x (.load false 1 (.t 17)), .none, false, []⟩,
  ⟨some 19, .x (.mv (.t 6)), .none, false, []⟩,
  ⟨some 20, .x (.mv (.t 1)), .none, false, []⟩,
  ⟨some 21, .x (.mv (.t 0)), .none, false, []⟩,
  ⟨some 22, .x (.nilck (.t 21)), .none, false, []⟩,
  ⟨some 23, .x (.fadr 10 (.t 22)), .none, false, []⟩,
  ⟨some 24, .x (.load false 1 (.t 23)), .none, false, []⟩,
  ⟨some 25, .x (.call 27 [.t 18, .t 19, .t 20, .t 24] []), .none, true, []⟩,
  ⟨some 14, .x (.mv (.t 25)), .none, false, []⟩,
  ⟨some 26, .x (.ext (.t 14) 0), .none, false, []⟩,
  ⟨some 27, .x (.ext (.t 14) 1), .none, false, []⟩,
  ⟨some 7, .x (.asg (.t 26)), .none, false, []⟩,
  ⟨some 8, .x (.asg (.t 27)), .none, false, []⟩] true [0, 1, 6, 8])
 (.seq (.reg [⟨some 28, .x (.mv (.t 8)), .none, false, []⟩,
  ⟨some 29, .x (.mv (.t 0)), .none, false, []⟩,
  ⟨some 30, .x (.nilck (.t 29)), .none, false, []⟩,
  ⟨some 31, .x (.fadr 4 (.t 30)), .none, false, []⟩,
  ⟨some 32, .x (.fadr 1 (.t 31)), .none, false, []⟩,
  ⟨some 33, .x (.load false 1 (.t 32)), .none, false, []⟩,
  ⟨some 34, .x (.mv (.t 0)), .none, false, []⟩,
  ⟨some 35, .x (.nilck (.t 34)), .none, false, []⟩,
  ⟨some 36, .x (.fadr 4 (.t 35)), .none, false, []⟩,
  ⟨some 37, .x (.fadr 2 (.t 36)), .none, false, []⟩,
  ⟨some 38, .x (.load false 1 (.t 37)), .none, false, []⟩,
  ⟨some 39, .x (.bin .sub (.t 33) (.t 38)), .none, false, []⟩,
  ⟨some 40, .x (.bin .gtr (.t 28) (.t 39)), .none, false, []⟩] true [0, 1, 6, 40])
 (.cond (.t 40) (.seq (.reg [⟨some 41, .x (.mv (.t 1)), .none, false, []⟩,
   ⟨some 4, .x (.asg (.t 41)), .none, false, []⟩,
   ⟨some 5, .x (.asg (.k (.bool false))), .none, false, []⟩] false [4, 5])
  (.ret))
 (.skip) [0, 1, 6])))
 (.seq (.reg [⟨some 43, .x (.mv (.t 0)), .none, false, []⟩,
  ⟨some 44, .x (.mv (.t 0)), .none, false, []⟩,
  ⟨some 45, .x (.nilck (.t 44)), .none, false, []⟩,
  ⟨some 46, .x (.fadr 0 (.t 45)), .none, false, []⟩,
  ⟨some 47, .x (.load false 1 (.t 46)), .none, false, []⟩,
  ⟨some 48, .x (.mv (.t 6)), .none, false, []⟩,
  ⟨some 49, .x (.mv (.t 0)), .none, false, []⟩,
  ⟨some 50, .x (.nilck (.t 49)), .none, false, []⟩,
  ⟨some 51, .x (.fadr 4 (.t 50)), .none, false, []⟩,
  ⟨some 52, .x (.load true 3 (.t 51)), .none, false, []⟩,
  ⟨some 53, .x (.mv (.t 1)), .none, false, []⟩,
  ⟨some 54, .x (.mv (.t 0)), .none, false, []⟩,
  ⟨some 55, .x (.nilck (.t 54)), .none, false, []⟩,
  ⟨some 56, .x (.fadr 10 (.t 55)), .none, false, []⟩,
  ⟨some 57, .x (.load false 1 (.t 56)), .none, false, []⟩,
  ⟨some 58, .x (.call 18 [.t 47, .t 48, .t 52, .t 53, .t 57] []), .none, true, []⟩,
  ⟨some 42, .x (.mv (.t 58)), .none, false, []⟩,
  ⟨some 59, .x (.ext (.t 42) 0), .none, false, []⟩,
  ⟨some 60, .x (.ext (.t 42) 1), .none, false, []⟩,
  ⟨some 61, .x (.nilck (.t 43)), .none, false, []⟩,
  ⟨some 62, .x (.fadr 4 (.t 61)), .none, false, []⟩,
  ⟨.none, .x (.store 3 (.t 62) (.t 59)), .none, true, []⟩,
  ⟨some 1, .x (.asg (.t 60)), .none, false, []⟩] true [0, 1])
 (.seq (.reg [⟨some 63, .x (.mv (.t 0)), .none, false, []⟩,
  ⟨some 64, .x (.mv (.t 0)), .none, false, []⟩,
  ⟨some 65, .x (.mv (.t 0)), .none, false, []⟩,
  ⟨some 66, .x (.nilck (.t 65)), .none, false, []⟩,
  ⟨some 67, .x (.fadr 1 (.t 66)), .none, false, []⟩,
  ⟨some 68, .x (.fadr 0 (.t 67)), .none, false, []⟩,
  ⟨some 69, .x (.load false 1 (.t 68)), .none, false, []⟩,
  ⟨some 70, .x (.nilck (.t 63)), .none, false, []⟩,
  ⟨some 71, .x (.fadr 1 (.t 70)), .none, false, []⟩,
  ⟨some 72, .x (.fadr 2 (.t 71)), .none, false, []⟩,
  ⟨.none, .x (.store 1 (.t 72) (.t 69)), .none, false, []⟩,
  ⟨some 73, .x (.nilck (.t 64)), .none, false, []⟩,
  ⟨some 74, .x (.fadr 10 (.t 73)), .none, false, []⟩,
  ⟨.none, .x (.store 1 (.t 74) (.k (.nils))), .none, false, []⟩] false [0, 1])
 (.seq (.reg [⟨some 75, .x (.mv (.t 0)), .none, false, []⟩,
  ⟨some 76, .x (.nilck (.t 75)), .none, false, []⟩,
  ⟨some 77, .x (.fadr 11 (.t 76)), .none, false, []⟩,
  ⟨some 78, .x (.load false 1 (.t 77)), .none, false, []⟩,
  ⟨some 79, .x (.bin .add (.t 78) (.k (.int .i64 1))), .none, false, []⟩,
  ⟨some 80, .x (.nilck (.t 75)), .none, false, []⟩,
  ⟨some 81, .x (.fadr 11 (.t 80)), .none, false, []⟩,
  ⟨.none, .x (.store 1 (.t 81) (.t 79)), .none, false, []⟩] false [1])
 (.seq (.reg [⟨some 82, .x (.mv (.t 1)), .none, false, []⟩,
  ⟨some 4, .x (.asg (.t 82)), .none, false, []⟩,
  ⟨some 5, .x (.asg (.k (.bool true))), .none, false, []⟩] false [4, 5])
 (.ret)))))))⟩
def h53 : HF := ⟨2, [.tmp 4, .tmp 5],
 .seq (.reg [⟨some 4, .x (.asg (.k (.nils))), .none, false, []⟩,
  ⟨some 5, .x (.asg (.k (.bool false))), .none, false, []⟩] false [0, 1])
 (.seq (.reg [⟨some 10, .x (.mv (.t 0)), .none, false, []⟩,
  ⟨some 11, .x (.nilck (.t 10)), .none, false, []⟩,
  ⟨some 12, .x (.fadr 1 (.t 11)), .none, false, []⟩,
  ⟨some 13, .x (.load true 3 (.t 12)), .none, false, []⟩,
  ⟨some 14, .x (.mv (.t 0)), .none, false, []⟩,
  ⟨some 15, .x (.nilck (.t 14)), .none, false, []⟩,
  ⟨some 16, .x (.fadr 4 (.t 15)), .none, false, []⟩,
  ⟨some 17, .x (.load true 3 (.t 16)), .none, false, []⟩,
  ⟨some 18, .x (.bsl 3 2 [.int .i64 0, .int .i64 0, .int .i64 0] [(0, 3, .t 13), (3, 3, .t 17)]), .none, false, []⟩,
  ⟨some 6, .x (.asg (.t 18)), .none, true, []⟩] true [0, 1, 6])
 (.seq (.seq (.reg [⟨some 20, .x (.mv (.t 0)), .none, false, []⟩,
  ⟨some 21, .x (.nilck (.t 20)), .none, false, []⟩,
  ⟨some 22, .x (.fadr 0 (.t 21)), .none, false, []⟩,
  ⟨some 23, .x (.load false 1 (.t 22)), .none, false, []⟩,
  ⟨some 24, .x (.mv (.t 6)), .none, false, []⟩,
  ⟨some 25, .x (.mv (.t 1)), .none, false, []⟩,
  ⟨some 26, .x (.call 27 [.t 23, .t 24, .t 25, .k (.nils)] []), .none, false, []⟩,
  ⟨some 19, .x (.mv (.t 26)), .none, false, []⟩,
  ⟨some 27, .x (.ext (.t 19) 0), .none, false, []⟩,
  ⟨some 28, .x (.ext (.t 19) 1), .none, false, []⟩,
  ⟨some 7, .x (.asg (.t 27)), .none, false, []⟩,
  ⟨some 8, .x (.asg (.t 28)), .none, false, []⟩] false [0, 1, 6, 8])
 (.seq (.reg [⟨some 29, .x (.mv (.t 8)), .none, false, []⟩,
  ⟨some 30, .x (.mv (.t 0)), .none, false, []⟩,
  ⟨some 31, .x (.nilck (.t 30)), .none, false, []⟩,
  ⟨some 32, .x (.fadr 7 (.t 31)), .none, false, []⟩,
  ⟨some 33, .x (.fadr 1 (.t 32)), .none, false, []⟩,
  ⟨some 34, .x (.load false 1 (.t 33)), .none, false, []⟩,
  ⟨some 35, .x (.mv (.t 0)), .none, false, []⟩,
  ⟨some 36, .x (.nilck (.t 35)), .none, false, []⟩,
  ⟨some 37, .x (.fadr 7 (.t 36)), .none, false, []⟩,
  ⟨some 38, .x (.fadr 0 (.t 37)), .none, false, []⟩,
  ⟨some 39, .x (.load false 1 (.t 38)), .none, false, []⟩,
  ⟨some 40, .x (.bin .sub (.t 34) (.t 39)), .none, false, []⟩,
  ⟨some 41, .x (.bin .gtr (.t 29) (.t 40)), .none, false, []⟩] true [0, 1, 6, 41])
 (.cond (.t 41) (.seq (.reg [⟨some 42, .x (.mv (.t 1)), .none, false, []⟩,
   ⟨some 4, .x (.asg (.t 42)), .none, false, []⟩,
   ⟨some 5, .x (.asg (.k (.bool false))), .none, false, []⟩] false [4, 5])
  (.ret))
 (.skip) [0, 1, 6])))
 (.seq (.reg [⟨some 44, .x (.mv (.t 0)), .none, false, []⟩,
  ⟨some 45, .x (.nilck (.t 44)), .none, false, []⟩,
  ⟨some 46, .x (.fadr 0 (.t 45)), .none, false, []⟩,
  ⟨some 47, .x (.load false 1 (.t 46)), .none, false, []⟩,
  ⟨some 48, .x (.mv (.t 6)), .none, false, []⟩,
  ⟨some 49, .x (.mv (.t 0)), .none, false, []⟩,
  ⟨some 50, .x (.nilck (.t 49)), .none, false, []⟩,
  ⟨some 51, .x (.fadr 7 (.t 50)), .none, false, []⟩,
  ⟨some 52, .x (.load true 3 (.t 51)), .none, false, []⟩,
  ⟨some 53, .x (.mv (.t 1)), .none, false, []⟩,
  ⟨some 54, .x (.call 18 [.t 47, .t 48, .t 52, .t 53, .k (.nils)] []), .none, true, []⟩,
  ⟨some 43, .x (.mv (.t 54)), .none, false, []⟩,
  ⟨some 55, .x (.ext (.t 43) 0), .none, false, []⟩,
  ⟨some 56, .x (.ext (.t 43) 1), .none, false, []⟩,
  ⟨some 9, .x (.alloc [.int .i64 0, .int .i64 0, .int .i64 0]), .none, false, []⟩,
  ⟨.none, .x (.store 3 (.t 9) (.t 55)), .none, true, []⟩,
  ⟨some 1, .x (.asg (.t 56)), .none, false, []⟩] true [0, 1, 9])
 (.seq (.reg [⟨some 57, .x (.mv (.t 0)), .none, false, []⟩,
  ⟨some 58, .x (.mv (.t 0)), .none, false, []⟩,
  ⟨some 59, .x (.mv (.t 0)), .none, false, []⟩,
  ⟨some 60, .x (.nilck (.t 59)), .none, false, []⟩,
  ⟨some 61, .x (.fadr 4 (.t 60)), .none, false, []⟩,
  ⟨some 62, .x (.load true 3 (.t 61)), .none, false, []⟩,
  ⟨some 63, .x (.load true 3 (.t 9)), .none, false, [9]⟩,
  ⟨some 64, .x (.nilck (.t 57)), .none, false, []⟩,
  ⟨some 65, .x (.fadr 7 (.t 64)), .none, false, []⟩,
  ⟨.none, .x (.store 3 (.t 65) (.t 62)), .none, true, []⟩,
  ⟨some 66, .x (.nilck (.t 58)), .none, false, []⟩,
  ⟨some 67, .x (.fadr 4 (.t 66)), .none, false, []⟩,
  ⟨.none, .x (.store 3 (.t 67) (.t 63)), .none, true, []⟩] true [0, 1])
 (.seq (.reg [⟨some 68, .x (.mv (.t 0)), .none, false, []⟩,
  ⟨some 69, .x (.mv (.t 0)), .none, false, []⟩,
  ⟨some 70, .x (.mv (.t 0)), .none, false, []⟩,
  ⟨some 71, .x (.mv (.t 0)), .none, false, []⟩,
  ⟨some 72, .x (.nilck (.t 71)), .none, false, []⟩,
  ⟨some 73, .x (.fadr 7 (.t 72)), .none, false, []⟩,
  ⟨some 74, .x (.fadr 0 (.t 73)), .none, false, []⟩,
  ⟨some 75, .x (.load false 1 (.t 74)), .none, false, []⟩,
  ⟨some 76, .x (.mv (.t 0)), .none, false, []⟩,
  ⟨some 77, .x (.nilck (.t 76)), .none, false, []⟩,
  ⟨some 78, .x (.fadr 1 (.t 77)), .none, false, []⟩,
  ⟨some 79, .x (.fadr 0 (.t 78)), .none, false, []⟩,
  ⟨some 80, .x (.load false 1 (.t 79)), .none, false, []⟩,
  ⟨some 81, .x (.nilck (.t 68)), .none, false, []⟩,
  ⟨some 82, .x (.fadr 7 (.t 81)), .none, false, []⟩,
  ⟨some 83, .x (.fadr 2 (.t 82)), .none, false, []⟩,
  ⟨.none, .x (.store 1 (.t 83) (.t 75)), .none, true, []⟩,
  ⟨some 84, .x (.nilck (.t 69)), .none, false, []⟩,
  ⟨some 85, .x (.fadr 1 (.t 84)), .none, false, []⟩,
  ⟨some 86, .x (.fadr 2 (.t 85)), .none, false, []⟩,
  ⟨.none, .x (.store 1 (.t 86) (.t 80)), .none, true, []⟩,
  ⟨some 87, .x (.nilck (.t 70)), .none, false, []⟩,
  ⟨some 88, .x (.fadr 10 (.t 87)), .none, false, []⟩,
  ⟨.none, .x (.store 1 (.t 88) (.k (.nils))), .none, true, []⟩] true [0, 1])
 (.seq (.reg [⟨some 89, .x (.mv (.t 0)), .none, false, []⟩,
  ⟨some 90, .x (.nilck (.t 89)), .none, false, []⟩,
  ⟨some 91, .x (.fadr 12 (.t 90)), .none, false, []⟩,
  ⟨some 92, .x (.load false 1 (.t 91)), .none, false, []⟩,
  ⟨some 93, .x (.bin .add (.t 92) (.k (.int .i64 1))), .none, false, []⟩,
  ⟨some 94, .x (.nilck (.t 89)), .none, false, []⟩,
  ⟨some 95, .x (.fadr 12 (.t 94)), .none, false, []⟩,
  ⟨.none, .x (.store 1 (.t 95) (.t 93)), .none, false, []⟩] false [1])
 (.seq (.reg [⟨some 96, .x (.mv (.t 1)), .none, false, []⟩,
  ⟨some 4, .x (.asg (.t 96)), .none, false, []⟩,
  ⟨some 5, .x (.asg (.k (.bool true))), .none, false, []⟩] false [4, 5])
 (.ret))))))))⟩
def h56 : HF := ⟨0, [.tmp 0],
 .seq (.reg [⟨some 0, .x (.asg (.k (.bool false))), .none, false, []⟩] false [])
 (.seq (.reg [⟨some 22, .x (.call 57 [.k (.int .i64 5), .k (.int .i64 9)] []), .none, false, []⟩,
  ⟨some 21, .x (.mv (.t 22)), .none, false, []⟩,
  ⟨some 23, .x (.ext (.t 21) 0), .none, false, []⟩,
  ⟨some 24, .x (.ext (.t 21) 1), .none, false, []⟩,
  ⟨some 1, .x (.asg (.t 23)), .none, false, []⟩,
  ⟨some 2, .x (.asg (.t 24)), .none, false, []⟩] false [1, 2])
 (.seq (.reg [⟨some 26, .x (.call 57 [.k (.int .i64 (-1)), .k (.int .i64 9)] []), .none, false, []⟩,
  ⟨some 25, .x (.mv (.t 26)), .none, false, []⟩,
  ⟨some 27, .x (.ext (.t 25) 0), .none, false, []⟩,
  ⟨some 28, .x (.ext (.t 25) 1), .none, false, []⟩,
  ⟨some 3, .x (.asg (.t 27)), .none, false, []⟩,
  ⟨some 4, .x (.asg (.t 28)), .none, false, []⟩] false [1, 2, 4])
 (.seq (.seq (.reg [⟨some 29, .x (.mv (.t 1)), .none, false, []⟩,
  ⟨some 30, .x (.peq false (.t 29) (.k (.nilp))), .none, false, []⟩,
  ⟨some 31, .x (.mv (.t 30)), .none, false, []⟩,
  ⟨some 32, .x (.mv (.t 2)), some (31, false), false, []⟩,
  ⟨some 33, .x (.bin .neq (.t 32) (.k (.int .i64 0))), some (31, false), false, []⟩,
  ⟨some 34, .x (.pick (.t 31) (.k (.bool true)) (.t 33)), .none, false, []⟩,
  ⟨some 35, .x (.mv (.t 34)), .none, false, []⟩,
  ⟨some 36, .x (.mv (.t 4)), some (35, false), false, []⟩,
  ⟨some 37, .x (.bin .neq (.t 36) (.k (.int .i64 18))), some (35, false), false, []⟩,
  ⟨some 38, .x (.pick (.t 35) (.k (.bool true)) (.t 37)), .none, false, []⟩] false [1, 38])
 (.cond (.t 38) (.seq (.reg [⟨some 0, .x (.asg (.k (.bool false))), .none, false, []⟩] false [0])
  (.ret))
 (.skip) [1]))
 (.seq (.reg [⟨some 39, .x (.mv (.t 1)), .none, false, []⟩,
  ⟨some 40, .x (.build [.int .i64 0, .int .i64 0] [(0, 1, .k (.int .i64 2)), (1, 1, .k (.int .i64 3))]), .none, false, []⟩,
  ⟨some 41, .x (.call 60 [.t 39, .t 40] []), .none, false, []⟩,
  ⟨some 5, .x (.asg (.t 41)), .none, false, []⟩] false [1, 5])
 (.seq (.reg [⟨some 42, .x (.mv (.t 1)), .none, false, []⟩,
  ⟨some 43, .x (.build [.int .i64 0, .int .i64 0] [(0, 1, .k (.int .i64 2)), (1, 1, .k (.int .i64 3))]), .none, false, []⟩,
  ⟨some 44, .x (.call 60 [.t 42, .t 43] []), .none, false, []⟩,
  ⟨some 6, .x (.asg (.t 44)), .none, false, []⟩] false [1, 5, 6])
 (.seq (.reg [⟨some 46, .x (.mv (.t 1)), .none, false, []⟩,
  ⟨some 47, .x (.mv (.t 5)), .none, false, []⟩,
  ⟨some 48, .x (.call 105 [.t 46, .t 47, .k (.int .i64 0), .k (.bool true)] []), .none, false, []⟩,
  ⟨some 45, .x (.mv (.t 48)), .none, false, []⟩,
  ⟨some 49, .x (.ext (.t 45) 0), .none, false, []⟩,
  ⟨some 50, .x (.ext (.t 45) 1), .none, false, []⟩,
  ⟨some 7, .x (.asg (.t 49)), .none, false, []⟩,
  ⟨some 8, .x (.asg (.t 50)), .none, false, []⟩] false [1, 5, 6, 7, 8])
 (.seq (.reg [⟨some 51, .x (.mv (.t 1)), .none, false, []⟩,
  ⟨some 52, .x (.mv (.t 6)), .none, false, []⟩,
  ⟨some 53, .x (.mv (.t 5)), .none, false, []⟩,
  ⟨some 54, .x (.call 106 [.t 51, .t 52, .k (.int .i64 0), .k (.bool true), .t 53] []), .none, false, []⟩,
  ⟨some 9, .x (.asg (.t 54)), .none, false, []⟩] false [1, 5, 6, 7, 8, 9])
 (.seq (.reg [⟨some 56, .x (.mv (.t 1)), .none, false, []⟩,
  ⟨some 57, .x (.call 105 [.t 56, .k (.int .i64 0), .k (.int .i64 0), .k (.bool true)] []), .none, false, []⟩,
  ⟨some 55, .x (.mv (.t 57)), .none, false, []⟩,
  ⟨some 58, .x (.ext (.t 55) 0), .none, false, []⟩,
  ⟨some 59, .x (.ext (.t 55) 1), .none, false, []⟩,
  ⟨some 10, .x (.asg (.t 58)), .none, false, []⟩,
  ⟨some 11, .x (.asg (.t 59)), .none, false, []⟩] false [1, 5, 6, 7, 8, 9, 11])
 (.seq (.reg [⟨some 60, .x (.mv (.t 1)), .none, false, []⟩,
  ⟨some 61, .x (.call 107 [.t 60] []), .none, false, []⟩,
  ⟨some 12, .x (.asg (.t 61)), .none, false, []⟩] false [1, 5, 6, 7, 8, 9, 11, 12])
 (.seq (.reg [⟨some 63, .x (.mv (.t 1)), .none, false, []⟩,
  ⟨some 64, .x (.mv (.t 6)), .none, false, []⟩,
  ⟨some 65, .x (.bsl 1 2 [.int .i64 0] [(0, 1, .t 64), (1, 1, .k (.int .i64 0))]), .none, false, []⟩,
  ⟨some 66, .x (.call 52 [.t 63, .t 65] []), .none, false, []⟩,
  ⟨some 62, .x (.mv (.t 66)), .none, false, []⟩,
  ⟨some 67, .x (.ext (.t 62) 0), .none, false, []⟩,
  ⟨some 68, .x (.ext (.t 62) 1), .none, false, []⟩,
  ⟨some 13, .x (.asg (.t 67)), .none, false, []⟩,
  ⟨some 14, .x (.asg (.t 68)), .none, false, []⟩] false [1, 5, 6, 7, 8, 9, 11, 12, 13, 14])
 (.seq (.seq (.reg [⟨some 69, .x (.mv (.t 14)), .none, false, []⟩,
  ⟨some 70, .x (.un .not (.t 69)), .none, false, []⟩,
  ⟨some 71, .x (.mv (.t 70)), .none, false, []⟩,
  ⟨some 72, .x (.mv (.t 13)), some (71, false), false, []⟩,
  ⟨some 73, .x (.len false (.t 72)), some (71, false), false, []⟩,
  ⟨some 74, .x (.bin .neq (.t 73) (.k (.int .i64 2))), some (71, false), false, []⟩,
  ⟨some 75, .x (.pick (.t 71) (.k (.bool true)) (.t 74)), .none, false, []⟩] false [1, 5, 6, 7, 8, 9, 11, 12, 13, 75])
 (.cond (.t 75) (.seq (.reg [⟨some 0, .x (.asg (.k (.bool false))), .none, false, []⟩] false [0])
  (.ret))
 (.skip) [1, 5, 6, 7, 8, 9, 11, 12, 13]))
 (.seq (.reg [⟨some 77, .x (.mv (.t 1)), .none, false, []⟩,
  ⟨some 78, .x (.mv (.t 13)), .none, false, []⟩,
  ⟨some 79, .x (.iadr 1 .none (.t 78) (.k (.int .i64 0))), .none, false, []⟩,
  ⟨some 80, .x (.load false 1 (.t 79)), .none, false, []⟩,
  ⟨some 81, .x (.call 105 [.t 77, .t 80, .k (.int .i64 0), .k (.bool true)] []), .none, false, []⟩,
  ⟨some 76, .x (.mv (.t 81)), .none, false, []⟩,
  ⟨some 82, .x (.ext (.t 76) 0), .none, false, []⟩,
  ⟨some 83, .x (.ext (.t 76) 1), .none, false, []⟩,
  ⟨some 15, .x (.asg (.t 82)), .none, false, []⟩,
  ⟨some 16, .x (.asg (.t 83)), .none, false, []⟩] false [1, 5, 6, 7, 8, 9, 11, 12, 13, 15, 16])
 (.seq (.reg [⟨some 85, .x (.mv (.t 1)), .none, false, []⟩,
  ⟨some 86, .x (.mv (.t 13)), .none, false, []⟩,
  ⟨some 87, .x (.call 53 [.t 85, .t 86] []), .none, false, []⟩,
  ⟨some 84, .x (.mv (.t 87)), .none, false, []⟩,
  ⟨some 88, .x (.ext (.t 84) 0), .none, false, []⟩,
  ⟨some 89, .x (.ext (.t 84) 1), .none, false, []⟩,
  ⟨some 17, .x (.asg (.t 88)), .none, false, []⟩,
  ⟨some 18, .x (.asg (.t 89)), .none, false, []⟩] false [1, 5, 6, 7, 8, 9, 11, 12, 15, 16, 17, 18])
 (.seq (.reg [⟨some 91, .x (.mv (.t 1)), .none, false, []⟩,
  ⟨some 92, .x (.call 108 [.t 91] []), .none, false, []⟩,
  ⟨some 90, .x (.mv (.t 92)), .none, false, []⟩,
  ⟨some 93, .x (.ext (.t 90) 0), .none, false, []⟩,
  ⟨some 94, .x (.ext (.t 90) 1), .none, false, []⟩,
  ⟨some 19, .x (.asg (.t 93)), .none, false, []⟩,
  ⟨some 20, .x (.asg (.t 94)), .none, false, []⟩] false [1, 5, 6, 7, 8, 9, 11, 12, 15, 16, 17, 18, 19, 20])
 (.seq (.reg [⟨some 95, .x (.mv (.t 5)), .none, false, []⟩,
  ⟨some 96, .x (.bin .eql (.t 95) (.k (.int .i64 1))), .none, false, []⟩,
  ⟨some 97, .x (.mv (.t 96)), .none, false, []⟩,
  ⟨some 98, .x (.mv (.t 6)), some (97, true), false, []⟩,
  ⟨some 99, .x (.bin .eql (.t 98) (.k (.int .i64 6))), some (97, true), false, []⟩,
  ⟨some 100, .x (.pick (.t 97) (.t 99) (.k (.bool false))), .none, false, []⟩,
  ⟨some 101, .x (.mv (.t 100)), .none, false, []⟩,
  ⟨some 102, .x (.mv (.t 7)), some (101, true), false, []⟩,
  ⟨some 103, .x (.bin .eql (.t 102) (.k (.int .i64 0))), some (101, true), false, []⟩,
  ⟨some 104, .x (.pick (.t 101) (.t 103) (.k (.bool false))), .none, false, []⟩,
  ⟨some 105, .x (.mv (.t 104)), .none, false, []⟩,
  ⟨some 106, .x (.mv (.t 8)), some (105, true), false, []⟩,
  ⟨some 107, .x (.bin .eql (.t 106) (.k (.int .i64 0))), some (105, true), false, []⟩,
  ⟨some 108, .x (.pick (.t 105) (.t 107) (.k (.bool false))), .none, false, []⟩,
  ⟨some 109, .x (.mv (.t 108)), .none, false, []⟩,
  ⟨some 110, .x (.mv (.t 9)), some (109, true), false, []⟩,
  ⟨some 111, .x (.bin .eql (.t 110) (.k (.int .i64 0))), some (109, true), false, []⟩,
  ⟨some 112, .x (.pick (.t 109) (.t 111) (.k (.bool false))), .none, false, []⟩,
  ⟨some 113, .x (.mv (.t 112)), .none, false, []⟩,
  ⟨some 114, .x (.mv (.t 11)), some (113, true), false, []⟩,
  ⟨some 115, .x (.bin .eql (.t 114) (.k (.int .i64 1))), some (113, true), false, []⟩,
  ⟨some 116, .x (.pick (.t 113) (.t 115) (.k (.bool false))), .none, false, []⟩,
  ⟨some 117, .x (.mv (.t 116)), .none, false, []⟩,
  ⟨some 118, .x (.mv (.t 12)), some (117, true), false, []⟩,
  ⟨some 119, .x (.bsl 1 1 [.int .i64 0] [(0, 1, .k (.int .i64 6))]), some (117, true), false, []⟩,
  ⟨some 120, .x (.call 29 [.t 118, .t 119] []), some (117, true), false, []⟩,
  ⟨some 121, .x (.pick (.t 117) (.t 120) (.k (.bool false))), .none, false, []⟩,
  ⟨some 122, .x (.mv (.t 121)), .none, false, []⟩,
  ⟨some 123, .x (.mv (.t 15)), some (122, true), false, []⟩,
  ⟨some 124, .x (.bin .eql (.t 123) (.k (.int .i64 9))), some (122, true), false, []⟩,
  ⟨some 125, .x (.pick (.t 122) (.t 124) (.k (.bool false))), .none, false, []⟩,
  ⟨some 126, .x (.mv (.t 125)), .none, false, []⟩,
  ⟨some 127, .x (.mv (.t 16)), some (126, true), false, []⟩,
  ⟨some 128, .x (.bin .eql (.t 127) (.k (.int .i64 0))), some (126, true), false, []⟩,
  ⟨some 129, .x (.pick (.t 126) (.t 128) (.k (.bool false))), .none, false, []⟩,
  ⟨some 130, .x (.mv (.t 129)), .none, false, []⟩,
  ⟨some 131, .x (.mv (.t 18)), some (130, true), false, []⟩,
  ⟨some 132, .x (.pick (.t 130) (.t 131) (.k (.bool false))), .none, false, []⟩,
  ⟨some 133, .x (.mv (.t 132)), .none, false, []⟩,
  ⟨some 134, .x (.mv (.t 17)), some (133, true), false, []⟩,
  ⟨some 135, .x (.len false (.t 134)), some (133, true), false, []⟩,
  ⟨some 136, .x (.bin .eql (.t 135) (.k (.int .i64 2))), some (133, true), false, []⟩,
  ⟨some 137, .x (.pick (.t 133) (.t 136) (.k (.bool false))), .none, false, []⟩,
  ⟨some 138, .x (.mv (.t 137)), .none, false, []⟩,
  ⟨some 139, .x (.mv (.t 1)), some (138, true), false, []⟩,
  ⟨some 140, .x (.mv (.t 17)), some (138, true), false, []⟩,
  ⟨some 141, .x (.iadr 1 .none (.t 140) (.k (.int .i64 0))), some (138, true), false, []⟩,
  ⟨some 142, .x (.load false 1 (.t 141)), some (138, true), false, []⟩,
  ⟨some 143, .x (.call 109 [.t 139, .t 142] []), some (138, true), false, []⟩,
  ⟨some 144, .x (.pick (.t 138) (.t 143) (.k (.bool false))), .none, false, []⟩,
  ⟨some 145, .x (.mv (.t 144)), .none, false, []⟩,
  ⟨some 146, .x (.mv (.t 1)), some (145, true), false, []⟩,
  ⟨some 147, .x (.call 109 [.t 146, .k (.int .i64 99)] []), some (145, true), false, []⟩,
  ⟨some 148, .x (.un .not (.t 147)), some (145, true), false, []⟩,
  ⟨some 149, .x (.pick (.t 145) (.t 148) (.k (.bool false))), .none, false, []⟩,
  ⟨some 150, .x (.mv (.t 149)), .none, false, []⟩,
  ⟨some 151, .x (.mv (.t 1)), some (150, true), false, []⟩,
  ⟨some 152, .x (.mv (.t 17)), some (150, true), false, []⟩,
  ⟨some 153, .x (.iadr 1 .none (.t 152) (.k (.int .i64 0))), some (150, true), false, []⟩,
  ⟨some 154, .x (.load false 1 (.t 153)), some (150, true), false, []⟩,
  ⟨some 155, .x (.call 110 [.t 151, .t 154, .k (.int .i64 2)] []), some (150, true), false, []⟩,
  ⟨some 156, .x (.bin .eql (.t 155) (.k (.int .i64 2))), some (150, true), false, []⟩,
  ⟨some 157, .x (.pick (.t 150) (.t 156) (.k (.bool false))), .none, false, []⟩,
  ⟨some 158, .x (.mv (.t 157)), .none, false, []⟩,
  ⟨some 159, .x (.mv (.t 19)), some (158, true), false, []⟩,
  ⟨some 160, .x (.bin .eql (.t 159) (.k (.int .i64 1))), some (158, true), false, []⟩,
  ⟨some 161, .x (.pick (.t 158) (.t 160) (.k (.bool false))), .none, false, []⟩,
  ⟨some 162, .x (.mv (.t 161)), .none, false, []⟩,
  ⟨some 163, .x (.mv (.t 20)), some (162, true), false, []⟩,
  ⟨some 164, .x (.bin .eql (.t 163) (.k (.int .i64 1))), some (162, true), false, []⟩,
  ⟨some 165, .x (.pick (.t 162) (.t 164) (.k (.bool false))), .none, false, []⟩,
  ⟨some 0, .x (.asg (.t 165)), .none, false, []⟩] false [0])
 (.ret))))))))))))))))⟩
def h57 : HF := ⟨2, [.tmp 4, .tmp 5],
 .seq (.reg [⟨some 4, .x (.asg (.k (.nilp))), .none, false, []⟩,
  ⟨some 5, .x (.asg (.k (.int .i64 0))), .none, false, []⟩] false [0, 1])
 (.seq (.seq (.reg [⟨some 8, .x (.mv (.t 0)), .none, false, []⟩,
  ⟨some 9, .x (.bin .lss (.t 8) (.k (.int .i64 0))), .none, false, []⟩,
  ⟨some 10, .x (.mv (.t 9)), .none, false, []⟩,
  ⟨some 11, .x (.mv (.t 1)), some (10, false), false, []⟩,
  ⟨some 12, .x (.bin .lss (.t 11) (.k (.int .i64 0))), some (10, false), false, []⟩,
  ⟨some 13, .x (.pick (.t 10) (.k (.bool true)) (.t 12)), .none, false, []⟩,
  ⟨some 14, .x (.mv (.t 13)), .none, false, []⟩,
  ⟨some 15, .x (.mv (.t 0)), some (14, false), false, []⟩,
  ⟨some 16, .x (.bin .gtr (.t 15) (.k (.int .i64 1048576))), some (14, false), false, []⟩,
  ⟨some 17, .x (.pick (.t 14) (.k (.bool true)) (.t 16)), .none, false, []⟩,
  ⟨some 18, .x (.mv (.t 17)), .none, false, []⟩,
  ⟨some 19, .x (.mv (.t 1)), some (18, false), false, []⟩,
  ⟨some 20, .x (.bin .gtr (.t 19) (.k (.int .i64 1048576))), some (18, false), false, []⟩,
  ⟨some 21, .x (.pick (.t 18) (.k (.bool true)) (.t 20)), .none, false, []⟩] false [0, 1, 21])
 (.cond (.t 21) (.seq (.reg [⟨some 4, .x (.asg (.k (.nilp))), .none, false, []⟩,
   ⟨some 5, .x (.asg (.k (.int .i64 18))), .none, false, []⟩] false [4, 5])
  (.ret))
 (.skip) [0, 1]))
 (.seq (.reg [⟨some 23, .x (.mv (.t 0)), .none, false, []⟩,
  ⟨some 24, .x (.mv (.t 1)), .none, false, []⟩,
  ⟨some 25, .x (.mv (.t 1)), .none, false, []⟩,
  ⟨some 26, .x (.bsl 1 3 [.int .i64 0] [(0, 1, .t 23), (1, 1, .t 24), (2, 1, .t 25)]), .none, false, []⟩,
  ⟨some 27, .x (.call 64 [.t 26] []), .none, false, []⟩,
  ⟨some 22, .x (.mv (.t 27)), .none, false, []⟩,
  ⟨some 28, .x (.ext (.t 22) 0), .none, false, []⟩,
  ⟨some 29, .x (.ext (.t 22) 1), .none, false, []⟩,
  ⟨some 6, .x (.asg (.t 28)), .none, false, []⟩,
  ⟨some 7, .x (.asg (.t 29)), .none, false, []⟩] false [6, 7])
 (.seq (.reg [⟨some 30, .x (.mv (.t 6)), .none, false, []⟩,
  ⟨some 31, .x (.mv (.t 7)), .none, false, []⟩,
  ⟨some 32, .x (.iadr 3 .none (.t 31) (.k (.int .i64 0))), .none, false, []⟩,
  ⟨some 33, .x (.load true 3 (.t 32)), .none, false, []⟩,
  ⟨some 34, .x (.mv (.t 7)), .none, false, []⟩,
  ⟨some 35, .x (.iadr 3 .none (.t 34) (.k (.int .i64 1))), .none, false, []⟩,
  ⟨some 36, .x (.load true 3 (.t 35)), .none, false, []⟩,
  ⟨some 37, .x (.mv (.t 7)), .none, false, []⟩,
  ⟨some 38, .x (.iadr 3 .none (.t 37) (.k (.int .i64 2))), .none, false, []⟩,
  ⟨some 39, .x (.load true 3 (.t 38)), .none, false, []⟩,
  ⟨some 40, .x (.build [.nilp, .int .i64 0, .int .i64 0, .int .i64 0, .int .i64 0, .int .i64 0, .int .i64 0, .int .i64 0, .int .i64 0, .int .i64 0, .nils, .int .i64 0, .int .i64 0] [(0, 1, .t 30), (1, 3, .t 33), (4, 3, .t 36), (7, 3, .t 39)]), .none, false, []⟩,
  ⟨some 41, .x (.box (.t 40)), .none, false, []⟩,
  ⟨some 4, .x (.asg (.t 41)), .none, true, []⟩,
  ⟨some 5, .x (.asg (.k (.int .i64 0))), .none, false, []⟩] true [4, 5])
 (.ret))))⟩
def h58 : HF := ⟨2, [.cell 4 true 13, .tmp 5],
 .seq (.reg [⟨some 4, .x (.alloc [.nils, .int .i64 0, .int .i64 0, .int .i64 0, .int .i64 0, .int .i64 0, .int .i64 0, .int .i64 0, .int .i64 0, .int .i64 0, .nils, .int .i64 0, .int .i64 0]), .none, false, []⟩,
  ⟨some 5, .x (.asg (.k (.int .i64 0))), .none, false, []⟩] false [0, 1, 4])
 (.seq (.seq (.reg [⟨some 6, .x (.mv (.t 0)), .none, false, []⟩,
  ⟨some 7, .x (.bin .lss (.t 6) (.k (.int .i64 0))), .none, false, []⟩,
  ⟨some 8, .x (.mv (.t 7)), .none, false, []⟩,
  ⟨some 9, .x (.mv (.t 0)), some (8, false), false, []⟩,
  ⟨some 10, .x (.bin .gtr (.t 9) (.k (.int .i64 1048576))), some (8, false), false, []⟩,
  ⟨some 11, .x (.pick (.t 8) (.k (.bool true)) (.t 10)), .none, false, []⟩,
  ⟨some 12, .x (.mv (.t 11)), .none, false, []⟩,
  ⟨some 13, .x (.mv (.t 1)), some (12, false), false, []⟩,
  ⟨some 14, .x (.bin .lss (.t 13) (.k (.int .i64 0))), some (12, false), false, []⟩,
  ⟨some 15, .x (.pick (.t 12) (.k (.bool true)) (.t 14)), .none, false, []⟩,
  ⟨some 16, .x (.mv (.t 15)), .none, false, []⟩,
  ⟨some 17, .x (.mv (.t 1)), some (16, false), false, []⟩,
  ⟨some 18, .x (.bin .gtr (.t 17) (.k (.int .i64 1048576))), some (16, false), false, []⟩,
  ⟨some 19, .x (.pick (.t 16) (.k (.bool true)) (.t 18)), .none, false, []⟩] false [0, 1, 4, 19])
 (.cond (.t 19) (.seq (.reg [⟨some 20, .x (.build [.nils, .int .i64 0, .int .i64 0, .int .i64 0, .int .i64 0, .int .i64 0, .int .i64 0, .int .i64 0, .int .i64 0, .int .i64 0, .nils, .int .i64 0, .int .i64 0] []), .none, false, []⟩,
   ⟨.none, .x (.store 13 (.t 4) (.t 20)), .none, false, []⟩,
   ⟨some 5, .x (.asg (.k (.int .i64 18))), .none, false, []⟩] false [4, 5])
  (.ret))
 (.skip) [0, 1, 4]))
 (.seq (.reg [⟨some 21, .x (.mv (.t 0)), .none, false, []⟩,
  ⟨some 22, .x (.call 111 [.k (.int .i64 1), .t 21] []), .none, false, []⟩,
  ⟨some 23, .x (.mv (.t 0)), .none, false, []⟩,
  ⟨some 24, .x (.bin .add (.k (.int .i64 1)) (.t 23)), .none, false, []⟩,
  ⟨some 25, .x (.mv (.t 1)), .none, false, []⟩,
  ⟨some 26, .x (.call 111 [.t 24, .t 25] []), .none, false, []⟩,
  ⟨some 27, .x (.mv (.t 0)), .none, false, []⟩,
  ⟨some 28, .x (.bin .add (.k (.int .i64 1)) (.t 27)), .none, false, []⟩,
  ⟨some 29, .x (.mv (.t 1)), .none, false, []⟩,
  ⟨some 30, .x (.bin .add (.t 28) (.t 29)), .none, false, []⟩,
  ⟨some 31, .x (.mv (.t 1)), .none, false, []⟩,
  ⟨some 32, .x (.call 111 [.t 30, .t 31] []), .none, false, []⟩,
  ⟨some 33, .x (.build [.nils, .int .i64 0, .int .i64 0, .int .i64 0, .int .i64 0, .int .i64 0, .int .i64 0, .int .i64 0, .int .i64 0, .int .i64 0, .nils, .int .i64 0, .int .i64 0] [(1, 3, .t 22), (4, 3, .t 26), (7, 3, .t 32)]), .none, false, []⟩,
  ⟨.none, .x (.store 13 (.t 4) (.t 33)), .none, false, []⟩,
  ⟨some 5, .x (.asg (.k (.int .i64 0))), .none, false, []⟩] false [4, 5])
 (.ret)))⟩
def h60 : HF := ⟨2, [.tmp 4],
 .seq (.reg [⟨some 3, .x (.box (.t 1)), .none, false, []⟩,
  ⟨some 4, .x (.asg (.k (.int .i64 0))), .none, false, []⟩] false [0, 3])
 (.seq (.reg [⟨some 8, .x (.mv (.t 0)), .none, false, []⟩,
  ⟨some 9, .x (.nilck (.t 8)), .none, false, []⟩,
  ⟨some 10, .x (.fadr 0 (.t 9)), .none, false, []⟩,
  ⟨some 11, .x (.load false 1 (.t 10)), .none, false, []⟩,
  ⟨some 12, .x (.mv (.t 0)), .none, false, []⟩,
  ⟨some 13, .x (.nilck (.t 12)), .none, false, []⟩,
  ⟨some 14, .x (.fadr 1 (.t 13)), .none, false, []⟩,
  ⟨some 15, .x (.load true 3 (.t 14)), .none, false, []⟩,
  ⟨some 16, .x (.load true 2 (.t 3)), .none, false, []⟩,
  ⟨some 17, .x (.call 65 [.t 11, .t 15, .t 16] []), .none, true, []⟩,
  ⟨some 7, .x (.mv (.t 17)), .none, false, []⟩,
  ⟨some 18, .x (.ext (.t 7) 0), .none, false, []⟩,
  ⟨some 19, .x (.ext (.t 7) 1), .none, false, []⟩,
  ⟨some 5, .x (.alloc [.int .i64 0, .int .i64 0, .int .i64 0]), .none, false, []⟩,
  ⟨.none, .x (.store 3 (.t 5) (.t 18)), .none, true, []⟩,
  ⟨some 6, .x (.asg (.t 19)), .none, false, []⟩] true [0, 3, 5, 6])
 (.seq (.seq (.reg [⟨some 20, .x (.mv (.t 6)), .none, false, []⟩,
  ⟨some 21, .x (.bin .neq (.t 20) (.k (.int .i64 0))), .none, false, []⟩] false [0, 3, 5, 6, 21])
 (.cond (.t 21) (.seq (.reg [⟨some 22, .x (.mv (.t 0)), .none, false, []⟩,
   ⟨some 23, .x (.load true 3 (.t 5)), .none, false, []⟩,
   ⟨some 24, .x (.nilck (.t 22)), .none, false, []⟩,
   ⟨some 25, .x (.fadr 1 (.t 24)), .none, false, []⟩,
   ⟨.none, .x (.store 3 (.t 25) (.t 23)), .none, false, []⟩] false [6])
  (.seq (.reg [⟨some 26, .x (.mv (.t 6)), .none, false, []⟩,
   ⟨some 4, .x (.asg (.t 26)), .none, false, []⟩] false [4])
  (.ret)))
 (.skip) [0, 3, 5]))
 (.seq (.seq (.reg [⟨some 28, .x (.mv (.t 0)), .none, false, []⟩,
  ⟨some 29, .x (.nilck (.t 28)), .none, false, []⟩,
  ⟨some 30, .x (.fadr 0 (.t 29)), .none, false, []⟩,
  ⟨some 31, .x (.load false 1 (.t 30)), .none, false, []⟩,
  ⟨some 32, .x (.mv (.t 0)), .none, false, []⟩,
  ⟨some 33, .x (.nilck (.t 32)), .none, false, []⟩,
  ⟨some 34, .x (.fadr 4 (.t 33)), .none, false, []⟩,
  ⟨some 35, .x (.load true 3 (.t 34)), .none, false, []⟩,
  ⟨some 36, .x (.load true 2 (.t 3)), .none, false, []⟩,
  ⟨some 37, .x (.call 65 [.t 31, .t 35, .t 36] []), .none, true, []⟩,
  ⟨some 27, .x (.mv (.t 37)), .none, false, []⟩,
  ⟨some 38, .x (.ext (.t 27) 0), .none, false, []⟩,
  ⟨some 39, .x (.ext (.t 27) 1), .none, false, []⟩,
  ⟨.none, .x (.store 3 (.t 5) (.t 38)), .none, true, []⟩,
  ⟨some 6, .x (.asg (.t 39)), .none, false, []⟩] true [0, 5, 6])
 (.seq (.reg [⟨some 40, .x (.mv (.t 6)), .none, false, []⟩,
  ⟨some 41, .x (.bin .neq (.t 40) (.k (.int .i64 0))), .none, false, []⟩] false [0, 5, 6, 41])
 (.cond (.t 41) (.seq (.reg [⟨some 42, .x (.mv (.t 0)), .none, false, []⟩,
   ⟨some 43, .x (.load true 3 (.t 5)), .none, false, []⟩,
   ⟨some 44, .x (.nilck (.t 42)), .none, false, []⟩,
   ⟨some 45, .x (.fadr 4 (.t 44)), .none, false, []⟩,
   ⟨.none, .x (.store 3 (.t 45) (.t 43)), .none, false, []⟩] false [0, 6])
  (.reg [⟨some 46, .x (.mv (.t 0)), .none, false, []⟩,
   ⟨some 47, .x (.mv (.t 0)), .none, false, []⟩,
   ⟨some 48, .x (.nilck (.t 47)), .none, false, []⟩,
   ⟨some 49, .x (.fadr 10 (.t 48)), .none, false, []⟩,
   ⟨some 50, .x (.load false 1 (.t 49)), .none, false, []⟩,
   ⟨some 51, .x (.mv (.t 6)), .none, false, []⟩,
   ⟨some 52, .x (.bsl 1 1 [.int .i64 0] [(0, 1, .t 51)]), .none, false, []⟩,
   ⟨some 53, .x (.app 1 8 (.t 50) (.t 52)), .none, false, []⟩,
   ⟨some 54, .x (.nilck (.t 46)), .none, false, []⟩,
   ⟨some 55, .x (.fadr 10 (.t 54)), .none, false, []⟩,
   ⟨.none, .x (.store 1 (.t 55) (.t 53)), .none, false, []⟩] false [6]))
 (.skip) [6])))
 (.seq (.reg [⟨some 56, .x (.mv (.t 6)), .none, false, []⟩,
  ⟨some 4, .x (.asg (.t 56)), .none, false, []⟩] false [4])
 (.ret)))))⟩
def h64 : HF := ⟨1, [.tmp 2, .tmp 3],
 .seq (.reg [⟨some 2, .x (.asg (.k (.nilp))), .none, false, []⟩,
  ⟨some 3, .x (.asg (.k (.nils))), .none, false, []⟩] false [0])
 (.seq (.reg [⟨some 4, .x (.asg (.k (.int .i64 1))), .none, false, []⟩] false [0, 4])
 (.seq (.reg [⟨some 5, .x (.asg (.k (.nils))), .none, false, []⟩] false [0, 4, 5])
 (.seq (.seq (.reg [⟨some 8, .x (.mv (.t 0)), .none, false, []⟩,
  ⟨some 9, .x (.len false (.t 8)), .none, false, []⟩,
  ⟨some 10, .x (.mv (.k (.int .i64 0))), .none, false, []⟩] false [4, 5, 8, 9, 10])
 (.block 0 (.loop (.seq (.reg [⟨some 11, .x (.bin .lss (.t 10) (.t 9)), .none, false, []⟩] false [4, 5, 8, 9, 10, 11])
   (.seq (.cond (.t 11) (.skip)
   (.exit 0 [4, 5]) [4, 5, 8, 9, 10])
   (.seq (.block 1 (.seq (.reg [⟨some 12, .x (.iadr 1 .none (.t 8) (.t 10)), .none, false, []⟩,
     ⟨some 13, .x (.load false 1 (.t 12)), .none, false, []⟩,
     ⟨some 7, .x (.asg (.t 13)), .none, false, []⟩] false [4, 5, 7, 8, 9, 10])
    (.seq (.reg [⟨some 14, .x (.mv (.t 5)), .none, false, []⟩,
     ⟨some 15, .x (.mv (.t 4)), .none, false, []⟩,
     ⟨some 16, .x (.mv (.t 4)), .none, false, []⟩,
     ⟨some 17, .x (.mv (.t 7)), .none, false, []⟩,
     ⟨some 18, .x (.bin .add (.t 16) (.t 17)), .none, false, []⟩,
     ⟨some 19, .x (.mv (.t 4)), .none, false, []⟩,
     ⟨some 20, .x (.build [.int .i64 0, .int .i64 0, .int .i64 0] [(0, 1, .t 15), (1, 1, .t 18), (2, 1, .t 19)]), .none, false, []⟩,
     ⟨some 21, .x (.bsl 3 1 [.int .i64 0, .int .i64 0, .int .i64 0] [(0, 3, .t 20)]), .none, false, []⟩,
     ⟨some 22, .x (.app 3 24 (.t 14) (.t 21)), .none, false, []⟩,
     ⟨some 5, .x (.asg (.t 22)), .none, false, []⟩] false [4, 5, 7, 8, 9, 10])
    (.reg [⟨some 23, .x (.mv (.t 4)), .none, false, []⟩,
     ⟨some 24, .x (.mv (.t 7)), .none, false, []⟩,
     ⟨some 25, .x (.bin .add (.t 23) (.t 24)), .none, false, []⟩,
     ⟨some 4, .x (.asg (.t 25)), .none, false, []⟩] false [4, 5, 8, 9, 10]))) [4, 5, 8, 9, 10])
   (.reg [⟨some 26, .x (.bin .add (.t 10) (.k (.int .i64 1))), .none, false, []⟩,
    ⟨some 10, .x (.mv (.t 26)), .none, false, []⟩] false [4, 5, 8, 9, 10])))) [4, 5, 8, 9, 10]) [4, 5]))
 (.seq (.reg [⟨some 27, .x (.mv (.t 4)), .none, false, []⟩,
  ⟨some 28, .x (.mksl 1 8 [.int .i64 0] (.t 27) (.t 27)), .none, false, []⟩,
  ⟨some 29, .x (.build [.nils] [(0, 1, .t 28)]), .none, false, []⟩,
  ⟨some 30, .x (.box (.t 29)), .none, false, []⟩,
  ⟨some 31, .x (.mv (.t 5)), .none, false, []⟩,
  ⟨some 2, .x (.asg (.t 30)), .none, false, []⟩,
  ⟨some 3, .x (.asg (.t 31)), .none, false, []⟩] false [2, 3])
 (.ret)))))⟩
def h65 : HF := ⟨3, [.cell 6 true 3, .tmp 7],
 .seq (.reg [⟨some 4, .x (.box (.t 1)), .none, false, []⟩,
  ⟨some 5, .x (.box (.t 2)), .none, false, []⟩,
  ⟨some 6, .x (.alloc [.int .i64 0, .int .i64 0, .int .i64 0]), .none, false, []⟩,
  ⟨some 7, .x (.asg (.k (.int .i64 0))), .none, false, []⟩] false [0, 4, 5, 6])
 (.seq (.seq (.reg [⟨some 10, .x (.fadr 1 (.t 4)), .none, false, []⟩,
  ⟨some 11, .x (.load false 1 (.t 10)), .none, false, []⟩,
  ⟨some 12, .x (.fadr 2 (.t 4)), .none, false, []⟩,
  ⟨some 13, .x (.load false 1 (.t 12)), .none, false, []⟩,
  ⟨some 14, .x (.bin .sub (.t 11) (.t 13)), .none, false, []⟩,
  ⟨some 15, .x (.fadr 0 (.t 5)), .none, false, []⟩,
  ⟨some 16, .x (.load false 1 (.t 15)), .none, false, []⟩,
  ⟨some 17, .x (.bin .add (.k (.int .i64 1)) (.t 16)), .none, false, []⟩,
  ⟨some 18, .x (.bin .lss (.t 14) (.t 17)), .none, false, []⟩] false [0, 4, 5, 6, 18])
 (.cond (.t 18) (.seq (.reg [⟨some 19, .x (.load true 3 (.t 4)), .none, false, []⟩,
   ⟨.none, .x (.store 3 (.t 6) (.t 19)), .none, false, []⟩,
   ⟨some 7, .x (.asg (.k (.int .i64 0))), .none, false, []⟩] false [6, 7])
  (.ret))
 (.skip) [0, 4, 5, 6]))
 (.seq (.reg [⟨some 20, .x (.fadr 2 (.t 4)), .none, false, []⟩,
  ⟨some 21, .x (.load false 1 (.t 20)), .none, false, []⟩,
  ⟨some 8, .x (.asg (.t 21)), .none, false, []⟩] false [0, 4, 5, 6, 8])
 (.seq (.reg [⟨some 22, .x (.mv (.t 0)), .none, false, []⟩,
  ⟨some 23, .x (.nilck (.t 22)), .none, false, []⟩,
  ⟨some 24, .x (.fadr 0 (.t 23)), .none, false, []⟩,
  ⟨some 25, .x (.load false 1 (.t 24)), .none, false, [6]⟩,
  ⟨some 26, .x (.mv (.t 8)), .none, false, []⟩,
  ⟨some 27, .x (.load true 2 (.t 5)), .none, false, []⟩,
  ⟨some 28, .x (.call 113 [.t 27] []), .none, true, []⟩,
  ⟨some 29, .x (.iadr 1 .none (.t 25) (.t 26)), .none, false, []⟩,
  ⟨.none, .x (.store 1 (.t 29) (.t 28)), .none, true, []⟩] true [0, 4, 5, 6, 8])
 (.seq (.seq (.reg [⟨some 30, .x (.fadr 0 (.t 5)), .none, false, []⟩,
  ⟨some 31, .x (.load false 1 (.t 30)), .none, false, []⟩,
  ⟨some 32, .x (.mv (.k (.int .i64 0))), .none, false, []⟩] false [0, 4, 5, 6, 8, 31, 32])
 (.block 0 (.loop (.seq (.reg [⟨some 33, .x (.bin .lss (.t 32) (.t 31)), .none, false, []⟩] false [0, 4, 5, 6, 8, 31, 32, 33])
   (.seq (.cond (.t 33) (.skip)
   (.exit 0 [4, 5, 6, 8]) [0, 4, 5, 6, 8, 31, 32])
   (.seq (.block 1 (.seq (.reg [⟨some 34, .x (.mv (.t 32)), .none, false, []⟩,
     ⟨some 9, .x (.asg (.t 34)), .none, false, []⟩] false [0, 4, 5, 6, 8, 9, 31, 32])
    (.reg [⟨some 35, .x (.mv (.t 0)), .none, false, []⟩,
     ⟨some 36, .x (.nilck (.t 35)), .none, false, []⟩,
     ⟨some 37, .x (.fadr 0 (.t 36)), .none, false, []⟩,
     ⟨some 38, .x (.load false 1 (.t 37)), .none, false, []⟩,
     ⟨some 39, .x (.mv (.t 8)), .none, false, []⟩,
     ⟨some 40, .x (.bin .add (.t 39) (.k (.int .i64 1))), .none, false, []⟩,
     ⟨some 41, .x (.mv (.t 9)), .none, false, []⟩,
     ⟨some 42, .x (.bin .add (.t 40) (.t 41)), .none, false, []⟩,
     ⟨some 43, .x (.iadr 1 .none (.t 38) (.t 42)), .none, false, []⟩,
     ⟨.none, .x (.store 1 (.t 43) (.k (.int .i64 0))), .none, false, []⟩] false [0, 4, 5, 6, 8, 31, 32])) [0, 4, 5, 6, 8, 31, 32])
   (.reg [⟨some 44, .x (.bin .add (.t 32) (.k (.int .i64 1))), .none, false, []⟩,
    ⟨some 32, .x (.mv (.t 44)), .none, false, []⟩] false [0, 4, 5, 6, 8, 31, 32])))) [0, 4, 5, 6, 8, 31, 32]) [4, 5, 6, 8]))
 (.seq (.reg [⟨some 45, .x (.fadr 2 (.t 4)), .none, false, []⟩,
  ⟨some 46, .x (.load false 1 (.t 45)), .none, false, []⟩,
  ⟨some 47, .x (.fadr 0 (.t 5)), .none, false, []⟩,
  ⟨some 48, .x (.load false 1 (.t 47)), .none, false, []⟩,
  ⟨some 49, .x (.bin .add (.k (.int .i64 1)) (.t 48)), .none, false, []⟩,
  ⟨some 50, .x (.bin .add (.t 46) (.t 49)), .none, false, []⟩,
  ⟨some 51, .x (.fadr 2 (.t 4)), .none, false, []⟩,
  ⟨.none, .x (.store 1 (.t 51) (.t 50)), .none, false, []⟩] false [4, 6, 8])
 (.seq (.reg [⟨some 52, .x (.load true 3 (.t 4)), .none, false, []⟩,
  ⟨some 53, .x (.mv (.t 8)), .none, false, []⟩,
  ⟨.none, .x (.store 3 (.t 6) (.t 52)), .none, false, []⟩,
  ⟨some 7, .x (.asg (.t 53)), .none, false, []⟩] false [6, 7])
 (.ret)))))))⟩
def h66 : HF := ⟨4, [],
 .reg [⟨some 8, .x (.mv (.t 0)), .none, false, []⟩,
  ⟨some 9, .x (.nilck (.t 8)), .none, false, []⟩,
  ⟨some 10, .x (.fadr 0 (.t 9)), .none, false, []⟩,
  ⟨some 11, .x (.load false 1 (.t 10)), .none, false, []⟩,
  ⟨some 12, .x (.mv (.t 1)), .none, false, []⟩,
  ⟨some 13, .x (.bin .add (.t 12) (.k (.int .i64 1))), .none, false, []⟩,
  ⟨some 14, .x (.mv (.t 2)), .none, false, []⟩,
  ⟨some 15, .x (.bin .add (.t 13) (.t 14)), .none, false, []⟩,
  ⟨some 16, .x (.mv (.t 3)), .none, false, []⟩,
  ⟨some 17, .x (.iadr 1 .none (.t 11) (.t 15)), .none, false, []⟩,
  ⟨.none, .x (.store 1 (.t 17) (.t 16)), .none, false, []⟩] false []⟩
def h67 : HF := ⟨2, [.tmp 4],
 .seq (.reg [⟨some 2, .x (.box (.t 0)), .none, false, []⟩,
  ⟨some 4, .x (.asg (.k (.bool false))), .none, false, []⟩] false [1, 2])
 (.seq (.reg [⟨some 5, .x (.mv (.t 1)), .none, false, []⟩,
  ⟨some 6, .x (.fadr 0 (.t 2)), .none, false, []⟩,
  ⟨some 7, .x (.load false 1 (.t 6)), .none, false, []⟩,
  ⟨some 8, .x (.bin .geq (.t 5) (.t 7)), .none, false, []⟩,
  ⟨some 9, .x (.mv (.t 8)), .none, false, []⟩,
  ⟨some 10, .x (.mv (.t 1)), some (9, true), false, []⟩,
  ⟨some 11, .x (.fadr 2 (.t 2)), some (9, true), false, []⟩,
  ⟨some 12, .x (.load false 1 (.t 11)), some (9, true), false, []⟩,
  ⟨some 13, .x (.bin .lss (.t 10) (.t 12)), some (9, true), false, []⟩,
  ⟨some 14, .x (.pick (.t 9) (.t 13) (.k (.bool false))), .none, false, []⟩,
  ⟨some 4, .x (.asg (.t 14)), .none, false, []⟩] false [4])
 (.ret))⟩
def h70 : HF := ⟨2, [.tmp 4],
 .seq (.reg [⟨some 3, .x (.box (.t 1)), .none, false, []⟩,
  ⟨some 4, .x (.asg (.k (.int .i64 0))), .none, false, []⟩] false [0, 3])
 (.seq (.seq (.reg [⟨some 9, .x (.mv (.t 0)), .none, false, []⟩,
  ⟨some 10, .x (.nilck (.t 9)), .none, false, []⟩,
  ⟨some 11, .x (.fadr 1 (.t 10)), .none, false, []⟩,
  ⟨some 12, .x (.load false 1 (.t 11)), .none, false, []⟩,
  ⟨some 13, .x (.mkfn 115 [.t 3]), .none, false, []⟩,
  ⟨some 14, .x (.call 78 [.t 12, .t 13] []), .none, false, []⟩,
  ⟨some 15, .x (.un .not (.t 14)), .none, false, []⟩] false [0, 3, 15])
 (.cond (.t 15) (.seq (.reg [⟨some 16, .x (.load false 1 (.t 3)), .none, false, []⟩,
   ⟨some 4, .x (.asg (.t 16)), .none, false, []⟩] false [4])
  (.ret))
 (.skip) [0, 3]))
 (.seq (.seq (.reg [⟨some 17, .x (.mv (.t 0)), .none, false, []⟩,
  ⟨some 18, .x (.nilck (.t 17)), .none, false, []⟩,
  ⟨some 19, .x (.fadr 0 (.t 18)), .none, false, []⟩,
  ⟨some 20, .x (.load false 1 (.t 19)), .none, false, []⟩,
  ⟨some 21, .x (.nilck (.t 20)), .none, false, []⟩,
  ⟨some 22, .x (.fadr 0 (.t 21)), .none, false, []⟩,
  ⟨some 23, .x (.load false 1 (.t 22)), .none, false, []⟩,
  ⟨some 24, .x (.load false 1 (.t 3)), .none, false, []⟩,
  ⟨some 25, .x (.iadr 1 .none (.t 23) (.t 24)), .none, false, []⟩,
  ⟨some 26, .x (.load false 1 (.t 25)), .none, false, []⟩,
  ⟨some 5, .x (.asg (.t 26)), .none, false, []⟩] true [0, 3, 5])
 (.seq (.reg [⟨some 27, .x (.mv (.t 5)), .none, false, []⟩,
  ⟨some 28, .x (.bin .lss (.t 27) (.k (.int .i64 0))), .none, false, []⟩] false [0, 3, 5, 28])
 (.cond (.t 28) (.seq (.reg [⟨some 29, .x (.mv (.t 5)), .none, false, []⟩,
   ⟨some 30, .x (.un .neg (.t 29)), .none, false, []⟩,
   ⟨some 4, .x (.asg (.t 30)), .none, false, []⟩] false [4])
  (.ret))
 (.skip) [0, 3])))
 (.seq (.reg [⟨some 32, .x (.mv (.t 0)), .none, false, []⟩,
  ⟨some 33, .x (.nilck (.t 32)), .none, false, []⟩,
  ⟨some 34, .x (.fadr 0 (.t 33)), .none, false, []⟩,
  ⟨some 35, .x (.load false 1 (.t 34)), .none, false, []⟩,
  ⟨some 36, .x (.load false 1 (.t 3)), .none, false, []⟩,
  ⟨some 37, .x (.call 22 [.t 35, .t 36] []), .none, true, []⟩,
  ⟨some 31, .x (.mv (.t 37)), .none, false, []⟩,
  ⟨some 38, .x (.ext (.t 31) 0), .none, false, []⟩,
  ⟨some 39, .x (.ext (.t 31) 1), .none, false, []⟩,
  ⟨some 6, .x (.alloc [.int .i64 0, .int .i64 0]), .none, false, []⟩,
  ⟨.none, .x (.store 2 (.t 6) (.t 38)), .none, true, []⟩,
  ⟨some 7, .x (.asg (.t 39)), .none, false, []⟩] true [0, 3, 6])
 (.seq (.reg [⟨some 40, .x (.mv (.t 0)), .none, false, []⟩,
  ⟨some 41, .x (.nilck (.t 40)), .none, false, []⟩,
  ⟨some 42, .x (.fadr 2 (.t 41)), .none, false, []⟩,
  ⟨some 43, .x (.fadr 2 (.t 42)), .none, false, []⟩,
  ⟨some 44, .x (.load false 1 (.t 43)), .none, false, []⟩,
  ⟨some 8, .x (.asg (.t 44)), .none, false, []⟩] false [0, 3, 6, 8])
 (.seq (.reg [⟨some 45, .x (.mv (.t 0)), .none, false, []⟩,
  ⟨some 46, .x (.nilck (.t 45)), .none, false, []⟩,
  ⟨some 47, .x (.fadr 0 (.t 46)), .none, false, []⟩,
  ⟨some 48, .x (.load false 1 (.t 47)), .none, false, []⟩,
  ⟨some 49, .x (.nilck (.t 48)), .none, false, []⟩,
  ⟨some 50, .x (.fadr 0 (.t 49)), .none, false, []⟩,
  ⟨some 51, .x (.load false 1 (.t 50)), .none, false, []⟩,
  ⟨some 52, .x (.mv (.t 8)), .none, false, []⟩,
  ⟨some 53, .x (.slc 1 (.t 51) (some (.t 52)) .none), .none, false, []⟩,
  ⟨some 54, .x (.mv (.t 0)), .none, false, []⟩,
  ⟨some 55, .x (.nilck (.t 54)), .none, false, []⟩,
  ⟨some 56, .x (.fadr 0 (.t 55)), .none, false, []⟩,
  ⟨some 57, .x (.load false 1 (.t 56)), .none, false, []⟩,
  ⟨some 58, .x (.nilck (.t 57)), .none, false, []⟩,
  ⟨some 59, .x (.fadr 0 (.t 58)), .none, false, []⟩,
  ⟨some 60, .x (.load false 1 (.t 59)), .none, false, []⟩,
  ⟨some 61, .x (.load false 1 (.t 3)), .none, false, []⟩,
  ⟨some 62, .x (.load false 1 (.t 3)), .none, false, []⟩,
  ⟨some 63, .x (.bin .add (.t 62) (.k (.int .i64 1))), .none, false, []⟩,
  ⟨some 64, .x (.fadr 0 (.t 6)), .none, false, []⟩,
  ⟨some 65, .x (.load false 1 (.t 64)), .none, false, []⟩,
  ⟨some 66, .x (.bin .add (.t 63) (.t 65)), .none, false, []⟩,
  ⟨some 67, .x (.slc 1 (.t 60) (some (.t 61)) (some (.t 66))), .none, false, []⟩,
  ⟨some 68, .copy 1 (.t 53) (.t 67), .none, true, []⟩] true [0, 3, 6, 8])
 (.seq (.reg [⟨some 69, .x (.mv (.t 0)), .none, false, []⟩,
  ⟨some 70, .x (.nilck (.t 69)), .none, false, []⟩,
  ⟨some 71, .x (.fadr 2 (.t 70)), .none, false, []⟩,
  ⟨some 72, .x (.fadr 2 (.t 71)), .none, false, []⟩,
  ⟨some 73, .x (.load false 1 (.t 72)), .none, false, []⟩,
  ⟨some 74, .x (.fadr 0 (.t 6)), .none, false, []⟩,
  ⟨some 75, .x (.load false 1 (.t 74)), .none, false, []⟩,
  ⟨some 76, .x (.bin .add (.k (.int .i64 1)) (.t 75)), .none, false, []⟩,
  ⟨some 77, .x (.bin .add (.t 73) (.t 76)), .none, false, []⟩,
  ⟨some 78, .x (.nilck (.t 69)), .none, false, []⟩,
  ⟨some 79, .x (.fadr 2 (.t 78)), .none, false, []⟩,
  ⟨some 80, .x (.fadr 2 (.t 79)), .none, false, []⟩,
  ⟨.none, .x (.store 1 (.t 80) (.t 77)), .none, true, []⟩] true [0, 3, 8])
 (.seq (.reg [⟨some 81, .x (.mv (.t 0)), .none, false, []⟩,
  ⟨some 82, .x (.nilck (.t 81)), .none, false, []⟩,
  ⟨some 83, .x (.fadr 0 (.t 82)), .none, false, []⟩,
  ⟨some 84, .x (.load false 1 (.t 83)), .none, false, []⟩,
  ⟨some 85, .x (.nilck (.t 84)), .none, false, []⟩,
  ⟨some 86, .x (.fadr 0 (.t 85)), .none, false, []⟩,
  ⟨some 87, .x (.load false 1 (.t 86)), .none, false, []⟩,
  ⟨some 88, .x (.load false 1 (.t 3)), .none, false, []⟩,
  ⟨some 89, .x (.mv (.t 8)), .none, false, []⟩,
  ⟨some 90, .x (.un .neg (.t 89)), .none, false, []⟩,
  ⟨some 91, .x (.iadr 1 .none (.t 87) (.t 88)), .none, false, []⟩,
  ⟨.none, .x (.store 1 (.t 91) (.t 90)), .none, true, []⟩] true [8])
 (.seq (.reg [⟨some 92, .x (.mv (.t 8)), .none, false, []⟩,
  ⟨some 4, .x (.asg (.t 92)), .none, false, []⟩] false [4])
 (.ret)))))))))⟩
def h71 : HF := ⟨3, [],
 .seq (.reg [⟨some 10, .x (.mv (.t 0)), .none, false, []⟩,
  ⟨some 11, .x (.mv (.t 1)), .none, false, []⟩,
  ⟨some 12, .x (.call 22 [.t 10, .t 11] []), .none, false, []⟩,
  ⟨some 9, .x (.mv (.t 12)), .none, false, []⟩,
  ⟨some 13, .x (.ext (.t 9) 0), .none, false, []⟩,
  ⟨some 14, .x (.ext (.t 9) 1), .none, false, []⟩,
  ⟨some 6, .x (.alloc [.int .i64 0, .int .i64 0]), .none, false, []⟩,
  ⟨.none, .x (.store 2 (.t 6) (.t 13)), .none, false, []⟩,
  ⟨some 7, .x (.asg (.t 14)), .none, false, []⟩] false [0, 1, 2, 6])
 (.seq (.reg [⟨some 15, .x (.fadr 0 (.t 6)), .none, false, []⟩,
  ⟨some 16, .x (.load false 1 (.t 15)), .none, false, []⟩,
  ⟨some 17, .x (.mv (.k (.int .i64 0))), .none, false, []⟩] false [0, 1, 2, 6, 16, 17])
 (.block 0 (.loop (.seq (.reg [⟨some 18, .x (.bin .lss (.t 17) (.t 16)), .none, false, []⟩] false [0, 1, 2, 6, 16, 17, 18])
   (.seq (.cond (.t 18) (.skip)
   (.exit 0 []) [0, 1, 2, 6, 16, 17])
   (.seq (.block 1 (.seq (.reg [⟨some 19, .x (.mv (.t 17)), .none, false, []⟩,
     ⟨some 8, .x (.asg (.t 19)), .none, false, []⟩] false [0, 1, 2, 6, 8, 16, 17])
    (.seq (.reg [⟨some 20, .x (.load true 2 (.t 6)), .none, false, []⟩,
     ⟨some 21, .x (.mv (.t 8)), .none, false, []⟩,
     ⟨some 22, .x (.call 98 [.t 20, .t 21] []), .none, false, []⟩] false [0, 1, 2, 6, 8, 16, 17, 22])
    (.cond (.t 22) (.reg [⟨some 23, .x (.mv (.t 2)), .none, false, []⟩,
      ⟨some 24, .x (.mv (.t 0)), .none, false, []⟩,
      ⟨some 25, .x (.nilck (.t 24)), .none, false, []⟩,
      ⟨some 26, .x (.fadr 0 (.t 25)), .none, false, []⟩,
      ⟨some 27, .x (.load false 1 (.t 26)), .none, false, []⟩,
      ⟨some 28, .x (.mv (.t 1)), .none, false, []⟩,
      ⟨some 29, .x (.bin .add (.t 28) (.k (.int .i64 1))), .none, false, []⟩,
      ⟨some 30, .x (.mv (.t 8)), .none, false, []⟩,
      ⟨some 31, .x (.bin .add (.t 29) (.t 30)), .none, false, []⟩,
      ⟨some 32, .x (.iadr 1 .none (.t 27) (.t 31)), .none, false, []⟩,
      ⟨some 33, .x (.callv (.t 23) [.t 32]), .none, false, []⟩] false [0, 1, 2, 6, 16, 17])
    (.skip) [0, 1, 2, 6, 16, 17]))) [0, 1, 2, 6, 16, 17])
   (.reg [⟨some 34, .x (.bin .add (.t 17) (.k (.int .i64 1))), .none, false, []⟩,
    ⟨some 17, .x (.mv (.t 34)), .none, false, []⟩] false [0, 1, 2, 6, 16, 17])))) [0, 1, 2, 6, 16, 17]) []))⟩
def h72 : HF := ⟨2, [],
 .reg [⟨some 3, .x (.mv (.t 0)), .none, false, []⟩,
  ⟨some 4, .x (.load false 1 (.t 1)), .none, false, []⟩,
  ⟨some 5, .x (.mv (.t 0)), .none, false, []⟩,
  ⟨some 6, .x (.nilck (.t 5)), .none, false, []⟩,
  ⟨some 7, .x (.load false 1 (.t 6)), .none, false, []⟩,
  ⟨some 8, .x (.call 70 [.t 4, .t 7] []), .none, true, []⟩,
  ⟨some 9, .x (.nilck (.t 3)), .none, false, []⟩,
  ⟨.none, .x (.store 1 (.t 9) (.t 8)), .none, true, []⟩] true []⟩
def h73 : HF := ⟨2, [],
 .reg [⟨some 3, .x (.mv (.t 0)), .none, false, []⟩,
  ⟨some 4, .x (.load false 1 (.t 1)), .none, false, []⟩,
  ⟨some 5, .x (.mv (.t 0)), .none, false, []⟩,
  ⟨some 6, .x (.nilck (.t 5)), .none, false, []⟩,
  ⟨some 7, .x (.load false 1 (.t 6)), .none, false, []⟩,
  ⟨some 8, .x (.call 70 [.t 4, .t 7] []), .none, true, []⟩,
  ⟨some 9, .x (.nilck (.t 3)), .none, false, []⟩,
  ⟨.none, .x (.store 1 (.t 9) (.t 8)), .none, true, []⟩] true []⟩
def h74 : HF := ⟨1, [.cell 2 true 2, .tmp 3],
 .seq (.reg [⟨some 2, .x (.alloc [.int .i64 0, .int .i64 0]), .none, false, []⟩,
  ⟨some 3, .x (.asg (.k (.int .i64 0))), .none, false, []⟩] false [0, 2])
 (.seq (.seq (.reg [⟨some 6, .x (.mv (.t 0)), .none, false, []⟩,
  ⟨some 7, .x (.bin .lss (.t 6) (.k (.int .i64 0))), .none, false, []⟩,
  ⟨some 8, .x (.mv (.t 7)), .none, false, []⟩,
  ⟨some 9, .x (.mv (.t 0)), some (8, false), false, []⟩,
  ⟨some 10, .x (.bin .geq (.t 9) (.k (.int .i64 2097152))), some (8, false), false, []⟩,
  ⟨some 11, .x (.pick (.t 8) (.k (.bool true)) (.t 10)), .none, false, []⟩] false [0, 2, 11])
 (.cond (.t 11) (.seq (.reg [⟨some 12, .x (.build [.int .i64 0, .int .i64 0] []), .none, false, []⟩,
   ⟨.none, .x (.store 2 (.t 2) (.t 12)), .none, false, []⟩,
   ⟨some 3, .x (.asg (.k (.int .i64 16))), .none, false, []⟩] false [2, 3])
  (.ret))
 (.skip) [0, 2]))
 (.seq (.reg [⟨some 13, .x (.mv (.t 0)), .none, false, []⟩,
  ⟨some 14, .x (.bin .and (.t 13) (.k (.int .i64 31))), .none, false, []⟩,
  ⟨some 15, .x (.mv (.t 0)), .none, false, []⟩,
  ⟨some 16, .x (.bin .shr (.t 15) (.k (.int .u64 5))), .none, false, []⟩,
  ⟨some 17, .x (.build [.int .i64 0, .int .i64 0] [(0, 1, .t 14), (1, 1, .t 16)]), .none, false, []⟩,
  ⟨some 4, .x (.alloc [.int .i64 0, .int .i64 0]), .none, false, []⟩,
  ⟨.none, .x (.store 2 (.t 4) (.t 17)), .none, false, []⟩] false [2, 4])
 (.seq (.seq (.reg [⟨some 18, .x (.load true 2 (.t 4)), .none, false, []⟩,
  ⟨some 19, .x (.call 97 [.t 18] []), .none, false, []⟩,
  ⟨some 5, .x (.asg (.t 19)), .none, false, []⟩] false [2, 4, 5])
 (.seq (.reg [⟨some 20, .x (.mv (.t 5)), .none, false, []⟩,
  ⟨some 21, .x (.bin .neq (.t 20) (.k (.int .i64 0))), .none, false, []⟩] false [2, 4, 5, 21])
 (.cond (.t 21) (.seq (.reg [⟨some 22, .x (.build [.int .i64 0, .int .i64 0] []), .none, false, []⟩,
   ⟨some 23, .x (.mv (.t 5)), .none, false, []⟩,
   ⟨.none, .x (.store 2 (.t 2) (.t 22)), .none, false, []⟩,
   ⟨some 3, .x (.asg (.t 23)), .none, false, []⟩] false [2, 3])
  (.ret))
 (.skip) [2, 4])))
 (.seq (.reg [⟨some 24, .x (.load true 2 (.t 4)), .none, false, []⟩,
  ⟨.none, .x (.store 2 (.t 2) (.t 24)), .none, false, []⟩,
  ⟨some 3, .x (.asg (.k (.int .i64 0))), .none, false, []⟩] false [2, 3])
 (.ret)))))⟩
def h76 : HF := ⟨2, [.tmp 4],
 .seq (.reg [⟨some 3, .x (.box (.t 1)), .none, false, []⟩,
  ⟨some 4, .x (.asg (.k (.nils))), .none, false, []⟩] false [0, 3])
 (.seq (.reg [⟨some 5, .x (.asg (.k (.nils))), .none, false, []⟩] false [0, 3, 5])
 (.seq (.seq (.reg [⟨some 9, .x (.fadr 0 (.t 3)), .none, false, []⟩,
  ⟨some 10, .x (.load false 1 (.t 9)), .none, false, []⟩,
  ⟨some 6, .x (.asg (.t 10)), .none, false, []⟩] false [0, 3, 5, 6])
 (.block 0 (.loop (.seq (.seq (.reg [⟨some 11, .x (.mv (.t 6)), .none, false, []⟩,
    ⟨some 12, .x (.fadr 2 (.t 3)), .none, false, []⟩,
    ⟨some 13, .x (.load false 1 (.t 12)), .none, false, []⟩,
    ⟨some 14, .x (.bin .lss (.t 11) (.t 13)), .none, false, []⟩] false [0, 3, 5, 6, 14])
   (.cond (.t 14) (.skip)
   (.exit 0 [5]) [0, 3, 5, 6]))
   (.block 1 (.seq (.reg [⟨some 16, .x (.mv (.t 0)), .none, false, []⟩,
     ⟨some 17, .x (.mv (.t 6)), .none, false, []⟩,
     ⟨some 18, .x (.call 22 [.t 16, .t 17] []), .none, false, []⟩,
     ⟨some 15, .x (.mv (.t 18)), .none, false, []⟩,
     ⟨some 19, .x (.ext (.t 15) 0), .none, false, []⟩,
     ⟨some 20, .x (.ext (.t 15) 1), .none, false, []⟩,
     ⟨some 7, .x (.alloc [.int .i64 0, .int .i64 0]), .none, false, []⟩,
     ⟨.none, .x (.store 2 (.t 7) (.t 19)), .none, false, []⟩,
     ⟨some 8, .x (.asg (.t 20)), .none, false, []⟩] false [0, 3, 5, 6, 7, 8])
    (.seq (.seq (.reg [⟨some 21, .x (.mv (.t 8)), .none, false, []⟩,
     ⟨some 22, .x (.bin .neq (.t 21) (.k (.int .i64 0))), .none, false, []⟩] false [0, 3, 5, 6, 7, 22])
    (.cond (.t 22) (.seq (.reg [⟨some 23, .x (.mv (.t 5)), .none, false, []⟩,
      ⟨some 4, .x (.asg (.t 23)), .none, false, []⟩] false [4])
     (.ret))
    (.skip) [0, 3, 5, 6, 7]))
    (.seq (.reg [⟨some 24, .x (.mv (.t 5)), .none, false, []⟩,
     ⟨some 25, .x (.mv (.t 6)), .none, false, []⟩,
     ⟨some 26, .x (.bsl 1 1 [.int .i64 0] [(0, 1, .t 25)]), .none, false, []⟩,
     ⟨some 27, .x (.app 1 8 (.t 24) (.t 26)), .none, false, []⟩,
     ⟨some 5, .x (.asg (.t 27)), .none, false, []⟩] false [0, 3, 5, 6, 7])
    (.reg [⟨some 28, .x (.mv (.t 6)), .none, false, []⟩,
     ⟨some 29, .x (.fadr 0 (.t 7)), .none, false, []⟩,
     ⟨some 30, .x (.load false 1 (.t 29)), .none, false, []⟩,
     ⟨some 31, .x (.bin .add (.k (.int .i64 1)) (.t 30)), .none, false, []⟩,
     ⟨some 32, .x (.bin .add (.t 28) (.t 31)), .none, false, []⟩,
     ⟨some 6, .x (.asg (.t 32)), .none, false, []⟩] false [0, 3, 5, 6])))) [0, 3, 5, 6])) [0, 3, 5, 6]) [5]))
 (.seq (.reg [⟨some 33, .x (.mv (.t 5)), .none, false, []⟩,
  ⟨some 4, .x (.asg (.t 33)), .none, false, []⟩] false [4])
 (.ret))))⟩
def h77 : HF := ⟨6, [],
 .seq (.reg [⟨some 6, .x (.box (.t 0)), .none, false, []⟩] false [1, 2, 3, 4, 5, 6])
 (.seq (.seq (.reg [⟨some 9, .x (.load false 1 (.t 1)), .none, false, []⟩,
  ⟨some 10, .x (.mkfn 79 [.t 6]), .none, false, []⟩,
  ⟨some 11, .x (.call 78 [.t 9, .t 10] []), .none, false, []⟩,
  ⟨some 12, .x (.un .not (.t 11)), .none, false, []⟩,
  ⟨some 13, .x (.mv (.t 12)), .none, false, []⟩,
  ⟨some 14, .x (.load false 1 (.t 2)), some (13, false), false, []⟩,
  ⟨some 15, .x (.load false 1 (.t 6)), some (13, false), false, []⟩,
  ⟨some 16, .x (.iadr 1 .none (.t 14) (.t 15)), some (13, false), false, []⟩,
  ⟨some 17, .x (.load false 1 (.t 16)), some (13, false), false, []⟩,
  ⟨some 18, .x (.bin .gtr (.t 17) (.k (.int .i64 0))), some (13, false), false, []⟩,
  ⟨some 19, .x (.pick (.t 13) (.k (.bool true)) (.t 18)), .none, false, []⟩] false [2, 3, 4, 5, 6, 19])
 (.cond (.t 19) (.ret)
 (.skip) [2, 3, 4, 5, 6]))
 (.seq (.reg [⟨some 20, .x (.load false 1 (.t 2)), .none, false, []⟩,
  ⟨some 21, .x (.load false 1 (.t 6)), .none, false, []⟩,
  ⟨some 22, .x (.iadr 1 .none (.t 20) (.t 21)), .none, false, []⟩,
  ⟨.none, .x (.store 1 (.t 22) (.k (.int .i64 1))), .none, false, []⟩] false [3, 4, 5, 6])
 (.seq (.reg [⟨some 23, .x (.load false 1 (.t 3)), .none, false, []⟩,
  ⟨some 24, .x (.load false 1 (.t 6)), .none, false, []⟩,
  ⟨some 25, .x (.bsl 1 1 [.int .i64 0] [(0, 1, .t 24)]), .none, false, []⟩,
  ⟨some 26, .x (.app 1 8 (.t 23) (.t 25)), .none, false, []⟩,
  ⟨.none, .x (.store 1 (.t 3) (.t 26)), .none, false, []⟩] false [4, 5, 6])
 (.seq (.reg [⟨some 28, .x (.load false 1 (.t 4)), .none, false, []⟩,
  ⟨some 29, .x (.load false 1 (.t 6)), .none, false, []⟩,
  ⟨some 30, .x (.call 22 [.t 28, .t 29] []), .none, false, []⟩,
  ⟨some 27, .x (.mv (.t 30)), .none, false, []⟩,
  ⟨some 31, .x (.ext (.t 27) 0), .none, false, []⟩,
  ⟨some 32, .x (.ext (.t 27) 1), .none, false, []⟩,
  ⟨some 7, .x (.alloc [.int .i64 0, .int .i64 0]), .none, false, []⟩,
  ⟨.none, .x (.store 2 (.t 7) (.t 31)), .none, false, []⟩,
  ⟨some 8, .x (.asg (.t 32)), .none, false, []⟩] false [5, 7])
 (.reg [⟨some 33, .x (.load false 1 (.t 5)), .none, false, []⟩,
  ⟨some 34, .x (.fadr 0 (.t 7)), .none, false, []⟩,
  ⟨some 35, .x (.load false 1 (.t 34)), .none, false, []⟩,
  ⟨some 36, .x (.bin .add (.k (.int .i64 1)) (.t 35)), .none, false, []⟩,
  ⟨some 37, .x (.bin .add (.t 33) (.t 36)), .none, false, []⟩,
  ⟨.none, .x (.store 1 (.t 5) (.t 37)), .none, false, []⟩] false [])))))⟩
def h78 : HF := ⟨2, [.tmp 4],
 .seq (.reg [⟨some 4, .x (.asg (.k (.bool false))), .none, false, []⟩] false [0, 1])
 (.seq (.reg [⟨some 5, .x (.mv (.t 0)), .none, false, []⟩,
  ⟨some 6, .x (.mv (.t 1)), .none, false, []⟩,
  ⟨some 7, .x (.call 116 [.t 5, .t 6] []), .none, false, []⟩,
  ⟨some 8, .x (.bin .geq (.t 7) (.k (.int .i64 0))), .none, false, []⟩,
  ⟨some 4, .x (.asg (.t 8)), .none, false, []⟩] false [4])
 (.ret))⟩
def h79 : HF := ⟨2, [.tmp 3],
 .seq (.reg [⟨some 2, .x (.box (.t 0)), .none, false, []⟩,
  ⟨some 3, .x (.asg (.k (.bool false))), .none, false, []⟩] false [1, 2])
 (.seq (.reg [⟨some 4, .x (.load true 3 (.t 2)), .none, false, []⟩,
  ⟨some 5, .x (.load false 1 (.t 1)), .none, false, []⟩,
  ⟨some 6, .x (.call 67 [.t 4, .t 5] []), .none, false, []⟩,
  ⟨some 3, .x (.asg (.t 6)), .none, false, []⟩] false [3])
 (.ret))⟩
def h80 : HF := ⟨2, [],
 .reg [⟨some 3, .x (.load false 1 (.t 1)), .none, false, []⟩,
  ⟨some 4, .x (.mv (.t 0)), .none, false, []⟩,
  ⟨some 5, .x (.nilck (.t 4)), .none, false, []⟩,
  ⟨some 6, .x (.load false 1 (.t 5)), .none, false, []⟩,
  ⟨some 7, .x (.callv (.t 3) [.t 6]), .none, true, []⟩] true []⟩
def h81 : HF := ⟨2, [],
 .reg [⟨some 3, .x (.load false 1 (.t 1)), .none, false, []⟩,
  ⟨some 4, .x (.mv (.t 0)), .none, false, []⟩,
  ⟨some 5, .x (.nilck (.t 4)), .none, false, []⟩,
  ⟨some 6, .x (.load false 1 (.t 5)), .none, false, []⟩,
  ⟨some 7, .x (.callv (.t 3) [.t 6]), .none, true, []⟩] true []⟩
def h97 : HF := ⟨1, [.tmp 2],
 .seq (.reg [⟨some 1, .x (.box (.t 0)), .none, false, []⟩,
  ⟨some 2, .x (.asg (.k (.int .i64 0))), .none, false, []⟩] false [1])
 (.seq (.seq (.reg [⟨some 3, .x (.fadr 0 (.t 1)), .none, false, []⟩,
  ⟨some 4, .x (.load false 1 (.t 3)), .none, false, []⟩,
  ⟨some 5, .x (.bin .lss (.t 4) (.k (.int .i64 0))), .none, false, []⟩,
  ⟨some 6, .x (.mv (.t 5)), .none, false, []⟩,
  ⟨some 7, .x (.fadr 0 (.t 1)), some (6, false), false, []⟩,
  ⟨some 8, .x (.load false 1 (.t 7)), some (6, false), false, []⟩,
  ⟨some 9, .x (.bin .gtr (.t 8) (.k (.int .i64 16))), some (6, false), false, []⟩,
  ⟨some 10, .x (.pick (.t 6) (.k (.bool true)) (.t 9)), .none, false, []⟩,
  ⟨some 11, .x (.mv (.t 10)), .none, false, []⟩,
  ⟨some 12, .x (.fadr 1 (.t 1)), some (11, false), false, []⟩,
  ⟨some 13, .x (.load false 1 (.t 12)), some (11, false), false, []⟩,
  ⟨some 14, .x (.bin .lss (.t 13) (.k (.int .i64 0))), some (11, false), false, []⟩,
  ⟨some 15, .x (.pick (.t 11) (.k (.bool true)) (.t 14)), .none, false, []⟩,
  ⟨some 16, .x (.mv (.t 15)), .none, false, []⟩,
  ⟨some 17, .x (.fadr 1 (.t 1)), some (16, false), false, []⟩,
  ⟨some 18, .x (.load false 1 (.t 17)), some (16, false), false, []⟩,
  ⟨some 19, .x (.fadr 0 (.t 1)), some (16, false), false, []⟩,
  ⟨some 20, .x (.load false 1 (.t 19)), some (16, false), false, []⟩,
  ⟨some 21, .x (.bin .shl (.k (.int .i64 1)) (.t 20)), some (16, false), false, []⟩,
  ⟨some 22, .x (.bin .geq (.t 18) (.t 21)), some (16, false), false, []⟩,
  ⟨some 23, .x (.pick (.t 16) (.k (.bool true)) (.t 22)), .none, false, []⟩] true [23])
 (.cond (.t 23) (.seq (.reg [⟨some 2, .x (.asg (.k (.int .i64 16))), .none, false, []⟩] false [2])
  (.ret))
 (.skip) []))
 (.seq (.reg [⟨some 2, .x (.asg (.k (.int .i64 0))), .none, false, []⟩] false [2])
 (.ret)))⟩
def h98 : HF := ⟨2, [.tmp 4],
 .seq (.reg [⟨some 2, .x (.box (.t 0)), .none, false, []⟩,
  ⟨some 4, .x (.asg (.k (.bool false))), .none, false, []⟩] false [1, 2])
 (.seq (.reg [⟨some 5, .x (.mv (.t 1)), .none, false, []⟩,
  ⟨some 6, .x (.bin .geq (.t 5) (.k (.int .i64 0))), .none, false, []⟩,
  ⟨some 7, .x (.mv (.t 6)), .none, false, []⟩,
  ⟨some 8, .x (.mv (.t 1)), some (7, true), false, []⟩,
  ⟨some 9, .x (.fadr 0 (.t 2)), some (7, true), false, []⟩,
  ⟨some 10, .x (.load false 1 (.t 9)), some (7, true), false, []⟩,
  ⟨some 11, .x (.bin .lss (.t 8) (.t 10)), some (7, true), false, []⟩,
  ⟨some 12, .x (.pick (.t 7) (.t 11) (.k (.bool false))), .none, false, []⟩,
  ⟨some 13, .x (.mv (.t 12)), .none, false, []⟩,
  ⟨some 14, .x (.fadr 1 (.t 2)), some (13, true), false, []⟩,
  ⟨some 15, .x (.load false 1 (.t 14)), some (13, true), false, [11]⟩,
  ⟨some 16, .x (.call 120 [] []), some (13, true), true, []⟩,
  ⟨some 17, .x (.mv (.t 1)), some (13, true), false, []⟩,
  ⟨some 18, .x (.idx false 1 16 (.t 16) (.t 17)), some (13, true), false, []⟩,
  ⟨some 19, .x (.bin .and (.t 15) (.t 18)), some (13, true), false, []⟩,
  ⟨some 20, .x (.bin .neq (.t 19) (.k (.int .i64 0))), some (13, true), false, []⟩,
  ⟨some 21, .x (.pick (.t 13) (.t 20) (.k (.bool false))), .none, false, []⟩,
  ⟨some 4, .x (.asg (.t 21)), .none, false, []⟩] true [4])
 (.ret))⟩
def h105 : HF := ⟨4, [.tmp 8, .tmp 9],
 .seq (.reg [⟨some 8, .x (.asg (.k (.int .i64 0))), .none, false, []⟩,
  ⟨some 9, .x (.asg (.k (.int .i64 0))), .none, false, []⟩] false [0, 1, 2, 3])
 (.seq (.seq (.reg [⟨some 11, .x (.mv (.t 0)), .none, false, []⟩,
  ⟨some 12, .x (.mv (.t 1)), .none, false, []⟩,
  ⟨some 13, .x (.mv (.t 2)), .none, false, []⟩,
  ⟨some 14, .x (.mv (.t 3)), .none, false, []⟩,
  ⟨some 15, .x (.call 126 [.t 11, .t 12, .t 13, .t 14] []), .none, false, []⟩,
  ⟨some 10, .x (.asg (.t 15)), .none, false, []⟩] false [0, 1, 2, 10])
 (.seq (.reg [⟨some 16, .x (.mv (.t 10)), .none, false, []⟩,
  ⟨some 17, .x (.bin .neq (.t 16) (.k (.int .i64 0))), .none, false, []⟩] false [0, 1, 2, 10, 17])
 (.cond (.t 17) (.seq (.reg [⟨some 18, .x (.mv (.t 10)), .none, false, []⟩,
   ⟨some 8, .x (.asg (.k (.int .i64 0))), .none, false, []⟩,
   ⟨some 9, .x (.asg (.t 18)), .none, false, []⟩] false [8, 9])
  (.ret))
 (.skip) [0, 1, 2])))
 (.seq (.reg [⟨some 19, .x (.mv (.t 0)), .none, false, []⟩,
  ⟨some 20, .x (.nilck (.t 19)), .none, false, []⟩,
  ⟨some 21, .x (.fadr 0 (.t 20)), .none, false, []⟩,
  ⟨some 22, .x (.load false 1 (.t 21)), .none, false, []⟩,
  ⟨some 23, .x (.mv (.t 1)), .none, false, []⟩,
  ⟨some 24, .x (.mv (.t 2)), .none, false, []⟩,
  ⟨some 25, .x (.call 24 [.t 22, .t 23, .t 24] []), .none, false, []⟩,
  ⟨some 8, .x (.asg (.t 25)), .none, false, []⟩,
  ⟨some 9, .x (.asg (.k (.int .i64 0))), .none, false, []⟩] false [8, 9])
 (.ret)))⟩
def h106 : HF := ⟨5, [.tmp 10],
 .seq (.reg [⟨some 10, .x (.asg (.k (.int .i64 0))), .none, false, []⟩] false [0, 1, 2, 3, 4])
 (.seq (.reg [⟨some 12, .x (.mv (.t 0)), .none, false, []⟩,
  ⟨some 13, .x (.mv (.t 1)), .none, false, []⟩,
  ⟨some 14, .x (.mv (.t 2)), .none, false, []⟩,
  ⟨some 15, .x (.mv (.t 3)), .none, false, []⟩,
  ⟨some 16, .x (.call 126 [.t 12, .t 13, .t 14, .t 15] []), .none, false, []⟩,
  ⟨some 11, .x (.asg (.t 16)), .none, false, []⟩] false [0, 1, 2, 4, 11])
 (.seq (.seq (.reg [⟨some 17, .x (.mv (.t 11)), .none, false, []⟩,
  ⟨some 18, .x (.bin .eql (.t 17) (.k (.int .i64 0))), .none, false, []⟩] false [0, 1, 2, 4, 11, 18])
 (.cond (.t 18) (.reg [⟨some 19, .x (.mv (.t 0)), .none, false, []⟩,
   ⟨some 20, .x (.nilck (.t 19)), .none, false, []⟩,
   ⟨some 21, .x (.fadr 0 (.t 20)), .none, false, []⟩,
   ⟨some 22, .x (.load false 1 (.t 21)), .none, false, []⟩,
   ⟨some 23, .x (.mv (.t 1)), .none, false, []⟩,
   ⟨some 24, .x (.mv (.t 2)), .none, false, []⟩,
   ⟨some 25, .x (.mv (.t 4)), .none, false, []⟩,
   ⟨some 26, .x (.call 66 [.t 22, .t 23, .t 24, .t 25] []), .none, false, []⟩] false [11])
 (.skip) [11]))
 (.seq (.reg [⟨some 27, .x (.mv (.t 11)), .none, false, []⟩,
  ⟨some 10, .x (.asg (.t 27)), .none, false, []⟩] false [10])
 (.ret))))⟩
def h107 : HF := ⟨1, [.tmp 2],
 .seq (.reg [⟨some 2, .x (.asg (.k (.nils))), .none, false, []⟩] false [0])
 (.seq (.reg [⟨some 4, .x (.mv (.t 0)), .none, false, []⟩,
  ⟨some 5, .x (.nilck (.t 4)), .none, false, []⟩,
  ⟨some 6, .x (.fadr 10 (.t 5)), .none, false, []⟩,
  ⟨some 7, .x (.load false 1 (.t 6)), .none, false, []⟩,
  ⟨some 8, .x (.call 127 [.t 7] []), .none, false, []⟩,
  ⟨some 3, .x (.asg (.t 8)), .none, false, []⟩] false [3])
 (.seq (.reg [⟨some 9, .x (.mv (.t 3)), .none, false, []⟩,
  ⟨some 10, .x (.call 128 [.t 9] [0]), .none, false, []⟩] false [3])
 (.seq (.reg [⟨some 11, .x (.mv (.t 3)), .none, false, []⟩,
  ⟨some 2, .x (.asg (.t 11)), .none, false, []⟩] false [2])
 (.ret))))⟩
def h108 : HF := ⟨1, [.tmp 2, .tmp 3],
 .seq (.reg [⟨some 2, .x (.asg (.k (.int .i64 0))), .none, false, []⟩,
  ⟨some 3, .x (.asg (.k (.int .i64 0))), .none, false, []⟩] false [0])
 (.seq (.reg [⟨some 4, .x (.mv (.t 0)), .none, false, []⟩,
  ⟨some 5, .x (.nilck (.t 4)), .none, false, []⟩,
  ⟨some 6, .x (.fadr 11 (.t 5)), .none, false, []⟩,
  ⟨some 7, .x (.load false 1 (.t 6)), .none, false, []⟩,
  ⟨some 8, .x (.mv (.t 0)), .none, false, []⟩,
  ⟨some 9, .x (.nilck (.t 8)), .none, false, []⟩,
  ⟨some 10, .x (.fadr 12 (.t 9)), .none, false, []⟩,
  ⟨some 11, .x (.load false 1 (.t 10)), .none, false, []⟩,
  ⟨some 2, .x (.asg (.t 7)), .none, false, []⟩,
  ⟨some 3, .x (.asg (.t 11)), .none, false, []⟩] true [2, 3])
 (.ret))⟩
def h109 : HF := ⟨2, [.tmp 4],
 .seq (.reg [⟨some 4, .x (.asg (.k (.bool false))), .none, false, []⟩] false [0, 1])
 (.seq (.seq (.reg [⟨some 9, .x (.mv (.t 0)), .none, false, []⟩,
  ⟨some 10, .x (.nilck (.t 9)), .none, false, []⟩,
  ⟨some 11, .x (.fadr 1 (.t 10)), .none, false, []⟩,
  ⟨some 12, .x (.load true 3 (.t 11)), .none, false, []⟩,
  ⟨some 13, .x (.mv (.t 0)), .none, false, []⟩,
  ⟨some 14, .x (.nilck (.t 13)), .none, false, []⟩,
  ⟨some 15, .x (.fadr 4 (.t 14)), .none, false, []⟩,
  ⟨some 16, .x (.load true 3 (.t 15)), .none, false, []⟩,
  ⟨some 17, .x (.bsl 3 2 [.int .i64 0, .int .i64 0, .int .i64 0] [(0, 3, .t 12), (3, 3, .t 16)]), .none, false, []⟩,
  ⟨some 18, .x (.len false (.t 17)), .none, true, []⟩,
  ⟨some 19, .x (.mv (.k (.int .i64 0))), .none, false, []⟩] true [0, 1, 17, 18, 19])
 (.block 0 (.loop (.seq (.reg [⟨some 20, .x (.bin .lss (.t 19) (.t 18)), .none, false, []⟩] false [0, 1, 17, 18, 19, 20])
   (.seq (.cond (.t 20) (.skip)
   (.exit 0 []) [0, 1, 17, 18, 19])
   (.seq (.block 1 (.seq (.reg [⟨some 21, .x (.iadr 3 .none (.t 17) (.t 19)), .none, false, []⟩,
     ⟨some 22, .x (.load true 3 (.t 21)), .none, false, []⟩,
     ⟨some 6, .x (.alloc [.int .i64 0, .int .i64 0, .int .i64 0]), .none, false, []⟩,
     ⟨.none, .x (.store 3 (.t 6) (.t 22)), .none, false, []⟩] false [0, 1, 6, 17, 18, 19])
    (.seq (.reg [⟨some 23, .x (.load true 3 (.t 6)), .none, false, []⟩,
     ⟨some 24, .x (.mv (.t 1)), .none, false, []⟩,
     ⟨some 25, .x (.call 67 [.t 23, .t 24] []), .none, false, []⟩] false [0, 1, 6, 17, 18, 19, 25])
    (.cond (.t 25) (.seq (.reg [⟨some 27, .x (.mv (.t 0)), .none, false, []⟩,
      ⟨some 28, .x (.nilck (.t 27)), .none, false, []⟩,
      ⟨some 29, .x (.fadr 0 (.t 28)), .none, false, []⟩,
      ⟨some 30, .x (.load false 1 (.t 29)), .none, false, []⟩,
      ⟨some 31, .x (.load true 3 (.t 6)), .none, false, []⟩,
      ⟨some 32, .x (.call 76 [.t 30, .t 31] []), .none, true, []⟩,
      ⟨some 33, .x (.mv (.t 1)), .none, false, []⟩,
      ⟨some 34, .x (.call 129 [.t 32, .t 33] []), .none, true, []⟩,
      ⟨some 26, .x (.mv (.t 34)), .none, false, []⟩,
      ⟨some 35, .x (.ext (.t 26) 0), .none, false, []⟩,
      ⟨some 36, .x (.ext (.t 26) 1), .none, false, []⟩,
      ⟨some 7, .x (.asg (.t 35)), .none, false, []⟩,
      ⟨some 8, .x (.asg (.t 36)), .none, false, []⟩] true [8])
     (.seq (.reg [⟨some 37, .x (.mv (.t 8)), .none, false, []⟩,
      ⟨some 4, .x (.asg (.t 37)), .none, false, []⟩] false [4])
     (.ret)))
    (.skip) [0, 1, 17, 18, 19]))) [0, 1, 17, 18, 19])
   (.reg [⟨some 38, .x (.bin .add (.t 19) (.k (.int .i64 1))), .none, false, []⟩,
    ⟨some 19, .x (.mv (.t 38)), .none, false, []⟩] false [0, 1, 17, 18, 19])))) [0, 1, 17, 18, 19]) []))
 (.seq (.reg [⟨some 4, .x (.asg (.k (.bool false))), .none, false, []⟩] false [4])
 (.ret)))⟩
def h110 : HF := ⟨3, [.tmp 6],
 .seq (.reg [⟨some 6, .x (.asg (.k (.int .i64 0))), .none, false, []⟩] false [0, 1, 2])
 (.seq (.reg [⟨some 8, .x (.mv (.t 0)), .none, false, []⟩,
  ⟨some 9, .x (.mv (.t 1)), .none, false, []⟩,
  ⟨some 10, .x (.mv (.t 2)), .none, false, []⟩,
  ⟨some 11, .x (.call 126 [.t 8, .t 9, .t 10, .k (.bool true)] []), .none, false, []⟩,
  ⟨some 7, .x (.asg (.t 11)), .none, false, []⟩] false [0, 1, 2, 7])
 (.seq (.seq (.reg [⟨some 12, .x (.mv (.t 7)), .none, false, []⟩,
  ⟨some 13, .x (.bin .eql (.t 12) (.k (.int .i64 2))), .none, false, []⟩] false [0, 1, 2, 7, 13])
 (.cond (.t 13) (.reg [⟨some 14, .x (.mv (.t 0)), .none, false, []⟩,
   ⟨some 15, .x (.mv (.t 1)), .none, false, []⟩,
   ⟨some 16, .x (.mv (.t 2)), .none, false, []⟩,
   ⟨some 17, .x (.call 126 [.t 14, .t 15, .t 16, .k (.bool false)] []), .none, false, []⟩,
   ⟨some 7, .x (.asg (.t 17)), .none, false, []⟩] false [7])
 (.skip) [7]))
 (.seq (.reg [⟨some 18, .x (.mv (.t 7)), .none, false, []⟩,
  ⟨some 6, .x (.asg (.t 18)), .none, false, []⟩] false [6])
 (.ret))))⟩
def h111 : HF := ⟨2, [.cell 4 true 3],
 .seq (.reg [⟨some 4, .x (.alloc [.int .i64 0, .int .i64 0, .int .i64 0]), .none, false, []⟩] false [0, 1, 4])
 (.seq (.reg [⟨some 5, .x (.mv (.t 0)), .none, false, []⟩,
  ⟨some 6, .x (.mv (.t 0)), .none, false, []⟩,
  ⟨some 7, .x (.mv (.t 1)), .none, false, []⟩,
  ⟨some 8, .x (.bin .add (.t 6) (.t 7)), .none, false, []⟩,
  ⟨some 9, .x (.mv (.t 0)), .none, false, []⟩,
  ⟨some 10, .x (.build [.int .i64 0, .int .i64 0, .int .i64 0] [(0, 1, .t 5), (1, 1, .t 8), (2, 1, .t 9)]), .none, false, []⟩,
  ⟨.none, .x (.store 3 (.t 4) (.t 10)), .none, false, []⟩] false [4])
 (.ret))⟩
def h113 : HF := ⟨1, [.tmp 2],
 .seq (.reg [⟨some 1, .x (.box (.t 0)), .none, false, []⟩,
  ⟨some 2, .x (.asg (.k (.int .i64 0))), .none, false, []⟩] false [1])
 (.seq (.reg [⟨some 3, .x (.fadr 1 (.t 1)), .none, false, []⟩,
  ⟨some 4, .x (.load false 1 (.t 3)), .none, false, []⟩,
  ⟨some 5, .x (.bin .shl (.t 4) (.k (.int .u64 5))), .none, false, []⟩,
  ⟨some 6, .x (.fadr 0 (.t 1)), .none, false, []⟩,
  ⟨some 7, .x (.load false 1 (.t 6)), .none, false, []⟩,
  ⟨some 8, .x (.bin .or (.t 5) (.t 7)), .none, false, []⟩,
  ⟨some 2, .x (.asg (.t 8)), .none, false, []⟩] false [2])
 (.ret))⟩
def h115 : HF := ⟨2, [.tmp 3],
 .seq (.reg [⟨some 2, .x (.box (.t 0)), .none, false, []⟩,
  ⟨some 3, .x (.asg (.k (.bool false))), .none, false, []⟩] false [1, 2])
 (.seq (.reg [⟨some 4, .x (.load true 3 (.t 2)), .none, false, []⟩,
  ⟨some 5, .x (.load false 1 (.t 1)), .none, false, []⟩,
  ⟨some 6, .x (.call 67 [.t 4, .t 5] []), .none, false, []⟩,
  ⟨some 3, .x (.asg (.t 6)), .none, false, []⟩] false [3])
 (.ret))⟩
def h116 : HF := ⟨2, [.tmp 4],
 .seq (.reg [⟨some 4, .x (.asg (.k (.int .i64 0))), .none, false, []⟩] false [0, 1])
 (.seq (.seq (.reg [⟨some 6, .x (.mv (.t 0)), .none, false, []⟩,
  ⟨some 7, .x (.len false (.t 6)), .none, false, []⟩,
  ⟨some 8, .x (.mv (.k (.int .i64 0))), .none, false, []⟩] false [0, 1, 7, 8])
 (.block 0 (.loop (.seq (.reg [⟨some 9, .x (.bin .lss (.t 8) (.t 7)), .none, false, []⟩] false [0, 1, 7, 8, 9])
   (.seq (.cond (.t 9) (.skip)
   (.exit 0 []) [0, 1, 7, 8])
   (.seq (.block 1 (.seq (.reg [⟨some 10, .x (.mv (.t 8)), .none, false, []⟩,
     ⟨some 5, .x (.asg (.t 10)), .none, false, []⟩] false [0, 1, 5, 7, 8])
    (.seq (.reg [⟨some 11, .x (.mv (.t 1)), .none, false, []⟩,
     ⟨some 12, .x (.mv (.t 0)), .none, false, []⟩,
     ⟨some 13, .x (.mv (.t 5)), .none, false, []⟩,
     ⟨some 14, .x (.iadr 3 .none (.t 12) (.t 13)), .none, false, []⟩,
     ⟨some 15, .x (.load true 3 (.t 14)), .none, false, []⟩,
     ⟨some 16, .x (.callv (.t 11) [.t 15]), .none, false, []⟩] false [0, 1, 5, 7, 8, 16])
    (.cond (.t 16) (.seq (.reg [⟨some 17, .x (.mv (.t 5)), .none, false, []⟩,
      ⟨some 4, .x (.asg (.t 17)), .none, false, []⟩] false [4])
     (.ret))
    (.skip) [0, 1, 7, 8]))) [0, 1, 7, 8])
   (.reg [⟨some 18, .x (.bin .add (.t 8) (.k (.int .i64 1))), .none, false, []⟩,
    ⟨some 8, .x (.mv (.t 18)), .none, false, []⟩] false [0, 1, 7, 8])))) [0, 1, 7, 8]) []))
 (.seq (.reg [⟨some 4, .x (.asg (.k (.int .i64 (-1)))), .none, false, []⟩] false [4])
 (.ret)))⟩
def h120 : HF := ⟨0, [.cell 0 true 16],
 .seq (.reg [⟨some 0, .x (.alloc [.int .i64 0, .int .i64 0, .int .i64 0, .int .i64 0, .int .i64 0, .int .i64 0, .int .i64 0, .int .i64 0, .int .i64 0, .int .i64 0, .int .i64 0, .int .i64 0, .int .i64 0, .int .i64 0, .int .i64 0, .int .i64 0]), .none, false, []⟩] false [0])
 (.seq (.reg [⟨some 1, .x (.build [.int .i64 0, .int .i64 0, .int .i64 0, .int .i64 0, .int .i64 0, .int .i64 0, .int .i64 0, .int .i64 0, .int .i64 0, .int .i64 0, .int .i64 0, .int .i64 0, .int .i64 0, .int .i64 0, .int .i64 0, .int .i64 0] [(0, 1, .k (.int .i64 1)), (1, 1, .k (.int .i64 2)), (2, 1, .k (.int .i64 4)), (3, 1, .k (.int .i64 8)), (4, 1, .k (.int .i64 16)), (5, 1, .k (.int .i64 32)), (6, 1, .k (.int .i64 64)), (7, 1, .k (.int .i64 128)), (8, 1, .k (.int .i64 256)), (9, 1, .k (.int .i64 512)), (10, 1, .k (.int .i64 1024)), (11, 1, .k (.int .i64 2048)), (12, 1, .k (.int .i64 4096)), (13, 1, .k (.int .i64 8192)), (14, 1, .k (.int .i64 16384)), (15, 1, .k (.int .i64 32768))]), .none, false, []⟩,
  ⟨.none, .x (.store 16 (.t 0) (.t 1)), .none, false, []⟩] false [0])
 (.ret))⟩
def h126 : HF := ⟨4, [.tmp 8],
 .seq (.reg [⟨some 8, .x (.asg (.k (.int .i64 0))), .none, false, []⟩] false [0, 1, 2, 3])
 (.seq (.seq (.reg [⟨some 11, .x (.mv (.t 1)), .none, false, []⟩,
  ⟨some 12, .x (.bin .eql (.t 11) (.k (.int .i64 0))), .none, false, []⟩] false [0, 1, 2, 3, 12])
 (.cond (.t 12) (.seq (.reg [⟨some 8, .x (.asg (.k (.int .i64 1))), .none, false, []⟩] false [8])
  (.ret))
 (.skip) [0, 1, 2, 3]))
 (.seq (.reg [⟨some 14, .x (.mv (.t 0)), .none, false, []⟩,
  ⟨some 15, .x (.nilck (.t 14)), .none, false, []⟩,
  ⟨some 16, .x (.fadr 0 (.t 15)), .none, false, []⟩,
  ⟨some 17, .x (.load false 1 (.t 16)), .none, false, []⟩,
  ⟨some 18, .x (.mv (.t 1)), .none, false, []⟩,
  ⟨some 19, .x (.call 22 [.t 17, .t 18] []), .none, false, []⟩,
  ⟨some 13, .x (.mv (.t 19)), .none, false, []⟩,
  ⟨some 20, .x (.ext (.t 13) 0), .none, false, []⟩,
  ⟨some 21, .x (.ext (.t 13) 1), .none, false, []⟩,
  ⟨some 9, .x (.alloc [.int .i64 0, .int .i64 0]), .none, false, []⟩,
  ⟨.none, .x (.store 2 (.t 9) (.t 20)), .none, false, []⟩,
  ⟨some 10, .x (.asg (.t 21)), .none, false, []⟩] false [2, 3, 9, 10])
 (.seq (.seq (.reg [⟨some 22, .x (.mv (.t 10)), .none, false, []⟩,
  ⟨some 23, .x (.bin .neq (.t 22) (.k (.int .i64 0))), .none, false, []⟩,
  ⟨some 24, .x (.mv (.t 23)), .none, false, []⟩,
  ⟨some 25, .x (.mv (.t 2)), some (24, false), false, []⟩,
  ⟨some 26, .x (.bin .lss (.t 25) (.k (.int .i64 0))), some (24, false), false, []⟩,
  ⟨some 27, .x (.pick (.t 24) (.k (.bool true)) (.t 26)), .none, false, []⟩,
  ⟨some 28, .x (.mv (.t 27)), .none, false, []⟩,
  ⟨some 29, .x (.mv (.t 2)), some (28, false), false, []⟩,
  ⟨some 30, .x (.fadr 0 (.t 9)), some (28, false), false, []⟩,
  ⟨some 31, .x (.load false 1 (.t 30)), some (28, false), false, []⟩,
  ⟨some 32, .x (.bin .geq (.t 29) (.t 31)), some (28, false), false, []⟩,
  ⟨some 33, .x (.pick (.t 28) (.k (.bool true)) (.t 32)), .none, false, []⟩,
  ⟨some 34, .x (.mv (.t 33)), .none, false, []⟩,
  ⟨some 35, .x (.load true 2 (.t 9)), some (34, false), false, []⟩,
  ⟨some 36, .x (.mv (.t 2)), some (34, false), false, []⟩,
  ⟨some 37, .x (.call 98 [.t 35, .t 36] []), some (34, false), false, []⟩,
  ⟨some 38, .x (.mv (.t 3)), some (34, false), false, []⟩,
  ⟨some 39, .x (.beq true (.t 37) (.t 38)), some (34, false), false, []⟩,
  ⟨some 40, .x (.pick (.t 34) (.k (.bool true)) (.t 39)), .none, false, []⟩] false [40])
 (.cond (.t 40) (.seq (.reg [⟨some 8, .x (.asg (.k (.int .i64 2))), .none, false, []⟩] false [8])
  (.ret))
 (.skip) []))
 (.seq (.reg [⟨some 8, .x (.asg (.k (.int .i64 0))), .none, false, []⟩] false [8])
 (.ret)))))⟩
def h127 : HF := ⟨1, [.tmp 2],
 .seq (.reg [⟨some 2, .x (.asg (.k (.nils))), .none, false, []⟩] false [0])
 (.seq (.seq (.reg [⟨some 3, .x (.mv (.t 0)), .none, false, []⟩,
  ⟨some 4, .snil false (.t 3), .none, false, []⟩] false [0, 4])
 (.cond (.t 4) (.seq (.reg [⟨some 2, .x (.asg (.k (.nils))), .none, false, []⟩] false [2])
  (.ret))
 (.skip) [0]))
 (.seq (.reg [⟨some 5, .x (.bsl 1 0 [.int .i64 0] []), .none, false, []⟩,
  ⟨some 6, .x (.mv (.t 0)), .none, false, []⟩,
  ⟨some 7, .x (.app 1 8 (.t 5) (.t 6)), .none, false, []⟩,
  ⟨some 2, .x (.asg (.t 7)), .none, false, []⟩] false [2])
 (.ret)))⟩
def h128 : HF := ⟨1, [],
 .seq (.reg [⟨some 3, .x (.mv (.t 0)), .none, false, []⟩,
  ⟨some 4, .x (.len false (.t 3)), .none, false, []⟩,
  ⟨some 2, .x (.asg (.t 4)), .none, false, []⟩] false [0, 2])
 (.reg [⟨some 5, .x (.mv (.t 0)), .none, false, []⟩,
  ⟨some 6, .x (.mv (.t 2)), .none, false, []⟩,
  ⟨some 7, .x (.mv (.t 2)), .none, false, []⟩,
  ⟨some 8, .x (.conv .u64 (.t 7)), .none, false, []⟩,
  ⟨some 9, .x (.call 134 [.t 8] []), .none, false, []⟩,
  ⟨some 10, .x (.call 133 [.t 5, .k (.int .i64 0), .t 6, .t 9] []), .none, false, []⟩] false [])⟩
def h129 : HF := ⟨2, [.tmp 4, .tmp 5],
 .seq (.reg [⟨some 4, .x (.asg (.k (.int .i64 0))), .none, false, []⟩,
  ⟨some 5, .x (.asg (.k (.bool false))), .none, false, []⟩] false [0, 1])
 (.seq (.reg [⟨some 10, .x (.mv (.t 0)), .none, false, []⟩,
  ⟨some 11, .x (.len false (.t 10)), .none, false, []⟩,
  ⟨some 6, .x (.asg (.t 11)), .none, false, []⟩] false [0, 1, 6])
 (.seq (.reg [⟨some 12, .x (.mv (.t 6)), .none, false, []⟩,
  ⟨some 7, .x (.asg (.k (.int .i64 0))), .none, false, []⟩,
  ⟨some 8, .x (.asg (.t 12)), .none, false, []⟩] false [0, 1, 6, 7, 8])
 (.seq (.block 0 (.loop (.seq (.seq (.reg [⟨some 13, .x (.mv (.t 7)), .none, false, []⟩,
    ⟨some 14, .x (.mv (.t 8)), .none, false, []⟩,
    ⟨some 15, .x (.bin .lss (.t 13) (.t 14)), .none, false, []⟩] false [0, 1, 6, 7, 8, 15])
   (.cond (.t 15) (.skip)
   (.exit 0 [0, 1, 6, 7]) [0, 1, 6, 7, 8]))
   (.block 1 (.seq (.reg [⟨some 16, .x (.mv (.t 7)), .none, false, []⟩,
     ⟨some 17, .x (.mv (.t 8)), .none, false, []⟩,
     ⟨some 18, .x (.bin .add (.t 16) (.t 17)), .none, false, []⟩,
     ⟨some 19, .x (.conv .u64 (.t 18)), .none, false, []⟩,
     ⟨some 20, .x (.bin .shr (.t 19) (.k (.int .u64 1))), .none, false, []⟩,
     ⟨some 21, .x (.conv .i64 (.t 20)), .none, false, []⟩,
     ⟨some 9, .x (.asg (.t 21)), .none, false, []⟩] false [0, 1, 6, 7, 8, 9])
    (.seq (.reg [⟨some 22, .x (.mv (.t 0)), .none, false, []⟩,
     ⟨some 23, .x (.mv (.t 9)), .none, false, []⟩,
     ⟨some 24, .x (.iadr 1 .none (.t 22) (.t 23)), .none, false, []⟩,
     ⟨some 25, .x (.load false 1 (.t 24)), .none, false, []⟩,
     ⟨some 26, .x (.mv (.t 1)), .none, false, []⟩,
     ⟨some 27, .x (.call 135 [.t 25, .t 26] []), .none, false, []⟩] false [0, 1, 6, 7, 8, 9, 27])
    (.cond (.t 27) (.reg [⟨some 28, .x (.mv (.t 9)), .none, false, []⟩,
      ⟨some 29, .x (.bin .add (.t 28) (.k (.int .i64 1))), .none, false, []⟩,
      ⟨some 7, .x (.asg (.t 29)), .none, false, []⟩] false [0, 1, 6, 7, 8])
    (.reg [⟨some 30, .x (.mv (.t 9)), .none, false, []⟩,
      ⟨some 8, .x (.asg (.t 30)), .none, false, []⟩] false [0, 1, 6, 7, 8]) [0, 1, 6, 7, 8]))) [0, 1, 6, 7, 8])) [0, 1, 6, 7, 8]) [0, 1, 6, 7])
 (.seq (.reg [⟨some 31, .x (.mv (.t 7)), .none, false, []⟩,
  ⟨some 32, .x (.mv (.t 7)), .none, false, []⟩,
  ⟨some 33, .x (.mv (.t 6)), .none, false, []⟩,
  ⟨some 34, .x (.bin .lss (.t 32) (.t 33)), .none, false, []⟩,
  ⟨some 35, .x (.mv (.t 34)), .none, false, []⟩,
  ⟨some 36, .x (.mv (.t 0)), some (35, true), false, []⟩,
  ⟨some 37, .x (.mv (.t 7)), some (35, true), false, []⟩,
  ⟨some 38, .x (.iadr 1 .none (.t 36) (.t 37)), some (35, true), false, []⟩,
  ⟨some 39, .x (.load false 1 (.t 38)), some (35, true), false, []⟩,
  ⟨some 40, .x (.mv (.t 1)), some (35, true), false, []⟩,
  ⟨some 41, .x (.bin .eql (.t 39) (.t 40)), some (35, true), false, []⟩,
  ⟨some 42, .x (.mv (.t 41)), some (35, true), false, []⟩,
  ⟨some 43, .x (.mv (.t 0)), some (42, false), false, []⟩,
  ⟨some 44, .x (.mv (.t 7)), some (42, false), false, []⟩,
  ⟨some 45, .x (.iadr 1 .none (.t 43) (.t 44)), some (42, false), false, []⟩,
  ⟨some 46, .x (.load false 1 (.t 45)), some (42, false), false, []⟩,
  ⟨some 47, .x (.call 136 [.t 46] []), some (42, false), false, []⟩,
  ⟨some 48, .x (.mv (.t 47)), some (42, false), false, []⟩,
  ⟨some 49, .x (.mv (.t 1)), some (48, true), false, []⟩,
  ⟨some 50, .x (.call 136 [.t 49] []), some (48, true), false, []⟩,
  ⟨some 51, .x (.pick (.t 48) (.t 50) (.k (.bool false))), some (42, false), false, []⟩,
  ⟨some 52, .x (.pick (.t 42) (.k (.bool true)) (.t 51)), some (35, true), false, []⟩,
  ⟨some 53, .x (.pick (.t 35) (.t 52) (.k (.bool false))), .none, false, []⟩,
  ⟨some 4, .x (.asg (.t 31)), .none, false, []⟩,
  ⟨some 5, .x (.asg (.t 53)), .none, false, []⟩] false [4, 5])
 (.ret)))))⟩
def h133 : HF := ⟨4, [],
 .seq (.reg [⟨some 8, .x (.asg (.k (.bool true))), .none, false, []⟩] false [0, 1, 2, 3, 8])
 (.seq (.reg [⟨some 9, .x (.asg (.k (.bool true))), .none, false, []⟩] false [0, 1, 2, 3, 8, 9])
 (.block 0 (.loop (.block 1 (.seq (.reg [⟨some 19, .x (.mv (.t 2)), .none, false, []⟩,
     ⟨some 20, .x (.mv (.t 1)), .none, false, []⟩,
     ⟨some 21, .x (.bin .sub (.t 19) (.t 20)), .none, false, []⟩,
     ⟨some 10, .x (.asg (.t 21)), .none, false, []⟩] false [0, 1, 2, 3, 8, 9, 10])
    (.seq (.seq (.reg [⟨some 22, .x (.mv (.t 10)), .none, false, []⟩,
     ⟨some 23, .x (.bin .leq (.t 22) (.k (.int .i64 12))), .none, false, []⟩] false [0, 1, 2, 3, 8, 9, 10, 23])
    (.cond (.t 23) (.seq (.reg [⟨some 24, .x (.mv (.t 0)), .none, false, []⟩,
      ⟨some 25, .x (.mv (.t 1)), .none, false, []⟩,
      ⟨some 26, .x (.mv (.t 2)), .none, false, []⟩,
      ⟨some 27, .x (.call 138 [.t 24, .t 25, .t 26] []), .none, false, []⟩] false [])
     (.ret))
    (.skip) [0, 1, 2, 3, 8, 9, 10]))
    (.seq (.seq (.reg [⟨some 28, .x (.mv (.t 3)), .none, false, []⟩,
     ⟨some 29, .x (.bin .eql (.t 28) (.k (.int .i64 0))), .none, false, []⟩] false [0, 1, 2, 3, 8, 9, 10, 29])
    (.cond (.t 29) (.seq (.reg [⟨some 30, .x (.mv (.t 0)), .none, false, []⟩,
      ⟨some 31, .x (.mv (.t 1)), .none, false, []⟩,
      ⟨some 32, .x (.mv (.t 2)), .none, false, []⟩,
      ⟨some 33, .x (.call 139 [.t 30, .t 31, .t 32] []), .none, false, []⟩] false [])
     (.ret))
    (.skip) [0, 1, 2, 3, 8, 9, 10]))
    (.seq (.seq (.reg [⟨some 34, .x (.mv (.t 8)), .none, false, []⟩,
     ⟨some 35, .x (.un .not (.t 34)), .none, false, []⟩] false [0, 1, 2, 3, 8, 9, 10, 35])
    (.cond (.t 35) (.seq (.reg [⟨some 36, .x (.mv (.t 0)), .none, false, []⟩,
      ⟨some 37, .x (.mv (.t 1)), .none, false, []⟩,
      ⟨some 38, .x (.mv (.t 2)), .none, false, []⟩,
      ⟨some 39, .x (.call 140 [.t 36, .t 37, .t 38] []), .none, false, []⟩] false [0, 1, 2, 3, 8, 9, 10])
     (.reg [⟨some 40, .x (.mv (.t 3)), .none, false, []⟩,
      ⟨some 41, .x (.bin .sub (.t 40) (.k (.int .i64 1))), .none, false, []⟩,
      ⟨some 3, .x (.asg (.t 41)), .none, false, []⟩] false [0, 1, 2, 3, 8, 9, 10]))
    (.skip) [0, 1, 2, 3, 8, 9, 10]))
    (.seq (.reg [⟨some 43, .x (.mv (.t 0)), .none, false, []⟩,
     ⟨some 44, .x (.mv (.t 1)), .none, false, []⟩,
     ⟨some 45, .x (.mv (.t 2)), .none, false, []⟩,
     ⟨some 46, .x (.call 141 [.t 43, .t 44, .t 45] []), .none, false, []⟩,
     ⟨some 42, .x (.mv (.t 46)), .none, false, []⟩,
     ⟨some 47, .x (.ext (.t 42) 0), .none, false, []⟩,
     ⟨some 48, .x (.ext (.t 42) 1), .none, false, []⟩,
     ⟨some 11, .x (.asg (.t 47)), .none, false, []⟩,
     ⟨some 12, .x (.asg (.t 48)), .none, false, []⟩] false [0, 1, 2, 3, 8, 9, 10, 11, 12])
    (.seq (.seq (.reg [⟨some 49, .x (.mv (.t 12)), .none, false, []⟩,
     ⟨some 50, .x (.bin .eql (.t 49) (.k (.int .i64 2))), .none, false, []⟩] false [0, 1, 2, 3, 8, 9, 10, 11, 12, 50])
    (.cond (.t 50) (.seq (.reg [⟨some 51, .x (.mv (.t 0)), .none, false, []⟩,
      ⟨some 52, .x (.mv (.t 1)), .none, false, []⟩,
      ⟨some 53, .x (.mv (.t 2)), .none, false, []⟩,
      ⟨some 54, .x (.call 142 [.t 51, .t 52, .t 53] []), .none, false, []⟩] false [0, 1, 2, 3, 8, 9, 10, 11])
     (.seq (.reg [⟨some 55, .x (.mv (.t 2)), .none, false, []⟩,
      ⟨some 56, .x (.bin .sub (.t 55) (.k (.int .i64 1))), .none, false, []⟩,
      ⟨some 57, .x (.mv (.t 11)), .none, false, []⟩,
      ⟨some 58, .x (.mv (.t 1)), .none, false, []⟩,
      ⟨some 59, .x (.bin .sub (.t 57) (.t 58)), .none, false, []⟩,
      ⟨some 60, .x (.bin .sub (.t 56) (.t 59)), .none, false, []⟩,
      ⟨some 11, .x (.asg (.t 60)), .none, false, []⟩] false [0, 1, 2, 3, 8, 9, 10, 11])
     (.reg [⟨some 12, .x (.asg (.k (.int .i64 1))), .none, false, []⟩] false [0, 1, 2, 3, 8, 9, 10, 11, 12])))
    (.skip) [0, 1, 2, 3, 8, 9, 10, 11, 12]))
    (.seq (.seq (.reg [⟨some 61, .x (.mv (.t 8)), .none, false, []⟩,
     ⟨some 62, .x (.mv (.t 61)), .none, false, []⟩,
     ⟨some 63, .x (.mv (.t 9)), some (62, true), false, []⟩,
     ⟨some 64, .x (.pick (.t 62) (.t 63) (.k (.bool false))), .none, false, []⟩,
     ⟨some 65, .x (.mv (.t 64)), .none, false, []⟩,
     ⟨some 66, .x (.mv (.t 12)), some (65, true), false, []⟩,
     ⟨some 67, .x (.bin .eql (.t 66) (.k (.int .i64 1))), some (65, true), false, []⟩,
     ⟨some 68, .x (.pick (.t 65) (.t 67) (.k (.bool false))), .none, false, []⟩] false [0, 1, 2, 3, 8, 9, 10, 11, 68])
    (.cond (.t 68) (.seq (.reg [⟨some 69, .x (.mv (.t 0)), .none, false, []⟩,
      ⟨some 70, .x (.mv (.t 1)), .none, false, []⟩,
      ⟨some 71, .x (.mv (.t 2)), .none, false, []⟩,
      ⟨some 72, .x (.call 143 [.t 69, .t 70, .t 71] []), .none, false, []⟩] false [0, 1, 2, 3, 8, 9, 10, 11, 72])
     (.cond (.t 72) (.ret)
     (.skip) [0, 1, 2, 3, 8, 9, 10, 11]))
    (.skip) [0, 1, 2, 3, 8, 9, 10, 11]))
    (.seq (.seq (.reg [⟨some 73, .x (.mv (.t 1)), .none, false, []⟩,
     ⟨some 74, .x (.bin .gtr (.t 73) (.k (.int .i64 0))), .none, false, []⟩,
     ⟨some 75, .x (.mv (.t 74)), .none, false, []⟩,
     ⟨some 76, .x (.mv (.t 0)), some (75, true), false, []⟩,
     ⟨some 77, .x (.mv (.t 1)), some (75, true), false, []⟩,
     ⟨some 78, .x (.bin .sub (.t 77) (.k (.int .i64 1))), some (75, true), false, []⟩,
     ⟨some 79, .x (.iadr 1 .none (.t 76) (.t 78)), some (75, true), false, []⟩,
     ⟨some 80, .x (.load false 1 (.t 79)), some (75, true), false, []⟩,
     ⟨some 81, .x (.mv (.t 0)), some (75, true), false, []⟩,
     ⟨some 82, .x (.mv (.t 11)), some (75, true), false, []⟩,
     ⟨some 83, .x (.iadr 1 .none (.t 81) (.t 82)), some (75, true), false, []⟩,
     ⟨some 84, .x (.load false 1 (.t 83)), some (75, true), false, []⟩,
     ⟨some 85, .x (.call 135 [.t 80, .t 84] []), some (75, true), true, []⟩,
     ⟨some 86, .x (.un .not (.t 85)), some (75, true), false, []⟩,
     ⟨some 87, .x (.pick (.t 75) (.t 86) (.k (.bool false))), .none, false, []⟩] true [0, 1, 2, 3, 8, 9, 10, 11, 87])
    (.cond (.t 87) (.seq (.reg [⟨some 88, .x (.mv (.t 0)), .none, false, []⟩,
      ⟨some 89, .x (.mv (.t 1)), .none, false, []⟩,
      ⟨some 90, .x (.mv (.t 2)), .none, false, []⟩,
      ⟨some 91, .x (.mv (.t 11)), .none, false, []⟩,
      ⟨some 92, .x (.call 144 [.t 88, .t 89, .t 90, .t 91] []), .none, false, []⟩,
      ⟨some 13, .x (.asg (.t 92)), .none, false, []⟩] false [0, 2, 3, 8, 9, 13])
     (.seq (.reg [⟨some 93, .x (.mv (.t 13)), .none, false, []⟩,
      ⟨some 1, .x (.asg (.t 93)), .none, false, []⟩] false [0, 1, 2, 3, 8, 9])
     (.exit 1 [0, 1, 2, 3, 8, 9])))
    (.skip) [0, 1, 2, 3, 10, 11]))
    (.seq (.reg [⟨some 95, .x (.mv (.t 0)), .none, false, []⟩,
     ⟨some 96, .x (.mv (.t 1)), .none, false, []⟩,
     ⟨some 97, .x (.mv (.t 2)), .none, false, []⟩,
     ⟨some 98, .x (.mv (.t 11)), .none, false, []⟩,
     ⟨some 99, .x (.call 145 [.t 95, .t 96, .t 97, .t 98] []), .none, false, []⟩,
     ⟨some 94, .x (.mv (.t 99)), .none, false, []⟩,
     ⟨some 100, .x (.ext (.t 94) 0), .none, false, []⟩,
     ⟨some 101, .x (.ext (.t 94) 1), .none, false, []⟩,
     ⟨some 14, .x (.asg (.t 100)), .none, false, []⟩,
     ⟨some 15, .x (.asg (.t 101)), .none, false, []⟩] false [0, 1, 2, 3, 10, 14, 15])
    (.seq (.reg [⟨some 102, .x (.mv (.t 15)), .none, false, []⟩,
     ⟨some 9, .x (.asg (.t 102)), .none, false, []⟩] false [0, 1, 2, 3, 9, 10, 14])
    (.seq (.reg [⟨some 103, .x (.mv (.t 14)), .none, false, []⟩,
     ⟨some 104, .x (.mv (.t 1)), .none, false, []⟩,
     ⟨some 105, .x (.bin .sub (.t 103) (.t 104)), .none, false, []⟩,
     ⟨some 106, .x (.mv (.t 2)), .none, false, []⟩,
     ⟨some 107, .x (.mv (.t 14)), .none, false, []⟩,
     ⟨some 108, .x (.bin .sub (.t 106) (.t 107)), .none, false, []⟩,
     ⟨some 16, .x (.asg (.t 105)), .none, false, []⟩,
     ⟨some 17, .x (.asg (.t 108)), .none, false, []⟩] false [0, 1, 2, 3, 9, 10, 14, 16, 17])
    (.seq (.reg [⟨some 109, .x (.mv (.t 10)), .none, false, []⟩,
     ⟨some 110, .x (.bin .quo (.t 109) (.k (.int .i64 8))), .none, false, []⟩,
     ⟨some 18, .x (.asg (.t 110)), .none, false, []⟩] false [0, 1, 2, 3, 9, 14, 16, 17, 18])
    (.seq (.reg [⟨some 111, .x (.mv (.t 16)), .none, false, []⟩,
     ⟨some 112, .x (.mv (.t 17)), .none, false, []⟩,
     ⟨some 113, .x (.bin .lss (.t 111) (.t 112)), .none, false, []⟩] false [0, 1, 2, 3, 9, 14, 16, 17, 18, 113])
    (.cond (.t 113) (.seq (.reg [⟨some 114, .x (.mv (.t 16)), .none, false, []⟩,
      ⟨some 115, .x (.mv (.t 18)), .none, false, []⟩,
      ⟨some 116, .x (.bin .geq (.t 114) (.t 115)), .none, false, []⟩,
      ⟨some 8, .x (.asg (.t 116)), .none, false, []⟩] false [0, 1, 2, 3, 8, 9, 14])
     (.seq (.reg [⟨some 117, .x (.mv (.t 0)), .none, false, []⟩,
      ⟨some 118, .x (.mv (.t 1)), .none, false, []⟩,
      ⟨some 119, .x (.mv (.t 14)), .none, false, []⟩,
      ⟨some 120, .x (.mv (.t 3)), .none, false, []⟩,
      ⟨some 121, .x (.call 133 [.t 117, .t 118, .t 119, .t 120] []), .none, false, []⟩] false [0, 2, 3, 8, 9, 14])
     (.reg [⟨some 122, .x (.mv (.t 14)), .none, false, []⟩,
      ⟨some 123, .x (.bin .add (.t 122) (.k (.int .i64 1))), .none, false, []⟩,
      ⟨some 1, .x (.asg (.t 123)), .none, false, []⟩] false [0, 1, 2, 3, 8, 9])))
    (.seq (.reg [⟨some 124, .x (.mv (.t 17)), .none, false, []⟩,
      ⟨some 125, .x (.mv (.t 18)), .none, false, []⟩,
      ⟨some 126, .x (.bin .geq (.t 124) (.t 125)), .none, false, []⟩,
      ⟨some 8, .x (.asg (.t 126)), .none, false, []⟩] false [0, 1, 2, 3, 8, 9, 14])
     (.seq (.reg [⟨some 127, .x (.mv (.t 0)), .none, false, []⟩,
      ⟨some 128, .x (.mv (.t 14)), .none, false, []⟩,
      ⟨some 129, .x (.bin .add (.t 128) (.k (.int .i64 1))), .none, false, []⟩,
      ⟨some 130, .x (.mv (.t 2)), .none, false, []⟩,
      ⟨some 131, .x (.mv (.t 3)), .none, false, []⟩,
      ⟨some 132, .x (.call 133 [.t 127, .t 129, .t 130, .t 131] []), .none, false, []⟩] false [0, 1, 3, 8, 9, 14])
     (.reg [⟨some 133, .x (.mv (.t 14)), .none, false, []⟩,
      ⟨some 2, .x (.asg (.t 133)), .none, false, []⟩] false [0, 1, 2, 3, 8, 9]))) [0, 1, 2, 3, 8, 9])))))))))))))) [0, 1, 2, 3, 8, 9]) [0, 1, 2, 3, 8, 9]) []))⟩
def h134 : HF := ⟨1, [.tmp 2],
 .seq (.reg [⟨some 2, .x (.asg (.k (.int .i64 0))), .none, false, []⟩] false [0])
 (.seq (.cond (.k (.bool false)) (.seq (.reg [⟨some 3, .x (.mv (.t 0)), .none, false, []⟩,
   ⟨some 4, .x (.conv .u32 (.t 3)), .none, false, []⟩,
   ⟨some 5, .x (.call 146 [.t 4] []), .none, false, []⟩,
   ⟨some 2, .x (.asg (.t 5)), .none, false, []⟩] false [2])
  (.ret))
 (.skip) [0])
 (.seq (.reg [⟨some 6, .x (.mv (.t 0)), .none, false, []⟩,
  ⟨some 7, .x (.call 147 [.t 6] []), .none, false, []⟩,
  ⟨some 2, .x (.asg (.t 7)), .none, false, []⟩] false [2])
 (.ret)))⟩
def h135 : HF := ⟨2, [.tmp 4],
 .seq (.reg [⟨some 4, .x (.asg (.k (.bool false))), .none, false, []⟩] false [0, 1])
 (.seq (.reg [⟨some 5, .x (.mv (.t 0)), .none, false, []⟩,
  ⟨some 6, .x (.call 148 [.t 5] []), .none, false, []⟩,
  ⟨some 7, .x (.mv (.t 6)), .none, false, []⟩,
  ⟨some 8, .x (.mv (.t 1)), some (7, true), false, []⟩,
  ⟨some 9, .x (.call 148 [.t 8] []), some (7, true), false, []⟩,
  ⟨some 10, .x (.un .not (.t 9)), some (7, true), false, []⟩,
  ⟨some 11, .x (.pick (.t 7) (.t 10) (.k (.bool false))), .none, false, []⟩,
  ⟨some 12, .x (.mv (.t 11)), .none, false, []⟩,
  ⟨some 13, .x (.mv (.t 0)), some (12, false), false, []⟩,
  ⟨some 14, .x (.mv (.t 1)), some (12, false), false, []⟩,
  ⟨some 15, .x (.bin .lss (.t 13) (.t 14)), some (12, false), false, []⟩,
  ⟨some 16, .x (.pick (.t 12) (.k (.bool true)) (.t 15)), .none, false, []⟩,
  ⟨some 4, .x (.asg (.t 16)), .none, false, []⟩] false [4])
 (.ret))⟩
def h136 : HF := ⟨1, [.tmp 2],
 .seq (.reg [⟨some 2, .x (.asg (.k (.bool false))), .none, false, []⟩] false [0])
 (.seq (.reg [⟨some 3, .x (.mv (.t 0)), .none, false, []⟩,
  ⟨some 4, .x (.mv (.t 0)), .none, false, []⟩,
  ⟨some 5, .x (.bin .neq (.t 3) (.t 4)), .none, false, []⟩,
  ⟨some 2, .x (.asg (.t 5)), .none, false, []⟩] false [2])
 (.ret))⟩
def h138 : HF := ⟨3, [],
 .seq (.reg [⟨some 8, .x (.mv (.t 1)), .none, false, []⟩,
  ⟨some 9, .x (.bin .add (.t 8) (.k (.int .i64 1))), .none, false, []⟩,
  ⟨some 6, .x (.asg (.t 9)), .none, false, []⟩] false [0, 1, 2, 6])
 (.block 0 (.loop (.seq (.seq (.reg [⟨some 10, .x (.mv (.t 6)), .none, false, []⟩,
    ⟨some 11, .x (.mv (.t 2)), .none, false, []⟩,
    ⟨some 12, .x (.bin .lss (.t 10) (.t 11)), .none, false, []⟩] false [0, 1, 2, 6, 12])
   (.cond (.t 12) (.skip)
   (.exit 0 []) [0, 1, 2, 6]))
   (.seq (.block 1 (.seq (.reg [⟨some 15, .x (.mv (.t 6)), .none, false, []⟩,
     ⟨some 7, .x (.asg (.t 15)), .none, false, []⟩] false [0, 1, 2, 6, 7])
    (.block 2 (.loop (.seq (.seq (.reg [⟨some 16, .x (.mv (.t 7)), .none, false, []⟩,
       ⟨some 17, .x (.mv (.t 1)), .none, false, []⟩,
       ⟨some 18, .x (.bin .gtr (.t 16) (.t 17)), .none, false, []⟩,
       ⟨some 19, .x (.mv (.t 18)), .none, false, []⟩,
       ⟨some 20, .x (.mv (.t 0)), some (19, true), false, []⟩,
       ⟨some 21, .x (.mv (.t 7)), some (19, true), false, []⟩,
       ⟨some 22, .x (.iadr 1 .none (.t 20) (.t 21)), some (19, true), false, []⟩,
       ⟨some 23, .x (.load false 1 (.t 22)), some (19, true), false, []⟩,
       ⟨some 24, .x (.mv (.t 0)), some (19, true), false, []⟩,
       ⟨some 25, .x (.mv (.t 7)), some (19, true), false, []⟩,
       ⟨some 26, .x (.bin .sub (.t 25) (.k (.int .i64 1))), some (19, true), false, []⟩,
       ⟨some 27, .x (.iadr 1 .none (.t 24) (.t 26)), some (19, true), false, []⟩,
       ⟨some 28, .x (.load false 1 (.t 27)), some (19, true), false, []⟩,
       ⟨some 29, .x (.call 135 [.t 23, .t 28] []), some (19, true), true, []⟩,
       ⟨some 30, .x (.pick (.t 19) (.t 29) (.k (.bool false))), .none, false, []⟩] true [0, 1, 2, 6, 7, 30])
      (.cond (.t 30) (.skip)
      (.exit 2 [0, 1, 2, 6]) [0, 1, 2, 6, 7]))
      (.seq (.block 3 (.reg [⟨some 33, .x (.mv (.t 0)), .none, false, []⟩,
        ⟨some 34, .x (.mv (.t 7)), .none, false, []⟩,
        ⟨some 35, .x (.mv (.t 0)), .none, false, []⟩,
        ⟨some 36, .x (.mv (.t 7)), .none, false, []⟩,
        ⟨some 37, .x (.bin .sub (.t 36) (.k (.int .i64 1))), .none, false, []⟩,
        ⟨some 38, .x (.mv (.t 0)), .none, false, []⟩,
        ⟨some 39, .x (.mv (.t 7)), .none, false, []⟩,
        ⟨some 40, .x (.bin .sub (.t 39) (.k (.int .i64 1))), .none, false, []⟩,
        ⟨some 41, .x (.iadr 1 .none (.t 38) (.t 40)), .none, false, []⟩,
        ⟨some 42, .x (.load false 1 (.t 41)), .none, false, []⟩,
        ⟨some 43, .x (.mv (.t 0)), .none, false, []⟩,
        ⟨some 44, .x (.mv (.t 7)), .none, false, []⟩,
        ⟨some 45, .x (.iadr 1 .none (.t 43) (.t 44)), .none, false, []⟩,
        ⟨some 46, .x (.load false 1 (.t 45)), .none, false, []⟩,
        ⟨some 47, .x (.iadr 1 .none (.t 33) (.t 34)), .none, false, []⟩,
        ⟨.none, .x (.store 1 (.t 47) (.t 42)), .none, true, []⟩,
        ⟨some 48, .x (.iadr 1 .none (.t 35) (.t 37)), .none, false, []⟩,
        ⟨.none, .x (.store 1 (.t 48) (.t 46)), .none, true, []⟩] true [0, 1, 2, 6, 7]) [0, 1, 2, 6, 7])
      (.reg [⟨some 31, .x (.mv (.t 7)), .none, false, []⟩,
       ⟨some 32, .x (.bin .sub (.t 31) (.k (.int .i64 1))), .none, false, []⟩,
       ⟨some 7, .x (.asg (.t 32)), .none, false, []⟩] false [0, 1, 2, 6, 7]))) [0, 1, 2, 6, 7]) [0, 1, 2, 6])) [0, 1, 2, 6])
   (.reg [⟨some 13, .x (.mv (.t 6)), .none, false, []⟩,
    ⟨some 14, .x (.bin .add (.t 13) (.k (.int .i64 1))), .none, false, []⟩,
    ⟨some 6, .x (.asg (.t 14)), .none, false, []⟩] false [0, 1, 2, 6]))) [0, 1, 2, 6]) [])⟩
def h139 : HF := ⟨3, [],
 .seq (.reg [⟨some 11, .x (.mv (.t 1)), .none, false, []⟩,
  ⟨some 6, .x (.asg (.t 11)), .none, false, []⟩] false [0, 1, 2, 6])
 (.seq (.reg [⟨some 7, .x (.asg (.k (.int .i64 0))), .none, false, []⟩] false [0, 1, 2, 6, 7])
 (.seq (.reg [⟨some 12, .x (.mv (.t 2)), .none, false, []⟩,
  ⟨some 13, .x (.mv (.t 1)), .none, false, []⟩,
  ⟨some 14, .x (.bin .sub (.t 12) (.t 13)), .none, false, []⟩,
  ⟨some 8, .x (.asg (.t 14)), .none, false, []⟩] false [0, 6, 7, 8])
 (.seq (.seq (.reg [⟨some 15, .x (.mv (.t 8)), .none, false, []⟩,
  ⟨some 16, .x (.bin .sub (.t 15) (.k (.int .i64 1))), .none, false, []⟩,
  ⟨some 17, .x (.bin .quo (.t 16) (.k (.int .i64 2))), .none, false, []⟩,
  ⟨some 9, .x (.asg (.t 17)), .none, false, []⟩] false [0, 6, 7, 8, 9])
 (.block 0 (.loop (.seq (.seq (.reg [⟨some 18, .x (.mv (.t 9)), .none, false, []⟩,
    ⟨some 19, .x (.bin .geq (.t 18) (.k (.int .i64 0))), .none, false, []⟩] false [0, 6, 7, 8, 9, 19])
   (.cond (.t 19) (.skip)
   (.exit 0 [0, 6, 7, 8]) [0, 6, 7, 8, 9]))
   (.seq (.block 1 (.reg [⟨some 22, .x (.mv (.t 0)), .none, false, []⟩,
     ⟨some 23, .x (.mv (.t 9)), .none, false, []⟩,
     ⟨some 24, .x (.mv (.t 8)), .none, false, []⟩,
     ⟨some 25, .x (.mv (.t 6)), .none, false, []⟩,
     ⟨some 26, .x (.call 149 [.t 22, .t 23, .t 24, .t 25] []), .none, false, []⟩] false [0, 6, 7, 8, 9]) [0, 6, 7, 8, 9])
   (.reg [⟨some 20, .x (.mv (.t 9)), .none, false, []⟩,
    ⟨some 21, .x (.bin .sub (.t 20) (.k (.int .i64 1))), .none, false, []⟩,
    ⟨some 9, .x (.asg (.t 21)), .none, false, []⟩] false [0, 6, 7, 8, 9]))) [0, 6, 7, 8, 9]) [0, 6, 7, 8]))
 (.seq (.reg [⟨some 27, .x (.mv (.t 8)), .none, false, []⟩,
  ⟨some 28, .x (.bin .sub (.t 27) (.k (.int .i64 1))), .none, false, []⟩,
  ⟨some 10, .x (.asg (.t 28)), .none, false, []⟩] false [0, 6, 7, 10])
 (.block 2 (.loop (.seq (.seq (.reg [⟨some 29, .x (.mv (.t 10)), .none, false, []⟩,
    ⟨some 30, .x (.bin .geq (.t 29) (.k (.int .i64 0))), .none, false, []⟩] false [0, 6, 7, 10, 30])
   (.cond (.t 30) (.skip)
   (.exit 2 []) [0, 6, 7, 10]))
   (.seq (.block 3 (.seq (.reg [⟨some 33, .x (.mv (.t 0)), .none, false, []⟩,
     ⟨some 34, .x (.mv (.t 6)), .none, false, []⟩,
     ⟨some 35, .x (.mv (.t 0)), .none, false, []⟩,
     ⟨some 36, .x (.mv (.t 6)), .none, false, []⟩,
     ⟨some 37, .x (.mv (.t 10)), .none, false, []⟩,
     ⟨some 38, .x (.bin .add (.t 36) (.t 37)), .none, false, []⟩,
     ⟨some 39, .x (.mv (.t 0)), .none, false, []⟩,
     ⟨some 40, .x (.mv (.t 6)), .none, false, []⟩,
     ⟨some 41, .x (.mv (.t 10)), .none, false, []⟩,
     ⟨some 42, .x (.bin .add (.t 40) (.t 41)), .none, false, []⟩,
     ⟨some 43, .x (.iadr 1 .none (.t 39) (.t 42)), .none, false, []⟩,
     ⟨some 44, .x (.load false 1 (.t 43)), .none, false, []⟩,
     ⟨some 45, .x (.mv (.t 0)), .none, false, []⟩,
     ⟨some 46, .x (.mv (.t 6)), .none, false, []⟩,
     ⟨some 47, .x (.iadr 1 .none (.t 45) (.t 46)), .none, false, []⟩,
     ⟨some 48, .x (.load false 1 (.t 47)), .none, false, []⟩,
     ⟨some 49, .x (.iadr 1 .none (.t 33) (.t 34)), .none, false, []⟩,
     ⟨.none, .x (.store 1 (.t 49) (.t 44)), .none, true, []⟩,
     ⟨some 50, .x (.iadr 1 .none (.t 35) (.t 38)), .none, false, []⟩,
     ⟨.none, .x (.store 1 (.t 50) (.t 48)), .none, true, []⟩] true [0, 6, 7, 10])
    (.reg [⟨some 51, .x (.mv (.t 0)), .none, false, []⟩,
     ⟨some 52, .x (.mv (.t 7)), .none, false, []⟩,
     ⟨some 53, .x (.mv (.t 10)), .none, false, []⟩,
     ⟨some 54, .x (.mv (.t 6)), .none, false, []⟩,
     ⟨some 55, .x (.call 149 [.t 51, .t 52, .t 53, .t 54] []), .none, false, []⟩] false [0, 6, 7, 10])) [0, 6, 7, 10])
   (.reg [⟨some 31, .x (.mv (.t 10)), .none, false, []⟩,
    ⟨some 32, .x (.bin .sub (.t 31) (.k (.int .i64 1))), .none, false, []⟩,
    ⟨some 10, .x (.asg (.t 32)), .none, false, []⟩] false [0, 6, 7, 10]))) [0, 6, 7, 10]) [])))))⟩
def h140 : HF := ⟨3, [],
 .seq (.reg [⟨some 11, .x (.mv (.t 2)), .none, false, []⟩,
  ⟨some 12, .x (.mv (.t 1)), .none, false, []⟩,
  ⟨some 13, .x (.bin .sub (.t 11) (.t 12)), .none, false, []⟩,
  ⟨some 6, .x (.asg (.t 13)), .none, false, []⟩] false [0, 1, 6])
 (.seq (.reg [⟨some 14, .x (.mv (.t 6)), .none, false, []⟩,
  ⟨some 15, .x (.bin .geq (.t 14) (.k (.int .i64 8))), .none, false, []⟩] false [0, 1, 6, 15])
 (.cond (.t 15) (.seq (.reg [⟨some 16, .x (.mv (.t 6)), .none, false, []⟩,
   ⟨some 17, .x (.conv .u64 (.t 16)), .none, false, []⟩,
   ⟨some 7, .x (.alloc [.int .u64 0]), .none, false, []⟩,
   ⟨.none, .x (.store 1 (.t 7) (.t 17)), .none, false, []⟩] false [0, 1, 6, 7])
  (.seq (.reg [⟨some 18, .x (.mv (.t 6)), .none, false, []⟩,
   ⟨some 19, .x (.call 150 [.t 18] []), .none, false, []⟩,
   ⟨some 8, .x (.asg (.t 19)), .none, false, []⟩] false [0, 1, 6, 7, 8])
  (.seq (.reg [⟨some 20, .x (.mv (.t 1)), .none, false, []⟩,
   ⟨some 21, .x (.mv (.t 6)), .none, false, []⟩,
   ⟨some 22, .x (.bin .quo (.t 21) (.k (.int .i64 4))), .none, false, []⟩,
   ⟨some 23, .x (.bin .mul (.t 22) (.k (.int .i64 2))), .none, false, []⟩,
   ⟨some 24, .x (.bin .add (.t 20) (.t 23)), .none, false, []⟩,
   ⟨some 25, .x (.bin .sub (.t 24) (.k (.int .i64 1))), .none, false, []⟩,
   ⟨some 9, .x (.asg (.t 25)), .none, false, []⟩] false [0, 1, 6, 7, 8, 9])
  (.block 0 (.loop (.seq (.seq (.reg [⟨some 26, .x (.mv (.t 9)), .none, false, []⟩,
     ⟨some 27, .x (.mv (.t 1)), .none, false, []⟩,
     ⟨some 28, .x (.mv (.t 6)), .none, false, []⟩,
     ⟨some 29, .x (.bin .quo (.t 28) (.k (.int .i64 4))), .none, false, []⟩,
     ⟨some 30, .x (.bin .mul (.t 29) (.k (.int .i64 2))), .none, false, []⟩,
     ⟨some 31, .x (.bin .add (.t 27) (.t 30)), .none, false, []⟩,
     ⟨some 32, .x (.bin .add (.t 31) (.k (.int .i64 1))), .none, false, []⟩,
     ⟨some 33, .x (.bin .leq (.t 26) (.t 32)), .none, false, []⟩] false [0, 1, 6, 7, 8, 9, 33])
    (.cond (.t 33) (.skip)
    (.exit 0 []) [0, 1, 6, 7, 8, 9]))
    (.seq (.block 1 (.seq (.reg [⟨some 36, .x (.call 151 [.t 7] []), .none, false, []⟩,
      ⟨some 37, .x (.mv (.t 8)), .none, false, []⟩,
      ⟨some 38, .x (.bin .sub (.t 37) (.k (.int .u64 1))), .none, false, []⟩,
      ⟨some 39, .x (.bin .and (.t 36) (.t 38)), .none, false, []⟩,
      ⟨some 40, .x (.conv .i64 (.t 39)), .none, false, []⟩,
      ⟨some 10, .x (.asg (.t 40)), .none, false, []⟩] false [0, 1, 6, 7, 8, 9, 10])
     (.seq (.seq (.reg [⟨some 41, .x (.mv (.t 10)), .none, false, []⟩,
      ⟨some 42, .x (.mv (.t 6)), .none, false, []⟩,
      ⟨some 43, .x (.bin .geq (.t 41) (.t 42)), .none, false, []⟩] false [0, 1, 6, 7, 8, 9, 10, 43])
     (.cond (.t 43) (.reg [⟨some 44, .x (.mv (.t 10)), .none, false, []⟩,
       ⟨some 45, .x (.mv (.t 6)), .none, false, []⟩,
       ⟨some 46, .x (.bin .sub (.t 44) (.t 45)), .none, false, []⟩,
       ⟨some 10, .x (.asg (.t 46)), .none, false, []⟩] false [0, 1, 6, 7, 8, 9, 10])
     (.skip) [0, 1, 6, 7, 8, 9, 10]))
     (.reg [⟨some 47, .x (.mv (.t 0)), .none, false, []⟩,
      ⟨some 48, .x (.mv (.t 9)), .none, false, []⟩,
      ⟨some 49, .x (.mv (.t 0)), .none, false, []⟩,
      ⟨some 50, .x (.mv (.t 1)), .none, false, []⟩,
      ⟨some 51, .x (.mv (.t 10)), .none, false, []⟩,
      ⟨some 52, .x (.bin .add (.t 50) (.t 51)), .none, false, []⟩,
      ⟨some 53, .x (.mv (.t 0)), .none, false, []⟩,
      ⟨some 54, .x (.mv (.t 1)), .none, false, []⟩,
      ⟨some 55, .x (.mv (.t 10)), .none, false, []⟩,
      ⟨some 56, .x (.bin .add (.t 54) (.t 55)), .none, false, []⟩,
      ⟨some 57, .x (.iadr 1 .none (.t 53) (.t 56)), .none, false, []⟩,
      ⟨some 58, .x (.load false 1 (.t 57)), .none, false, []⟩,
      ⟨some 59, .x (.mv (.t 0)), .none, false, []⟩,
      ⟨some 60, .x (.mv (.t 9)), .none, false, []⟩,
      ⟨some 61, .x (.iadr 1 .none (.t 59) (.t 60)), .none, false, []⟩,
      ⟨some 62, .x (.load false 1 (.t 61)), .none, false, []⟩,
      ⟨some 63, .x (.iadr 1 .none (.t 47) (.t 48)), .none, false, []⟩,
      ⟨.none, .x (.store 1 (.t 63) (.t 58)), .none, true, []⟩,
      ⟨some 64, .x (.iadr 1 .none (.t 49) (.t 52)), .none, false, []⟩,
      ⟨.none, .x (.store 1 (.t 64) (.t 62)), .none, true, []⟩] true [0, 1, 6, 7, 8, 9]))) [0, 1, 6, 7, 8, 9])
    (.reg [⟨some 34, .x (.mv (.t 9)), .none, false, []⟩,
     ⟨some 35, .x (.bin .add (.t 34) (.k (.int .i64 1))), .none, false, []⟩,
     ⟨some 9, .x (.asg (.t 35)), .none, false, []⟩] false [0, 1, 6, 7, 8, 9]))) [0, 1, 6, 7, 8, 9]) []))))
 (.skip) []))⟩
def h141 : HF := ⟨3, [.tmp 6, .tmp 7],
 .seq (.reg [⟨some 6, .x (.asg (.k (.int .i64 0))), .none, false, []⟩,
  ⟨some 7, .x (.asg (.k (.int .i64 0))), .none, false, []⟩] false [0, 1, 2])
 (.seq (.reg [⟨some 13, .x (.mv (.t 2)), .none, false, []⟩,
  ⟨some 14, .x (.mv (.t 1)), .none, false, []⟩,
  ⟨some 15, .x (.bin .sub (.t 13) (.t 14)), .none, false, []⟩,
  ⟨some 8, .x (.asg (.t 15)), .none, false, []⟩] false [0, 1, 8])
 (.seq (.reg [⟨some 9, .x (.alloc [.int .i64 0]), .none, false, []⟩] false [0, 1, 8, 9])
 (.seq (.reg [⟨some 16, .x (.mv (.t 1)), .none, false, []⟩,
  ⟨some 17, .x (.mv (.t 8)), .none, false, []⟩,
  ⟨some 18, .x (.bin .quo (.t 17) (.k (.int .i64 4))), .none, false, []⟩,
  ⟨some 19, .x (.bin .mul (.t 18) (.k (.int .i64 1))), .none, false, []⟩,
  ⟨some 20, .x (.bin .add (.t 16) (.t 19)), .none, false, []⟩,
  ⟨some 10, .x (.asg (.t 20)), .none, false, []⟩] false [0, 1, 8, 9, 10])
 (.seq (.reg [⟨some 21, .x (.mv (.t 1)), .none, false, []⟩,
  ⟨some 22, .x (.mv (.t 8)), .none, false, []⟩,
  ⟨some 23, .x (.bin .quo (.t 22) (.k (.int .i64 4))), .none, false, []⟩,
  ⟨some 24, .x (.bin .mul (.t 23) (.k (.int .i64 2))), .none, false, []⟩,
  ⟨some 25, .x (.bin .add (.t 21) (.t 24)), .none, false, []⟩,
  ⟨some 11, .x (.asg (.t 25)), .none, false, []⟩] false [0, 1, 8, 9, 10, 11])
 (.seq (.reg [⟨some 26, .x (.mv (.t 1)), .none, false, []⟩,
  ⟨some 27, .x (.mv (.t 8)), .none, false, []⟩,
  ⟨some 28, .x (.bin .quo (.t 27) (.k (.int .i64 4))), .none, false, []⟩,
  ⟨some 29, .x (.bin .mul (.t 28) (.k (.int .i64 3))), .none, false, []⟩,
  ⟨some 30, .x (.bin .add (.t 26) (.t 29)), .none, false, []⟩,
  ⟨some 12, .x (.asg (.t 30)), .none, false, []⟩] false [0, 8, 9, 10, 11, 12])
 (.seq (.seq (.reg [⟨some 31, .x (.mv (.t 8)), .none, false, []⟩,
  ⟨some 32, .x (.bin .geq (.t 31) (.k (.int .i64 8))), .none, false, []⟩] false [0, 8, 9, 10, 11, 12, 32])
 (.cond (.t 32) (.seq (.seq (.reg [⟨some 33, .x (.mv (.t 8)), .none, false, []⟩,
   ⟨some 34, .x (.bin .geq (.t 33) (.k (.int .i64 50))), .none, false, []⟩] false [0, 9, 10, 11, 12, 34])
  (.cond (.t 34) (.seq (.reg [⟨some 35, .x (.mv (.t 0)), .none, false, []⟩,
    ⟨some 36, .x (.mv (.t 10)), .none, false, []⟩,
    ⟨some 37, .x (.call 152 [.t 35, .t 36, .t 9] []), .none, false, []⟩,
    ⟨some 10, .x (.asg (.t 37)), .none, false, []⟩] false [0, 9, 10, 11, 12])
   (.seq (.reg [⟨some 38, .x (.mv (.t 0)), .none, false, []⟩,
    ⟨some 39, .x (.mv (.t 11)), .none, false, []⟩,
    ⟨some 40, .x (.call 152 [.t 38, .t 39, .t 9] []), .none, false, []⟩,
    ⟨some 11, .x (.asg (.t 40)), .none, false, []⟩] false [0, 9, 10, 11, 12])
   (.reg [⟨some 41, .x (.mv (.t 0)), .none, false, []⟩,
    ⟨some 42, .x (.mv (.t 12)), .none, false, []⟩,
    ⟨some 43, .x (.call 152 [.t 41, .t 42, .t 9] []), .none, false, []⟩,
    ⟨some 12, .x (.asg (.t 43)), .none, false, []⟩] false [0, 9, 10, 11, 12])))
  (.skip) [0, 9, 10, 11, 12]))
  (.reg [⟨some 44, .x (.mv (.t 0)), .none, false, []⟩,
   ⟨some 45, .x (.mv (.t 10)), .none, false, []⟩,
   ⟨some 46, .x (.mv (.t 11)), .none, false, []⟩,
   ⟨some 47, .x (.mv (.t 12)), .none, false, []⟩,
   ⟨some 48, .x (.call 153 [.t 44, .t 45, .t 46, .t 47, .t 9] []), .none, false, []⟩,
   ⟨some 11, .x (.asg (.t 48)), .none, false, []⟩] false [9, 11]))
 (.skip) [9, 11]))
 (.seq (.reg [⟨some 49, .x (.load false 1 (.t 9)), .none, false, []⟩] false [11, 49])
 (.block 0 (.seq (.reg [⟨some 52, .x (.bin .eql (.t 49) (.k (.int .i64 0))), .none, false, []⟩,
   ⟨some 51, .x (.asg (.t 52)), .none, false, []⟩] false [11, 49, 51])
  (.cond (.t 51) (.seq (.reg [⟨some 53, .x (.mv (.t 11)), .none, false, []⟩,
    ⟨some 6, .x (.asg (.t 53)), .none, false, []⟩,
    ⟨some 7, .x (.asg (.k (.int .i64 1))), .none, false, []⟩] false [6, 7])
   (.ret))
  (.seq (.reg [⟨some 55, .x (.bin .eql (.t 49) (.k (.int .i64 12))), .none, false, []⟩,
    ⟨some 54, .x (.asg (.t 55)), .none, false, []⟩] false [11, 54])
   (.cond (.t 54) (.seq (.reg [⟨some 56, .x (.mv (.t 11)), .none, false, []⟩,
     ⟨some 6, .x (.asg (.t 56)), .none, false, []⟩,
     ⟨some 7, .x (.asg (.k (.int .i64 2))), .none, false, []⟩] false [6, 7])
    (.ret))
   (.seq (.reg [⟨some 50, .x (.mv (.t 11)), .none, false, []⟩,
     ⟨some 6, .x (.asg (.t 50)), .none, false, []⟩,
     ⟨some 7, .x (.asg (.k (.int .i64 0))), .none, false, []⟩] false [6, 7])
    (.ret)) [6, 7])) [6, 7])) [6, 7]))))))))⟩
def h142 : HF := ⟨3, [],
 .seq (.reg [⟨some 8, .x (.mv (.t 1)), .none, false, []⟩,
  ⟨some 6, .x (.asg (.t 8)), .none, false, []⟩] false [0, 2, 6])
 (.seq (.reg [⟨some 9, .x (.mv (.t 2)), .none, false, []⟩,
  ⟨some 10, .x (.bin .sub (.t 9) (.k (.int .i64 1))), .none, false, []⟩,
  ⟨some 7, .x (.asg (.t 10)), .none, false, []⟩] false [0, 6, 7])
 (.block 0 (.loop (.seq (.seq (.reg [⟨some 11, .x (.mv (.t 6)), .none, false, []⟩,
    ⟨some 12, .x (.mv (.t 7)), .none, false, []⟩,
    ⟨some 13, .x (.bin .lss (.t 11) (.t 12)), .none, false, []⟩] false [0, 6, 7, 13])
   (.cond (.t 13) (.skip)
   (.exit 0 []) [0, 6, 7]))
   (.block 1 (.seq (.reg [⟨some 14, .x (.mv (.t 0)), .none, false, []⟩,
     ⟨some 15, .x (.mv (.t 6)), .none, false, []⟩,
     ⟨some 16, .x (.mv (.t 0)), .none, false, []⟩,
     ⟨some 17, .x (.mv (.t 7)), .none, false, []⟩,
     ⟨some 18, .x (.mv (.t 0)), .none, false, []⟩,
     ⟨some 19, .x (.mv (.t 7)), .none, false, []⟩,
     ⟨some 20, .x (.iadr 1 .none (.t 18) (.t 19)), .none, false, []⟩,
     ⟨some 21, .x (.load false 1 (.t 20)), .none, false, []⟩,
     ⟨some 22, .x (.mv (.t 0)), .none, false, []⟩,
     ⟨some 23, .x (.mv (.t 6)), .none, false, []⟩,
     ⟨some 24, .x (.iadr 1 .none (.t 22) (.t 23)), .none, false, []⟩,
     ⟨some 25, .x (.load false 1 (.t 24)), .none, false, []⟩,
     ⟨some 26, .x (.iadr 1 .none (.t 14) (.t 15)), .none, false, []⟩,
     ⟨.none, .x (.store 1 (.t 26) (.t 21)), .none, true, []⟩,
     ⟨some 27, .x (.iadr 1 .none (.t 16) (.t 17)), .none, false, []⟩,
     ⟨.none, .x (.store 1 (.t 27) (.t 25)), .none, true, []⟩] true [0, 6, 7])
    (.seq (.reg [⟨some 28, .x (.mv (.t 6)), .none, false, []⟩,
     ⟨some 29, .x (.bin .add (.t 28) (.k (.int .i64 1))), .none, false, []⟩,
     ⟨some 6, .x (.asg (.t 29)), .none, false, []⟩] false [0, 6, 7])
    (.reg [⟨some 30, .x (.mv (.t 7)), .none, false, []⟩,
     ⟨some 31, .x (.bin .sub (.t 30) (.k (.int .i64 1))), .none, false, []⟩,
     ⟨some 7, .x (.asg (.t 31)), .none, false, []⟩] false [0, 6, 7]))) [0, 6, 7])) [0, 6, 7]) []))⟩
def h143 : HF := ⟨3, [.tmp 6],
 .seq (.reg [⟨some 6, .x (.asg (.k (.bool false))), .none, false, []⟩] false [0, 1, 2])
 (.seq (.reg [⟨some 11, .x (.mv (.t 1)), .none, false, []⟩,
  ⟨some 12, .x (.bin .add (.t 11) (.k (.int .i64 1))), .none, false, []⟩,
  ⟨some 7, .x (.asg (.t 12)), .none, false, []⟩] false [0, 1, 2, 7])
 (.seq (.seq (.reg [⟨some 8, .x (.asg (.k (.int .i64 0))), .none, false, []⟩] false [0, 1, 2, 7, 8])
 (.block 0 (.loop (.seq (.seq (.reg [⟨some 13, .x (.mv (.t 8)), .none, false, []⟩,
    ⟨some 14, .x (.bin .lss (.t 13) (.k (.int .i64 5))), .none, false, []⟩] false [0, 1, 2, 7, 8, 14])
   (.cond (.t 14) (.skip)
   (.exit 0 []) [0, 1, 2, 7, 8]))
   (.seq (.block 1 (.seq (.block 2 (.loop (.seq (.seq (.reg [⟨some 17, .x (.mv (.t 7)), .none, false, []⟩,
       ⟨some 18, .x (.mv (.t 2)), .none, false, []⟩,
       ⟨some 19, .x (.bin .lss (.t 17) (.t 18)), .none, false, []⟩,
       ⟨some 20, .x (.mv (.t 19)), .none, false, []⟩,
       ⟨some 21, .x (.mv (.t 0)), some (20, true), false, []⟩,
       ⟨some 22, .x (.mv (.t 7)), some (20, true), false, []⟩,
       ⟨some 23, .x (.iadr 1 .none (.t 21) (.t 22)), some (20, true), false, []⟩,
       ⟨some 24, .x (.load false 1 (.t 23)), some (20, true), false, []⟩,
       ⟨some 25, .x (.mv (.t 0)), some (20, true), false, []⟩,
       ⟨some 26, .x (.mv (.t 7)), some (20, true), false, []⟩,
       ⟨some 27, .x (.bin .sub (.t 26) (.k (.int .i64 1))), some (20, true), false, []⟩,
       ⟨some 28, .x (.iadr 1 .none (.t 25) (.t 27)), some (20, true), false, []⟩,
       ⟨some 29, .x (.load false 1 (.t 28)), some (20, true), false, []⟩,
       ⟨some 30, .x (.call 135 [.t 24, .t 29] []), some (20, true), true, []⟩,
       ⟨some 31, .x (.un .not (.t 30)), some (20, true), false, []⟩,
       ⟨some 32, .x (.pick (.t 20) (.t 31) (.k (.bool false))), .none, false, []⟩] true [0, 1, 2, 7, 8, 32])
      (.cond (.t 32) (.skip)
      (.exit 2 [0, 1, 2, 7, 8]) [0, 1, 2, 7, 8]))
      (.block 3 (.reg [⟨some 33, .x (.mv (.t 7)), .none, false, []⟩,
        ⟨some 34, .x (.bin .add (.t 33) (.k (.int .i64 1))), .none, false, []⟩,
        ⟨some 7, .x (.asg (.t 34)), .none, false, []⟩] false [0, 1, 2, 7, 8]) [0, 1, 2, 7, 8])) [0, 1, 2, 7, 8]) [0, 1, 2, 7, 8])
    (.seq (.seq (.reg [⟨some 35, .x (.mv (.t 7)), .none, false, []⟩,
     ⟨some 36, .x (.mv (.t 2)), .none, false, []⟩,
     ⟨some 37, .x (.bin .eql (.t 35) (.t 36)), .none, false, []⟩] false [0, 1, 2, 7, 8, 37])
    (.cond (.t 37) (.seq (.reg [⟨some 6, .x (.asg (.k (.bool true))), .none, false, []⟩] false [6])
     (.ret))
    (.skip) [0, 1, 2, 7, 8]))
    (.seq (.seq (.reg [⟨some 38, .x (.mv (.t 2)), .none, false, []⟩,
     ⟨some 39, .x (.mv (.t 1)), .none, false, []⟩,
     ⟨some 40, .x (.bin .sub (.t 38) (.t 39)), .none, false, []⟩,
     ⟨some 41, .x (.bin .lss (.t 40) (.k (.int .i64 50))), .none, false, []⟩] false [0, 1, 2, 7, 8, 41])
    (.cond (.t 41) (.seq (.reg [⟨some 6, .x (.asg (.k (.bool false))), .none, false, []⟩] false [6])
     (.ret))
    (.skip) [0, 1, 2, 7, 8]))
    (.seq (.reg [⟨some 42, .x (.mv (.t 0)), .none, false, []⟩,
     ⟨some 43, .x (.mv (.t 7)), .none, false, []⟩,
     ⟨some 44, .x (.mv (.t 0)), .none, false, []⟩,
     ⟨some 45, .x (.mv (.t 7)), .none, false, []⟩,
     ⟨some 46, .x (.bin .sub (.t 45) (.k (.int .i64 1))), .none, false, []⟩,
     ⟨some 47, .x (.mv (.t 0)), .none, false, []⟩,
     ⟨some 48, .x (.mv (.t 7)), .none, false, []⟩,
     ⟨some 49, .x (.bin .sub (.t 48) (.k (.int .i64 1))), .none, false, []⟩,
     ⟨some 50, .x (.iadr 1 .none (.t 47) (.t 49)), .none, false, []⟩,
     ⟨some 51, .x (.load false 1 (.t 50)), .none, false, []⟩,
     ⟨some 52, .x (.mv (.t 0)), .none, false, []⟩,
     ⟨some 53, .x (.mv (.t 7)), .none, false, []⟩,
     ⟨some 54, .x (.iadr 1 .none (.t 52) (.t 53)), .none, false, []⟩,
     ⟨some 55, .x (.load false 1 (.t 54)), .none, false, []⟩,
     ⟨some 56, .x (.iadr 1 .none (.t 42) (.t 43)), .none, false, []⟩,
     ⟨.none, .x (.store 1 (.t 56) (.t 51)), .none, true, []⟩,
     ⟨some 57, .x (.iadr 1 .none (.t 44) (.t 46)), .none, false, []⟩,
     ⟨.none, .x (.store 1 (.t 57) (.t 55)), .none, true, []⟩] true [0, 1, 2, 7, 8])
    (.seq (.seq (.reg [⟨some 58, .x (.mv (.t 7)), .none, false, []⟩,
     ⟨some 59, .x (.mv (.t 1)), .none, false, []⟩,
     ⟨some 60, .x (.bin .sub (.t 58) (.t 59)), .none, false, []⟩,
     ⟨some 61, .x (.bin .geq (.t 60) (.k (.int .i64 2))), .none, false, []⟩] false [0, 1, 2, 7, 8, 61])
    (.cond (.t 61) (.seq (.reg [⟨some 62, .x (.mv (.t 7)), .none, false, []⟩,
      ⟨some 63, .x (.bin .sub (.t 62) (.k (.int .i64 1))), .none, false, []⟩,
      ⟨some 9, .x (.asg (.t 63)), .none, false, []⟩] false [0, 1, 2, 7, 8, 9])
     (.block 4 (.loop (.seq (.seq (.reg [⟨some 64, .x (.mv (.t 9)), .none, false, []⟩,
        ⟨some 65, .x (.bin .geq (.t 64) (.k (.int .i64 1))), .none, false, []⟩] false [0, 1, 2, 7, 8, 9, 65])
       (.cond (.t 65) (.skip)
       (.exit 4 [0, 1, 2, 7, 8]) [0, 1, 2, 7, 8, 9]))
       (.seq (.block 5 (.seq (.seq (.reg [⟨some 68, .x (.mv (.t 0)), .none, false, []⟩,
         ⟨some 69, .x (.mv (.t 9)), .none, false, []⟩,
         ⟨some 70, .x (.iadr 1 .none (.t 68) (.t 69)), .none, false, []⟩,
         ⟨some 71, .x (.load false 1 (.t 70)), .none, false, []⟩,
         ⟨some 72, .x (.mv (.t 0)), .none, false, []⟩,
         ⟨some 73, .x (.mv (.t 9)), .none, false, []⟩,
         ⟨some 74, .x (.bin .sub (.t 73) (.k (.int .i64 1))), .none, false, []⟩,
         ⟨some 75, .x (.iadr 1 .none (.t 72) (.t 74)), .none, false, []⟩,
         ⟨some 76, .x (.load false 1 (.t 75)), .none, false, []⟩,
         ⟨some 77, .x (.call 135 [.t 71, .t 76] []), .none, true, []⟩,
         ⟨some 78, .x (.un .not (.t 77)), .none, false, []⟩] true [0, 1, 2, 7, 8, 9, 78])
        (.cond (.t 78) (.exit 4 [0, 1, 2, 7, 8])
        (.skip) [0, 1, 2, 7, 8, 9]))
        (.reg [⟨some 79, .x (.mv (.t 0)), .none, false, []⟩,
         ⟨some 80, .x (.mv (.t 9)), .none, false, []⟩,
         ⟨some 81, .x (.mv (.t 0)), .none, false, []⟩,
         ⟨some 82, .x (.mv (.t 9)), .none, false, []⟩,
         ⟨some 83, .x (.bin .sub (.t 82) (.k (.int .i64 1))), .none, false, []⟩,
         ⟨some 84, .x (.mv (.t 0)), .none, false, []⟩,
         ⟨some 85, .x (.mv (.t 9)), .none, false, []⟩,
         ⟨some 86, .x (.bin .sub (.t 85) (.k (.int .i64 1))), .none, false, []⟩,
         ⟨some 87, .x (.iadr 1 .none (.t 84) (.t 86)), .none, false, []⟩,
         ⟨some 88, .x (.load false 1 (.t 87)), .none, false, []⟩,
         ⟨some 89, .x (.mv (.t 0)), .none, false, []⟩,
         ⟨some 90, .x (.mv (.t 9)), .none, false, []⟩,
         ⟨some 91, .x (.iadr 1 .none (.t 89) (.t 90)), .none, false, []⟩,
         ⟨some 92, .x (.load false 1 (.t 91)), .none, false, []⟩,
         ⟨some 93, .x (.iadr 1 .none (.t 79) (.t 80)), .none, false, []⟩,
         ⟨.none, .x (.store 1 (.t 93) (.t 88)), .none, true, []⟩,
         ⟨some 94, .x (.iadr 1 .none (.t 81) (.t 83)), .none, false, []⟩,
         ⟨.none, .x (.store 1 (.t 94) (.t 92)), .none, true, []⟩] true [0, 1, 2, 7, 8, 9])) [0, 1, 2, 7, 8, 9])
       (.reg [⟨some 66, .x (.mv (.t 9)), .none, false, []⟩,
        ⟨some 67, .x (.bin .sub (.t 66) (.k (.int .i64 1))), .none, false, []⟩,
        ⟨some 9, .x (.asg (.t 67)), .none, false, []⟩] false [0, 1, 2, 7, 8, 9]))) [0, 1, 2, 7, 8, 9]) [0, 1, 2, 7, 8]))
    (.skip) [0, 1, 2, 7, 8]))
    (.seq (.reg [⟨some 95, .x (.mv (.t 2)), .none, false, []⟩,
     ⟨some 96, .x (.mv (.t 7)), .none, false, []⟩,
     ⟨some 97, .x (.bin .sub (.t 95) (.t 96)), .none, false, []⟩,
     ⟨some 98, .x (.bin .geq (.t 97) (.k (.int .i64 2))), .none, false, []⟩] false [0, 1, 2, 7, 8, 98])
    (.cond (.t 98) (.seq (.reg [⟨some 99, .x (.mv (.t 7)), .none, false, []⟩,
      ⟨some 100, .x (.bin .add (.t 99) (.k (.int .i64 1))), .none, false, []⟩,
      ⟨some 10, .x (.asg (.t 100)), .none, false, []⟩] false [0, 1, 2, 7, 8, 10])
     (.block 6 (.loop (.seq (.seq (.reg [⟨some 101, .x (.mv (.t 10)), .none, false, []⟩,
        ⟨some 102, .x (.mv (.t 2)), .none, false, []⟩,
        ⟨some 103, .x (.bin .lss (.t 101) (.t 102)), .none, false, []⟩] false [0, 1, 2, 7, 8, 10, 103])
       (.cond (.t 103) (.skip)
       (.exit 6 [0, 1, 2, 7, 8]) [0, 1, 2, 7, 8, 10]))
       (.seq (.block 7 (.seq (.seq (.reg [⟨some 106, .x (.mv (.t 0)), .none, false, []⟩,
         ⟨some 107, .x (.mv (.t 10)), .none, false, []⟩,
         ⟨some 108, .x (.iadr 1 .none (.t 106) (.t 107)), .none, false, []⟩,
         ⟨some 109, .x (.load false 1 (.t 108)), .none, false, []⟩,
         ⟨some 110, .x (.mv (.t 0)), .none, false, []⟩,
         ⟨some 111, .x (.mv (.t 10)), .none, false, []⟩,
         ⟨some 112, .x (.bin .sub (.t 111) (.k (.int .i64 1))), .none, false, []⟩,
         ⟨some 113, .x (.iadr 1 .none (.t 110) (.t 112)), .none, false, []⟩,
         ⟨some 114, .x (.load false 1 (.t 113)), .none, false, []⟩,
         ⟨some 115, .x (.call 135 [.t 109, .t 114] []), .none, true, []⟩,
         ⟨some 116, .x (.un .not (.t 115)), .none, false, []⟩] true [0, 1, 2, 7, 8, 10, 116])
        (.cond (.t 116) (.exit 6 [0, 1, 2, 7, 8])
        (.skip) [0, 1, 2, 7, 8, 10]))
        (.reg [⟨some 117, .x (.mv (.t 0)), .none, false, []⟩,
         ⟨some 118, .x (.mv (.t 10)), .none, false, []⟩,
         ⟨some 119, .x (.mv (.t 0)), .none, false, []⟩,
         ⟨some 120, .x (.mv (.t 10)), .none, false, []⟩,
         ⟨some 121, .x (.bin .sub (.t 120) (.k (.int .i64 1))), .none, false, []⟩,
         ⟨some 122, .x (.mv (.t 0)), .none, false, []⟩,
         ⟨some 123, .x (.mv (.t 10)), .none, false, []⟩,
         ⟨some 124, .x (.bin .sub (.t 123) (.k (.int .i64 1))), .none, false, []⟩,
         ⟨some 125, .x (.iadr 1 .none (.t 122) (.t 124)), .none, false, []⟩,
         ⟨some 126, .x (.load false 1 (.t 125)), .none, false, []⟩,
         ⟨some 127, .x (.mv (.t 0)), .none, false, []⟩,
         ⟨some 128, .x (.mv (.t 10)), .none, false, []⟩,
         ⟨some 129, .x (.iadr 1 .none (.t 127) (.t 128)), .none, false, []⟩,
         ⟨some 130, .x (.load false 1 (.t 129)), .none, false, []⟩,
         ⟨some 131, .x (.iadr 1 .none (.t 117) (.t 118)), .none, false, []⟩,
         ⟨.none, .x (.store 1 (.t 131) (.t 126)), .none, true, []⟩,
         ⟨some 132, .x (.iadr 1 .none (.t 119) (.t 121)), .none, false, []⟩,
         ⟨.none, .x (.store 1 (.t 132) (.t 130)), .none, true, []⟩] true [0, 1, 2, 7, 8, 10])) [0, 1, 2, 7, 8, 10])
       (.reg [⟨some 104, .x (.mv (.t 10)), .none, false, []⟩,
        ⟨some 105, .x (.bin .add (.t 104) (.k (.int .i64 1))), .none, false, []⟩,
        ⟨some 10, .x (.asg (.t 105)), .none, false, []⟩] false [0, 1, 2, 7, 8, 10]))) [0, 1, 2, 7, 8, 10]) [0, 1, 2, 7, 8]))
    (.skip) [0, 1, 2, 7, 8]))))))) [0, 1, 2, 7, 8])
   (.reg [⟨some 15, .x (.mv (.t 8)), .none, false, []⟩,
    ⟨some 16, .x (.bin .add (.t 15) (.k (.int .i64 1))), .none, false, []⟩,
    ⟨some 8, .x (.asg (.t 16)), .none, false, []⟩] false [0, 1, 2, 7, 8]))) [0, 1, 2, 7, 8]) []))
 (.seq (.reg [⟨some 6, .x (.asg (.k (.bool false))), .none, false, []⟩] false [6])
 (.ret))))⟩
def h144 : HF := ⟨4, [.tmp 8],
 .seq (.reg [⟨some 8, .x (.asg (.k (.int .i64 0))), .none, false, []⟩] false [0, 1, 2, 3])
 (.seq (.reg [⟨some 11, .x (.mv (.t 0)), .none, false, []⟩,
  ⟨some 12, .x (.mv (.t 1)), .none, false, []⟩,
  ⟨some 13, .x (.mv (.t 0)), .none, false, []⟩,
  ⟨some 14, .x (.mv (.t 3)), .none, false, []⟩,
  ⟨some 15, .x (.mv (.t 0)), .none, false, []⟩,
  ⟨some 16, .x (.mv (.t 3)), .none, false, []⟩,
  ⟨some 17, .x (.iadr 1 .none (.t 15) (.t 16)), .none, false, []⟩,
  ⟨some 18, .x (.load false 1 (.t 17)), .none, false, []⟩,
  ⟨some 19, .x (.mv (.t 0)), .none, false, []⟩,
  ⟨some 20, .x (.mv (.t 1)), .none, false, []⟩,
  ⟨some 21, .x (.iadr 1 .none (.t 19) (.t 20)), .none, false, []⟩,
  ⟨some 22, .x (.load false 1 (.t 21)), .none, false, []⟩,
  ⟨some 23, .x (.iadr 1 .none (.t 11) (.t 12)), .none, false, []⟩,
  ⟨.none, .x (.store 1 (.t 23) (.t 18)), .none, true, []⟩,
  ⟨some 24, .x (.iadr 1 .none (.t 13) (.t 14)), .none, false, []⟩,
  ⟨.none, .x (.store 1 (.t 24) (.t 22)), .none, true, []⟩] true [0, 1, 2])
 (.seq (.reg [⟨some 25, .x (.mv (.t 1)), .none, false, []⟩,
  ⟨some 26, .x (.bin .add (.t 25) (.k (.int .i64 1))), .none, false, []⟩,
  ⟨some 27, .x (.mv (.t 2)), .none, false, []⟩,
  ⟨some 28, .x (.bin .sub (.t 27) (.k (.int .i64 1))), .none, false, []⟩,
  ⟨some 9, .x (.asg (.t 26)), .none, false, []⟩,
  ⟨some 10, .x (.asg (.t 28)), .none, false, []⟩] false [0, 1, 9, 10])
 (.seq (.block 0 (.loop (.block 1 (.seq (.block 2 (.loop (.seq (.seq (.reg [⟨some 29, .x (.mv (.t 9)), .none, false, []⟩,
       ⟨some 30, .x (.mv (.t 10)), .none, false, []⟩,
       ⟨some 31, .x (.bin .leq (.t 29) (.t 30)), .none, false, []⟩,
       ⟨some 32, .x (.mv (.t 31)), .none, false, []⟩,
       ⟨some 33, .x (.mv (.t 0)), some (32, true), false, []⟩,
       ⟨some 34, .x (.mv (.t 1)), some (32, true), false, []⟩,
       ⟨some 35, .x (.iadr 1 .none (.t 33) (.t 34)), some (32, true), false, []⟩,
       ⟨some 36, .x (.load false 1 (.t 35)), some (32, true), false, []⟩,
       ⟨some 37, .x (.mv (.t 0)), some (32, true), false, []⟩,
       ⟨some 38, .x (.mv (.t 9)), some (32, true), false, []⟩,
       ⟨some 39, .x (.iadr 1 .none (.t 37) (.t 38)), some (32, true), false, []⟩,
       ⟨some 40, .x (.load false 1 (.t 39)), some (32, true), false, []⟩,
       ⟨some 41, .x (.call 135 [.t 36, .t 40] []), some (32, true), true, []⟩,
       ⟨some 42, .x (.un .not (.t 41)), some (32, true), false, []⟩,
       ⟨some 43, .x (.pick (.t 32) (.t 42) (.k (.bool false))), .none, false, []⟩] true [0, 1, 9, 10, 43])
      (.cond (.t 43) (.skip)
      (.exit 2 [0, 1, 9, 10]) [0, 1, 9, 10]))
      (.block 3 (.reg [⟨some 44, .x (.mv (.t 9)), .none, false, []⟩,
        ⟨some 45, .x (.bin .add (.t 44) (.k (.int .i64 1))), .none, false, []⟩,
        ⟨some 9, .x (.asg (.t 45)), .none, false, []⟩] false [0, 1, 9, 10]) [0, 1, 9, 10])) [0, 1, 9, 10]) [0, 1, 9, 10])
    (.seq (.block 4 (.loop (.seq (.seq (.reg [⟨some 46, .x (.mv (.t 9)), .none, false, []⟩,
       ⟨some 47, .x (.mv (.t 10)), .none, false, []⟩,
       ⟨some 48, .x (.bin .leq (.t 46) (.t 47)), .none, false, []⟩,
       ⟨some 49, .x (.mv (.t 48)), .none, false, []⟩,
       ⟨some 50, .x (.mv (.t 0)), some (49, true), false, []⟩,
       ⟨some 51, .x (.mv (.t 1)), some (49, true), false, []⟩,
       ⟨some 52, .x (.iadr 1 .none (.t 50) (.t 51)), some (49, true), false, []⟩,
       ⟨some 53, .x (.load false 1 (.t 52)), some (49, true), false, []⟩,
       ⟨some 54, .x (.mv (.t 0)), some (49, true), false, []⟩,
       ⟨some 55, .x (.mv (.t 10)), some (49, true), false, []⟩,
       ⟨some 56, .x (.iadr 1 .none (.t 54) (.t 55)), some (49, true), false, []⟩,
       ⟨some 57, .x (.load false 1 (.t 56)), some (49, true), false, []⟩,
       ⟨some 58, .x (.call 135 [.t 53, .t 57] []), some (49, true), true, []⟩,
       ⟨some 59, .x (.pick (.t 49) (.t 58) (.k (.bool false))), .none, false, []⟩] true [0, 1, 9, 10, 59])
      (.cond (.t 59) (.skip)
      (.exit 4 [0, 1, 9, 10]) [0, 1, 9, 10]))
      (.block 5 (.reg [⟨some 60, .x (.mv (.t 10)), .none, false, []⟩,
        ⟨some 61, .x (.bin .sub (.t 60) (.k (.int .i64 1))), .none, false, []⟩,
        ⟨some 10, .x (.asg (.t 61)), .none, false, []⟩] false [0, 1, 9, 10]) [0, 1, 9, 10])) [0, 1, 9, 10]) [0, 1, 9, 10])
    (.seq (.seq (.reg [⟨some 62, .x (.mv (.t 9)), .none, false, []⟩,
     ⟨some 63, .x (.mv (.t 10)), .none, false, []⟩,
     ⟨some 64, .x (.bin .gtr (.t 62) (.t 63)), .none, false, []⟩] false [0, 1, 9, 10, 64])
    (.cond (.t 64) (.exit 0 [9])
    (.skip) [0, 1, 9, 10]))
    (.seq (.reg [⟨some 65, .x (.mv (.t 0)), .none, false, []⟩,
     ⟨some 66, .x (.mv (.t 9)), .none, false, []⟩,
     ⟨some 67, .x (.mv (.t 0)), .none, false, []⟩,
     ⟨some 68, .x (.mv (.t 10)), .none, false, []⟩,
     ⟨some 69, .x (.mv (.t 0)), .none, false, []⟩,
     ⟨some 70, .x (.mv (.t 10)), .none, false, []⟩,
     ⟨some 71, .x (.iadr 1 .none (.t 69) (.t 70)), .none, false, []⟩,
     ⟨some 72, .x (.load false 1 (.t 71)), .none, false, []⟩,
     ⟨some 73, .x (.mv (.t 0)), .none, false, []⟩,
     ⟨some 74, .x (.mv (.t 9)), .none, false, []⟩,
     ⟨some 75, .x (.iadr 1 .none (.t 73) (.t 74)), .none, false, []⟩,
     ⟨some 76, .x (.load false 1 (.t 75)), .none, false, []⟩,
     ⟨some 77, .x (.iadr 1 .none (.t 65) (.t 66)), .none, false, []⟩,
     ⟨.none, .x (.store 1 (.t 77) (.t 72)), .none, true, []⟩,
     ⟨some 78, .x (.iadr 1 .none (.t 67) (.t 68)), .none, false, []⟩,
     ⟨.none, .x (.store 1 (.t 78) (.t 76)), .none, true, []⟩] true [0, 1, 9, 10])
    (.seq (.reg [⟨some 79, .x (.mv (.t 9)), .none, false, []⟩,
     ⟨some 80, .x (.bin .add (.t 79) (.k (.int .i64 1))), .none, false, []⟩,
     ⟨some 9, .x (.asg (.t 80)), .none, false, []⟩] false [0, 1, 9, 10])
    (.reg [⟨some 81, .x (.mv (.t 10)), .none, false, []⟩,
     ⟨some 82, .x (.bin .sub (.t 81) (.k (.int .i64 1))), .none, false, []⟩,
     ⟨some 10, .x (.asg (.t 82)), .none, false, []⟩] false [0, 1, 9, 10])))))) [0, 1, 9, 10]) [0, 1, 9, 10]) [9])
 (.seq (.reg [⟨some 83, .x (.mv (.t 9)), .none, false, []⟩,
  ⟨some 8, .x (.asg (.t 83)), .none, false, []⟩] false [8])
 (.ret)))))⟩
def h145 : HF := ⟨4, [.tmp 8, .tmp 9],
 .seq (.reg [⟨some 8, .x (.asg (.k (.int .i64 0))), .none, false, []⟩,
  ⟨some 9, .x (.asg (.k (.bool false))), .none, false, []⟩] false [0, 1, 2, 3])
 (.seq (.reg [⟨some 12, .x (.mv (.t 0)), .none, false, []⟩,
  ⟨some 13, .x (.mv (.t 1)), .none, false, []⟩,
  ⟨some 14, .x (.mv (.t 0)), .none, false, []⟩,
  ⟨some 15, .x (.mv (.t 3)), .none, false, []⟩,
  ⟨some 16, .x (.mv (.t 0)), .none, false, []⟩,
  ⟨some 17, .x (.mv (.t 3)), .none, false, []⟩,
  ⟨some 18, .x (.iadr 1 .none (.t 16) (.t 17)), .none, false, []⟩,
  ⟨some 19, .x (.load false 1 (.t 18)), .none, false, []⟩,
  ⟨some 20, .x (.mv (.t 0)), .none, false, []⟩,
  ⟨some 21, .x (.mv (.t 1)), .none, false, []⟩,
  ⟨some 22, .x (.iadr 1 .none (.t 20) (.t 21)), .none, false, []⟩,
  ⟨some 23, .x (.load false 1 (.t 22)), .none, false, []⟩,
  ⟨some 24, .x (.iadr 1 .none (.t 12) (.t 13)), .none, false, []⟩,
  ⟨.none, .x (.store 1 (.t 24) (.t 19)), .none, true, []⟩,
  ⟨some 25, .x (.iadr 1 .none (.t 14) (.t 15)), .none, false, []⟩,
  ⟨.none, .x (.store 1 (.t 25) (.t 23)), .none, true, []⟩] true [0, 1, 2])
 (.seq (.reg [⟨some 26, .x (.mv (.t 1)), .none, false, []⟩,
  ⟨some 27, .x (.bin .add (.t 26) (.k (.int .i64 1))), .none, false, []⟩,
  ⟨some 28, .x (.mv (.t 2)), .none, false, []⟩,
  ⟨some 29, .x (.bin .sub (.t 28) (.k (.int .i64 1))), .none, false, []⟩,
  ⟨some 10, .x (.asg (.t 27)), .none, false, []⟩,
  ⟨some 11, .x (.asg (.t 29)), .none, false, []⟩] false [0, 1, 10, 11])
 (.seq (.block 0 (.loop (.seq (.seq (.reg [⟨some 30, .x (.mv (.t 10)), .none, false, []⟩,
    ⟨some 31, .x (.mv (.t 11)), .none, false, []⟩,
    ⟨some 32, .x (.bin .leq (.t 30) (.t 31)), .none, false, []⟩,
    ⟨some 33, .x (.mv (.t 32)), .none, false, []⟩,
    ⟨some 34, .x (.mv (.t 0)), some (33, true), false, []⟩,
    ⟨some 35, .x (.mv (.t 10)), some (33, true), false, []⟩,
    ⟨some 36, .x (.iadr 1 .none (.t 34) (.t 35)), some (33, true), false, []⟩,
    ⟨some 37, .x (.load false 1 (.t 36)), some (33, true), false, []⟩,
    ⟨some 38, .x (.mv (.t 0)), some (33, true), false, []⟩,
    ⟨some 39, .x (.mv (.t 1)), some (33, true), false, []⟩,
    ⟨some 40, .x (.iadr 1 .none (.t 38) (.t 39)), some (33, true), false, []⟩,
    ⟨some 41, .x (.load false 1 (.t 40)), some (33, true), false, []⟩,
    ⟨some 42, .x (.call 135 [.t 37, .t 41] []), some (33, true), true, []⟩,
    ⟨some 43, .x (.pick (.t 33) (.t 42) (.k (.bool false))), .none, false, []⟩] true [0, 1, 10, 11, 43])
   (.cond (.t 43) (.skip)
   (.exit 0 [0, 1, 10, 11]) [0, 1, 10, 11]))
   (.block 1 (.reg [⟨some 44, .x (.mv (.t 10)), .none, false, []⟩,
     ⟨some 45, .x (.bin .add (.t 44) (.k (.int .i64 1))), .none, false, []⟩,
     ⟨some 10, .x (.asg (.t 45)), .none, false, []⟩] false [0, 1, 10, 11]) [0, 1, 10, 11])) [0, 1, 10, 11]) [0, 1, 10, 11])
 (.seq (.block 2 (.loop (.seq (.seq (.reg [⟨some 46, .x (.mv (.t 10)), .none, false, []⟩,
    ⟨some 47, .x (.mv (.t 11)), .none, false, []⟩,
    ⟨some 48, .x (.bin .leq (.t 46) (.t 47)), .none, false, []⟩,
    ⟨some 49, .x (.mv (.t 48)), .none, false, []⟩,
    ⟨some 50, .x (.mv (.t 0)), some (49, true), false, []⟩,
    ⟨some 51, .x (.mv (.t 11)), some (49, true), false, []⟩,
    ⟨some 52, .x (.iadr 1 .none (.t 50) (.t 51)), some (49, true), false, []⟩,
    ⟨some 53, .x (.load false 1 (.t 52)), some (49, true), false, []⟩,
    ⟨some 54, .x (.mv (.t 0)), some (49, true), false, []⟩,
    ⟨some 55, .x (.mv (.t 1)), some (49, true), false, []⟩,
    ⟨some 56, .x (.iadr 1 .none (.t 54) (.t 55)), some (49, true), false, []⟩,
    ⟨some 57, .x (.load false 1 (.t 56)), some (49, true), false, []⟩,
    ⟨some 58, .x (.call 135 [.t 53, .t 57] []), some (49, true), true, []⟩,
    ⟨some 59, .x (.un .not (.t 58)), some (49, true), false, []⟩,
    ⟨some 60, .x (.pick (.t 49) (.t 59) (.k (.bool false))), .none, false, []⟩] true [0, 1, 10, 11, 60])
   (.cond (.t 60) (.skip)
   (.exit 2 [0, 1, 10, 11]) [0, 1, 10, 11]))
   (.block 3 (.reg [⟨some 61, .x (.mv (.t 11)), .none, false, []⟩,
     ⟨some 62, .x (.bin .sub (.t 61) (.k (.int .i64 1))), .none, false, []⟩,
     ⟨some 11, .x (.asg (.t 62)), .none, false, []⟩] false [0, 1, 10, 11]) [0, 1, 10, 11])) [0, 1, 10, 11]) [0, 1, 10, 11])
 (.seq (.seq (.reg [⟨some 63, .x (.mv (.t 10)), .none, false, []⟩,
  ⟨some 64, .x (.mv (.t 11)), .none, false, []⟩,
  ⟨some 65, .x (.bin .gtr (.t 63) (.t 64)), .none, false, []⟩] false [0, 1, 10, 11, 65])
 (.cond (.t 65) (.seq (.reg [⟨some 66, .x (.mv (.t 0)), .none, false, []⟩,
   ⟨some 67, .x (.mv (.t 11)), .none, false, []⟩,
   ⟨some 68, .x (.mv (.t 0)), .none, false, []⟩,
   ⟨some 69, .x (.mv (.t 1)), .none, false, []⟩,
   ⟨some 70, .x (.mv (.t 0)), .none, false, []⟩,
   ⟨some 71, .x (.mv (.t 1)), .none, false, []⟩,
   ⟨some 72, .x (.iadr 1 .none (.t 70) (.t 71)), .none, false, []⟩,
   ⟨some 73, .x (.load false 1 (.t 72)), .none, false, []⟩,
   ⟨some 74, .x (.mv (.t 0)), .none, false, []⟩,
   ⟨some 75, .x (.mv (.t 11)), .none, false, []⟩,
   ⟨some 76, .x (.iadr 1 .none (.t 74) (.t 75)), .none, false, []⟩,
   ⟨some 77, .x (.load false 1 (.t 76)), .none, false, []⟩,
   ⟨some 78, .x (.iadr 1 .none (.t 66) (.t 67)), .none, false, []⟩,
   ⟨.none, .x (.store 1 (.t 78) (.t 73)), .none, true, []⟩,
   ⟨some 79, .x (.iadr 1 .none (.t 68) (.t 69)), .none, false, []⟩,
   ⟨.none, .x (.store 1 (.t 79) (.t 77)), .none, true, []⟩] true [11])
  (.seq (.reg [⟨some 80, .x (.mv (.t 11)), .none, false, []⟩,
   ⟨some 8, .x (.asg (.t 80)), .none, false, []⟩,
   ⟨some 9, .x (.asg (.k (.bool true))), .none, false, []⟩] false [8, 9])
  (.ret)))
 (.skip) [0, 1, 10, 11]))
 (.seq (.reg [⟨some 81, .x (.mv (.t 0)), .none, false, []⟩,
  ⟨some 82, .x (.mv (.t 10)), .none, false, []⟩,
  ⟨some 83, .x (.mv (.t 0)), .none, false, []⟩,
  ⟨some 84, .x (.mv (.t 11)), .none, false, []⟩,
  ⟨some 85, .x (.mv (.t 0)), .none, false, []⟩,
  ⟨some 86, .x (.mv (.t 11)), .none, false, []⟩,
  ⟨some 87, .x (.iadr 1 .none (.t 85) (.t 86)), .none, false, []⟩,
  ⟨some 88, .x (.load false 1 (.t 87)), .none, false, []⟩,
  ⟨some 89, .x (.mv (.t 0)), .none, false, []⟩,
  ⟨some 90, .x (.mv (.t 10)), .none, false, []⟩,
  ⟨some 91, .x (.iadr 1 .none (.t 89) (.t 90)), .none, false, []⟩,
  ⟨some 92, .x (.load false 1 (.t 91)), .none, false, []⟩,
  ⟨some 93, .x (.iadr 1 .none (.t 81) (.t 82)), .none, false, []⟩,
  ⟨.none, .x (.store 1 (.t 93) (.t 88)), .none, true, []⟩,
  ⟨some 94, .x (.iadr 1 .none (.t 83) (.t 84)), .none, false, []⟩,
  ⟨.none, .x (.store 1 (.t 94) (.t 92)), .none, true, []⟩] true [0, 1, 10, 11])
 (.seq (.reg [⟨some 95, .x (.mv (.t 10)), .none, false, []⟩,
  ⟨some 96, .x (.bin .add (.t 95) (.k (.int .i64 1))), .none, false, []⟩,
  ⟨some 10, .x (.asg (.t 96)), .none, false, []⟩] false [0, 1, 10, 11])
 (.seq (.reg [⟨some 97, .x (.mv (.t 11)), .none, false, []⟩,
  ⟨some 98, .x (.bin .sub (.t 97) (.k (.int .i64 1))), .none, false, []⟩,
  ⟨some 11, .x (.asg (.t 98)), .none, false, []⟩] false [0, 1, 10, 11])
 (.seq (.block 4 (.loop (.block 5 (.seq (.block 6 (.loop (.seq (.seq (.reg [⟨some 99, .x (.mv (.t 10)), .none, false, []⟩,
       ⟨some 100, .x (.mv (.t 11)), .none, false, []⟩,
       ⟨some 101, .x (.bin .leq (.t 99) (.t 100)), .none, false, []⟩,
       ⟨some 102, .x (.mv (.t 101)), .none, false, []⟩,
       ⟨some 103, .x (.mv (.t 0)), some (102, true), false, []⟩,
       ⟨some 104, .x (.mv (.t 10)), some (102, true), false, []⟩,
       ⟨some 105, .x (.iadr 1 .none (.t 103) (.t 104)), some (102, true), false, []⟩,
       ⟨some 106, .x (.load false 1 (.t 105)), some (102, true), false, []⟩,
       ⟨some 107, .x (.mv (.t 0)), some (102, true), false, []⟩,
       ⟨some 108, .x (.mv (.t 1)), some (102, true), false, []⟩,
       ⟨some 109, .x (.iadr 1 .none (.t 107) (.t 108)), some (102, true), false, []⟩,
       ⟨some 110, .x (.load false 1 (.t 109)), some (102, true), false, []⟩,
       ⟨some 111, .x (.call 135 [.t 106, .t 110] []), some (102, true), true, []⟩,
       ⟨some 112, .x (.pick (.t 102) (.t 111) (.k (.bool false))), .none, false, []⟩] true [0, 1, 10, 11, 112])
      (.cond (.t 112) (.skip)
      (.exit 6 [0, 1, 10, 11]) [0, 1, 10, 11]))
      (.block 7 (.reg [⟨some 113, .x (.mv (.t 10)), .none, false, []⟩,
        ⟨some 114, .x (.bin .add (.t 113) (.k (.int .i64 1))), .none, false, []⟩,
        ⟨some 10, .x (.asg (.t 114)), .none, false, []⟩] false [0, 1, 10, 11]) [0, 1, 10, 11])) [0, 1, 10, 11]) [0, 1, 10, 11])
    (.seq (.block 8 (.loop (.seq (.seq (.reg [⟨some 115, .x (.mv (.t 10)), .none, false, []⟩,
       ⟨some 116, .x (.mv (.t 11)), .none, false, []⟩,
       ⟨some 117, .x (.bin .leq (.t 115) (.t 116)), .none, false, []⟩,
       ⟨some 118, .x (.mv (.t 117)), .none, false, []⟩,
       ⟨some 119, .x (.mv (.t 0)), some (118, true), false, []⟩,
       ⟨some 120, .x (.mv (.t 11)), some (118, true), false, []⟩,
       ⟨some 121, .x (.iadr 1 .none (.t 119) (.t 120)), some (118, true), false, []⟩,
       ⟨some 122, .x (.load false 1 (.t 121)), some (118, true), false, []⟩,
       ⟨some 123, .x (.mv (.t 0)), some (118, true), false, []⟩,
       ⟨some 124, .x (.mv (.t 1)), some (118, true), false, []⟩,
       ⟨some 125, .x (.iadr 1 .none (.t 123) (.t 124)), some (118, true), false, []⟩,
       ⟨some 126, .x (.load false 1 (.t 125)), some (118, true), false, []⟩,
       ⟨some 127, .x (.call 135 [.t 122, .t 126] []), some (118, true), true, []⟩,
       ⟨some 128, .x (.un .not (.t 127)), some (118, true), false, []⟩,
       ⟨some 129, .x (.pick (.t 118) (.t 128) (.k (.bool false))), .none, false, []⟩] true [0, 1, 10, 11, 129])
      (.cond (.t 129) (.skip)
      (.exit 8 [0, 1, 10, 11]) [0, 1, 10, 11]))
      (.block 9 (.reg [⟨some 130, .x (.mv (.t 11)), .none, false, []⟩,
        ⟨some 131, .x (.bin .sub (.t 130) (.k (.int .i64 1))), .none, false, []⟩,
        ⟨some 11, .x (.asg (.t 131)), .none, false, []⟩] false [0, 1, 10, 11]) [0, 1, 10, 11])) [0, 1, 10, 11]) [0, 1, 10, 11])
    (.seq (.seq (.reg [⟨some 132, .x (.mv (.t 10)), .none, false, []⟩,
     ⟨some 133, .x (.mv (.t 11)), .none, false, []⟩,
     ⟨some 134, .x (.bin .gtr (.t 132) (.t 133)), .none, false, []⟩] false [0, 1, 10, 11, 134])
    (.cond (.t 134) (.exit 4 [0, 1, 11])
    (.skip) [0, 1, 10, 11]))
    (.seq (.reg [⟨some 135, .x (.mv (.t 0)), .none, false, []⟩,
     ⟨some 136, .x (.mv (.t 10)), .none, false, []⟩,
     ⟨some 137, .x (.mv (.t 0)), .none, false, []⟩,
     ⟨some 138, .x (.mv (.t 11)), .none, false, []⟩,
     ⟨some 139, .x (.mv (.t 0)), .none, false, []⟩,
     ⟨some 140, .x (.mv (.t 11)), .none, false, []⟩,
     ⟨some 141, .x (.iadr 1 .none (.t 139) (.t 140)), .none, false, []⟩,
     ⟨some 142, .x (.load false 1 (.t 141)), .none, false, []⟩,
     ⟨some 143, .x (.mv (.t 0)), .none, false, []⟩,
     ⟨some 144, .x (.mv (.t 10)), .none, false, []⟩,
     ⟨some 145, .x (.iadr 1 .none (.t 143) (.t 144)), .none, false, []⟩,
     ⟨some 146, .x (.load false 1 (.t 145)), .none, false, []⟩,
     ⟨some 147, .x (.iadr 1 .none (.t 135) (.t 136)), .none, false, []⟩,
     ⟨.none, .x (.store 1 (.t 147) (.t 142)), .none, true, []⟩,
     ⟨some 148, .x (.iadr 1 .none (.t 137) (.t 138)), .none, false, []⟩,
     ⟨.none, .x (.store 1 (.t 148) (.t 146)), .none, true, []⟩] true [0, 1, 10, 11])
    (.seq (.reg [⟨some 149, .x (.mv (.t 10)), .none, false, []⟩,
     ⟨some 150, .x (.bin .add (.t 149) (.k (.int .i64 1))), .none, false, []⟩,
     ⟨some 10, .x (.asg (.t 150)), .none, false, []⟩] false [0, 1, 10, 11])
    (.reg [⟨some 151, .x (.mv (.t 11)), .none, false, []⟩,
     ⟨some 152, .x (.bin .sub (.t 151) (.k (.int .i64 1))), .none, false, []⟩,
     ⟨some 11, .x (.asg (.t 152)), .none, false, []⟩] false [0, 1, 10, 11])))))) [0, 1, 10, 11]) [0, 1, 10, 11]) [0, 1, 11])
 (.seq (.reg [⟨some 153, .x (.mv (.t 0)), .none, false, []⟩,
  ⟨some 154, .x (.mv (.t 11)), .none, false, []⟩,
  ⟨some 155, .x (.mv (.t 0)), .none, false, []⟩,
  ⟨some 156, .x (.mv (.t 1)), .none, false, []⟩,
  ⟨some 157, .x (.mv (.t 0)), .none, false, []⟩,
  ⟨some 158, .x (.mv (.t 1)), .none, false, []⟩,
  ⟨some 159, .x (.iadr 1 .none (.t 157) (.t 158)), .none, false, []⟩,
  ⟨some 160, .x (.load false 1 (.t 159)), .none, false, []⟩,
  ⟨some 161, .x (.mv (.t 0)), .none, false, []⟩,
  ⟨some 162, .x (.mv (.t 11)), .none, false, []⟩,
  ⟨some 163, .x (.iadr 1 .none (.t 161) (.t 162)), .none, false, []⟩,
  ⟨some 164, .x (.load false 1 (.t 163)), .none, false, []⟩,
  ⟨some 165, .x (.iadr 1 .none (.t 153) (.t 154)), .none, false, []⟩,
  ⟨.none, .x (.store 1 (.t 165) (.t 160)), .none, true, []⟩,
  ⟨some 166, .x (.iadr 1 .none (.t 155) (.t 156)), .none, false, []⟩,
  ⟨.none, .x (.store 1 (.t 166) (.t 164)), .none, true, []⟩] true [11])
 (.seq (.reg [⟨some 167, .x (.mv (.t 11)), .none, false, []⟩,
  ⟨some 8, .x (.asg (.t 167)), .none, false, []⟩,
  ⟨some 9, .x (.asg (.k (.bool false))), .none, false, []⟩] false [8, 9])
 (.ret))))))))))))⟩
def h146 : HF := ⟨1, [.tmp 2],
 .seq (.reg [⟨some 2, .x (.asg (.k (.int .i64 0))), .none, false, []⟩] false [0, 2])
 (.seq (.seq (.reg [⟨some 3, .x (.mv (.t 0)), .none, false, []⟩,
  ⟨some 4, .x (.bin .geq (.t 3) (.k (.int .u32 65536))), .none, false, []⟩] false [0, 2, 4])
 (.cond (.t 4) (.seq (.reg [⟨some 5, .x (.mv (.t 0)), .none, false, []⟩,
   ⟨some 6, .x (.bin .shr (.t 5) (.k (.int .u64 16))), .none, false, []⟩,
   ⟨some 0, .x (.asg (.t 6)), .none, false, []⟩] false [0])
  (.reg [⟨some 2, .x (.asg (.k (.int .i64 16))), .none, false, []⟩] false [0, 2]))
 (.skip) [0, 2]))
 (.seq (.seq (.reg [⟨some 7, .x (.mv (.t 0)), .none, false, []⟩,
  ⟨some 8, .x (.bin .geq (.t 7) (.k (.int .u32 256))), .none, false, []⟩] false [0, 2, 8])
 (.cond (.t 8) (.seq (.reg [⟨some 9, .x (.mv (.t 0)), .none, false, []⟩,
   ⟨some 10, .x (.bin .shr (.t 9) (.k (.int .u64 8))), .none, false, []⟩,
   ⟨some 0, .x (.asg (.t 10)), .none, false, []⟩] false [0, 2])
  (.reg [⟨some 11, .x (.mv (.t 2)), .none, false, []⟩,
   ⟨some 12, .x (.bin .add (.t 11) (.k (.int .i64 8))), .none, false, []⟩,
   ⟨some 2, .x (.asg (.t 12)), .none, false, []⟩] false [0, 2]))
 (.skip) [0, 2]))
 (.seq (.reg [⟨some 13, .x (.mv (.t 2)), .none, false, []⟩,
  ⟨some 14, .x (.mv (.t 0)), .none, false, []⟩,
  ⟨some 15, .x (.conv .u8 (.t 14)), .none, false, []⟩,
  ⟨some 16, .x (.idxs (.k (.str [0, 1, 2, 2, 3, 3, 3, 3, 4, 4, 4, 4, 4, 4, 4, 4, 5, 5, 5, 5, 5, 5, 5, 5, 5, 5, 5, 5, 5, 5, 5, 5, 6, 6, 6, 6, 6, 6, 6, 6, 6, 6, 6, 6, 6, 6, 6, 6, 6, 6, 6, 6, 6, 6, 6, 6, 6, 6, 6, 6, 6, 6, 6, 6, 7, 7, 7, 7, 7, 7, 7, 7, 7, 7, 7, 7, 7, 7, 7, 7, 7, 7, 7, 7, 7, 7, 7, 7, 7, 7, 7, 7, 7, 7, 7, 7, 7, 7, 7, 7, 7, 7, 7, 7, 7, 7, 7, 7, 7, 7, 7, 7, 7, 7, 7, 7, 7, 7, 7, 7, 7, 7, 7, 7, 7, 7, 7, 7, 8, 8, 8, 8, 8, 8, 8, 8, 8, 8, 8, 8, 8, 8, 8, 8, 8, 8, 8, 8, 8, 8, 8, 8, 8, 8, 8, 8, 8, 8, 8, 8, 8, 8, 8, 8, 8, 8, 8, 8, 8, 8, 8, 8, 8, 8, 8, 8, 8, 8, 8, 8, 8, 8, 8, 8, 8, 8, 8, 8, 8, 8, 8, 8, 8, 8, 8, 8, 8, 8, 8, 8, 8, 8, 8, 8, 8, 8, 8, 8, 8, 8, 8, 8, 8, 8, 8, 8, 8, 8, 8, 8, 8, 8, 8, 8, 8, 8, 8, 8, 8, 8, 8, 8, 8, 8, 8, 8, 8, 8, 8, 8, 8, 8, 8, 8, 8, 8, 8, 8, 8, 8, 8, 8, 8, 8, 8, 8])) (.t 15)), .none, false, []⟩,
  ⟨some 17, .x (.conv .i64 (.t 16)), .none, false, []⟩,
  ⟨some 18, .x (.bin .add (.t 13) (.t 17)), .none, false, []⟩,
  ⟨some 2, .x (.asg (.t 18)), .none, false, []⟩] false [2])
 (.ret))))⟩
def h147 : HF := ⟨1, [.tmp 2],
 .seq (.reg [⟨some 2, .x (.asg (.k (.int .i64 0))), .none, false, []⟩] false [0, 2])
 (.seq (.seq (.reg [⟨some 3, .x (.mv (.t 0)), .none, false, []⟩,
  ⟨some 4, .x (.bin .geq (.t 3) (.k (.int .u64 4294967296))), .none, false, []⟩] false [0, 2, 4])
 (.cond (.t 4) (.seq (.reg [⟨some 5, .x (.mv (.t 0)), .none, false, []⟩,
   ⟨some 6, .x (.bin .shr (.t 5) (.k (.int .u64 32))), .none, false, []⟩,
   ⟨some 0, .x (.asg (.t 6)), .none, false, []⟩] false [0])
  (.reg [⟨some 2, .x (.asg (.k (.int .i64 32))), .none, false, []⟩] false [0, 2]))
 (.skip) [0, 2]))
 (.seq (.seq (.reg [⟨some 7, .x (.mv (.t 0)), .none, false, []⟩,
  ⟨some 8, .x (.bin .geq (.t 7) (.k (.int .u64 65536))), .none, false, []⟩] false [0, 2, 8])
 (.cond (.t 8) (.seq (.reg [⟨some 9, .x (.mv (.t 0)), .none, false, []⟩,
   ⟨some 10, .x (.bin .shr (.t 9) (.k (.int .u64 16))), .none, false, []⟩,
   ⟨some 0, .x (.asg (.t 10)), .none, false, []⟩] false [0, 2])
  (.reg [⟨some 11, .x (.mv (.t 2)), .none, false, []⟩,
   ⟨some 12, .x (.bin .add (.t 11) (.k (.int .i64 16))), .none, false, []⟩,
   ⟨some 2, .x (.asg (.t 12)), .none, false, []⟩] false [0, 2]))
 (.skip) [0, 2]))
 (.seq (.seq (.reg [⟨some 13, .x (.mv (.t 0)), .none, false, []⟩,
  ⟨some 14, .x (.bin .geq (.t 13) (.k (.int .u64 256))), .none, false, []⟩] false [0, 2, 14])
 (.cond (.t 14) (.seq (.reg [⟨some 15, .x (.mv (.t 0)), .none, false, []⟩,
   ⟨some 16, .x (.bin .shr (.t 15) (.k (.int .u64 8))), .none, false, []⟩,
   ⟨some 0, .x (.asg (.t 16)), .none, false, []⟩] false [0, 2])
  (.reg [⟨some 17, .x (.mv (.t 2)), .none, false, []⟩,
   ⟨some 18, .x (.bin .add (.t 17) (.k (.int .i64 8))), .none, false, []⟩,
   ⟨some 2, .x (.asg (.t 18)), .none, false, []⟩] false [0, 2]))
 (.skip) [0, 2]))
 (.seq (.reg [⟨some 19, .x (.mv (.t 2)), .none, false, []⟩,
  ⟨some 20, .x (.mv (.t 0)), .none, false, []⟩,
  ⟨some 21, .x (.conv .u8 (.t 20)), .none, false, []⟩,
  ⟨some 22, .x (.idxs (.k (.str [0, 1, 2, 2, 3, 3, 3, 3, 4, 4, 4, 4, 4, 4, 4, 4, 5, 5, 5, 5, 5, 5, 5, 5, 5, 5, 5, 5, 5, 5, 5, 5, 6, 6, 6, 6, 6, 6, 6, 6, 6, 6, 6, 6, 6, 6, 6, 6, 6, 6, 6, 6, 6, 6, 6, 6, 6, 6, 6, 6, 6, 6, 6, 6, 7, 7, 7, 7, 7, 7, 7, 7, 7, 7, 7, 7, 7, 7, 7, 7, 7, 7, 7, 7, 7, 7, 7, 7, 7, 7, 7, 7, 7, 7, 7, 7, 7, 7, 7, 7, 7, 7, 7, 7, 7, 7, 7, 7, 7, 7, 7, 7, 7, 7, 7, 7, 7, 7, 7, 7, 7, 7, 7, 7, 7, 7, 7, 7, 8, 8, 8, 8, 8, 8, 8, 8, 8, 8, 8, 8, 8, 8, 8, 8, 8, 8, 8, 8, 8, 8, 8, 8, 8, 8, 8, 8, 8, 8, 8, 8, 8, 8, 8, 8, 8, 8, 8, 8, 8, 8, 8, 8, 8, 8, 8, 8, 8, 8, 8, 8, 8, 8, 8, 8, 8, 8, 8, 8, 8, 8, 8, 8, 8, 8, 8, 8, 8, 8, 8, 8, 8, 8, 8, 8, 8, 8, 8, 8, 8, 8, 8, 8, 8, 8, 8, 8, 8, 8, 8, 8, 8, 8, 8, 8, 8, 8, 8, 8, 8, 8, 8, 8, 8, 8, 8, 8, 8, 8, 8, 8, 8, 8, 8, 8, 8, 8, 8, 8, 8, 8, 8, 8, 8, 8, 8, 8])) (.t 21)), .none, false, []⟩,
  ⟨some 23, .x (.conv .i64 (.t 22)), .none, false, []⟩,
  ⟨some 24, .x (.bin .add (.t 19) (.t 23)), .none, false, []⟩,
  ⟨some 2, .x (.asg (.t 24)), .none, false, []⟩] false [2])
 (.ret)))))⟩
def h148 : HF := ⟨1, [.tmp 2],
 .seq (.reg [⟨some 2, .x (.asg (.k (.bool false))), .none, false, []⟩] false [0])
 (.seq (.reg [⟨some 3, .x (.mv (.t 0)), .none, false, []⟩,
  ⟨some 4, .x (.mv (.t 0)), .none, false, []⟩,
  ⟨some 5, .x (.bin .neq (.t 3) (.t 4)), .none, false, []⟩,
  ⟨some 2, .x (.asg (.t 5)), .none, false, []⟩] false [2])
 (.ret))⟩
def h149 : HF := ⟨4, [],
 .seq (.reg [⟨some 10, .x (.mv (.t 1)), .none, false, []⟩,
  ⟨some 8, .x (.asg (.t 10)), .none, false, []⟩] false [0, 2, 3, 8])
 (.block 0 (.loop (.block 1 (.seq (.reg [⟨some 11, .x (.mv (.t 8)), .none, false, []⟩,
     ⟨some 12, .x (.bin .mul (.k (.int .i64 2)) (.t 11)), .none, false, []⟩,
     ⟨some 13, .x (.bin .add (.t 12) (.k (.int .i64 1))), .none, false, []⟩,
     ⟨some 9, .x (.asg (.t 13)), .none, false, []⟩] false [0, 2, 3, 8, 9])
    (.seq (.seq (.reg [⟨some 14, .x (.mv (.t 9)), .none, false, []⟩,
     ⟨some 15, .x (.mv (.t 2)), .none, false, []⟩,
     ⟨some 16, .x (.bin .geq (.t 14) (.t 15)), .none, false, []⟩] false [0, 2, 3, 8, 9, 16])
    (.cond (.t 16) (.exit 0 [])
    (.skip) [0, 2, 3, 8, 9]))
    (.seq (.seq (.reg [⟨some 17, .x (.mv (.t 9)), .none, false, []⟩,
     ⟨some 18, .x (.bin .add (.t 17) (.k (.int .i64 1))), .none, false, []⟩,
     ⟨some 19, .x (.mv (.t 2)), .none, false, []⟩,
     ⟨some 20, .x (.bin .lss (.t 18) (.t 19)), .none, false, []⟩,
     ⟨some 21, .x (.mv (.t 20)), .none, false, []⟩,
     ⟨some 22, .x (.mv (.t 0)), some (21, true), false, []⟩,
     ⟨some 23, .x (.mv (.t 3)), some (21, true), false, []⟩,
     ⟨some 24, .x (.mv (.t 9)), some (21, true), false, []⟩,
     ⟨some 25, .x (.bin .add (.t 23) (.t 24)), some (21, true), false, []⟩,
     ⟨some 26, .x (.iadr 1 .none (.t 22) (.t 25)), some (21, true), false, []⟩,
     ⟨some 27, .x (.load false 1 (.t 26)), some (21, true), false, []⟩,
     ⟨some 28, .x (.mv (.t 0)), some (21, true), false, []⟩,
     ⟨some 29, .x (.mv (.t 3)), some (21, true), false, []⟩,
     ⟨some 30, .x (.mv (.t 9)), some (21, true), false, []⟩,
     ⟨some 31, .x (.bin .add (.t 29) (.t 30)), some (21, true), false, []⟩,
     ⟨some 32, .x (.bin .add (.t 31) (.k (.int .i64 1))), some (21, true), false, []⟩,
     ⟨some 33, .x (.iadr 1 .none (.t 28) (.t 32)), some (21, true), false, []⟩,
     ⟨some 34, .x (.load false 1 (.t 33)), some (21, true), false, []⟩,
     ⟨some 35, .x (.call 135 [.t 27, .t 34] []), some (21, true), true, []⟩,
     ⟨some 36, .x (.pick (.t 21) (.t 35) (.k (.bool false))), .none, false, []⟩] true [0, 2, 3, 8, 9, 36])
    (.cond (.t 36) (.reg [⟨some 37, .x (.mv (.t 9)), .none, false, []⟩,
      ⟨some 38, .x (.bin .add (.t 37) (.k (.int .i64 1))), .none, false, []⟩,
      ⟨some 9, .x (.asg (.t 38)), .none, false, []⟩] false [0, 2, 3, 8, 9])
    (.skip) [0, 2, 3, 8, 9]))
    (.seq (.seq (.reg [⟨some 39, .x (.mv (.t 0)), .none, false, []⟩,
     ⟨some 40, .x (.mv (.t 3)), .none, false, []⟩,
     ⟨some 41, .x (.mv (.t 8)), .none, false, []⟩,
     ⟨some 42, .x (.bin .add (.t 40) (.t 41)), .none, false, []⟩,
     ⟨some 43, .x (.iadr 1 .none (.t 39) (.t 42)), .none, false, []⟩,
     ⟨some 44, .x (.load false 1 (.t 43)), .none, false, []⟩,
     ⟨some 45, .x (.mv (.t 0)), .none, false, []⟩,
     ⟨some 46, .x (.mv (.t 3)), .none, false, []⟩,
     ⟨some 47, .x (.mv (.t 9)), .none, false, []⟩,
     ⟨some 48, .x (.bin .add (.t 46) (.t 47)), .none, false, []⟩,
     ⟨some 49, .x (.iadr 1 .none (.t 45) (.t 48)), .none, false, []⟩,
     ⟨some 50, .x (.load false 1 (.t 49)), .none, false, []⟩,
     ⟨some 51, .x (.call 135 [.t 44, .t 50] []), .none, true, []⟩,
     ⟨some 52, .x (.un .not (.t 51)), .none, false, []⟩] true [0, 2, 3, 8, 9, 52])
    (.cond (.t 52) (.ret)
    (.skip) [0, 2, 3, 8, 9]))
    (.seq (.reg [⟨some 53, .x (.mv (.t 0)), .none, false, []⟩,
     ⟨some 54, .x (.mv (.t 3)), .none, false, []⟩,
     ⟨some 55, .x (.mv (.t 8)), .none, false, []⟩,
     ⟨some 56, .x (.bin .add (.t 54) (.t 55)), .none, false, []⟩,
     ⟨some 57, .x (.mv (.t 0)), .none, false, []⟩,
     ⟨some 58, .x (.mv (.t 3)), .none, false, []⟩,
     ⟨some 59, .x (.mv (.t 9)), .none, false, []⟩,
     ⟨some 60, .x (.bin .add (.t 58) (.t 59)), .none, false, []⟩,
     ⟨some 61, .x (.mv (.t 0)), .none, false, []⟩,
     ⟨some 62, .x (.mv (.t 3)), .none, false, []⟩,
     ⟨some 63, .x (.mv (.t 9)), .none, false, []⟩,
     ⟨some 64, .x (.bin .add (.t 62) (.t 63)), .none, false, []⟩,
     ⟨some 65, .x (.iadr 1 .none (.t 61) (.t 64)), .none, false, []⟩,
     ⟨some 66, .x (.load false 1 (.t 65)), .none, false, []⟩,
     ⟨some 67, .x (.mv (.t 0)), .none, false, []⟩,
     ⟨some 68, .x (.mv (.t 3)), .none, false, []⟩,
     ⟨some 69, .x (.mv (.t 8)), .none, false, []⟩,
     ⟨some 70, .x (.bin .add (.t 68) (.t 69)), .none, false, []⟩,
     ⟨some 71, .x (.iadr 1 .none (.t 67) (.t 70)), .none, false, []⟩,
     ⟨some 72, .x (.load false 1 (.t 71)), .none, false, []⟩,
     ⟨some 73, .x (.iadr 1 .none (.t 53) (.t 56)), .none, false, []⟩,
     ⟨.none, .x (.store 1 (.t 73) (.t 66)), .none, true, []⟩,
     ⟨some 74, .x (.iadr 1 .none (.t 57) (.t 60)), .none, false, []⟩,
     ⟨.none, .x (.store 1 (.t 74) (.t 72)), .none, true, []⟩] true [0, 2, 3, 9])
    (.reg [⟨some 75, .x (.mv (.t 9)), .none, false, []⟩,
     ⟨some 8, .x (.asg (.t 75)), .none, false, []⟩] false [0, 2, 3, 8])))))) [0, 2, 3, 8]) [0, 2, 3, 8]) [])⟩
def h150 : HF := ⟨1, [.tmp 2],
 .seq (.reg [⟨some 2, .x (.asg (.k (.int .u64 0))), .none, false, []⟩] false [0])
 (.seq (.reg [⟨some 3, .x (.mv (.t 0)), .none, false, []⟩,
  ⟨some 4, .x (.conv .u64 (.t 3)), .none, false, []⟩,
  ⟨some 5, .x (.call 134 [.t 4] []), .none, false, []⟩,
  ⟨some 6, .x (.bin .shl (.k (.int .u64 1)) (.t 5)), .none, false, []⟩,
  ⟨some 2, .x (.asg (.t 6)), .none, false, []⟩] false [2])
 (.ret))⟩
def h151 : HF := ⟨1, [.tmp 2],
 .seq (.reg [⟨some 2, .x (.asg (.k (.int .u64 0))), .none, false, []⟩] false [0])
 (.seq (.reg [⟨some 3, .x (.mv (.t 0)), .none, false, []⟩,
  ⟨some 4, .x (.nilck (.t 3)), .none, false, []⟩,
  ⟨some 5, .x (.load false 1 (.t 4)), .none, false, []⟩,
  ⟨some 6, .x (.mv (.t 0)), .none, false, []⟩,
  ⟨some 7, .x (.nilck (.t 6)), .none, false, []⟩,
  ⟨some 8, .x (.load false 1 (.t 7)), .none, false, []⟩,
  ⟨some 9, .x (.bin .shl (.t 8) (.k (.int .u64 13))), .none, false, []⟩,
  ⟨some 10, .x (.bin .xor (.t 5) (.t 9)), .none, false, []⟩,
  ⟨some 11, .x (.nilck (.t 3)), .none, false, []⟩,
  ⟨.none, .x (.store 1 (.t 11) (.t 10)), .none, true, []⟩] true [0])
 (.seq (.reg [⟨some 12, .x (.mv (.t 0)), .none, false, []⟩,
  ⟨some 13, .x (.nilck (.t 12)), .none, false, []⟩,
  ⟨some 14, .x (.load false 1 (.t 13)), .none, false, []⟩,
  ⟨some 15, .x (.mv (.t 0)), .none, false, []⟩,
  ⟨some 16, .x (.nilck (.t 15)), .none, false, []⟩,
  ⟨some 17, .x (.load false 1 (.t 16)), .none, false, []⟩,
  ⟨some 18, .x (.bin .shr (.t 17) (.k (.int .u64 7))), .none, false, []⟩,
  ⟨some 19, .x (.bin .xor (.t 14) (.t 18)), .none, false, []⟩,
  ⟨some 20, .x (.nilck (.t 12)), .none, false, []⟩,
  ⟨.none, .x (.store 1 (.t 20) (.t 19)), .none, true, []⟩] true [0])
 (.seq (.reg [⟨some 21, .x (.mv (.t 0)), .none, false, []⟩,
  ⟨some 22, .x (.nilck (.t 21)), .none, false, []⟩,
  ⟨some 23, .x (.load false 1 (.t 22)), .none, false, []⟩,
  ⟨some 24, .x (.mv (.t 0)), .none, false, []⟩,
  ⟨some 25, .x (.nilck (.t 24)), .none, false, []⟩,
  ⟨some 26, .x (.load false 1 (.t 25)), .none, false, []⟩,
  ⟨some 27, .x (.bin .shl (.t 26) (.k (.int .u64 17))), .none, false, []⟩,
  ⟨some 28, .x (.bin .xor (.t 23) (.t 27)), .none, false, []⟩,
  ⟨some 29, .x (.nilck (.t 21)), .none, false, []⟩,
  ⟨.none, .x (.store 1 (.t 29) (.t 28)), .none, true, []⟩] true [0])
 (.seq (.reg [⟨some 30, .x (.mv (.t 0)), .none, false, []⟩,
  ⟨some 31, .x (.nilck (.t 30)), .none, false, []⟩,
  ⟨some 32, .x (.load false 1 (.t 31)), .none, false, []⟩,
  ⟨some 2, .x (.asg (.t 32)), .none, false, []⟩] false [2])
 (.ret)))))⟩
def h152 : HF := ⟨3, [.tmp 6],
 .seq (.reg [⟨some 6, .x (.asg (.k (.int .i64 0))), .none, false, []⟩] false [0, 1, 2])
 (.seq (.reg [⟨some 7, .x (.mv (.t 0)), .none, false, []⟩,
  ⟨some 8, .x (.mv (.t 1)), .none, false, []⟩,
  ⟨some 9, .x (.bin .sub (.t 8) (.k (.int .i64 1))), .none, false, []⟩,
  ⟨some 10, .x (.mv (.t 1)), .none, false, []⟩,
  ⟨some 11, .x (.mv (.t 1)), .none, false, []⟩,
  ⟨some 12, .x (.bin .add (.t 11) (.k (.int .i64 1))), .none, false, []⟩,
  ⟨some 13, .x (.mv (.t 2)), .none, false, []⟩,
  ⟨some 14, .x (.call 153 [.t 7, .t 9, .t 10, .t 12, .t 13] []), .none, false, []⟩,
  ⟨some 6, .x (.asg (.t 14)), .none, false, []⟩] false [6])
 (.ret))⟩
def h153 : HF := ⟨5, [.tmp 10],
 .seq (.reg [⟨some 10, .x (.asg (.k (.int .i64 0))), .none, false, []⟩] false [0, 1, 2, 3, 4])
 (.seq (.reg [⟨some 12, .x (.mv (.t 0)), .none, false, []⟩,
  ⟨some 13, .x (.mv (.t 1)), .none, false, []⟩,
  ⟨some 14, .x (.mv (.t 2)), .none, false, []⟩,
  ⟨some 15, .x (.mv (.t 4)), .none, false, []⟩,
  ⟨some 16, .x (.call 154 [.t 12, .t 13, .t 14, .t 15] []), .none, false, []⟩,
  ⟨some 11, .x (.mv (.t 16)), .none, false, []⟩,
  ⟨some 17, .x (.ext (.t 11) 0), .none, false, []⟩,
  ⟨some 18, .x (.ext (.t 11) 1), .none, false, []⟩,
  ⟨some 1, .x (.asg (.t 17)), .none, false, []⟩,
  ⟨some 2, .x (.asg (.t 18)), .none, false, []⟩] false [0, 1, 2, 3, 4])
 (.seq (.reg [⟨some 20, .x (.mv (.t 0)), .none, false, []⟩,
  ⟨some 21, .x (.mv (.t 2)), .none, false, []⟩,
  ⟨some 22, .x (.mv (.t 3)), .none, false, []⟩,
  ⟨some 23, .x (.mv (.t 4)), .none, false, []⟩,
  ⟨some 24, .x (.call 154 [.t 20, .t 21, .t 22, .t 23] []), .none, false, []⟩,
  ⟨some 19, .x (.mv (.t 24)), .none, false, []⟩,
  ⟨some 25, .x (.ext (.t 19) 0), .none, false, []⟩,
  ⟨some 26, .x (.ext (.t 19) 1), .none, false, []⟩,
  ⟨some 2, .x (.asg (.t 25)), .none, false, []⟩,
  ⟨some 3, .x (.asg (.t 26)), .none, false, []⟩] false [0, 1, 2, 4])
 (.seq (.reg [⟨some 28, .x (.mv (.t 0)), .none, false, []⟩,
  ⟨some 29, .x (.mv (.t 1)), .none, false, []⟩,
  ⟨some 30, .x (.mv (.t 2)), .none, false, []⟩,
  ⟨some 31, .x (.mv (.t 4)), .none, false, []⟩,
  ⟨some 32, .x (.call 154 [.t 28, .t 29, .t 30, .t 31] []), .none, false, []⟩,
  ⟨some 27, .x (.mv (.t 32)), .none, false, []⟩,
  ⟨some 33, .x (.ext (.t 27) 0), .none, false, []⟩,
  ⟨some 34, .x (.ext (.t 27) 1), .none, false, []⟩,
  ⟨some 1, .x (.asg (.t 33)), .none, false, []⟩,
  ⟨some 2, .x (.asg (.t 34)), .none, false, []⟩] false [2])
 (.seq (.reg [⟨some 35, .x (.mv (.t 2)), .none, false, []⟩,
  ⟨some 10, .x (.asg (.t 35)), .none, false, []⟩] false [10])
 (.ret)))))⟩
def h154 : HF := ⟨4, [.tmp 8, .tmp 9],
 .seq (.reg [⟨some 8, .x (.asg (.k (.int .i64 0))), .none, false, []⟩,
  ⟨some 9, .x (.asg (.k (.int .i64 0))), .none, false, []⟩] false [0, 1, 2, 3])
 (.seq (.seq (.reg [⟨some 10, .x (.mv (.t 0)), .none, false, []⟩,
  ⟨some 11, .x (.mv (.t 2)), .none, false, []⟩,
  ⟨some 12, .x (.iadr 1 .none (.t 10) (.t 11)), .none, false, []⟩,
  ⟨some 13, .x (.load false 1 (.t 12)), .none, false, []⟩,
  ⟨some 14, .x (.mv (.t 0)), .none, false, []⟩,
  ⟨some 15, .x (.mv (.t 1)), .none, false, []⟩,
  ⟨some 16, .x (.iadr 1 .none (.t 14) (.t 15)), .none, false, []⟩,
  ⟨some 17, .x (.load false 1 (.t 16)), .none, false, []⟩,
  ⟨some 18, .x (.call 135 [.t 13, .t 17] []), .none, true, []⟩] true [1, 2, 3, 18])
 (.cond (.t 18) (.seq (.reg [⟨some 19, .x (.mv (.t 3)), .none, false, []⟩,
   ⟨some 20, .x (.nilck (.t 19)), .none, false, []⟩,
   ⟨some 21, .x (.load false 1 (.t 20)), .none, false, []⟩,
   ⟨some 22, .x (.bin .add (.t 21) (.k (.int .i64 1))), .none, false, []⟩,
   ⟨some 23, .x (.nilck (.t 19)), .none, false, []⟩,
   ⟨.none, .x (.store 1 (.t 23) (.t 22)), .none, false, []⟩] false [1, 2])
  (.seq (.reg [⟨some 24, .x (.mv (.t 2)), .none, false, []⟩,
   ⟨some 25, .x (.mv (.t 1)), .none, false, []⟩,
   ⟨some 8, .x (.asg (.t 24)), .none, false, []⟩,
   ⟨some 9, .x (.asg (.t 25)), .none, false, []⟩] false [8, 9])
  (.ret)))
 (.skip) [1, 2]))
 (.seq (.reg [⟨some 26, .x (.mv (.t 1)), .none, false, []⟩,
  ⟨some 27, .x (.mv (.t 2)), .none, false, []⟩,
  ⟨some 8, .x (.asg (.t 26)), .none, false, []⟩,
  ⟨some 9, .x (.asg (.t 27)), .none, false, []⟩] false [8, 9])
 (.ret)))⟩
def TL : List (Nat × HF) := [(11, h11), (18, h18), (22, h22), (24, h24), (27, h27), (29, h29), (52, h52), (53, h53), (56, h56), (57, h57), (58, h58), (60, h60), (64, h64), (65, h65), (66, h66), (67, h67), (70, h70), (71, h71), (72, h72), (73, h73), (74, h74), (76, h76), (77, h77), (78, h78), (79, h79), (80, h80), (81, h81), (97, h97), (98, h98), (105, h105), (106, h106), (107, h107), (108, h108), (109, h109), (110, h110), (111, h111), (113, h113), (115, h115), (116, h116), (120, h120), (126, h126), (127, h127), (128, h128), (129, h129), (133, h133), (134, h134), (135, h135), (136, h136), (138, h138), (139, h139), (140, h140), (141, h141), (142, h142), (143, h143), (144, h144), (145, h145), (146, h146), (147, h147), (148, h148), (149, h149), (150, h150), (151, h151), (152, h152), (153, h153), (154, h154)]
def TH : Nat → Option HF := fun f => lookH f TL
end Go.Ab
