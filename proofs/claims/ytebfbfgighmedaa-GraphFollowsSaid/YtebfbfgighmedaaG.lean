/-
  What Light lets in: plain laws.
-/
import Derived.Test.YtebfbfgighmedaaF
namespace Go.Ab
open Go
set_option linter.unusedVariables false
set_option linter.unusedSimpArgs false
set_option maxRecDepth 10000

theorem inner_spec {f : Fun} {k : Int} {code : List Ins} (hk : ix f.Blocks k = some code) (hc : code.length < 140737488355328) (hl : ∀ x ∈ code, x.To.length < 140737488355328) :
    ∃ r, r08_Shaped_l116 f k code 0 = some r ∧ ((∃ v, r = .stop v ∧ v ≠ 0) ∨ (r = .next () ∧ ∀ (i : Nat) (x : Ins), i < code.length → code[i]? = some x → ((decide (26 ≤ x.Op) && decide (x.Op ≤ 29)) = decide (i + 1 = code.length)) ∧ ((x.Op != 20) && x.To.any (outOf f.Blocks.length)) = false)) := by
  refine runL_up code.length (fun s => s) (fun s => ∀ (i : Nat) (x : Ins), i < s.toNat → code[i]? = some x → ((decide (26 ≤ x.Op) && decide (x.Op ≤ 29)) = decide (i + 1 = code.length)) ∧ ((x.Op != 20) && x.To.any (outOf f.Blocks.length)) = false) _ (fun s hI h0 h1 => ?_) 0 (fun i x hi => by simp at hi) (by decide) (by omega)
  unfold r08_Shaped_l116_b
  by_cases hlt : s < code.length
  · obtain ⟨x, hx, hx'⟩ := ix_of_lt h0 hlt
    simp only [hlt, decide_true, if_true, hx, hk, Option.bind_some, r05_Ends, l115_eq hk hx (hl x (List.mem_of_getElem? hx')), wr1 h0 (show s < 140737488355328 by omega)]
    have e1 : ((s + 1 : Int) == (code.length : Int)) = decide (s.toNat + 1 = code.length) := by
      by_cases h : s.toNat + 1 = code.length
      · rw [decide_eq_true h, beq_iff_eq]; omega
      · rw [decide_eq_false h, beq_eq_false_iff_ne]; omega
    rw [e1]
    cases hb : ((decide (26 ≤ x.Op) && decide (x.Op ≤ 29)) == decide (s.toNat + 1 = code.length)) with
    | false => exact .inl ⟨.stop 15, rfl, .inl ⟨15, rfl, by decide⟩⟩
    | true =>
      have hb' := eq_of_beq hb
      cases ho : ((x.Op != 20) && x.To.any (outOf f.Blocks.length)) with
      | true => exact .inl ⟨.stop 7, rfl, .inl ⟨7, rfl, by decide⟩⟩
      | false =>
        refine .inr ⟨s + 1, rfl, fun i y hi hy => ?_, rfl, by omega⟩
        by_cases h : i < s.toNat
        · exact hI i y h hy
        · have h2 : i = s.toNat := by omega
          subst h2
          rw [hx'] at hy
          obtain rfl := Option.some.inj hy
          exact ⟨hb', ho⟩
  · refine .inl ⟨.next (), by simp [hlt], .inr ⟨rfl, fun i x hi hx => hI i x (by omega) hx⟩⟩
theorem Shaped_spec {f : Fun} (r : RFun f) : ∃ e, r08_Shaped f = some e ∧ (e.Code = 0 → 0 < f.Blocks.length ∧ ∀ (k : Nat) (code : List Ins), f.Blocks[k]? = some code → ∃ x : Ins, code ≠ [] ∧ code.getLast? = some x ∧ ∀ b ∈ x.To, 0 ≤ b ∧ b < f.Blocks.length) := by
  obtain ⟨_, _, _, ⟨hB, hC⟩, _⟩ := r
  have key : ∃ q, r08_Shaped_l117 f 0 = some q ∧ ((∃ v, q = .stop v ∧ v.1 ≠ 0) ∨ (q = .next () ∧ ∀ (k : Nat) (code : List Ins), k < f.Blocks.length → f.Blocks[k]? = some code → ∃ x : Ins, code ≠ [] ∧ code.getLast? = some x ∧ ∀ b ∈ x.To, 0 ≤ b ∧ b < f.Blocks.length)) := by
    refine runL_up f.Blocks.length (fun s => s) (fun s => ∀ (k : Nat) (code : List Ins), k < s.toNat → f.Blocks[k]? = some code → ∃ x : Ins, code ≠ [] ∧ code.getLast? = some x ∧ ∀ b ∈ x.To, 0 ≤ b ∧ b < f.Blocks.length) _ (fun s hI h0 h1 => ?_) 0 (fun i x hi => by simp at hi) (by decide) (by omega)
    unfold r08_Shaped_l117_b
    by_cases hlt : s < f.Blocks.length
    · obtain ⟨code, hx, hx'⟩ := ix_of_lt h0 hlt
      obtain ⟨hcl, hci⟩ := hC code (List.mem_of_getElem? hx')
      obtain ⟨q, hq, hs⟩ := inner_spec hx hcl (fun x hx => (hci x hx).2.2.2.2.2.1.1)
      simp only [hlt, decide_true, if_true, hx, Option.bind_some, hq]
      rcases hs with ⟨v, rfl, hv⟩ | ⟨rfl, hs⟩
      · exact .inl ⟨_, rfl, .inl ⟨_, rfl, hv⟩⟩
      · simp only [wr1 h0 (show s < 140737488355328 by omega)]
        by_cases hz : code.length = 0
        · have : ((code.length : Int) == 0) = true := by rw [hz]; rfl
          rw [this]
          exact .inl ⟨_, rfl, .inl ⟨_, rfl, by simp⟩⟩
        · have : ((code.length : Int) == 0) = false := by rw [beq_eq_false_iff_ne]; omega
          rw [this]
          refine .inr ⟨s + 1, rfl, fun k c hk hc => ?_, rfl, by omega⟩
          by_cases h : k < s.toNat
          · exact hI k c h hc
          · have h2 : k = s.toNat := by omega
            subst h2
            rw [hx'] at hc
            obtain rfl := Option.some.inj hc
            have hne : code ≠ [] := by rintro rfl; simp at hz
            have hlast : code[code.length - 1]? = some (code.getLast hne) := by
              rw [← List.getLast?_eq_getElem?, List.getLast?_eq_some_getLast hne]
            obtain ⟨h3, h4⟩ := hs (code.length - 1) _ (by omega) hlast
            refine ⟨code.getLast hne, hne, List.getLast?_eq_some_getLast hne, fun b hb => ?_⟩
            have h5 : decide (code.length - 1 + 1 = code.length) = true := decide_eq_true (by omega)
            rw [h5] at h3
            simp only [Bool.and_eq_true, decide_eq_true_eq] at h3
            have h6 : ((code.getLast hne).Op != 20) = true := by simp; omega
            rw [h6, Bool.true_and] at h4
            have h7 := List.any_eq_false.1 h4 b hb
            simp only [outOf, Bool.or_eq_true, decide_eq_true_eq, not_or] at h7
            omega
    · exact .inl ⟨.next (), by simp [hlt], .inr ⟨rfl, fun k c hk hc => hI k c (by omega) hc⟩⟩
  obtain ⟨q, hq, hs⟩ := key
  unfold r08_Shaped
  by_cases hz : f.Blocks.length = 0
  · have : ((f.Blocks.length : Int) == 0) = true := by rw [hz]; rfl
    rw [this]
    exact ⟨_, rfl, fun h => by cases h⟩
  · have : ((f.Blocks.length : Int) == 0) = false := by rw [beq_eq_false_iff_ne]; omega
    rw [this]
    simp only [Bool.false_eq_true, if_false, hq, Option.bind_some]
    rcases hs with ⟨v, rfl, hv⟩ | ⟨rfl, hs⟩
    · exact ⟨_, rfl, fun h => absurd h hv⟩
    · refine ⟨_, rfl, fun _ => ⟨by omega, fun k code hk => ?_⟩⟩
      obtain ⟨h1, _⟩ := List.getElem?_eq_some_iff.1 hk
      exact hs k code h1 hk
theorem Light_spec {f : Fun} (r : RFun f) : ∃ v, l08_Light f = some v ∧ (v = 1 ∨ v = 0 ∧ Wf f) := by
  obtain ⟨e, he, hs⟩ := Shaped_spec r
  obtain ⟨_, _, _, ⟨hB, hC⟩, _⟩ := r
  unfold l08_Light
  by_cases h24 : 24 < f.Blocks.length
  · exact ⟨1, by rw [show decide (24 < (f.Blocks.length : Int)) = true from decide_eq_true (by omega)]; rfl, .inl rfl⟩
  rw [show decide (24 < (f.Blocks.length : Int)) = false from decide_eq_false (by omega)]
  simp only [Bool.false_eq_true, if_false]
  have h20 : ∀ (n k : Int) (code : List Ins), ix f.Blocks k = some code → code.length < 140737488355328 → ∃ q, l08_Light_l20 f n k code 0 = some q ∧ ((∃ v, q = .stop v) ∨ q = .next () ∧ ∀ (i : Nat) (x : Ins), i < code.length → code[i]? = some x → x.To.length ≤ 30) := fun n k code hk hl => by
    refine runL_up code.length (fun s => s) (fun s => ∀ (i : Nat) (x : Ins), i < s.toNat → code[i]? = some x → x.To.length ≤ 30) _ (fun s hI h0 h1 => ?_) 0 (fun i x hi => by simp at hi) (by decide) (by omega)
    unfold l08_Light_l20_b
    simp only [hk, Option.bind_some]
    by_cases hlt : s < code.length
    · obtain ⟨x, hx, hx'⟩ := ix_of_lt h0 hlt
      simp only [hlt, decide_true, if_true, hx, Option.bind_some, wr1 h0 (show s < 140737488355328 by omega)]
      cases hb : (decide (30 < (x.To.length : Int)) || (decide (30 < (x.Args.length : Int)) || decide (100 < (x.Name.length : Int)))) with
      | true => exact .inl ⟨_, rfl, .inl ⟨_, rfl⟩⟩
      | false =>
        refine .inr ⟨s + 1, rfl, fun i y hi hy => ?_, rfl, by omega⟩
        by_cases h : i < s.toNat
        · exact hI i y h hy
        · have h2 : i = s.toNat := by omega
          subst h2
          rw [hx'] at hy
          obtain rfl := Option.some.inj hy
          simp only [Bool.or_eq_false_iff, decide_eq_false_iff_not] at hb
          omega
    · exact .inl ⟨.next (), by simp [hlt], .inr ⟨rfl, fun i x hi hx => hI i x (by omega) hx⟩⟩
  have key : ∃ q, l08_Light_l21 f (0, 0) = some q ∧ ((∃ v, q = .stop v) ∨ q = .next () ∧ ∀ (k : Nat) (code : List Ins), k < f.Blocks.length → f.Blocks[k]? = some code → ∀ (i : Nat) (x : Ins), i < code.length → code[i]? = some x → x.To.length ≤ 30) := by
    refine runL_up f.Blocks.length (fun s => s.2) (fun s => ∀ (k : Nat) (code : List Ins), k < s.2.toNat → f.Blocks[k]? = some code → ∀ (i : Nat) (x : Ins), i < code.length → code[i]? = some x → x.To.length ≤ 30) _ (fun s hI h0 h1 => ?_) (0, 0) (fun i x hi => by simp at hi) (by decide) (by simp)
    unfold l08_Light_l21_b
    by_cases hlt : s.2 < f.Blocks.length
    · obtain ⟨code, hx, hx'⟩ := ix_of_lt h0 hlt
      obtain ⟨hcl, hci⟩ := hC code (List.mem_of_getElem? hx')
      obtain ⟨q, hq, hs⟩ := h20 s.1 s.2 code hx hcl
      simp only [hlt, decide_true, if_true, hx, Option.bind_some, hq, wr1 h0 (show s.2 < 140737488355328 by omega)]
      cases decide (150 < IntKind.wrap .i64 (s.1 + (code.length : Int))) with
      | true => exact .inl ⟨_, rfl, .inl ⟨_, rfl⟩⟩
      | false =>
        rcases hs with ⟨v, rfl⟩ | ⟨rfl, hs⟩
        · exact .inl ⟨_, rfl, .inl ⟨_, rfl⟩⟩
        · refine .inr ⟨(_, s.2 + 1), rfl, fun k c hk hc => ?_, rfl, by simp only; omega⟩
          by_cases h : k < s.2.toNat
          · exact hI k c h hc
          · have h2 : k = s.2.toNat := by simp only at hk; omega
            subst h2
            rw [hx'] at hc
            obtain rfl := Option.some.inj hc
            exact hs
    · exact .inl ⟨.next (), by simp [hlt], .inr ⟨rfl, fun k c hk hc => hI k c (by omega) hc⟩⟩
  obtain ⟨q, hq, hk⟩ := key
  rw [hq]
  rcases hk with ⟨v, rfl⟩ | ⟨rfl, hk⟩
  · exact ⟨1, rfl, .inl rfl⟩
  · simp only [Option.bind_some, he]
    by_cases hz : e.Code = 0
    · rw [show (e.Code != 0) = false by rw [hz]; rfl]
      obtain ⟨hn, hb⟩ := hs hz
      refine ⟨0, rfl, .inr ⟨rfl, ⟨hn, by omega, fun k hkl => ?_⟩⟩⟩
      obtain ⟨x, hne, hlast, hto⟩ := hb k f.Blocks[k] (by simp [hkl])
      refine ⟨x, hne, (hC _ (List.getElem_mem hkl)).1, hlast, ?_, hto⟩
      have hp : 0 < f.Blocks[k].length := List.length_pos_iff.2 hne
      exact hk k f.Blocks[k] hkl (by simp [hkl]) (f.Blocks[k].length - 1) x (by omega) (by rw [← List.getLast?_eq_getElem?]; exact hlast)
    · rw [show (e.Code != 0) = true by simpa using hz]
      exact ⟨1, rfl, .inl rfl⟩
end Go.Ab

/-
  The order of blocks: plain laws.
-/
namespace Go.Ab
open Go
set_option linter.unusedVariables false
set_option linter.unusedSimpArgs false
set_option maxRecDepth 10000

def foldO {α σ : Type} (step : σ → α → Option σ) : σ → List α → Option σ
  | s, [] => some s
  | s, x :: xs => (step s x).bind fun s' => foldO step s' xs
theorem loop_fold {α σ S ρ : Type} (xs : List α) (hl : xs.length < 140737488355328) (E : σ → Int → S) {body : S → Option (Stp S ρ)} (step : σ → α → Option σ) (fin : σ → ρ) (I : σ → Prop)
    (hb : ∀ s (i : Nat) x, I s → xs[i]? = some x → body (E s i) = (step s x).map fun s' => .next (E s' (IntKind.wrap .i64 ((i : Int) + 1))))
    (hI : ∀ s x s', I s → x ∈ xs → step s x = some s' → I s') (he : ∀ s, I s → body (E s xs.length) = some (.stop (fin s))) (s : σ) (hs : I s) : runL body (E s 0) = (foldO step s xs).map fin := by
  have key : ∀ (d i : Nat) (s : σ), xs.length - i = d → i ≤ xs.length → I s → runL body (E s i) = (foldO step s (xs.drop i)).map fin := by
    intro d
    induction d with
    | zero =>
      intro i s hd hi hs
      have : i = xs.length := by omega
      subst this
      rw [runL_eq, he s hs, List.drop_length]; rfl
    | succ d ih =>
      intro i s hd hi hs
      have hlt : i < xs.length := by omega
      rw [runL_eq, hb s i xs[i] hs (by simp [hlt]), List.drop_eq_getElem_cons hlt, foldO]
      cases hst : step s xs[i] with
      | none => rfl
      | some s' =>
        simp only [Option.map_some, Option.bind_some]
        rw [wr1 (by omega) (by omega)]
        exact ih (i + 1) s' (by omega) (by omega) (hI s _ s' hs (List.getElem_mem hlt) hst)
  have := key xs.length 0 s (by omega) (by omega) hs
  simpa using this
/-- blocks behind those that were met -/
def dfs (nx : Nat → List Int) : Nat → Int → List Int → List Int → Option (List Int)
  | 0, _, _, _ => Option.none
  | m + 1, k, done, opn => (foldO (fun out s => if out.contains s || (opn ++ [k]).contains s then some out else dfs nx m s out (opn ++ [k])) done (nx k.toNat)).map (· ++ [k])
theorem foldO_mono {α σ : Type} {f g : σ → α → Option σ} (h : ∀ s x y, f s x = some y → g s x = some y) : ∀ (xs : List α) (s y : σ), foldO f s xs = some y → foldO g s xs = some y
  | [], s, y, hy => hy
  | x :: xs, s, y, hy => by
    simp only [foldO, Option.bind_eq_some_iff] at hy ⊢
    obtain ⟨z, hz, hy⟩ := hy
    exact ⟨z, h _ _ _ hz, foldO_mono h xs z y hy⟩
theorem dfs_mono (nx : Nat → List Int) : ∀ {m m' : Nat} {k : Int} {done opn out : List Int}, m ≤ m' → dfs nx m k done opn = some out → dfs nx m' k done opn = some out
  | 0, m', k, done, opn, out, hm, h => by simp [dfs] at h
  | m + 1, 0, k, done, opn, out, hm, h => by omega
  | m + 1, m' + 1, k, done, opn, out, hm, h => by
    simp only [dfs, Option.map_eq_some_iff] at h ⊢
    obtain ⟨y, hy, rfl⟩ := h
    refine ⟨y, foldO_mono (fun s x z hz => ?_) _ _ _ hy, rfl⟩
    split at hz
    · rename_i hc; rw [if_pos hc]; exact hz
    · rename_i hc; rw [if_neg hc]; exact dfs_mono nx (by omega) hz
theorem nodup_len : ∀ (n : Nat) (l : List Int), l.Nodup → (∀ x ∈ l, 0 ≤ x ∧ x < n) → l.length ≤ n
  | 0, l, _, h => by
    cases l with
    | nil => simp
    | cons x l => have := h x (by simp); omega
  | n + 1, l, hd, h => by
    by_cases hm : (n : Int) ∈ l
    · have h1 := nodup_len n (l.erase (n : Int)) (hd.erase _) (fun x hx => by
        have h2 := hd.mem_erase_iff.1 hx
        have := h x h2.2
        have := h2.1
        omega)
      rw [List.length_erase_of_mem hm] at h1
      omega
    · have h1 := nodup_len n l hd (fun x hx => by
        have := h x hx
        have : x ≠ n := fun e => hm (e ▸ hx)
        omega)
      omega
/-- what was met so far may stand so -/
structure Met (n : Nat) (out opn : List Int) : Prop where
  nd : (out ++ opn).Nodup
  lt : ∀ x ∈ out ++ opn, 0 ≤ x ∧ x < n
theorem Met.len {n : Nat} {out opn : List Int} (M : Met n out opn) : out.length + opn.length ≤ n := by
  have := nodup_len n _ M.nd M.lt
  simpa using this
theorem Met.push {n : Nat} {out opn : List Int} {k : Int} (M : Met n out opn) (h0 : 0 ≤ k ∧ k < n) (h1 : k ∉ out) (h2 : k ∉ opn) : Met n out (opn ++ [k]) :=
  ⟨by
    rw [← List.append_assoc, List.nodup_append]
    exact ⟨M.nd, by simp, fun a ha b hb => by
      simp only [List.mem_singleton] at hb
      rintro rfl
      subst hb
      rcases List.mem_append.1 ha with h | h
      · exact h1 h
      · exact h2 h⟩, fun x hx => by
    rw [← List.append_assoc, List.mem_append] at hx
    rcases hx with hx | hx
    · exact M.lt x hx
    · simp only [List.mem_singleton] at hx; subst hx; exact h0⟩
theorem Met.pop {n : Nat} {out opn : List Int} {k : Int} (M : Met n out (opn ++ [k])) : Met n (out ++ [k]) opn := by
  have hp : (out ++ (opn ++ [k])).Perm ((out ++ [k]) ++ opn) := by
    rw [List.append_assoc]
    exact List.Perm.append_left out List.perm_append_comm
  exact ⟨hp.nodup_iff.1 M.nd, fun x hx => M.lt x (hp.mem_iff.2 hx)⟩
theorem dfs_tot {n : Nat} {nx : Nat → List Int} (hnx : ∀ k, k < n → ∀ b ∈ nx k, 0 ≤ b ∧ b < (n : Int)) : ∀ (m : Nat) (k : Int) (done opn : List Int), Met n done opn → 0 ≤ k ∧ k < n → k ∉ done → k ∉ opn → n + 1 ≤ m + opn.length →
    ∃ out, dfs nx m k done opn = some (out ++ [k]) ∧ Met n (out ++ [k]) opn
  | 0, k, done, opn, M, hk, h1, h2, hm => by have := M.len; omega
  | m + 1, k, done, opn, M, hk, h1, h2, hm => by
    have M' := M.push hk h1 h2
    have key : ∀ (xs out : List Int), (∀ b ∈ xs, 0 ≤ b ∧ b < (n : Int)) → Met n out (opn ++ [k]) → ∃ o, foldO (fun out s => if out.contains s || (opn ++ [k]).contains s then some out else dfs nx m s out (opn ++ [k])) out xs = some o ∧ Met n o (opn ++ [k]) := by
      intro xs
      induction xs with
      | nil => exact fun out _ Mo => ⟨out, rfl, Mo⟩
      | cons x xs ih =>
        intro out hx Mo
        simp only [foldO]
        by_cases hc : (out.contains x || (opn ++ [k]).contains x) = true
        · rw [if_pos hc]; exact ih out (fun b hb => hx b (by simp [hb])) Mo
        · rw [if_neg hc]
          simp only [Bool.or_eq_true, List.contains_iff_mem, not_or] at hc
          obtain ⟨o, ho, Mo'⟩ := dfs_tot hnx m x out (opn ++ [k]) Mo (hx x (by simp)) hc.1 hc.2 (by simp; omega)
          rw [ho]
          exact ih _ (fun b hb => hx b (by simp [hb])) Mo'
    obtain ⟨o, ho, Mo⟩ := key (nx k.toNat) done (hnx k.toNat (by omega)) M'
    exact ⟨o, by simp only [dfs, ho, Option.map_some], Mo.pop⟩
section
variable {f : Fun}
theorem foldO_snd {α β σ : Type} (step : σ → α → Option σ) (nb : β → σ → α → β) : ∀ (xs : List α) (b : β) (s : σ), (foldO (fun (q : β × σ) x => (step q.2 x).map fun s' => (nb q.1 q.2 x, s')) (b, s) xs).map Prod.snd = foldO step s xs
  | [], b, s => rfl
  | x :: xs, b, s => by
    simp only [foldO]
    cases step s x with
    | none => rfl
    | some s' => exact foldO_snd step nb xs _ s'
theorem Wf.nx (W : Wf f) : ∀ k, k < f.Blocks.length → ∀ b ∈ nxt f k, 0 ≤ b ∧ b < (f.Blocks.length : Int) := fun k _ b hb => W.nxt_lt hb
theorem post_n (W : Wf f) : ∀ (m : Nat) (k : Int) (done opn : List Int), Met f.Blocks.length done opn → 0 ≤ k ∧ k < f.Blocks.length → k ∉ done → k ∉ opn → r08_post_n m f k done opn = dfs (nxt f) m k done opn
  | 0, k, done, opn, M, hk, h1, h2 => rfl
  | m + 1, k, done, opn, M, hk, h1, h2 => by
    have h24 := W.n1
    have hlen := M.len
    have M' := M.push hk h1 h2
    simp only [r08_post_n, r08_post_r]
    rw [app_ok (by simp; omega) (by simp; omega)]
    simp only [List.nil_append, Option.bind_some]
    rw [app_ok (by simp; omega) (by simp; omega)]
    simp only [Option.bind_some]
    have hN := Next_eq W (k := k.toNat) (by omega)
    rw [show ((k.toNat : Nat) : Int) = k by omega] at hN
    rw [hN]
    simp only [Option.bind_some]
    have hne : (opn ++ [k]).isEmpty = false := by simp
    have hloop : r08_post_l13 f k (r08_post_n m) (nxt f k.toNat) (opn ++ [k], false, done, 0) = foldO (fun out s => if out.contains s || (opn ++ [k]).contains s then some out else dfs (nxt f) m s out (opn ++ [k])) done (nxt f k.toNat) := by
      rw [← foldO_snd _ (fun (b : Bool) out s => if out.contains s || (opn ++ [k]).contains s then b else true) (nxt f k.toNat) false done]
      refine loop_fold (nxt f k.toNat) (by have := W.nxt_len k.toNat; omega) (fun (q : Bool × List Int) i => (opn ++ [k], q.1, q.2, i)) _ Prod.snd (fun q => Met f.Blocks.length q.2 (opn ++ [k])) (fun q i x Mo hx => ?_) (fun q x q' Mo hx hq => ?_) (fun q Mo => ?_) (false, done) M'
      · obtain ⟨b, out⟩ := q
        have hi := (List.getElem?_eq_some_iff.1 hx).1
        have hxr := W.nxt_lt (List.mem_of_getElem? hx)
        have hol := Mo.len
        simp only [List.length_append, List.length_singleton] at hol
        have hix : ix (nxt f k.toNat) (i : Int) = some x := by rw [ix_nat hi, ← hx]; simp [hi]
        simp only at Mo
        simp only [r08_post_l13_b, r08_post_j9, r08_post_j12, r08_post_j11, show (i : Int) < ((nxt f k.toNat).length : Int) by omega, decide_true, if_true, hix, Option.bind_some, Has_eq (show out.length < 140737488355328 by omega), Has_eq (show (opn ++ [k]).length < 140737488355328 by simp; omega)]
        cases hc1 : out.contains x with
        | true => cases b <;> simp [hc1]
        | false =>
          cases hc2 : (opn ++ [k]).contains x with
          | true => cases b <;> simp [hc1, hc2]
          | false =>
            have hp := post_n W m x out (opn ++ [k]) Mo hxr (by simpa using hc1) (by simpa using hc2)
            cases b <;> simp only [Bool.not_false, Bool.false_eq_true, if_false, if_true, Option.bind_some, hp, Bool.or_self, hne] <;> cases dfs (nxt f) m x out (opn ++ [k]) <;> rfl
      · obtain ⟨b, out⟩ := q
        simp only [Option.map_eq_some_iff] at hq
        obtain ⟨o, ho, rfl⟩ := hq
        simp only at ho Mo ⊢
        split at ho
        · obtain rfl := Option.some.inj ho; exact Mo
        · rename_i hc
          simp only [Bool.or_eq_true, List.contains_iff_mem, not_or] at hc
          obtain ⟨o', ho', Mo'⟩ := dfs_tot W.nx (m + f.Blocks.length + 1) x out (opn ++ [k]) Mo (W.nxt_lt hx) hc.1 hc.2 (by omega)
          have := dfs_mono (nxt f) (show m ≤ m + f.Blocks.length + 1 by omega) ho
          rw [ho'] at this
          obtain rfl := Option.some.inj this
          exact Mo'
      · simp [r08_post_l13_b]
    rw [hloop]
    simp only [dfs]
    cases hf : foldO (fun out s => if out.contains s || (opn ++ [k]).contains s then some out else dfs (nxt f) m s out (opn ++ [k])) done (nxt f k.toNat) with
    | none => rfl
    | some out =>
      have hout : out.length ≤ 24 := by
        obtain ⟨o', ho', Mo'⟩ := dfs_tot W.nx (m + 1 + f.Blocks.length + 1) k done opn M hk h1 h2 (by omega)
        have hd : dfs (nxt f) (m + 1) k done opn = some (out ++ [k]) := by simp only [dfs, hf, Option.map_some]
        have := dfs_mono (nxt f) (show m + 1 ≤ m + 1 + f.Blocks.length + 1 by omega) hd
        rw [ho'] at this
        have hl := Mo'.len
        have := congrArg List.length (Option.some.inj this)
        simp at this hl
        omega
      simp only [Option.bind_some, Option.map_some]
      rw [app_ok (by simp; omega) (by simp; omega)]
      simp only [List.nil_append, Option.bind_some]
      rw [app_ok (by simp; omega) (by simp; omega)]
      rfl
theorem met0 (n : Nat) : Met n [] [] := ⟨by simp, by simp⟩
/-- blocks, as the reference lists them -/
theorem post_spec (W : Wf f) : ∃ out, r08_post f 0 [] [] = some (out ++ [0]) ∧ dfs (nxt f) (f.Blocks.length + 1) 0 [] [] = some (out ++ [0]) ∧ Met f.Blocks.length (out ++ [0]) [] := by
  have h0 := W.n0
  obtain ⟨out, ho, M⟩ := dfs_tot W.nx (f.Blocks.length + 1) 0 [] [] (met0 _) ⟨by omega, by omega⟩ (by simp) (by simp) (by simp)
  refine ⟨out, ?_, ho, M⟩
  have heq : ∀ m, r08_post_n m f 0 [] [] = dfs (nxt f) m 0 [] [] := fun m => post_n W m 0 [] [] (met0 _) ⟨by omega, by omega⟩ (by simp) (by simp)
  unfold r08_post
  refine (limO_some (fun a b x hab hx => ?_)).2 ⟨f.Blocks.length + 1, by rw [heq]; exact ho⟩
  rw [heq] at hx ⊢
  exact dfs_mono _ hab hx
end
end Go.Ab

/-
  Where blocks stand, and which edges go back: plain laws.
-/
namespace Go.Ab
open Go
set_option linter.unusedVariables false
set_option linter.unusedSimpArgs false
set_option maxRecDepth 10000

theorem cont_app (a b : List Int) (x : Int) : (a ++ b).contains x = (a.contains x || b.contains x) := by simp [List.contains_eq_any_beq]
def metL (n : Nat) (l : List Int) : List Bool := (List.range n).map fun (b : Nat) => l.contains (b : Int)
theorem metL_len (n : Nat) (l : List Int) : (metL n l).length = n := by simp [metL]
theorem metL_congr {n : Nat} {a b : List Int} (h : ∀ x, x ∈ a ↔ x ∈ b) : metL n a = metL n b := by
  unfold metL
  refine List.map_congr_left fun x _ => ?_
  have := h x
  by_cases hx : (x : Int) ∈ a
  · rw [List.contains_iff_mem.2 hx, List.contains_iff_mem.2 (this.1 hx)]
  · have h2 : (x : Int) ∉ b := fun h => hx (this.2 h)
    rw [Bool.eq_false_iff.2 (fun h => hx (List.contains_iff_mem.1 h)), Bool.eq_false_iff.2 (fun h => h2 (List.contains_iff_mem.1 h))]
theorem ix_metL {n : Nat} {l : List Int} {x : Int} (h : 0 ≤ x ∧ x < n) : ix (metL n l) x = some (l.contains x) := by
  rw [ix, if_pos h.1]
  have : x.toNat < n := by omega
  simp only [metL, List.getElem?_map, List.getElem?_range this, Option.map_some]
  rw [show ((x.toNat : Nat) : Int) = x by omega]
theorem metL_set {n : Nat} {l : List Int} {x : Int} (h : 0 ≤ x ∧ x < n) : (metL n l).set x.toNat true = metL n (l ++ [x]) := by
  refine List.ext_getElem (by simp [metL_len]) fun i h1 h2 => ?_
  simp only [metL_len] at h2
  simp only [metL, List.getElem_set, List.getElem_map, List.getElem_range, cont_app]
  by_cases hi : x.toNat = i
  · rw [if_pos hi]
    have : ([x] : List Int).contains (i : Int) = true := by simp; omega
    rw [this, Bool.or_true]
  · rw [if_neg hi]
    have : ([x] : List Int).contains (i : Int) = false := by simp; omega
    rw [this, Bool.or_false]
section
variable {f : Fun}
theorem ix_succs {k : Int} (h : 0 ≤ k ∧ k < f.Blocks.length) : ix (succs f) k = some (nxt f k.toNat) := by
  rw [ix, if_pos h.1]
  have : k.toNat < f.Blocks.length := by omega
  simp [succs, List.getElem?_map, List.getElem?_range this]
theorem visit_n (W : Wf f) : ∀ (m : Nat) (k : Int) (done opn : List Int), Met f.Blocks.length done opn → 0 ≤ k ∧ k < f.Blocks.length → k ∉ done → k ∉ opn →
    graph_walk_visit_s1_n m (succs f) (metL f.Blocks.length (done ++ opn)) done k = (dfs (nxt f) m k done opn).map fun out => (metL f.Blocks.length (out ++ opn), out)
  | 0, k, done, opn, M, hk, h1, h2 => rfl
  | m + 1, k, done, opn, M, hk, h1, h2 => by
    have h24 := W.n1
    have hlen := M.len
    have M' := M.push hk h1 h2
    simp only [graph_walk_visit_s1_n, graph_walk_visit_s1_r, ix_metL hk, ix_succs hk, Option.bind_some, metL_set hk, List.append_assoc]
    have hloop : graph_walk_visit_s1_l5 (succs f) k (graph_walk_visit_s1_n m) (nxt f k.toNat) (metL f.Blocks.length (done ++ (opn ++ [k])), done, 0) = (foldO (fun out s => if out.contains s || (opn ++ [k]).contains s then some out else dfs (nxt f) m s out (opn ++ [k])) done (nxt f k.toNat)).map fun out => (metL f.Blocks.length (out ++ (opn ++ [k])), out) := by
      refine loop_fold (nxt f k.toNat) (by have := W.nxt_len k.toNat; omega) (fun (out : List Int) i => (metL f.Blocks.length (out ++ (opn ++ [k])), out, i)) _ _ (fun out => Met f.Blocks.length out (opn ++ [k])) (fun out i x Mo hx => ?_) (fun out x o Mo hx ho => ?_) (fun out Mo => ?_) done M'
      · have hi := (List.getElem?_eq_some_iff.1 hx).1
        have hxr := W.nxt_lt (List.mem_of_getElem? hx)
        have hix : ix (nxt f k.toNat) (i : Int) = some x := by rw [ix_nat hi, ← hx]; simp [hi]
        simp only [graph_walk_visit_s1_l5_b, graph_walk_visit_s1_j4, show (i : Int) < ((nxt f k.toNat).length : Int) by omega, decide_true, if_true, hix, Option.bind_some, ix_metL hxr]
        rw [cont_app]
        cases hc1 : out.contains x with
        | true => simp
        | false =>
          cases hc2 : (opn ++ [k]).contains x with
          | true => simp
          | false =>
            have hp := visit_n W m x out (opn ++ [k]) Mo hxr (by simpa using hc1) (by simpa using hc2)
            simp only [Bool.or_self, Bool.not_false, if_true, hp, Bool.false_eq_true, if_false]
            cases dfs (nxt f) m x out (opn ++ [k]) <;> rfl
      · split at ho
        · obtain rfl := Option.some.inj ho; exact Mo
        · rename_i hc
          simp only [Bool.or_eq_true, List.contains_iff_mem, not_or] at hc
          obtain ⟨o', ho', Mo'⟩ := dfs_tot W.nx (m + f.Blocks.length + 1) x out (opn ++ [k]) Mo (W.nxt_lt hx) hc.1 hc.2 (by omega)
          have := dfs_mono (nxt f) (show m ≤ m + f.Blocks.length + 1 by omega) ho
          rw [ho'] at this
          obtain rfl := Option.some.inj this
          exact Mo'
      · simp [graph_walk_visit_s1_l5_b]
    rw [hloop]
    simp only [dfs]
    cases hf : foldO (fun out s => if out.contains s || (opn ++ [k]).contains s then some out else dfs (nxt f) m s out (opn ++ [k])) done (nxt f k.toNat) with
    | none => rfl
    | some out =>
      have hout : out.length ≤ 24 := by
        obtain ⟨o', ho', Mo'⟩ := dfs_tot W.nx (m + 1 + f.Blocks.length + 1) k done opn M hk h1 h2 (by omega)
        have hd : dfs (nxt f) (m + 1) k done opn = some (out ++ [k]) := by simp only [dfs, hf, Option.map_some]
        have := dfs_mono (nxt f) (show m + 1 ≤ m + 1 + f.Blocks.length + 1 by omega) hd
        rw [ho'] at this
        have hl := Mo'.len
        have := congrArg List.length (Option.some.inj this)
        simp at this hl
        omega
      simp only [Option.bind_some, Option.map_some]
      rw [app_ok (by simp; omega) (by simp; omega)]
      simp only [Option.bind_some, Option.some.injEq, Prod.mk.injEq, and_true]
      exact metL_congr fun x => by
        simp only [List.mem_append, List.mem_singleton]
        constructor
        · rintro (h | h | h)
          · exact .inl (.inl h)
          · exact .inr h
          · exact .inl (.inr h)
        · rintro ((h | h) | h)
          · exact .inl h
          · exact .inr (.inr h)
          · exact .inr (.inl h)
theorem Order_eq (W : Wf f) : ∃ o, graph_Order f = some (0 :: o) ∧ r08_Order f = some (0 :: o) ∧ (0 :: o).Nodup ∧ (∀ x ∈ (0 :: o), 0 ≤ x ∧ x < (f.Blocks.length : Int)) ∧ (0 :: o).length ≤ 24 := by
  have h24 := W.n1
  obtain ⟨out, h1, h2, M⟩ := post_spec W
  have hl := M.len
  simp only [List.length_append, List.length_singleton, List.length_nil] at hl
  have hM := M.nd
  rw [List.append_nil] at hM
  refine ⟨out.reverse, ?_, ?_, ?_, ?_, ?_⟩
  · unfold graph_Order
    have hmk : mk (f.Blocks.length : Int) 1 false = some (metL f.Blocks.length ([] ++ [])) := by
      unfold mk
      rw [if_pos ⟨by omega, by simp; omega, by simp; omega⟩]
      congr 1
      refine List.ext_getElem (by simp [metL_len]) fun i h1 h2 => ?_
      simp [metL]
    rw [gSuccs_eq W]
    simp only [Option.bind_some, hmk]
    have heq : ∀ m, graph_walk_visit_s1_n m (succs f) (metL f.Blocks.length ([] ++ [])) [] 0 = (dfs (nxt f) m 0 [] []).map fun out => (metL f.Blocks.length (out ++ []), out) := fun m => visit_n W m 0 [] [] (met0 _) ⟨by omega, by have := W.n0; omega⟩ (by simp) (by simp)
    have hv : graph_walk_visit_s1 (succs f) (metL f.Blocks.length ([] ++ [])) [] 0 = some (metL f.Blocks.length ((out ++ [0]) ++ []), out ++ [0]) := by
      unfold graph_walk_visit_s1
      refine (limO_some (fun a b x hab hx => ?_)).2 ⟨f.Blocks.length + 1, by rw [heq, h2]; rfl⟩
      rw [heq] at hx ⊢
      simp only [Option.map_eq_some_iff] at hx ⊢
      obtain ⟨y, hy, rfl⟩ := hx
      exact ⟨y, dfs_mono _ hab hy, rfl⟩
    rw [hv]
    simp only [Option.bind_some, rev]
    rw [if_pos (by simp; omega)]
    simp
  · unfold r08_Order
    rw [h1]
    simp only [Option.bind_some]
    have key : ∀ (j : Nat) (acc : List Int), j ≤ (out ++ [0]).length → acc.length + j ≤ 24 → r08_Order_l1 (out ++ [0]) (acc, (j : Int) - 1) = some (acc ++ ((out ++ [0]).take j).reverse) := by
      intro j
      induction j with
      | zero =>
        intro acc _ _
        unfold r08_Order_l1
        rw [runL_eq]
        simp [r08_Order_l1_b]
      | succ j ih =>
        intro acc hj ha
        unfold r08_Order_l1 at ih ⊢
        have hj' : j < (out ++ [0]).length := by omega
        have hix : ix (out ++ [0]) (((j + 1 : Nat) : Int) - 1) = some (out ++ [0])[j] := by
          rw [show (((j + 1 : Nat) : Int) - 1) = (j : Int) by omega, ix_nat hj']
        have hbody : r08_Order_l1_b (out ++ [0]) acc (((j + 1 : Nat) : Int) - 1) = some (.next (acc ++ [(out ++ [0])[j]], (j : Int) - 1)) := by
          simp only [r08_Order_l1_b, show (0 : Int) ≤ ((j + 1 : Nat) : Int) - 1 by omega, decide_true, if_true, hix, Option.bind_some]
          rw [app_ok (by simp; omega) (by simp; omega)]
          simp only [Option.bind_some]
          rw [wr64 (by omega) (by omega), show (((j + 1 : Nat) : Int) - 1 - 1) = (j : Int) - 1 by omega]
        rw [runL_eq]
        simp only [hbody, Option.bind_some]
        rw [ih _ (by omega) (by simp; omega)]
        rw [List.take_add_one, List.getElem?_eq_getElem hj']
        simp only [Option.toList_some, List.reverse_append, List.reverse_cons, List.reverse_nil, List.nil_append, List.append_assoc, List.cons_append]
    have := key (out ++ [0]).length [] (by omega) (by simp; omega)
    rw [wr64 (by simp <;> omega) (by simp <;> omega), this, List.take_length]
    simp
  · have h : (0 :: out.reverse).Perm (out ++ [0]) := by
      have := (List.reverse_perm (out ++ [0]))
      simpa using this
    exact h.nodup_iff.2 hM
  · intro x hx
    exact M.lt x (by simp at hx ⊢; exact hx.symm)
  · simp; omega
/-! ### places -/
def plc : List Int → Int → Int → Int
  | [], _, _ => -1
  | x :: xs, k, i => if x == k then i else plc xs k (i + 1)
theorem Place_eq {l : List Int} (hl : l.length < 140737488355328) (k : Int) : r08_Place l k = some (plc l k 0) := by
  have key : ∀ (d i : Nat), l.length - i = d → i ≤ l.length → (r08_Place_l1 l k (i : Int)).bind (fun | .next _ => some (-1) | .stop v3 => some v3) = some (plc (l.drop i) k i) := by
    intro d
    induction d with
    | zero =>
      intro i hd hi
      have : i = l.length := by omega
      subst this
      unfold r08_Place_l1
      rw [runL_eq]
      simp [r08_Place_l1_b, plc]
    | succ d ih =>
      intro i hd hi
      have hlt : i < l.length := by omega
      unfold r08_Place_l1 at ih ⊢
      rw [runL_eq, List.drop_eq_getElem_cons hlt, plc]
      simp only [r08_Place_l1_b, show (i : Int) < (l.length : Int) by omega, decide_true, if_true, ix_nat hlt, Option.bind_some]
      cases (l[i] == k) with
      | true => rfl
      | false =>
        simp only [Bool.false_eq_true, if_false, Option.bind_some]
        rw [wr1 (by omega) (by omega)]
        exact ih (i + 1) (by omega) (by omega)
  have := key l.length 0 (by omega) (by omega)
  rw [List.drop_zero] at this
  exact this
theorem plc_snoc (x b : Int) : ∀ (l : List Int) (j : Int), x ∉ l → plc (l ++ [x]) b j = if b = x then j + l.length else plc l b j
  | [], j, _ => by
    by_cases h : b = x
    · subst h; simp [plc]
    · have : (x == b) = false := by rw [beq_eq_false_iff_ne]; exact fun e => h e.symm
      simp [plc, h, this]
  | y :: l, j, hx => by
    simp only [List.mem_cons, not_or] at hx
    rw [List.cons_append, plc, plc]
    by_cases hy : (y == b) = true
    · have := eq_of_beq hy
      subst this
      rw [if_pos hy, if_neg (fun e => hx.1 e.symm), if_pos hy]
    · rw [if_neg hy, if_neg hy, plc_snoc x b l (j + 1) hx.2]
      by_cases h : b = x
      · rw [if_pos h, if_pos h]; simp; omega
      · rw [if_neg h, if_neg h]
def places (n : Nat) (o : List Int) : List Int := (List.range n).map fun (b : Nat) => plc o (b : Int) 0
theorem ix_places {n : Nat} {o : List Int} {b : Int} (h : 0 ≤ b ∧ b < n) : ix (places n o) b = some (plc o b 0) := by
  rw [ix, if_pos h.1]
  have : b.toNat < n := by omega
  simp only [places, List.getElem?_map, List.getElem?_range this, Option.map_some]
  rw [show ((b.toNat : Nat) : Int) = b by omega]
theorem rPlaces_eq (W : Wf f) {o : List Int} (ho : r08_Order f = some o) (hl : o.length ≤ 24) : r08_Places f = some (places f.Blocks.length o) := by
  have h24 := W.n1
  unfold r08_Places
  rw [ho]
  simp only [Option.bind_some]
  have : r08_Places_l1 f o ([], 0) = some (places f.Blocks.length o) := by
    refine loop_fn f.Blocks.length (by omega) (fun i => places i o) (fun i hi => ?_) ?_
    · simp only [r08_Places_l1_b, show (i : Int) < (f.Blocks.length : Int) by omega, decide_true, if_true, Place_eq (show o.length < 140737488355328 by omega), Option.bind_some]
      rw [app_ok (by simp [places]; omega) (by simp [places]; omega)]
      simp [places, List.range_succ]
    · simp [r08_Places_l1_b]
  rw [this]; rfl
theorem gPlaces_eq (W : Wf f) {o : List Int} (ho : graph_Order f = some o) (hl : o.length ≤ 24) (hnd : o.Nodup) (hlt : ∀ x ∈ o, 0 ≤ x ∧ x < (f.Blocks.length : Int)) : graph_Places f = some (places f.Blocks.length o) := by
  have h24 := W.n1
  unfold graph_Places
  have hmk : mk (f.Blocks.length : Int) 8 (0 : Int) = some (List.replicate f.Blocks.length 0) := by
    unfold mk; rw [if_pos ⟨by omega, by simp; omega, by simp; omega⟩]; simp
  rw [hmk]
  simp only [Option.bind_some]
  have h1 : graph_Places_l1 f (List.replicate f.Blocks.length 0) (List.replicate f.Blocks.length 0, 0) = some (List.replicate f.Blocks.length (-1)) := by
    have := loop_fn f.Blocks.length (by omega) (fun i => List.replicate i (-1 : Int) ++ List.replicate (f.Blocks.length - i) 0) (body := fun s => graph_Places_l1_b f (List.replicate f.Blocks.length 0) s.1 s.2) (fin := List.replicate f.Blocks.length (-1)) (fun i hi => ?_) ?_
    · unfold graph_Places_l1; simpa using this
    · have hrep : List.replicate (f.Blocks.length - i) (0 : Int) = 0 :: List.replicate (f.Blocks.length - (i + 1)) 0 := by
        rw [show f.Blocks.length - i = (f.Blocks.length - (i + 1)) + 1 by omega, List.replicate_succ]
      have hix : ix (List.replicate i (-1 : Int) ++ 0 :: List.replicate (f.Blocks.length - (i + 1)) 0) (i : Int) = some 0 := by
        rw [ix, if_pos (by omega)]; simp
      have hset := set_mid (List.replicate i (-1 : Int)) (List.replicate (f.Blocks.length - (i + 1)) 0) 0 (-1)
      simp only [List.length_replicate] at hset
      simp only [graph_Places_l1_b, List.length_replicate, show (i : Int) < (f.Blocks.length : Int) by omega, decide_true, if_true, hrep, hix, Option.bind_some, Int.toNat_natCast, hset]
      rw [List.replicate_succ', List.append_assoc]
      rfl
    · simp [graph_Places_l1_b]
  rw [h1]
  simp only [Option.bind_some, ho]
  have h2 : graph_Places_l2 o (List.replicate f.Blocks.length (-1), 0) = some (places f.Blocks.length o) := by
    have := loop_fn o.length (by omega) (fun i => places f.Blocks.length (o.take i)) (body := fun s => graph_Places_l2_b o s.1 s.2) (fin := places f.Blocks.length o) (fun i hi => ?_) ?_
    · have e : places f.Blocks.length (o.take 0) = List.replicate f.Blocks.length (-1) := by
        refine List.ext_getElem (by simp [places]) fun i h1 h2 => ?_
        simp [places, plc]
      rw [e] at this
      exact this
    · have hx := hlt o[i] (List.getElem_mem hi)
      simp only [graph_Places_l2_b, show (i : Int) < (o.length : Int) by omega, decide_true, if_true, ix_nat hi, Option.bind_some, ix_places hx]
      have hni : o[i] ∉ o.take i := fun h => by
        obtain ⟨j, hj, he⟩ := List.getElem_of_mem h
        have hj' : j < i := by simp at hj; omega
        simp only [List.getElem_take] at he
        exact (List.pairwise_iff_getElem.1 hnd j i (by omega) hi hj') he
      have : (places f.Blocks.length (o.take i)).set o[i].toNat (i : Int) = places f.Blocks.length (o.take (i + 1)) := by
        rw [List.take_add_one, List.getElem?_eq_getElem hi]
        refine List.ext_getElem (by simp [places]) fun j h1 h2 => ?_
        simp only [places, List.getElem_set, List.getElem_map, List.getElem_range, Option.toList_some, plc_snoc _ _ _ _ hni]
        by_cases hj : o[i].toNat = j
        · rw [if_pos hj, if_pos (by omega)]; simp; omega
        · rw [if_neg hj, if_neg (by omega)]
      rw [this]
    · simp [graph_Places_l2_b]
  rw [h2]; rfl
/-! ### edges that go back -/
def bk (A : Int → Int) (k : Nat) (l : List Int) : List A2_Int := (l.filter fun b => decide (0 ≤ A k) && decide (A b ≤ A k)).map fun b => ⟨(k : Int), b⟩
def backs (f : Fun) (A : Int → Int) (n : Nat) : List A2_Int := (List.range n).flatMap fun k => bk A k (nxt f k)
theorem bk_len (A : Int → Int) (k : Nat) (l : List Int) : (bk A k l).length ≤ l.length := by
  simp only [bk, List.length_map]; exact List.length_filter_le _ _
theorem backs_len (W : Wf f) (A : Int → Int) : ∀ n, (backs f A n).length ≤ 30 * n
  | 0 => by simp [backs]
  | n + 1 => by
    have h1 := backs_len W A n
    have h2 := bk_len A n (nxt f n)
    have h3 := W.nxt_len n
    unfold backs at h1 ⊢
    rw [List.range_succ, List.flatMap_append, List.length_append]
    simp only [List.flatMap_cons, List.flatMap_nil, List.append_nil]
    omega
theorem bk_take (A : Int → Int) (k : Nat) (l : List Int) (i : Nat) (hi : i < l.length) : bk A k (l.take (i + 1)) = if decide (0 ≤ A k) && decide (A l[i] ≤ A k) then bk A k (l.take i) ++ [⟨(k : Int), l[i]⟩] else bk A k (l.take i) := by
  rw [List.take_add_one, List.getElem?_eq_getElem hi]
  simp only [bk, Option.toList_some, List.filter_append, List.map_append]
  cases h : (decide (0 ≤ A k) && decide (A l[i] ≤ A k)) <;> simp [h]
theorem gBacks_eq (W : Wf f) {o : List Int} (hp : graph_Places f = some (places f.Blocks.length o)) : graph_Backs f = some (backs f (fun b => plc o b 0) f.Blocks.length) := by
  have h24 := W.n1
  unfold graph_Backs
  rw [hp, gSuccs_eq W]
  simp only [Option.bind_some]
  have hsl : (succs f).length = f.Blocks.length := by simp [succs]
  have : graph_Backs_l37 (places f.Blocks.length o) (succs f) ([], 0) = some (backs f (fun b => plc o b 0) f.Blocks.length) := by
    refine loop_fn f.Blocks.length (by omega) (fun k => backs f (fun b => plc o b 0) k) (fun k hk => ?_) ?_
    · have hkr : 0 ≤ (k : Int) ∧ (k : Int) < f.Blocks.length := by omega
      simp only [graph_Backs_l37_b, hsl, show (k : Int) < (f.Blocks.length : Int) by omega, decide_true, if_true, ix_succs hkr, Option.bind_some, Int.toNat_natCast]
      have hbl := backs_len W (fun b => plc o b 0) k
      have hnl := W.nxt_len k
      have hin : graph_Backs_l36 (places f.Blocks.length o) (succs f) k (nxt f k) (backs f (fun b => plc o b 0) k, 0) = some (backs f (fun b => plc o b 0) (k + 1)) := by
        have := loop_fn (nxt f k).length (by omega) (fun i => backs f (fun b => plc o b 0) k ++ bk (fun b => plc o b 0) k ((nxt f k).take i)) (body := fun s => graph_Backs_l36_b (places f.Blocks.length o) (succs f) k (nxt f k) s.1 s.2) (fin := backs f (fun b => plc o b 0) (k + 1)) (fun i hi => ?_) ?_
        · unfold graph_Backs_l36; simpa [bk] using this
        · have hb := W.nxt_lt (List.getElem_mem hi)
          have hbt := bk_len (fun b => plc o b 0) k ((nxt f k).take i)
          have htl : ((nxt f k).take i).length ≤ 30 := by simp; omega
          simp only [graph_Backs_l36_b, graph_Backs_j34, graph_Backs_j35, show (i : Int) < ((nxt f k).length : Int) by omega, decide_true, if_true, ix_nat hi, Option.bind_some, ix_places hkr, ix_places hb]
          rw [bk_take _ _ _ _ hi]
          by_cases h1 : 0 ≤ plc o k 0
          · simp only [h1, decide_true, if_true, Option.bind_some, Bool.true_and]
            cases decide (plc o (nxt f k)[i] 0 ≤ plc o k 0) with
            | true =>
              simp only [if_true]
              rw [app_ok (by simp; omega) (by simp; omega)]
              simp
            | false => simp
          · simp [h1]
        · simp [graph_Backs_l36_b, backs, List.range_succ]
      rw [hin]; rfl
    · simp [graph_Backs_l37_b, hsl]
  rw [this]; rfl
theorem rBacks_eq (W : Wf f) {o : List Int} (hp : r08_Places f = some (places f.Blocks.length o)) : r08_Backs f = some (backs f (fun b => plc o b 0) f.Blocks.length) := by
  have h24 := W.n1
  unfold r08_Backs
  rw [hp]
  simp only [Option.bind_some]
  have : r08_Backs_l29 f (places f.Blocks.length o) ([], 0) = some (backs f (fun b => plc o b 0) f.Blocks.length) := by
    refine loop_fn f.Blocks.length (by omega) (fun k => backs f (fun b => plc o b 0) k) (fun k hk => ?_) ?_
    · have hkr : 0 ≤ (k : Int) ∧ (k : Int) < f.Blocks.length := by omega
      simp only [r08_Backs_l29_b, show (k : Int) < (f.Blocks.length : Int) by omega, decide_true, if_true, Next_eq W hk, Option.bind_some]
      have hbl := backs_len W (fun b => plc o b 0) k
      have hnl := W.nxt_len k
      have hin : r08_Backs_l28 f (places f.Blocks.length o) k (nxt f k) (backs f (fun b => plc o b 0) k, 0) = some (backs f (fun b => plc o b 0) (k + 1)) := by
        by_cases hA : 0 ≤ plc o k 0
        · have := loop_fn (nxt f k).length (by omega) (fun i => backs f (fun b => plc o b 0) k ++ bk (fun b => plc o b 0) k ((nxt f k).take i)) (body := fun s => r08_Backs_l28_b f (places f.Blocks.length o) k (nxt f k) s.1 s.2) (fin := backs f (fun b => plc o b 0) (k + 1)) (fun i hi => ?_) ?_
          · unfold r08_Backs_l28; simpa [bk] using this
          · have hb := W.nxt_lt (List.getElem_mem hi)
            have hbt := bk_len (fun b => plc o b 0) k ((nxt f k).take i)
            have htl : ((nxt f k).take i).length ≤ 30 := by simp; omega
            simp only [r08_Backs_l28_b, r08_Backs_j25, r08_Backs_j27, show (i : Int) < ((nxt f k).length : Int) by omega, decide_true, if_true, ix_nat hi, Option.bind_some, ix_places hkr, ix_places hb, hA]
            rw [bk_take _ _ _ _ hi]
            simp only [hA, decide_true, Bool.true_and]
            cases decide (plc o (nxt f k)[i] 0 ≤ plc o k 0) with
            | true =>
              simp only [if_true]
              rw [app_ok (by simp; omega) (by simp; omega)]
              simp
            | false => simp
          · simp [r08_Backs_l28_b, r08_Backs_j25, backs, List.range_succ]
        · have hbk : bk (fun b => plc o b 0) k (nxt f k) = [] := by simp [bk, hA]
          have e : backs f (fun b => plc o b 0) (k + 1) = backs f (fun b => plc o b 0) k := by simp [backs, List.range_succ, hbk]
          rw [e]
          unfold r08_Backs_l28
          rw [runL_eq]
          have hj : r08_Backs_j25 f (places f.Blocks.length o) k (nxt f k) (backs f (fun b => plc o b 0) k) 0 = some false := by
            unfold r08_Backs_j25
            simp only [ix_places hkr, Option.bind_some, hA, decide_false]
            split <;> rfl
          simp only [r08_Backs_l28_b, hj, Option.bind_some, Bool.false_eq_true, if_false]
      rw [hin]; rfl
    · simp [r08_Backs_l29_b]
  rw [this]; rfl
end
end Go.Ab

/-
  GraphFollows: plain laws.
-/
namespace Go.Ab
open Go
set_option linter.unusedVariables false
set_option linter.unusedSimpArgs false
set_option maxRecDepth 10000

section
variable {f : Fun}
/-- from which blocks one is gone to, of the first ones -/
def prd (f : Fun) (k : Nat) (b : Int) : List Int := ((List.range k).filter fun j => (nxt f j).contains b).map fun (j : Nat) => (j : Int)
def preds (f : Fun) : List (List Int) := (List.range f.Blocks.length).map fun (b : Nat) => prd f f.Blocks.length (b : Int)
theorem prd_len (k : Nat) (b : Int) : (prd f k b).length ≤ k := by
  simp only [prd, List.length_map]
  have := List.length_filter_le (fun j => (nxt f j).contains b) (List.range k)
  simpa using this
theorem prd_succ (k : Nat) (b : Int) : prd f (k + 1) b = if (nxt f k).contains b then prd f k b ++ [(k : Int)] else prd f k b := by
  simp only [prd, List.range_succ, List.filter_append, List.map_append]
  have e : List.filter (fun j => (nxt f j).contains b) [k] = if (nxt f k).contains b then [k] else [] := by simp only [List.filter_cons, List.filter_nil]
  rw [e]
  cases (nxt f k).contains b
  · simp
  · simp
theorem rPreds_eq (W : Wf f) : r08_Preds f = some (preds f) := by
  have h24 := W.n1
  have : r08_Preds_l21 f ([], 0) = some (preds f) := by
    refine loop_fn f.Blocks.length (by omega) (fun i => (List.range i).map fun (b : Nat) => prd f f.Blocks.length (b : Int)) (fun b hb => ?_) ?_
    · have hin : r08_Preds_l20 f ((List.range b).map fun (b : Nat) => prd f f.Blocks.length (b : Int)) b ([], 0) = some (prd f f.Blocks.length b) := by
        refine loop_fn f.Blocks.length (by omega) (fun k => prd f k b) (fun k hk => ?_) ?_
        · have hl := W.nxt_len k
          have hp := prd_len (f := f) k b
          simp only [r08_Preds_l20_b, r08_Preds_j19, show (k : Int) < (f.Blocks.length : Int) by omega, decide_true, if_true, Next_eq W hk, Option.bind_some, Has_eq (show (nxt f k).length < 140737488355328 by omega)]
          rw [prd_succ]
          cases (nxt f k).contains (b : Int) with
          | true =>
            simp only [if_true]
            rw [app_ok (by simp; omega) (by simp; omega)]
            rfl
          | false => rfl
        · simp [r08_Preds_l20_b]
      simp only [r08_Preds_l21_b, show (b : Int) < (f.Blocks.length : Int) by omega, decide_true, if_true, hin, Option.bind_some]
      rw [app_ok (by simp; omega) (by simp; omega), List.range_succ]
      simp
    · simp [r08_Preds_l21_b, preds]
  unfold r08_Preds
  rw [this]; rfl
theorem gPreds_eq (W : Wf f) : graph_Preds f = some (preds f) := by
  have h24 := W.n1
  unfold graph_Preds
  have hmk : mk (f.Blocks.length : Int) 24 ([] : List Int) = some (List.replicate f.Blocks.length []) := by
    unfold mk; rw [if_pos ⟨by omega, by simp; omega, by simp; omega⟩]; simp
  rw [hmk, gSuccs_eq W]
  simp only [Option.bind_some]
  have hsl : (succs f).length = f.Blocks.length := by simp [succs]
  have : graph_Preds_l5 (succs f) (List.replicate f.Blocks.length [], 0) = some (preds f) := by
    have := loop_fn f.Blocks.length (by omega) (fun k => (List.range f.Blocks.length).map fun (b : Nat) => prd f k (b : Int)) (body := fun s => graph_Preds_l5_b (succs f) s.1 s.2) (fin := preds f) (fun k hk => ?_) ?_
    · have e : ((List.range f.Blocks.length).map fun (b : Nat) => prd f 0 (b : Int)) = List.replicate f.Blocks.length [] := by
        refine List.ext_getElem (by simp) fun i h1 h2 => ?_
        simp [prd]
      rw [e] at this
      exact this
    · have hkr : 0 ≤ (k : Int) ∧ (k : Int) < f.Blocks.length := by omega
      have hl := W.nxt_len k
      simp only [graph_Preds_l5_b, hsl, show (k : Int) < (f.Blocks.length : Int) by omega, decide_true, if_true, ix_succs hkr, Option.bind_some, Int.toNat_natCast]
      have hin : graph_Preds_l4 (succs f) k (nxt f k) ((List.range f.Blocks.length).map fun (b : Nat) => prd f k (b : Int), 0) = some ((List.range f.Blocks.length).map fun (b : Nat) => prd f (k + 1) (b : Int)) := by
        have hnd : (nxt f k).Nodup := dd_nodup _ _ (by simp)
        have := loop_fn (nxt f k).length (by omega) (fun i => (List.range f.Blocks.length).map fun (b : Nat) => if ((nxt f k).take i).contains (b : Int) then prd f k (b : Int) ++ [(k : Int)] else prd f k (b : Int)) (body := fun s => graph_Preds_l4_b (succs f) k (nxt f k) s.1 s.2) (fin := (List.range f.Blocks.length).map fun (b : Nat) => prd f (k + 1) (b : Int)) (fun i hi => ?_) ?_
        · unfold graph_Preds_l4; simpa using this
        · have hx := W.nxt_lt (List.getElem_mem hi)
          have hni : (nxt f k)[i] ∉ (nxt f k).take i := fun h => by
            obtain ⟨j, hj, he⟩ := List.getElem_of_mem h
            have hj' : j < i := by simp at hj; omega
            simp only [List.getElem_take] at he
            exact (List.pairwise_iff_getElem.1 hnd j i (by omega) hi hj') he
          have hxn : (nxt f k)[i].toNat < f.Blocks.length := by omega
          have hcast : (((nxt f k)[i].toNat : Nat) : Int) = (nxt f k)[i] := by omega
          have hnc : ((nxt f k).take i).contains (nxt f k)[i] = false := by rw [Bool.eq_false_iff]; intro h; exact hni (List.contains_iff_mem.1 h)
          have hix : ix ((List.range f.Blocks.length).map fun (b : Nat) => if ((nxt f k).take i).contains (b : Int) then prd f k (b : Int) ++ [(k : Int)] else prd f k (b : Int)) (nxt f k)[i] = some (prd f k (nxt f k)[i]) := by
            rw [ix, if_pos hx.1, List.getElem?_map, List.getElem?_range hxn]
            simp only [Option.map_some, hcast, hnc, Bool.false_eq_true, if_false]
          have hpl := prd_len (f := f) k (nxt f k)[i]
          simp only [graph_Preds_l4_b, show (i : Int) < ((nxt f k).length : Int) by omega, decide_true, if_true, ix_nat hi, Option.bind_some, hix]
          rw [app_ok (by simp; omega) (by simp; omega)]
          simp only [Option.bind_some, Option.some.injEq, Stp.next.injEq, Prod.mk.injEq, and_true]
          rw [List.take_add_one, List.getElem?_eq_getElem hi]
          refine List.ext_getElem (by simp) fun j h1 h2 => ?_
          simp only [List.getElem_set, List.getElem_map, List.getElem_range, Option.toList_some, cont_app]
          by_cases hj : (nxt f k)[i].toNat = j
          · rw [if_pos hj]
            have hji : (j : Int) = (nxt f k)[i] := by omega
            have hc : ([(nxt f k)[i]] : List Int).contains (j : Int) = true := by simp [hji]
            rw [hc, Bool.or_true, if_pos rfl, hji]
          · rw [if_neg hj]
            have hc : ([(nxt f k)[i]] : List Int).contains (j : Int) = false := by simp; omega
            rw [hc, Bool.or_false]
        · simp only [graph_Preds_l4_b, Int.lt_irrefl, decide_false, Bool.false_eq_true, if_false, List.take_length]
          congr 2
          exact List.map_congr_left fun b _ => (prd_succ k (b : Int)).symm
      rw [hin]; rfl
    · simp [graph_Preds_l5_b, hsl, preds]
  rw [this]; rfl
theorem l2_self {B : List A2_Int} (hB : B.length < 140737488355328) : l08_GraphFollows_l2 B B 0 = some (.next ()) := by
  obtain ⟨r, hr, h⟩ := search_loop hB (fun _ => false) (fun _ => ()) (body := fun s => l08_GraphFollows_l2_b B B s) (fun i x h0 hx => by
    have := (ix_lt hx).2
    simp [l08_GraphFollows_l2_b, this, hx]) (fun i hi => by simp [l08_GraphFollows_l2_b, hi])
  unfold l08_GraphFollows_l2
  rw [hr]
  rcases h with ⟨rfl, h⟩ | ⟨i, h0, rfl, h⟩
  · rfl
  · simp at h
theorem graphFollows (f : Fun) (r : RFun f) : l08_GraphFollows f = some true := by
  obtain ⟨v, hv, h⟩ := Light_spec r
  unfold l08_GraphFollows
  rw [hv]
  rcases h with rfl | ⟨rfl, W⟩
  · rfl
  have h24 := W.n1
  obtain ⟨o, h1, h2, hnd, hlt, hl⟩ := Order_eq W
  have hP := gPlaces_eq W h1 hl hnd hlt
  have hP' := rPlaces_eq W h2 hl
  have hB := gBacks_eq W hP
  have hB' := rBacks_eq W hP'
  have hbl := backs_len W (fun b => plc (0 :: o) b 0) f.Blocks.length
  have hls : r08_Lists (succs f) (succs f) = some true := Lists_self (by simp [succs]; omega) fun x hx => by
    obtain ⟨k, _, rfl⟩ := List.mem_map.1 hx
    have := W.nxt_len k; omega
  have hlp : r08_Lists (preds f) (preds f) = some true := Lists_self (by simp [preds]; omega) fun x hx => by
    obtain ⟨k, _, rfl⟩ := List.mem_map.1 hx
    have := prd_len (f := f) f.Blocks.length (k : Int); omega
  simp only [Option.bind_some, l08_GraphFollows_j1, gSuccs_eq W, rSuccs_eq W, hls, gPreds_eq W, rPreds_eq W, hlp, h1, h2, Ints_self (show (0 :: o).length < 140737488355328 by omega), hP, hP', Ints_self (show (places f.Blocks.length (0 :: o)).length < 140737488355328 by simp [places]; omega), hB, hB', l2_self (show (backs f (fun b => plc (0 :: o) b 0) f.Blocks.length).length < 140737488355328 by omega)]
  simp
end
end Go.Ab
