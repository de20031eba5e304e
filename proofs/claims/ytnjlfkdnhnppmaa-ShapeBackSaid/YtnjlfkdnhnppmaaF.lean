/-
  Shapes.
-/
import Derived.Test.YtnjlfkdnhnppmaaD
import Derived.Test.YtnjlfkdnhnppmaaC
namespace Go.Ab
open Go
set_option linter.unusedVariables false
set_option linter.unusedSimpArgs false

/-- a power of two, as the document's loop has it -/
theorem power_eq {n : Int} (h : n ≤ 62) : r03_power n = some (2 ^ n.toNat) := by
  unfold r03_power
  have key : ∃ r, r03_power_l1 n (1, 0) = some r ∧ r = 2 ^ n.toNat := by
    refine runL_inv (I := fun s => 0 ≤ s.2 ∧ (s.2 ≤ n ∨ s.2 = 0) ∧ s.1 = 2 ^ s.2.toNat) (Q := fun r => r = 2 ^ n.toNat) (μ := fun s => (n - s.2).toNat) ?_ (1, 0) (by simp)
    rintro ⟨out, i⟩ ⟨h1, h2, h3⟩
    simp only at h1 h2 h3 ⊢
    unfold r03_power_l1_b
    by_cases hi : i < n
    · right
      refine ⟨_, by rw [if_pos (by simpa using hi)], ?_⟩
      have hp : (2 : Int) ^ i.toNat ≤ 2 ^ 61 := by
        exact_mod_cast Nat.pow_le_pow_right (by decide) (show i.toNat ≤ 61 by omega)
      have h0 : (0 : Int) < 2 ^ i.toNat := by exact_mod_cast Nat.two_pow_pos i.toNat
      have e1 : IntKind.wrap .i64 (out * 2) = out * 2 := wr64 (by omega) (by omega)
      have e2 : IntKind.wrap .i64 (i + 1) = i + 1 := wr64 (by omega) (by omega)
      rw [e1, e2]
      refine ⟨⟨by omega, by omega, ?_⟩, by omega⟩
      simp only
      rw [h3, show (i + 1).toNat = i.toNat + 1 by omega, Int.pow_succ]
    · left
      refine ⟨out, by rw [if_neg (by simpa using hi)], ?_⟩
      rw [h3]
      rcases h2 with h2 | h2
      · rw [show i = n by omega]
      · rw [h2, show n.toNat = (0 : Int).toNat by omega]
  obtain ⟨r, h1, h2⟩ := key
  rw [h1, h2]; rfl

theorem two_pow_le {k n : Nat} (h : k ≤ n) : (2 : Int) ^ k ≤ 2 ^ n := by exact_mod_cast Nat.pow_le_pow_right (by decide) h

/-- a shape that may be -/
def OkSh (x : Shape) : Prop := 0 ≤ x.Slots ∧ x.Slots ≤ 16 ∧ 0 ≤ x.Mask ∧ x.Mask < 2 ^ x.Slots.toNat
instance (x : Shape) : Decidable (OkSh x) := by unfold OkSh; exact inferInstance

theorem Check_eq (x : Shape) : shape_Check x = some (if OkSh x then 0 else 16) := by
  unfold shape_Check
  by_cases h : 0 ≤ x.Slots ∧ x.Slots ≤ 16
  · have hp := two_pow_le (show x.Slots.toNat ≤ 16 by omega)
    have h0 : (0 : Int) < 2 ^ x.Slots.toNat := by exact_mod_cast Nat.two_pow_pos _
    have e : IntKind.wrap .i64 (1 * 2 ^ (min x.Slots.toNat 64)) = 2 ^ x.Slots.toNat := by
      rw [show min x.Slots.toNat 64 = x.Slots.toNat by omega, Int.one_mul]
      exact wr64 (by omega) (by omega)
    rw [e]
    by_cases h2 : 0 ≤ x.Mask ∧ x.Mask < 2 ^ x.Slots.toNat
    · rw [if_neg (by simp; omega), if_pos (show OkSh x from ⟨h.1, h.2, h2⟩)]
    · rw [if_pos (by simp; omega), if_neg (fun hh : OkSh x => h2 hh.2.2)]
  · rw [if_pos (by simp; omega), if_neg (fun hh : OkSh x => h ⟨hh.1, hh.2.1⟩)]

theorem rCheck_eq (x : Shape) : r03_Check x = some (if OkSh x then 0 else 16) := by
  unfold r03_Check r03_Check_j2
  by_cases h : 0 ≤ x.Slots ∧ x.Slots ≤ 16
  · rw [power_eq (by omega)]
    have h0 : (0 : Int) < 2 ^ x.Slots.toNat := by exact_mod_cast Nat.two_pow_pos _
    by_cases h1 : 0 ≤ x.Mask
    · by_cases h2 : x.Mask < 2 ^ x.Slots.toNat
      · rw [if_pos (show OkSh x from ⟨h.1, h.2, h1, h2⟩)]
        simp [show ¬ x.Slots < 0 by omega, show ¬ 16 < x.Slots by omega, show ¬ x.Mask < 0 by omega, show ¬ (2 ^ x.Slots.toNat ≤ x.Mask) by omega]
      · rw [if_neg (fun hh : OkSh x => h2 hh.2.2.2)]
        simp [show ¬ x.Slots < 0 by omega, show ¬ 16 < x.Slots by omega, show ¬ x.Mask < 0 by omega, show (2 ^ x.Slots.toNat ≤ x.Mask) by omega]
    · rw [if_neg (fun hh : OkSh x => h1 hh.2.2.1)]
      simp [show ¬ x.Slots < 0 by omega, show ¬ 16 < x.Slots by omega, show x.Mask < 0 by omega]
  · rw [if_pos (by simp; omega), if_neg (fun hh : OkSh x => h ⟨hh.1, hh.2.1⟩)]

theorem Of_eq (n : Int) : shape_Of n = some (if 0 ≤ n ∧ n < 2097152 then (if OkSh ⟨n % 32, n / 32⟩ then (⟨n % 32, n / 32⟩, 0) else (⟨0, 0⟩, 16)) else (⟨0, 0⟩, 16)) := by
  unfold shape_Of
  by_cases h : 0 ≤ n ∧ n < 2097152
  · have e1 : bAnd .i64 n 31 = n % 32 := by
      have := bAnd64 (a := n.toNat) (b := 31) (by omega) (by omega)
      rw [show ((n.toNat : Nat) : Int) = n by omega] at this
      have e : n.toNat &&& 31 = n.toNat % 32 := Nat.and_two_pow_sub_one_eq_mod n.toNat 5
      rw [e] at this
      rw [show ((31 : Nat) : Int) = 31 from rfl] at this
      rw [this]; omega
    have e2 : Int.fdiv n (2 ^ (min (5 : Int).toNat 64)) = n / 32 := by
      show Int.fdiv n 32 = n / 32
      rw [Int.fdiv_eq_ediv_of_nonneg _ (by omega)]
    rw [if_neg (by simp; omega), if_pos h, e1, e2, Check_eq]
    by_cases h2 : OkSh ⟨n % 32, n / 32⟩ <;> simp [h2]
  · rw [if_pos (by simp; omega), if_neg h]

theorem rOf_eq (n : Int) : r03_Of n = shape_Of n := by
  rw [Of_eq]
  unfold r03_Of
  by_cases h : 0 ≤ n ∧ n < 2097152
  · have e1 : Int.tmod n 32 = n % 32 := Int.tmod_eq_emod_of_nonneg h.1
    have e2 : IntKind.wrap .i64 (Int.tdiv n 32) = n / 32 := by
      rw [Int.tdiv_eq_ediv_of_nonneg h.1]; exact wr64 (by omega) (by omega)
    rw [if_neg (by simp; omega), if_pos h, e1, e2, rCheck_eq]
    by_cases h2 : OkSh ⟨n % 32, n / 32⟩ <;> simp [h2]
  · rw [if_pos (by simp; omega), if_neg h]

/-! ### which slots hold pointers -/
theorem bits_eq : shape_bits = some ((List.range 16).map fun i => (2 : Int) ^ i) := by rfl

theorem tb {m k : Nat} (hm : m < 65536) (hk : k < 16) : (bAnd .i64 (m : Int) ((2 : Int) ^ k) != 0) = m.testBit k := by
  have h1 : (2 : Nat) ^ k ≤ 2 ^ 15 := Nat.pow_le_pow_right (by decide) (by omega)
  have := bAnd64 (a := m) (b := 2 ^ k) (by omega) (by omega)
  rw [show (((2 : Nat) ^ k : Nat) : Int) = (2 : Int) ^ k by push_cast; rfl] at this
  rw [this]
  cases hb : m.testBit k with
  | true =>
    have : (m &&& 2 ^ k) ≠ 0 := fun h => by
      have h2 : (m &&& 2 ^ k).testBit k = true := by rw [Nat.testBit_and, hb, Nat.testBit_two_pow]; simp
      rw [h] at h2; simp at h2
    simp only [bne_iff_ne, ne_eq]; omega
  | false =>
    have : (m &&& 2 ^ k) = 0 := Nat.eq_of_testBit_eq fun j => by
      rw [Nat.testBit_and, Nat.testBit_two_pow, Nat.zero_testBit]
      by_cases hj : k = j
      · subst hj; rw [hb]; rfl
      · simp [hj]
    rw [this]; rfl

theorem td {m k : Nat} (hm : m < 65536) (hk : k < 16) : (Int.tmod (IntKind.wrap .i64 (Int.tdiv (m : Int) ((2 : Int) ^ k))) 2 == 1) = m.testBit k := by
  have e1 : Int.tdiv (m : Int) ((2 : Int) ^ k) = ((m / 2 ^ k : Nat) : Int) := by
    rw [Int.tdiv_eq_ediv_of_nonneg (by omega)]; push_cast; rfl
  have h0 : m / 2 ^ k ≤ m := Nat.div_le_self _ _
  rw [e1, Nat.testBit_eq_decide_div_mod_eq]
  generalize m / 2 ^ k = q at h0 ⊢
  rw [wr64 (by omega) (by omega), Int.tmod_eq_emod_of_nonneg (by omega)]
  by_cases h : q % 2 = 1
  · rw [decide_eq_true h, beq_iff_eq]; omega
  · rw [decide_eq_false h, beq_eq_false_iff_ne]; omega

theorem Pointer_eq {x : Shape} (hx : OkSh x) (k : Int) : shape_Pointer x k = some (decide (0 ≤ k) && (decide (k < x.Slots) && x.Mask.toNat.testBit k.toNat)) := by
  obtain ⟨h1, h2, h3, h4⟩ := hx
  unfold shape_Pointer shape_Pointer_j1
  have hp := two_pow_le (show x.Slots.toNat ≤ 16 by omega)
  by_cases h : 0 ≤ k
  · by_cases h' : k < x.Slots
    · have hix : ixa ((List.range 16).map fun i => (2 : Int) ^ i) 16 k = some (2 ^ k.toNat) := by
        unfold ixa
        rw [if_pos (by omega)]
        simp [show k.toNat < 16 by omega]
      have e := tb (m := x.Mask.toNat) (k := k.toNat) (by omega) (by omega)
      rw [show ((x.Mask.toNat : Nat) : Int) = x.Mask by omega] at e
      simp only [bits_eq, h, h', decide_true, if_true, Option.bind_some, hix, e, Bool.true_and]
    · simp [h, h']
  · simp [h]

theorem rPointer_eq {x : Shape} (hx : OkSh x) (k : Int) : r03_Pointer x k = shape_Pointer x k := by
  rw [Pointer_eq hx]
  obtain ⟨h1, h2, h3, h4⟩ := hx
  unfold r03_Pointer
  have hp := two_pow_le (show x.Slots.toNat ≤ 16 by omega)
  by_cases h : 0 ≤ k ∧ k < x.Slots
  · have e := td (m := x.Mask.toNat) (k := k.toNat) (by omega) (by omega)
    rw [show ((x.Mask.toNat : Nat) : Int) = x.Mask by omega] at e
    have h0 : (2 : Int) ^ k.toNat ≠ 0 := by
      have : (0 : Int) < 2 ^ k.toNat := by exact_mod_cast Nat.two_pow_pos _
      omega
    rw [if_neg (by simp; omega), power_eq (by omega)]
    simp only [Option.bind_some, h0, decide_false, Bool.false_eq_true, if_false, e, h.1, h.2, decide_true, Bool.true_and]
  · rw [if_pos (by simp; omega)]
    by_cases h' : 0 ≤ k
    · simp [show ¬ k < x.Slots by omega]
    · simp [h']

/-! ### how many -/
theorem Pointers_tot {x : Shape} (hx : OkSh x) : ∃ n, shape_Pointers x = some n := by
  unfold shape_Pointers
  obtain ⟨r, hr, _⟩ : ∃ r, shape_Pointers_l5 x (0, 0) = some r ∧ True := by
    refine runL_inv (I := fun s => 0 ≤ s.2) (Q := fun _ => True) (μ := fun s => (x.Slots - s.2).toNat) ?_ (0, 0) (by simp)
    rintro ⟨n, i⟩ h0
    simp only at h0 ⊢
    unfold shape_Pointers_l5_b
    by_cases hi : i < x.Slots
    · right
      rw [if_pos (by simpa using hi), Pointer_eq hx]
      have := hx.2.1
      refine ⟨_, rfl, ?_⟩
      rw [wr64 (x := i + 1) (by omega) (by omega)]
      simp only
      omega
    · left
      exact ⟨n, by rw [if_neg (by simpa using hi)], trivial⟩
  exact ⟨r, by rw [hr]; rfl⟩

theorem rPointers_eq {x : Shape} (hx : OkSh x) : r03_Pointers x = shape_Pointers x := by
  have : (fun s : Int × Int => r03_Pointers_l5_b x s.1 s.2) = fun s => shape_Pointers_l5_b x s.1 s.2 := by
    funext s
    unfold r03_Pointers_l5_b shape_Pointers_l5_b
    rw [rPointer_eq hx]
  unfold r03_Pointers shape_Pointers r03_Pointers_l5 shape_Pointers_l5
  rw [this]
end Go.Ab

/-
  Shapes: letters and words; the laws.
-/
namespace Go.Ab
open Go
set_option linter.unusedVariables false
set_option linter.unusedSimpArgs false

/-! ### letters -/
def letter (m : Nat) (i : Nat) : UInt8 := if m.testBit i then 112 else 105
def letters (n m : Nat) : Str := (List.range n).map (letter m)

theorem Print_eq {x : Shape} (hx : OkSh x) : shape_Print x = some (if x.Slots = 0 then [46] else letters x.Slots.toNat x.Mask.toNat) := by
  unfold shape_Print
  by_cases h0 : x.Slots = 0
  · simp [h0]
  · have hx' := hx
    obtain ⟨h1, h2, h3, h4⟩ := hx'
    have hmk : mk x.Slots 1 (0 : Int) = some (List.replicate x.Slots.toNat 0) := by
      unfold mk; rw [if_pos (by omega)]
    rw [if_neg (by simpa using h0), if_neg h0, hmk]
    simp only [Option.bind_some]
    obtain ⟨b, hb, hq⟩ : ∃ b, shape_Print_l5 x (List.replicate x.Slots.toNat 0) (List.replicate x.Slots.toNat 0, 0) = some b ∧ (b.length = x.Slots.toNat ∧ ∀ j, j < x.Slots.toNat → b[j]? = some ((letter x.Mask.toNat j).toNat : Int)) := by
      refine runL_inv (I := fun s : List Int × Int => 0 ≤ s.2 ∧ s.2 ≤ x.Slots ∧ s.1.length = x.Slots.toNat ∧ ∀ j : Nat, (j : Int) < s.2 → s.1[j]? = some ((letter x.Mask.toNat j).toNat : Int)) (Q := fun b : List Int => b.length = x.Slots.toNat ∧ ∀ j, j < x.Slots.toNat → b[j]? = some ((letter x.Mask.toNat j).toNat : Int))
        (μ := fun s : List Int × Int => (x.Slots - s.2).toNat) ?_ _ (by simp; exact ⟨h1, fun j hj => absurd hj (by omega)⟩)
      rintro ⟨b, i⟩ ⟨a1, a2, a3, a4⟩
      simp only at a1 a2 a3 a4 ⊢
      unfold shape_Print_l5_b
      by_cases hi : i < x.Slots
      · right
        have hix : ∃ v, ix b i = some v := by
          unfold ix; rw [if_pos a1]
          exact ⟨b[i.toNat]'(by omega), by simp [show i.toNat < b.length by omega]⟩
        obtain ⟨v, hv⟩ := hix
        rw [if_pos (by simp; omega), hv, Option.bind_some, Pointer_eq hx, Option.bind_some]
        have hp : (decide (0 ≤ i) && (decide (i < x.Slots) && x.Mask.toNat.testBit i.toNat)) = x.Mask.toNat.testBit i.toNat := by simp [a1, hi]
        rw [hp]
        have hj : shape_Print_j4 x (List.replicate x.Slots.toNat 0) b i (x.Mask.toNat.testBit i.toNat) = some (b.set i.toNat ((letter x.Mask.toNat i.toNat).toNat : Int)) := by
          unfold shape_Print_j4
          cases ht : x.Mask.toNat.testBit i.toNat with
          | true =>
            have hix2 : ix (b.set i.toNat 105) i = some 105 := by
              unfold ix; rw [if_pos a1]; simp [show i.toNat < b.length by omega]
            simp [hix2, letter, ht]
          | false => simp [letter, ht]
        rw [hj, Option.bind_some]
        refine ⟨_, rfl, ?_⟩
        rw [wr64 (x := i + 1) (by omega) (by omega)]
        refine ⟨⟨by simp only; omega, by simp only; omega, by simp [a3], fun j hj' => ?_⟩, by simp only; omega⟩
        simp only at hj' ⊢
        rw [List.getElem?_set]
        by_cases he : i.toNat = j
        · rw [if_pos he, if_pos (by omega), he]
        · rw [if_neg he]; exact a4 j (by omega)
      · left
        exact ⟨b, by rw [if_neg (by simp; omega)], a3, fun j hj => a4 j (by omega)⟩
    rw [hb]
    simp only [Option.bind_some, Option.some.injEq]
    refine List.ext_getElem? fun j => ?_
    rw [List.getElem?_map]
    by_cases hj : j < x.Slots.toNat
    · rw [hq.2 j hj]
      simp [letters, hj]
    · rw [List.getElem?_eq_none (by omega)]
      simp [letters, hj]

theorem rPrint_eq {x : Shape} (hx : OkSh x) : r03_Print x = some (if x.Slots = 0 then [46] else letters x.Slots.toNat x.Mask.toNat) := by
  unfold r03_Print
  obtain ⟨h1, h2, h3, h4⟩ := id hx
  obtain ⟨v, hv, rfl⟩ : ∃ v, r03_Print_l5 x ([], 0) = some v ∧ v = letters x.Slots.toNat x.Mask.toNat := by
    refine runL_inv (I := fun s : Str × Int => 0 ≤ s.2 ∧ s.2 ≤ x.Slots ∧ s.1 = letters s.2.toNat x.Mask.toNat) (Q := fun v : Str => v = letters x.Slots.toNat x.Mask.toNat) (μ := fun s : Str × Int => (x.Slots - s.2).toNat) ?_ _ (by simp [letters]; exact h1)
    rintro ⟨v, i⟩ ⟨a1, a2, a3⟩
    simp only at a1 a2 a3 ⊢
    unfold r03_Print_l5_b
    by_cases hi : i < x.Slots
    · right
      rw [if_pos (by simpa using hi), rPointer_eq hx, Pointer_eq hx, Option.bind_some]
      have hp : (decide (0 ≤ i) && (decide (i < x.Slots) && x.Mask.toNat.testBit i.toNat)) = x.Mask.toNat.testBit i.toNat := by simp [a1, hi]
      rw [hp]
      have hlen : v.length = i.toNat := by rw [a3]; simp [letters]
      have hj : r03_Print_j4 x v i (x.Mask.toNat.testBit i.toNat) = some (v ++ [letter x.Mask.toNat i.toNat]) := by
        unfold r03_Print_j4 scat letter
        cases ht : x.Mask.toNat.testBit i.toNat <;> simp [hlen] <;> omega
      rw [hj, Option.bind_some]
      refine ⟨_, rfl, ?_⟩
      rw [wr64 (x := i + 1) (by omega) (by omega)]
      refine ⟨⟨by simp only; omega, by simp only; omega, ?_⟩, by simp only; omega⟩
      simp only
      rw [a3, show (i + 1).toNat = i.toNat + 1 by omega]
      simp [letters, List.range_succ]
    · left
      exact ⟨v, by rw [if_neg (by simpa using hi)], by rw [a3, show i = x.Slots by omega]⟩
  rw [hv]
  simp only [Option.bind_some]
  by_cases h0 : x.Slots = 0
  · simp [h0, letters]
  · rw [if_neg h0, if_neg]
    intro h
    have h' : letters x.Slots.toNat x.Mask.toNat = [] := by simpa using h
    have := congrArg List.length h'
    simp [letters] at this
    omega

/-! ### reading letters -/
def okc (c : UInt8) : Bool := c == 112 || c == 105
def maskOf : Str → Nat
  | [] => 0
  | c :: r => (if c = 112 then 1 else 0) + 2 * maskOf r

theorem maskOf_lt : ∀ s : Str, maskOf s < 2 ^ s.length
  | [] => by simp [maskOf]
  | c :: r => by
    have := maskOf_lt r
    simp only [maskOf, List.length_cons, Nat.pow_succ]
    split <;> omega

theorem maskOf_testBit : ∀ (s : Str) (i : Nat), (maskOf s).testBit i = (s[i]? == some 112)
  | [], i => by simp [maskOf]
  | c :: r, 0 => by
    simp only [maskOf, List.getElem?_cons_zero, Nat.testBit_zero]
    by_cases h : c = 112
    · subst h; simp
    · rw [if_neg h]; simp [h]
  | c :: r, i + 1 => by
    simp only [maskOf, List.getElem?_cons_succ]
    rw [Nat.testBit_succ, ← maskOf_testBit r i]
    congr 1
    split <;> omega

theorem maskOf_take : ∀ (s : Str) (i : Nat) (c : UInt8), s[i]? = some c → maskOf (s.take (i + 1)) = maskOf (s.take i) + (if c = 112 then 2 ^ i else 0)
  | [], i, c, h => by simp at h
  | d :: r, 0, c, h => by
    simp only [List.getElem?_cons_zero, Option.some.injEq] at h
    subst h
    simp [maskOf]
  | d :: r, i + 1, c, h => by
    have := maskOf_take r i c (by simpa using h)
    simp only [List.take_succ_cons, maskOf, this]
    split <;> split <;> simp [Nat.pow_succ] <;> omega

theorem c112 (c : UInt8) : ((c.toNat : Int) == 112) = (c == 112) := by
  by_cases h : c = 112
  · subst h; rfl
  · have h1 : c.toNat ≠ 112 := fun e => h (UInt8.toNat_inj.1 e)
    rw [beq_eq_false_iff_ne.2 h, beq_eq_false_iff_ne]; omega
theorem c105 (c : UInt8) : ((c.toNat : Int) == 105) = (c == 105) := by
  by_cases h : c = 105
  · subst h; rfl
  · have h1 : c.toNat ≠ 105 := fun e => h (UInt8.toNat_inj.1 e)
    rw [beq_eq_false_iff_ne.2 h, beq_eq_false_iff_ne]; omega

/-- what a text is -/
def parsed (s : Str) : Stp Int Unit := if s.all okc then .next (maskOf s : Int) else .stop ()

theorem all_take {s : Str} {i : Nat} {c : UInt8} (h : s[i]? = some c) : (s.take (i + 1)).all okc = ((s.take i).all okc && okc c) := by
  rw [List.take_add_one, h]
  simp [List.all_append]

theorem loopA {s : Str} (hs : s.length ≤ 16) : shape_Parse_l10 s (0, 0) = some (parsed s) := by
  obtain ⟨r, hr, rfl⟩ : ∃ r, shape_Parse_l10 s (0, 0) = some r ∧ r = parsed s := by
    refine runL_inv (I := fun q : Int × Int => 0 ≤ q.2 ∧ q.2 ≤ (s.length : Int) ∧ q.1 = (maskOf (s.take q.2.toNat) : Int) ∧ (s.take q.2.toNat).all okc = true) (Q := fun r => r = parsed s) (μ := fun q : Int × Int => ((s.length : Int) - q.2).toNat) ?_ _ (by simp [maskOf])
    rintro ⟨m, i⟩ ⟨a1, a2, a3, a4⟩
    simp only at a1 a2 a3 a4 ⊢
    unfold shape_Parse_l10_b
    by_cases hi : i < s.length
    · have hlt : i.toNat < s.length := by omega
      have hc : s[i.toNat]? = some s[i.toNat] := by simp [hlt]
      have hix : ix s i = some s[i.toNat] := by unfold ix; rw [if_pos a1, hc]
      have hm := maskOf_lt (s.take i.toNat)
      rw [List.length_take, Nat.min_eq_left (by omega)] at hm
      have hp : (2 : Nat) ^ i.toNat ≤ 2 ^ 15 := Nat.pow_le_pow_right (by decide) (by omega)
      generalize hcc : s[i.toNat] = c at hc hix
      rw [if_pos (by simpa using hi), hix, Option.bind_some]
      unfold shape_Parse_j9
      rw [c112, c105, bits_eq, wr64 (x := i + 1) (by omega) (by omega)]
      have htk := maskOf_take s i.toNat c hc
      have hal := all_take hc
      rw [← show (i + 1).toNat = i.toNat + 1 by omega] at htk hal
      by_cases h1 : c = 112
      · right
        have hx : ixa ((List.range 16).map fun i => (2 : Int) ^ i) 16 i = some (2 ^ i.toNat) := by
          unfold ixa
          rw [if_pos (by omega)]
          simp [show i.toNat < 16 by omega]
        have ho := bOr64 (a := maskOf (s.take i.toNat)) (b := 2 ^ i.toNat) (by omega) (by omega)
        have e1 : maskOf (s.take i.toNat) ||| 2 ^ i.toNat = maskOf (s.take i.toNat) + 2 ^ i.toNat := by
          have := Nat.two_pow_add_eq_or_of_lt hm 1
          rw [Nat.mul_one] at this
          rw [Nat.or_comm, ← this]; omega
        rw [e1, show (((2 : Nat) ^ i.toNat : Nat) : Int) = (2 : Int) ^ i.toNat by push_cast; rfl] at ho
        subst h1
        simp only [beq_self_eq_true, if_true, Option.bind_some, hx, a3, ho]
        refine ⟨_, rfl, ⟨by simp only; omega, by simp only; omega, by simp only [htk, if_true], ?_⟩, by simp only; omega⟩
        simp only [hal, a4]; rfl
      · by_cases h2 : c = 105
        · right
          subst h2
          simp only [show ((105 : UInt8) == 112) = false from rfl, Bool.false_eq_true, if_false, beq_self_eq_true, if_true, Option.bind_some]
          refine ⟨_, rfl, ⟨by simp only; omega, by simp only; omega, ?_, ?_⟩, by simp only; omega⟩
          · simp only [htk]; rw [if_neg (by decide), a3]; simp
          · simp only [hal, a4]; rfl
        · left
          simp only [beq_eq_false_iff_ne.2 h1, beq_eq_false_iff_ne.2 h2, Bool.false_eq_true, if_false, Option.bind_some]
          refine ⟨_, rfl, ?_⟩
          unfold parsed
          rw [if_neg]
          intro hall
          have := List.all_eq_true.1 hall c (by rw [← hcc]; exact List.getElem_mem hlt)
          simp [okc, h1, h2] at this
    · left
      have e : i.toNat = s.length := by omega
      rw [e, List.take_length] at a3 a4
      exact ⟨_, by rw [if_neg (by simpa using hi)], by unfold parsed; rw [if_pos a4, a3]⟩
  exact hr

theorem loopB {s : Str} (hs : s.length ≤ 16) : r03_Parse_l10 s (0, 0) = some (parsed s) := by
  obtain ⟨r, hr, rfl⟩ : ∃ r, r03_Parse_l10 s (0, 0) = some r ∧ r = parsed s := by
    refine runL_inv (I := fun q : Int × Int => 0 ≤ q.2 ∧ q.2 ≤ (s.length : Int) ∧ q.1 = (maskOf (s.take q.2.toNat) : Int) ∧ (s.take q.2.toNat).all okc = true) (Q := fun r => r = parsed s) (μ := fun q : Int × Int => ((s.length : Int) - q.2).toNat) ?_ _ (by simp [maskOf])
    rintro ⟨m, i⟩ ⟨a1, a2, a3, a4⟩
    simp only at a1 a2 a3 a4 ⊢
    unfold r03_Parse_l10_b r03_Parse_j8
    by_cases hi : i < s.length
    · have hlt : i.toNat < s.length := by omega
      have hc : s[i.toNat]? = some s[i.toNat] := by simp [hlt]
      have hix : ix s i = some s[i.toNat] := by unfold ix; rw [if_pos a1, hc]
      have hm := maskOf_lt (s.take i.toNat)
      rw [List.length_take, Nat.min_eq_left (by omega)] at hm
      have hp : (2 : Nat) ^ i.toNat ≤ 2 ^ 15 := Nat.pow_le_pow_right (by decide) (by omega)
      generalize hcc : s[i.toNat] = c at hc hix
      rw [if_pos (by simpa using hi), hix]
      simp only [Option.bind_some]
      unfold r03_Parse_j9
      have e2 : ((c.toNat : Int) != 105) = !(c == 105) := by rw [bne, c105]
      have e3 : ((c.toNat : Int) != 112) = !(c == 112) := by rw [bne, c112]
      rw [c112, e2, e3, wr64 (x := i + 1) (by omega) (by omega), power_eq (by omega)]
      have htk := maskOf_take s i.toNat c hc
      have hal := all_take hc
      rw [← show (i + 1).toNat = i.toNat + 1 by omega] at htk hal
      have hpi : ((2 ^ i.toNat : Nat) : Int) = (2 : Int) ^ i.toNat := by push_cast; rfl
      by_cases h1 : c = 112
      · right
        subst h1
        have ew : IntKind.wrap .i64 (m + 2 ^ i.toNat) = m + 2 ^ i.toNat := wr64 (by omega) (by omega)
        simp only [show ((112 : UInt8) == 105) = false from rfl, Bool.not_false, if_true, beq_self_eq_true, Bool.not_true, Option.bind_some, Bool.false_eq_true, if_false, ew]
        refine ⟨_, rfl, ⟨by simp only; omega, by simp only; omega, ?_, ?_⟩, by simp only; omega⟩
        · simp only [htk, if_true]; rw [a3]; push_cast; rfl
        · simp only [hal, a4]; rfl
      · by_cases h2 : c = 105
        · right
          subst h2
          simp only [beq_self_eq_true, Bool.not_true, Bool.false_eq_true, if_false, Option.bind_some, show ((105 : UInt8) == 112) = false from rfl]
          refine ⟨_, rfl, ⟨by simp only; omega, by simp only; omega, ?_, ?_⟩, by simp only; omega⟩
          · simp only [htk]; rw [if_neg (by decide), a3]; simp
          · simp only [hal, a4]; rfl
        · left
          simp only [beq_eq_false_iff_ne.2 h1, beq_eq_false_iff_ne.2 h2, Bool.not_false, if_true, Option.bind_some]
          refine ⟨_, rfl, ?_⟩
          unfold parsed
          rw [if_neg]
          intro hall
          have := List.all_eq_true.1 hall c (by rw [← hcc]; exact List.getElem_mem hlt)
          simp [okc, h1, h2] at this
    · left
      have e : i.toNat = s.length := by omega
      rw [e, List.take_length] at a3 a4
      exact ⟨_, by rw [if_neg (by simpa using hi)], by unfold parsed; rw [if_pos a4, a3]⟩
  exact hr

theorem Parse_eq (s : Str) : shape_Parse s = some (if s = [46] then (⟨0, 0⟩, 0) else if s.length < 1 ∨ 16 < s.length then (⟨0, 0⟩, 16) else if s.all okc then (⟨s.length, maskOf s⟩, 0) else (⟨0, 0⟩, 16)) := by
  unfold shape_Parse
  by_cases h : s = [46]
  · simp [h]
  · rw [if_neg (by simpa using h), if_neg h]
    by_cases h2 : s.length < 1 ∨ 16 < s.length
    · rw [if_pos (by simp; omega), if_pos h2]
    · rw [if_neg (by simp; omega), if_neg h2, loopA (by omega)]
      unfold parsed
      by_cases h3 : s.all okc = true
      · rw [if_pos h3, if_pos h3]; rfl
      · rw [if_neg h3, if_neg h3]; rfl

theorem rParse_eq (s : Str) : r03_Parse s = shape_Parse s := by
  rw [Parse_eq]
  unfold r03_Parse
  by_cases h : s = [46]
  · simp [h]
  · rw [if_neg (by simpa using h), if_neg h]
    by_cases h2 : s.length < 1 ∨ 16 < s.length
    · rw [if_pos, if_pos h2]
      rcases h2 with h2 | h2
      · have : s = [] := List.length_eq_zero_iff.1 (by omega)
        simp [this]
      · simp; omega
    · have : s ≠ [] := fun e => h2 (by simp [e])
      rw [if_neg (by simp [this]; omega), if_neg h2, loopB (by omega)]
      unfold parsed
      by_cases h3 : s.all okc = true
      · rw [if_pos h3, if_pos h3]; rfl
      · rw [if_neg h3, if_neg h3]; rfl

/-! ### the word ahead of an object -/
theorem Head_eq {x : Shape} (hx : OkSh x) : shape_Head x = some (x.Mask * 32 + x.Slots) := by
  obtain ⟨h1, h2, h3, h4⟩ := hx
  have hp := two_pow_le (show x.Slots.toNat ≤ 16 by omega)
  unfold shape_Head
  have e : x.Mask * 2 ^ (min (5 : Int).toNat 64) = x.Mask * 32 := rfl
  rw [e, wr64 (by omega) (by omega)]
  have := bOr64 (a := x.Mask.toNat * 32) (b := x.Slots.toNat) (by omega) (by omega)
  rw [show ((x.Mask.toNat * 32 : Nat) : Int) = x.Mask * 32 by omega, show ((x.Slots.toNat : Nat) : Int) = x.Slots by omega] at this
  have e2 := Nat.two_pow_add_eq_or_of_lt (b := x.Slots.toNat) (i := 5) (by omega) x.Mask.toNat
  rw [show x.Mask.toNat * 32 = 2 ^ 5 * x.Mask.toNat by omega] at this
  rw [this, ← e2]
  congr 1; omega

theorem rHead_eq {x : Shape} (hx : OkSh x) : r03_Head x = shape_Head x := by
  rw [Head_eq hx]
  obtain ⟨h1, h2, h3, h4⟩ := hx
  have hp := two_pow_le (show x.Slots.toNat ≤ 16 by omega)
  unfold r03_Head
  rw [wr64 (x := x.Mask * 32) (by omega) (by omega), wr64 (by omega) (by omega)]

/-! ### the laws -/
theorem shapeReads (s : Str) (x : Shape) (n : Int) : l03_ShapeReads s x n = some true := by
  unfold l03_ShapeReads
  by_cases h : 500 < (s.length : Int)
  · rw [if_pos (by simpa using h)]
  · rw [if_neg (by simpa using h), rParse_eq, rOf_eq]
    obtain ⟨⟨a, b⟩, hp⟩ : ∃ q, shape_Parse s = some q := ⟨_, Parse_eq s⟩
    obtain ⟨⟨c, d⟩, ho⟩ : ∃ q, shape_Of n = some q := ⟨_, Of_eq n⟩
    simp [hp, ho, l03_ShapeReads_j1, Check_eq, rCheck_eq]

theorem shapeTells (x : Shape) (k : Int) : l03_ShapeTells x k = some true := by
  unfold l03_ShapeTells
  rw [rCheck_eq]
  by_cases h : OkSh x
  · obtain ⟨n, hn⟩ := Pointers_tot h
    simp [h, l03_ShapeTells_j1, rPointer_eq h, Pointer_eq h, rPointers_eq h, hn, Print_eq h, rPrint_eq h, rHead_eq h, Head_eq h]
  · simp [h]

theorem letters_ok (n m : Nat) : (letters n m).all okc = true := by
  simp only [letters, List.all_map, List.all_eq_true]
  intro i _
  simp only [Function.comp, letter]
  split <;> rfl

theorem maskOf_letters {n m : Nat} (h : m < 2 ^ n) : maskOf (letters n m) = m := by
  refine Nat.eq_of_testBit_eq fun i => ?_
  rw [maskOf_testBit]
  by_cases hi : i < n
  · simp only [letters, List.getElem?_map, List.getElem?_range hi, Option.map_some, letter]
    cases m.testBit i <;> rfl
  · rw [List.getElem?_eq_none (by simp [letters]; omega)]
    have : m < 2 ^ i := Nat.lt_of_lt_of_le h (Nat.pow_le_pow_right (by decide) (by omega))
    rw [Nat.testBit_lt_two_pow this]; rfl

theorem letters_maskOf {s : Str} (h : s.all okc = true) : letters s.length (maskOf s) = s := by
  refine List.ext_getElem? fun i => ?_
  by_cases hi : i < s.length
  · simp only [letters, List.getElem?_map, List.getElem?_range hi, Option.map_some, letter, maskOf_testBit]
    rw [List.getElem?_eq_getElem hi]
    have := List.all_eq_true.1 h s[i] (List.getElem_mem hi)
    simp only [okc, Bool.or_eq_true, beq_iff_eq] at this
    rcases this with e | e <;> rw [e] <;> rfl
  · rw [List.getElem?_eq_none (by simp [letters]; omega), List.getElem?_eq_none (by omega)]

theorem there {x : Shape} (hx : OkSh x) : ∃ t, shape_Print x = some t ∧ shape_Parse t = some (x, 0) := by
  refine ⟨_, Print_eq hx, ?_⟩
  obtain ⟨h1, h2, h3, h4⟩ := hx
  rw [Parse_eq]
  by_cases h0 : x.Slots = 0
  · rw [if_pos h0, if_pos rfl]
    rw [h0] at h4
    have h4' : x.Mask < 1 := h4
    have : x = ⟨0, 0⟩ := by cases x; simp only [Shape.mk.injEq]; simp only at h0 h3 h4'; omega
    rw [this]
  · rw [if_neg h0]
    have hl : (letters x.Slots.toNat x.Mask.toNat).length = x.Slots.toNat := by simp [letters]
    have hne : letters x.Slots.toNat x.Mask.toNat ≠ [46] := fun e => by
      have := letters_ok x.Slots.toNat x.Mask.toNat
      rw [e] at this
      cases this
    have hm : x.Mask.toNat < 2 ^ x.Slots.toNat := by
      have : ((2 ^ x.Slots.toNat : Nat) : Int) = (2 : Int) ^ x.Slots.toNat := by push_cast; rfl
      omega
    rw [if_neg hne, if_neg (by omega), if_pos (letters_ok _ _), hl, maskOf_letters hm]
    congr 2
    cases x; simp only [Shape.mk.injEq]; simp only at h1 h3; omega

theorem thereW {x : Shape} (hx : OkSh x) : ∃ n, shape_Head x = some n ∧ shape_Of n = some (x, 0) := by
  refine ⟨_, Head_eq hx, ?_⟩
  have hx' := hx
  obtain ⟨h1, h2, h3, h4⟩ := hx
  have hp := two_pow_le (show x.Slots.toNat ≤ 16 by omega)
  have e : (⟨(x.Mask * 32 + x.Slots) % 32, (x.Mask * 32 + x.Slots) / 32⟩ : Shape) = x := by
    cases x; simp only [Shape.mk.injEq]; simp only at h1 h2 h3 h4 hp; omega
  rw [Of_eq, if_pos (by omega), e, if_pos hx']

theorem back {s : Str} {y : Shape} (h : shape_Parse s = some (y, 0)) : shape_Print y = some s := by
  rw [Parse_eq] at h
  split at h
  · rename_i hs
    simp only [Option.some.injEq, Prod.mk.injEq, and_true] at h
    subst h; subst hs
    rw [Print_eq (by decide)]; rfl
  · split at h
    · simp at h
    · rename_i h1 h2
      split at h
      · rename_i h3
        simp only [Option.some.injEq, Prod.mk.injEq, and_true] at h
        subst h
        have hm := maskOf_lt s
        have hc : ((2 ^ s.length : Nat) : Int) = (2 : Int) ^ s.length := by push_cast; rfl
        have ok : OkSh ⟨s.length, maskOf s⟩ := ⟨by simp only; omega, by simp only; omega, by simp only; omega, by simp only [Int.toNat_natCast]; omega⟩
        rw [Print_eq ok]
        simp only [Int.toNat_natCast, letters_maskOf h3]
        rw [if_neg (by omega)]
      · simp at h

theorem backW {n : Int} {z : Shape} (h : shape_Of n = some (z, 0)) : shape_Head z = some n := by
  rw [Of_eq] at h
  split at h
  · split at h
    · rename_i h1 h2
      simp only [Option.some.injEq, Prod.mk.injEq, and_true] at h
      subst h
      rw [Head_eq h2]
      congr 1; simp only; omega
    · simp at h
  · simp at h

theorem shapeBack (x : Shape) (s : Str) (n : Int) : l03_ShapeBack x s n = some true := by
  unfold l03_ShapeBack
  by_cases h : 500 < (s.length : Int)
  · rw [if_pos (by simpa using h)]
  · rw [if_neg (by simpa using h), rCheck_eq]
    simp only [Option.bind_some]
    have h3 : l03_ShapeBack_j3 x s n (if OkSh x then 0 else 16) = some (.next ()) := by
      unfold l03_ShapeBack_j3
      by_cases hx : OkSh x
      · obtain ⟨t, h1, h2⟩ := there hx
        obtain ⟨m, h4, h5⟩ := thereW hx
        simp [hx, h1, h2, h4, h5]
      · simp [hx]
    rw [h3]
    obtain ⟨⟨a, b⟩, hp⟩ : ∃ q, shape_Parse s = some q := ⟨_, Parse_eq s⟩
    obtain ⟨⟨c, d⟩, ho⟩ : ∃ q, shape_Of n = some q := ⟨_, Of_eq n⟩
    simp only [Option.bind_some, hp, ho]
    have h4 : l03_ShapeBack_j4 s n a b = some false := by
      unfold l03_ShapeBack_j4
      by_cases hb : b = 0
      · subst hb
        simp [back hp]
      · simp [hb]
    have h5 : l03_ShapeBack_j5 n c d = some false := by
      unfold l03_ShapeBack_j5
      by_cases hd : d = 0
      · subst hd
        simp [backW ho]
      · simp [hd]
    simp [h4, h5]
end Go.Ab
