/-
  The evaluator once more, in small pieces, for computing by the kernel. Printed by mkfast.py.
-/
import Derived.Test.YtebfbfgighmedaaF
import Derived.Test.YtebfbfgighmedaaE
import Derived.KernelRfl
import Derived.Test.YtebfbfgighmedaaD
import Derived.Test.YtebfbfgighmedaaC
namespace Go.Ab
open Go
set_option linter.unusedVariables false
set_option linter.unusedSimpArgs false
set_option maxRecDepth 100000

noncomputable def getQ (e : Env) (t : Nat) : PV := List.rec (motive := fun _ => PV) .none (fun kv _ ih => Prod.rec (motive := fun _ => PV) (fun k v => Bool.rec (motive := fun _ => PV) ih v (Nat.beq t k)) kv) e
theorem beqN (a b : Nat) : Nat.beq a b = decide (a = b) := by
  cases h : Nat.beq a b with
  | true => symm; exact decide_eq_true (Nat.eq_of_beq_eq_true h)
  | false => symm; exact decide_eq_false (fun hh => by rw [hh, Nat.beq_refl] at h; cases h)
theorem getQ_eq : ∀ (e : Env) (t : Nat), getQ e t = Env.get e t
  | [], _ => rfl
  | (k, v) :: r, t => by
    show Bool.rec (motive := fun _ => PV) (getQ r t) v (Nat.beq t k) = Env.get ((k, v) :: r) t
    rw [getQ_eq r t, beqN]
    simp only [Env.get]
    by_cases h : t = k <;> simp [h]
noncomputable def purgeD (d : Nat) (v : PV) : PV :=
  match v with
  | .ref r p i m => Bool.rec (motive := fun _ => PV) (.ref r p i m) .none (Nat.beq r d)
  | .view r p o n z => Bool.rec (motive := fun _ => PV) (.view r p o n z) .none (Nat.beq r d)
  | .agg cs => .agg (List.rec (motive := fun _ => List PV) [] (fun c _ ih => (match c with
    | .int k n => .int k n
    | .str s => .str s
    | .sl n cs => .sl n cs
    | c => purge1 (und d []) c) :: ih) cs)
  | .tup cs => .tup (purgeL (und d []) cs)
  | .fn g cs => .fn g (purgeL (und d []) cs)
  | v => v
theorem und0_eq (d r : Nat) (p : List Nat) : und d [] r p = Nat.beq r d := by
  simp only [und, List.isPrefixOf_nil_left, Bool.and_true, beqN]
  by_cases h : r = d <;> simp [h]
theorem purgeD_agg (d : Nat) : ∀ cs : List PV, List.rec (motive := fun _ => List PV) [] (fun c _ ih => (match c with
    | .int k n => .int k n
    | .str s => .str s
    | .sl n cs => .sl n cs
    | c => purge1 (und d []) c) :: ih) cs = purgeL (und d []) cs
  | [] => rfl
  | c :: cs => by
    simp only [purgeL, purgeD_agg d cs]
    congr 1
    cases c <;> simp [purge1]
theorem purgeD_eq (d : Nat) (v : PV) : purgeD d v = purge1 (und d []) v := by
  cases v <;> simp only [purgeD, purge1, und0_eq, purgeD_agg]
  all_goals (split <;> simp_all [beqN])
noncomputable def setDQ (e : Env) (d : Nat) (v : PV) : Env :=
  List.rec (motive := fun _ => Bool → Env) (fun done => Bool.rec (motive := fun _ => Env) [(d, v)] [] done)
    (fun kv _ ih done => Prod.rec (motive := fun _ => Env) (fun k x => Bool.rec (motive := fun _ => Env)
      (Bool.rec (motive := fun _ => Env) (Bool.rec (motive := fun _ => Env) ((d, v) :: (k, purgeD d x) :: ih true) ((k, purgeD d x) :: ih false) (Nat.ble k d)) ((d, v) :: ih true) (Nat.beq d k))
      ((k, purgeD d x) :: ih true) done) kv) e false
theorem purgeBy_und (d : Nat) : ∀ e : Env, e.purgeBy (und d []) = e.map fun q => (q.1, purgeD d q.2)
  | [] => rfl
  | (k, v) :: e => by simp only [Env.purgeBy, List.map_cons, purgeD_eq, purgeBy_und d e]
theorem setDQ_go (d : Nat) (v : PV) : ∀ (e : Env), List.rec (motive := fun _ => Bool → Env) (fun done => Bool.rec (motive := fun _ => Env) [(d, v)] [] done)
    (fun kv _ ih done => Prod.rec (motive := fun _ => Env) (fun k x => Bool.rec (motive := fun _ => Env)
      (Bool.rec (motive := fun _ => Env) (Bool.rec (motive := fun _ => Env) ((d, v) :: (k, purgeD d x) :: ih true) ((k, purgeD d x) :: ih false) (Nat.ble k d)) ((d, v) :: ih true) (Nat.beq d k))
      ((k, purgeD d x) :: ih true) done) kv) e true = e.purgeBy (und d [])
  | [] => rfl
  | (k, x) :: e => by
    have := setDQ_go d v e
    show (k, purgeD d x) :: _ = _
    rw [this]; simp only [Env.purgeBy, purgeD_eq]
theorem setDQ_eq (d : Nat) (v : PV) : ∀ (e : Env), setDQ e d v = e.setD d v
  | [] => rfl
  | (k, x) :: e => by
    have ih := setDQ_eq d v e
    have it := setDQ_go d v e
    show Bool.rec (motive := fun _ => Env) (Bool.rec (motive := fun _ => Env) ((d, v) :: (k, purgeD d x) :: _) ((k, purgeD d x) :: setDQ e d v) (Nat.ble k d)) ((d, v) :: _) (Nat.beq d k) = _
    rw [ih, it, beqN]
    simp only [Env.setD, Env.purge, Env.purgeBy, Env.set, purgeD_eq]
    by_cases h : d = k
    · simp [h]
    · by_cases h2 : d < k
      · have h3 : Nat.ble k d = false := by
          cases h4 : Nat.ble k d with
          | false => rfl
          | true => have := Nat.le_of_ble_eq_true h4; omega
        simp [h, h2, h3]
      · have h3 : Nat.ble k d = true := Nat.ble_eq_true_of_le (by omega)
        simp [h, h2, h3]
noncomputable def setQ (e : Env) (d : Nat) (v : PV) : Env :=
  List.rec (motive := fun _ => Env) [(d, v)] (fun kv r ih => Prod.rec (motive := fun _ => Env) (fun k x => Bool.rec (motive := fun _ => Env) (Bool.rec (motive := fun _ => Env) ((d, v) :: (k, x) :: r) ((k, x) :: ih) (Nat.ble k d)) ((d, v) :: r) (Nat.beq d k)) kv) e
theorem setQ_eq (d : Nat) (v : PV) : ∀ (e : Env), setQ e d v = e.set d v
  | [] => rfl
  | (k, x) :: e => by
    have ih := setQ_eq d v e
    show Bool.rec (motive := fun _ => Env) (Bool.rec (motive := fun _ => Env) ((d, v) :: (k, x) :: e) ((k, x) :: setQ e d v) (Nat.ble k d)) ((d, v) :: e) (Nat.beq d k) = _
    rw [ih, beqN]
    simp only [Env.set]
    by_cases h : d = k
    · simp [h]
    · by_cases h2 : d < k
      · have h3 : Nat.ble k d = false := by
          cases h4 : Nat.ble k d with
          | false => rfl
          | true => have := Nat.le_of_ble_eq_true h4; omega
        simp [h, h2, h3]
      · have h3 : Nat.ble k d = true := Nat.ble_eq_true_of_le (by omega)
        simp [h, h2, h3]
noncomputable def maskOf (l : List Nat) : Nat := List.rec (motive := fun _ => Nat) 0 (fun k _ ih => Nat.lor (Nat.pow 2 k) ih) l
theorem maskOf_eq : ∀ (l : List Nat) (k : Nat), Nat.testBit (maskOf l) k = l.contains k
  | [], k => by simp [maskOf]
  | a :: l, k => by
    show Nat.testBit ((2 ^ a) ||| maskOf l) k = _
    rw [Nat.testBit_or, maskOf_eq l k, Nat.testBit_two_pow, List.contains_cons]
    by_cases h : a = k
    · simp [h]
    · have : (k == a) = false := by simp [Ne.symm h]
      simp [h, this]
def bitQ (m k : Nat) : Bool := Nat.beq (Nat.land (Nat.shiftRight m k) 1) 1
theorem bitQ_eq (m k : Nat) : bitQ m k = Nat.testBit m k := by
  have h1 : Nat.testBit m k = (1 &&& (m >>> k) != 0) := rfl
  show Nat.beq ((m >>> k) &&& 1) 1 = _
  rw [h1, beqN, Nat.and_comm 1, Nat.and_one_is_mod]
  rcases Nat.mod_two_eq_zero_or_one (m >>> k) with h | h <;> simp [h]
noncomputable def keepM (m : Nat) (e : Env) : Env := List.rec (motive := fun _ => Env) [] (fun kv _ ih => Prod.rec (motive := fun _ => Env) (fun k v => Bool.rec (motive := fun _ => Env) ih ((k, v) :: ih) (bitQ m k)) kv) e
noncomputable def keepQ (l : List Nat) (e : Env) : Env := keepM (maskOf l) e
theorem keepQ_eq (l : List Nat) : ∀ e : Env, keepQ l e = Env.keep l e
  | [] => rfl
  | (k, x) :: r => by
    have ih := keepQ_eq l r
    show Bool.rec (motive := fun _ => Env) (keepQ l r) ((k, x) :: keepQ l r) (bitQ (maskOf l) k) = _
    rw [ih, bitQ_eq, maskOf_eq]
    simp only [Env.keep]
    cases l.contains k <;> simp
def memQ (ds : List Nat) (r : Nat) : Bool := ds.contains r
theorem memQ_eq (l : List Nat) (b : Nat) : memQ l b = l.contains b := rfl
def noRefsQ (ds : List Nat) (v : PV) : Bool :=
  match v with
  | .ref r p i m => !memQ ds r
  | .view r p o n z => !memQ ds r
  | .agg cs => noRefs ds (.agg cs)
  | .tup cs => noRefs ds (.tup cs)
  | .fn f cs => noRefs ds (.fn f cs)
  | _ => true
theorem noRefsQ_eq (ds : List Nat) (v : PV) : noRefsQ ds v = noRefs ds v := by
  cases v <;> simp [noRefsQ, noRefs, refs, memQ_eq]
def alA (n : Nat) (v : PV) : PV :=
  match v with
  | .int k m => .int k m
  | .bool b => .bool b
  | .str s => .str s
  | .agg cs => .agg (alL n [] 0 cs)
  | .tup cs => if noOwnL cs then .tup cs else .none
  | v => al n [] v
noncomputable def lookQ (e : Env) : XO → PV
  | .t n => alA n (getQ e n)
  | .k v => v
  | .f n => .fn n []
theorem lookQ_eq (e : Env) : lookQ e = look e := by
  funext x
  cases x with
  | t n =>
    simp only [lookQ, look, lookG, getQ_eq, alA]
    cases e.get n <;> rfl
  | k v => rfl
  | f n => rfl
/-! numbers -/
def wrapQ (k : IntKind) (n : Int) : Int :=
  match k with
  | .i64 => (match n with
    | .ofNat m => (match Nat.blt m 9223372036854775808 with
      | true => .ofNat m
      | false => IntKind.wrap .i64 (.ofNat m))
    | .negSucc m => (match Nat.blt m 9223372036854775808 with
      | true => .negSucc m
      | false => IntKind.wrap .i64 (.negSucc m)))
  | k => k.wrap n
theorem wrapQ_eq (k : IntKind) (n : Int) : wrapQ k n = k.wrap n := by
  have hb : ∀ m : Nat, Nat.blt m 9223372036854775808 = true → m < 9223372036854775808 := fun m h => by
    have := Nat.le_of_ble_eq_true h; omega
  have e1 : (2 ^ IntKind.bits .i64 : Int) = 18446744073709551616 := by decide
  have e2 : (2 ^ (IntKind.bits .i64 - 1) : Int) = 9223372036854775808 := by decide
  cases k <;> try rfl
  cases n with
  | ofNat m =>
    simp only [wrapQ]
    split
    · rename_i h
      have := hb m h
      simp only [IntKind.wrap, e1, e2, Int.ofNat_eq_natCast]
      have h3 : (m : Int) % 18446744073709551616 = m := Int.emod_eq_of_lt (by omega) (by omega)
      rw [h3, if_neg (by simp; intro _; omega)]
    · rfl
  | negSucc m =>
    simp only [wrapQ]
    split
    · rename_i h
      have := hb m h
      have e3 : IntKind.signed .i64 = true := rfl
      simp only [IntKind.wrap, e1, e2, e3, Bool.true_and]
      have h3 : Int.negSucc m % 18446744073709551616 = Int.negSucc m + 18446744073709551616 := by
        rw [← Int.add_emod_right, Int.emod_eq_of_lt (by omega) (by omega)]
      rw [h3, if_pos (by simp; omega)]
      omega
    · rfl
def ltQ : Int → Int → Bool
  | .ofNat a, .ofNat b => Nat.blt a b
  | .negSucc _, .ofNat _ => true
  | .ofNat _, .negSucc _ => false
  | .negSucc a, .negSucc b => Nat.blt b a
theorem bltN (a b : Nat) : Nat.blt a b = decide (a < b) := by
  cases h : Nat.blt a b with
  | true => symm; exact decide_eq_true (by have := Nat.le_of_ble_eq_true h; omega)
  | false => symm; exact decide_eq_false (fun hh => by
      have : Nat.ble (a + 1) b = true := Nat.ble_eq_true_of_le hh
      rw [show Nat.blt a b = Nat.ble (a + 1) b from rfl, this] at h; cases h)
theorem ltQ_eq (x y : Int) : ltQ x y = decide (x < y) := by
  cases x with
  | ofNat a => cases y with
    | ofNat b => simp only [ltQ, bltN, Int.ofNat_eq_natCast]; exact decide_eq_decide.2 (by omega)
    | negSucc b => simp only [ltQ]; symm; apply decide_eq_false; simp only [Int.ofNat_eq_natCast]; omega
  | negSucc a => cases y with
    | ofNat b => simp only [ltQ]; symm; apply decide_eq_true; simp only [Int.ofNat_eq_natCast]; omega
    | negSucc b => simp only [ltQ, bltN]; exact decide_eq_decide.2 (by omega)
def eqQ : Int → Int → Bool
  | .ofNat a, .ofNat b => Nat.beq a b
  | .negSucc a, .negSucc b => Nat.beq a b
  | _, _ => false
theorem eqQ_eq (x y : Int) : eqQ x y = (x == y) := by
  have : (x == y) = decide (x = y) := rfl
  rw [this]
  cases x with
  | ofNat a => cases y with
    | ofNat b => simp only [eqQ, beqN, Int.ofNat_eq_natCast]; exact decide_eq_decide.2 (by omega)
    | negSucc b => simp only [eqQ]; symm; apply decide_eq_false; simp only [Int.ofNat_eq_natCast]; omega
  | negSucc a => cases y with
    | ofNat b => simp only [eqQ]; symm; apply decide_eq_false; simp only [Int.ofNat_eq_natCast]; omega
    | negSucc b => simp only [eqQ, beqN]; exact decide_eq_decide.2 (by omega)
def kdN : IntKind → Nat
  | .i8 => 0 | .i16 => 1 | .i32 => 2 | .i64 => 3 | .u8 => 4 | .u16 => 5 | .u32 => 6 | .u64 => 7
theorem kdN_eq (k k' : IntKind) : Nat.beq (kdN k) (kdN k') = decide (k = k') := by cases k <;> cases k' <;> rfl
abbrev BinF := IntKind → Int → Int → PV
def f_add : BinF := fun k x y => .int k (wrapQ k (x + y))
def f_sub : BinF := fun k x y => .int k (wrapQ k (x - y))
def f_mul : BinF := fun k x y => .int k (wrapQ k (x * y))
def f_eql : BinF := fun k x y => .bool (eqQ x y)
def f_neq : BinF := fun k x y => .bool (!eqQ x y)
def f_lss : BinF := fun k x y => .bool (ltQ x y)
def f_leq : BinF := fun k x y => .bool (!ltQ y x)
def f_gtr : BinF := fun k x y => .bool (ltQ y x)
def f_geq : BinF := fun k x y => .bool (!ltQ x y)
def binF : BinOp → Option BinF
  | .add => some f_add | .sub => some f_sub | .mul => some f_mul | .eql => some f_eql | .neq => some f_neq | .lss => some f_lss | .leq => some f_leq | .gtr => some f_gtr | .geq => some f_geq | _ => Option.none
def intBinQ (op : BinOp) (k : IntKind) (x : Int) (k' : IntKind) (y : Int) : Option PV :=
  match binF op with
  | some g => (match Nat.beq (kdN k) (kdN k') with
    | true => some (g k x y)
    | false => Option.none)
  | Option.none => intBin op k x k' y
theorem intBinQ_eq (op : BinOp) (k : IntKind) (x : Int) (k' : IntKind) (y : Int) : intBinQ op k x k' y = intBin op k x k' y := by
  have nl : ∀ a b : Int, (!ltQ b a) = decide (a ≤ b) := fun a b => by
    rw [ltQ_eq, ← decide_not]; exact decide_eq_decide.2 (by omega)
  cases op <;> simp only [intBinQ, binF, kdN_eq, intBin] <;> (try rfl) <;> by_cases h : k = k' <;> simp [h, f_add, f_sub, f_mul, f_eql, f_neq, f_lss, f_leq, f_gtr, f_geq, wrapQ_eq, eqQ_eq, ltQ_eq, bne] <;> (try rw [← decide_not]) <;> (try (exact decide_eq_decide.2 (by omega)))
def u8N (c : UInt8) : Nat := c.toBitVec.toFin.val
noncomputable def strEq (s : List UInt8) : List UInt8 → Bool := List.rec (motive := fun _ => List UInt8 → Bool) (fun t => List.rec (motive := fun _ => Bool) true (fun _ _ _ => false) t) (fun c _ ih t => List.rec (motive := fun _ => Bool) false (fun c' t' _ => Bool.rec (motive := fun _ => Bool) false (ih t') (Nat.beq (u8N c) (u8N c'))) t) s
theorem strEq_eq : ∀ (s t : List UInt8), strEq s t = (s == t)
  | [], [] => rfl
  | [], _ :: _ => rfl
  | _ :: _, [] => rfl
  | c :: s, c' :: t => by
    show Bool.rec (motive := fun _ => Bool) false (strEq s t) (Nat.beq (u8N c) (u8N c')) = _
    rw [strEq_eq s t, beqN, List.cons_beq_cons]
    by_cases h : c = c'
    · simp [h]
    · have : ¬ u8N c = u8N c' := fun hh => h (by
        cases c; cases c'
        simp only [u8N] at hh
        congr
        exact BitVec.eq_of_toNat_eq hh)
      simp [h, this]
def strBinQ (op : BinOp) (x y : List UInt8) : Option PV :=
  match op with
  | .eql => some (.bool (x == y))
  | .neq => some (.bool (!(x == y)))
  | op => strBin op x y
noncomputable def pvBinQ (op : BinOp) (a b : PV) : Option PV :=
  match a with
  | .int k x => (match b with
    | .int k' y => intBinQ op k x k' y
    | _ => Option.none)
  | .str x => (match b with
    | .str y => (match op with
      | .eql => some (.bool (strEq x y))
      | .neq => some (.bool (!strEq x y))
      | op => strBin op x y)
    | _ => Option.none)
  | _ => Option.none
theorem pvBinQ_eq (op : BinOp) (a b : PV) : pvBinQ op a b = pvBin op a b := by
  cases a <;> cases b <;> simp only [pvBinQ, pvBin, intBinQ_eq, strEq_eq]
  cases op <;> rfl
/-! lists -/
noncomputable def nthQ {α : Type} (l : List α) : Nat → Option α := List.rec (motive := fun _ => Nat → Option α) (fun _ => Option.none) (fun x _ ih n => Nat.rec (motive := fun _ => Option α) (some x) (fun m _ => ih m) n) l
theorem nthQ_eq {α : Type} : ∀ (l : List α) (n : Nat), nthQ l n = l[n]?
  | [], n => by simp [nthQ]
  | x :: l, 0 => rfl
  | x :: l, n + 1 => by
    show nthQ l n = _
    rw [nthQ_eq l n]; simp
noncomputable def dropQ {α : Type} (l : List α) : Nat → List α := List.rec (motive := fun _ => Nat → List α) (fun _ => []) (fun x r ih n => Nat.rec (motive := fun _ => List α) (x :: r) (fun m _ => ih m) n) l
theorem dropQ_eq {α : Type} : ∀ (l : List α) (n : Nat), dropQ l n = l.drop n
  | [], n => by simp [dropQ]
  | x :: l, 0 => rfl
  | x :: l, n + 1 => by
    show dropQ l n = _
    rw [dropQ_eq l n]; simp
noncomputable def takeQ {α : Type} (l : List α) : Nat → List α := List.rec (motive := fun _ => Nat → List α) (fun _ => []) (fun x r ih n => Nat.rec (motive := fun _ => List α) [] (fun m _ => x :: ih m) n) l
theorem takeQ_eq {α : Type} : ∀ (l : List α) (n : Nat), takeQ l n = l.take n
  | [], n => by simp [takeQ]
  | x :: l, 0 => rfl
  | x :: l, n + 1 => by
    show x :: takeQ l n = _
    rw [takeQ_eq l n]; simp
noncomputable def appQ {α : Type} (l m : List α) : List α := List.rec (motive := fun _ => List α) m (fun x _ ih => x :: ih) l
theorem appQ_eq {α : Type} : ∀ (l m : List α), appQ l m = l ++ m
  | [], m => rfl
  | x :: l, m => by
    show x :: appQ l m = _
    rw [appQ_eq l m]; rfl
noncomputable def lenQ {α : Type} (l : List α) : Nat := List.rec (motive := fun _ => Nat) 0 (fun _ _ ih => Nat.succ ih) l
theorem lenQ_eq {α : Type} : ∀ l : List α, lenQ l = l.length
  | [] => rfl
  | x :: l => by
    show Nat.succ (lenQ l) = _
    rw [lenQ_eq l]; rfl
noncomputable def mapQ {α β : Type} (f : α → β) (l : List α) : List β := List.rec (motive := fun _ => List β) [] (fun x _ ih => f x :: ih) l
theorem mapQ_eq {α β : Type} (f : α → β) : ∀ l : List α, mapQ f l = l.map f
  | [] => rfl
  | x :: l => by
    show f x :: mapQ f l = _
    rw [mapQ_eq f l]; rfl
noncomputable def freeQ (l : List PV) : Bool := List.rec (motive := fun _ => Bool) true (fun v _ ih => match v with
  | .int _ _ => ih
  | .str _ => ih
  | .bool _ => ih
  | .sl _ _ => ih
  | v => match v.free with
    | true => ih
    | false => false) l
theorem freeQ_eq : ∀ l : List PV, freeQ l = l.all PV.free
  | [] => rfl
  | v :: l => by
    have ih := freeQ_eq l
    show (match v with
      | .int _ _ => freeQ l
      | .str _ => freeQ l
      | .bool _ => freeQ l
      | .sl _ _ => freeQ l
      | v => match v.free with
        | true => freeQ l
        | false => false) = _
    rw [List.all_cons, ih]
    cases v <;> simp [PV.free]
/-- parts in order -/
noncomputable def fillS (ok : List PV → Bool) (L : XO → PV) (ps : List (Nat × Nat × XO)) : Nat → List PV → Option (List PV) :=
  List.rec (motive := fun _ => Nat → List PV → Option (List PV)) (fun _ rest => some rest) (fun q _ ih pos rest => Prod.rec (motive := fun _ => Option (List PV)) (fun off q2 => Prod.rec (motive := fun _ => Option (List PV)) (fun sz x =>
    match Nat.ble pos off && Nat.beq (lenQ (cells (L x))) sz && ok (cells (L x)) && Nat.ble (off - pos + sz) (lenQ rest) with
    | true => (match ih (off + sz) (dropQ rest (off - pos + sz)) with
      | some r => some (appQ (takeQ rest (off - pos)) (appQ (cells (L x)) r))
      | Option.none => Option.none)
    | false => Option.none) q2) q) ps
theorem fillS_ok {okc : PV → Bool} {ok : List PV → Bool} (hok : ∀ l, ok l = l.all okc) {L : XO → PV} : ∀ {ps : List (Nat × Nat × XO)} {pre rest r : List PV}, fillS ok L ps pre.length rest = some r → fillP okc L (pre ++ rest) ps = some (pre ++ r)
  | [], pre, rest, r, h => by
    simp only [fillS, Option.some.injEq] at h
    subst h; rfl
  | (off, sz, x) :: ps, pre, rest, r, h => by
    change (match Nat.ble pre.length off && Nat.beq (lenQ (cells (L x))) sz && ok (cells (L x)) && Nat.ble (off - pre.length + sz) (lenQ rest) with
      | true => (match fillS ok L ps (off + sz) (dropQ rest (off - pre.length + sz)) with
        | some r => some (appQ (takeQ rest (off - pre.length)) (appQ (cells (L x)) r))
        | Option.none => Option.none)
      | false => Option.none) = some r at h
    split at h
    · rename_i hb
      simp only [Bool.and_eq_true, lenQ_eq] at hb
      obtain ⟨⟨⟨h1, h2⟩, h3⟩, h4⟩ := hb
      have h1 := Nat.le_of_ble_eq_true h1
      have h2 := Nat.eq_of_beq_eq_true h2
      have h4 := Nat.le_of_ble_eq_true h4
      rw [hok] at h3
      split at h
      · rename_i q hq
        obtain rfl := Option.some.inj h
        simp only [fillP, h2, h3, List.length_append]
        rw [if_pos ⟨trivial, by omega, trivial⟩]
        have e1 : (pre ++ rest).take off = pre ++ rest.take (off - pre.length) := by
          rw [List.take_append]; congr 1; exact List.take_of_length_le h1
        have e2 : (pre ++ rest).drop (off + sz) = rest.drop (off - pre.length + sz) := by
          rw [List.drop_append, List.drop_eq_nil_of_le (by omega), List.nil_append]; congr 1; omega
        rw [e1, e2]
        have e3 : (pre ++ rest.take (off - pre.length) ++ cells (L x)).length = off + sz := by
          simp only [List.length_append, List.length_take, h2]; omega
        rw [dropQ_eq] at hq
        have := fillS_ok hok (pre := pre ++ rest.take (off - pre.length) ++ cells (L x)) (rest := rest.drop (off - pre.length + sz)) (r := q) (by rw [e3]; exact hq)
        rw [this, takeQ_eq, appQ_eq, appQ_eq]
        simp only [List.append_assoc]
      · cases h
    · cases h
noncomputable def fillQ (okc : PV → Bool) (ok : List PV → Bool) (L : XO → PV) (cs : List PV) (ps : List (Nat × Nat × XO)) : Option (List PV) :=
  match fillS ok L ps 0 cs with
  | some r => some r
  | Option.none => fillP okc L cs ps
theorem fillQ_eq {okc : PV → Bool} {ok : List PV → Bool} (hok : ∀ l, ok l = l.all okc) (L : XO → PV) (cs : List PV) (ps : List (Nat × Nat × XO)) : fillQ okc ok L cs ps = fillP okc L cs ps := by
  unfold fillQ
  split
  · rename_i r h; exact (fillS_ok hok (pre := []) h).symm
  · rfl
noncomputable def lokQ (l : List PV) : Bool := List.rec (motive := fun _ => Bool) true (fun v _ ih => match v.lok with
  | true => ih
  | false => false) l
theorem lokQ_eq : ∀ l : List PV, lokQ l = l.all PV.lok
  | [] => rfl
  | v :: l => by
    have ih := lokQ_eq l
    show (match v.lok with | true => lokQ l | false => false) = _
    rw [List.all_cons, ih]
    cases v.lok <;> rfl
noncomputable def repQ (n : Nat) (z : List PV) : List PV := Nat.rec (motive := fun _ => List PV) [] (fun _ ih => appQ z ih) n
theorem repQ_eq (z : List PV) : ∀ n, repQ n z = rep n z
  | 0 => rfl
  | n + 1 => by
    show appQ z (repQ n z) = _
    rw [appQ_eq, repQ_eq z n]; rfl
/-! the quick ones -/
noncomputable def qp_bin (C : Calls') (L : XO → PV) (S : Subs) (op : BinOp) (x y : XO) : Option PV := pvBinQ op (L x) (L y)
noncomputable def qp_idxs (C : Calls') (L : XO → PV) (S : Subs) (x i : XO) : Option PV :=
  match L x with
  | .str s => (match L i with
    | .int _ j => (match j with
      | .ofNat n => (match nthQ s n with
        | some c => some (.int .u8 (Int.ofNat (u8N c)))
        | Option.none => Option.none)
      | .negSucc _ => Option.none)
    | _ => Option.none)
  | _ => Option.none
theorem qp_idxs_eq (C : Calls') (L : XO → PV) (S : Subs) (x i : XO) : qp_idxs C L S x i = evP C L S (.idxs x i) := by
  simp only [qp_idxs, evP, nthQ_eq]
  cases L x <;> try rfl
  cases L i <;> try rfl
  rename_i s k j
  cases j with
  | ofNat n =>
    simp only [Int.ofNat_eq_natCast, Int.toNat_natCast, idxOk]
    by_cases h : n < s.length
    · rw [List.getElem?_eq_getElem h]
      simp [h]; rfl
    · rw [List.getElem?_eq_none (by omega)]
      simp
  | negSucc n => simp [idxOk]
noncomputable def qp_build (C : Calls') (L : XO → PV) (S : Subs) (z : List PV) (ps : List (Nat × Nat × XO)) : Option PV := (fillQ PV.lok lokQ L z ps).map .agg
noncomputable def qp_bsl (C : Calls') (L : XO → PV) (S : Subs) (sz len : Nat) (z : List PV) (ps : List (Nat × Nat × XO)) : Option PV := (fillQ PV.free freeQ L (repQ len z) ps).map fun cs => mkOwn sz len (mapQ norm1 cs)
noncomputable def partQ (agg : Bool) (off sz : Nat) (cs : List PV) : Option PV :=
  match Nat.ble (off + sz) (lenQ cs) with
  | true => (match agg with
    | true => some (.agg (takeQ (dropQ cs off) sz))
    | false => nthQ cs off)
  | false => Option.none
theorem partQ_eq (agg : Bool) (off sz : Nat) (cs : List PV) : partQ agg off sz cs = part agg off sz cs := by
  unfold partQ part
  rw [lenQ_eq, takeQ_eq, dropQ_eq, nthQ_eq]
  by_cases h : off + sz ≤ cs.length
  · rw [Nat.ble_eq_true_of_le h, if_pos h]; cases agg <;> rfl
  · rw [show Nat.ble (off + sz) cs.length = false from by
      cases h2 : Nat.ble (off + sz) cs.length with
      | false => rfl
      | true => exact absurd (Nat.le_of_ble_eq_true h2) h, if_neg h]
noncomputable def qp_load (C : Calls') (L : XO → PV) (S : Subs) (agg : Bool) (sz : Nat) (x : XO) : Option PV :=
  match L x with
  | .ref r p i m => (match objCells (S r p) with
    | some cs => (match Nat.ble (i + sz) (lenQ cs) && Nat.blt 0 m with
      | true => (match agg with
        | true => some (.agg (alL r p i (takeQ (dropQ cs i) sz)))
        | false => (match nthQ cs i with
          | some c => some (al r (appQ p [i]) c)
          | Option.none => Option.none))
      | false => Option.none)
    | Option.none => Option.none)
  | .sp cs => partQ agg 0 sz cs
  | _ => Option.none
theorem qp_load_eq (C : Calls') (L : XO → PV) (S : Subs) (agg : Bool) (sz : Nat) (x : XO) : qp_load C L S agg sz x = evP C L S (.load agg sz x) := by
  simp only [qp_load, evP, partQ_eq, nthQ_eq, dropQ_eq, takeQ_eq, appQ_eq, lenQ_eq, bltN]
  cases L x <;> try rfl
  rename_i r p i m
  simp only
  cases objCells (S r p) with
  | none => rfl
  | some cs =>
    simp only
    by_cases h : i + sz ≤ cs.length
    · rw [Nat.ble_eq_true_of_le h]
      by_cases h2 : 0 < m
      · simp only [h, h2, decide_true, Bool.and_self, and_self, if_true]
        cases agg
        · simp only [Bool.false_eq_true, if_false]; cases cs[i]? <;> rfl
        · rfl
      · simp [h2]
    · rw [show Nat.ble (i + sz) cs.length = false from by
        cases h2 : Nat.ble (i + sz) cs.length with
        | false => rfl
        | true => exact absurd (Nat.le_of_ble_eq_true h2) h]
      simp [h]
def lendQ (S : Subs) (v : PV) : Option PV :=
  match v with
  | .int k n => some (.int k n)
  | .str s => some (.str s)
  | v => lend S v
theorem lendQ_eq (S : Subs) (v : PV) : lendQ S v = lend S v := by cases v <;> rfl
noncomputable def lendLQ (S : Subs) (l : List PV) : Option (List PV) := List.rec (motive := fun _ => Option (List PV)) (some []) (fun v _ ih => match lendQ S v with
  | some x => (match ih with
    | some xs => some (x :: xs)
    | Option.none => Option.none)
  | Option.none => Option.none) l
theorem lendLQ_eq (S : Subs) : ∀ l : List PV, lendLQ S l = lendL S l
  | [] => rfl
  | v :: l => by
    have ih := lendLQ_eq S l
    show (match lendQ S v with
      | some x => (match lendLQ S l with
        | some xs => some (x :: xs)
        | Option.none => Option.none)
      | Option.none => Option.none) = _
    rw [ih, lendQ_eq]
    simp only [lendL]
    cases lend S v <;> cases lendL S l <;> rfl
noncomputable def qp_call (C : Calls') (L : XO → PV) (S : Subs) (f : Nat) (args : List XO) : Option PV :=
  match lendLQ S (mapQ L args) with
  | some ws => (match C f ws with
    | some (r, _) => (match r.flat with
      | true => some r
      | false => (match (mapQ L args).any lent with
        | false => some r
        | true => Option.none))
    | Option.none => Option.none)
  | Option.none => Option.none
theorem qp_call_eq (C : Calls') (L : XO → PV) (S : Subs) (f : Nat) (args : List XO) : qp_call C L S f args = evP C L S (.call f args []) := by
  simp only [qp_call, evP, lendLQ_eq, mapQ_eq]
  cases lendL S (args.map L) with
  | none => rfl
  | some ws =>
    simp only
    cases C f ws with
    | none => rfl
    | some q =>
      obtain ⟨r, o⟩ := q
      simp only
      cases r.flat <;> cases (args.map L).any lent <;> rfl
noncomputable def qp_iadr (C : Calls') (L : XO → PV) (S : Subs) (sz : Nat) (arr : Option Nat) (x i : XO) : Option PV :=
  match arr with
  | some n => evP C L S (.iadr sz (some n) x i)
  | Option.none => (match L x with
    | .sl n cs => (match L i with
      | .int _ j => (match idxOk j n with
        | true => some (.sp (takeQ (dropQ cs (j.toNat * sz)) sz))
        | false => Option.none)
      | _ => Option.none)
    | _ => evP C L S (.iadr sz Option.none x i))
theorem qp_iadr_eq (C : Calls') (L : XO → PV) (S : Subs) (sz : Nat) (arr : Option Nat) (x i : XO) : qp_iadr C L S sz arr x i = evP C L S (.iadr sz arr x i) := by
  cases arr with
  | some n => rfl
  | none =>
    simp only [qp_iadr, takeQ_eq, dropQ_eq]
    split
    · rename_i n cs hx
      simp only [evP, hx]
      cases L i <;> try rfl
      rename_i k j
      simp only
      cases idxOk j n <;> rfl
    · rfl
noncomputable def qp_slc (C : Calls') (L : XO → PV) (S : Subs) (sz : Nat) (x : XO) (lo hi : Option XO) : Option PV :=
  match L x with
  | .str s => (match Nat.beq sz 0 with
    | true => (match bnd L (lenQ s) hi (lenQ s) with
      | some h => (match bnd L h lo 0 with
        | some l => some (.str (dropQ (takeQ s h) l))
        | Option.none => Option.none)
      | Option.none => Option.none)
    | false => Option.none)
  | _ => evP C L S (.slc sz x lo hi)
theorem qp_slc_eq (C : Calls') (L : XO → PV) (S : Subs) (sz : Nat) (x : XO) (lo hi : Option XO) : qp_slc C L S sz x lo hi = evP C L S (.slc sz x lo hi) := by
  simp only [qp_slc, lenQ_eq, takeQ_eq, dropQ_eq, beqN]
  split
  · rename_i s hx
    simp only [evP, hx]
    by_cases h : sz = 0
    · simp only [h, decide_true, if_true]
      cases bnd L s.length hi s.length with
      | none => rfl
      | some a => simp only; cases bnd L a lo 0 <;> rfl
    · simp only [h, decide_false, if_false]
  · rfl

def qp_mv (C : Calls') (L : XO → PV) (S : Subs) (x : XO) : Option PV := match L x with | .none => Option.none | v => some v
def qp_pick (C : Calls') (L : XO → PV) (S : Subs) (c : XO) (a : XO) (b : XO) : Option PV := match L c with
    | .bool true => some (L a)
    | .bool false => some (L b)
    | _ => Option.none
def qp_alloc (C : Calls') (L : XO → PV) (S : Subs) (z : List PV) : Option PV := some (.box z)
def qp_box (C : Calls') (L : XO → PV) (S : Subs) (x : XO) : Option PV := let ys := cells (L x); if ys.all PV.free then some (.box ys) else Option.none
def qp_beq (C : Calls') (L : XO → PV) (S : Subs) (neg : Bool) (x : XO) (y : XO) : Option PV := (pvBeq (L x) (L y)).map fun b => .bool (neg ^^ b)
def qp_peq (C : Calls') (L : XO → PV) (S : Subs) (neg : Bool) (x : XO) (y : XO) : Option PV := (pvPeq (L x) (L y)).map fun b => .bool (neg ^^ b)
def qp_aeq (C : Calls') (L : XO → PV) (S : Subs) (neg : Bool) (z : List PV) (x : XO) (y : XO) : Option PV := (pvAeq z (L x) (L y)).map fun b => .bool (neg ^^ b)
def qp_un (C : Calls') (L : XO → PV) (S : Subs) (op : UnOp) (x : XO) : Option PV := pvUn op (L x)
def qp_conv (C : Calls') (L : XO → PV) (S : Subs) (k : IntKind) (x : XO) : Option PV := match L x with
    | .int _ n => some (.int k (k.wrap n))
    | _ => Option.none
def qp_mksl (C : Calls') (L : XO → PV) (S : Subs) (sz : Nat) (bytes : Nat) (z : List PV) (l : XO) (c : XO) : Option PV := match L l, L c with
    | .int _ n, .int _ m => if n = m ∧ 0 ≤ n ∧ n.toNat * bytes ≤ lim ∧ n.toNat ≤ lim then some (mkOwn sz n.toNat (rep n.toNat z)) else Option.none
    | _, _ => Option.none
def qp_fadr (C : Calls') (L : XO → PV) (S : Subs) (off : Nat) (x : XO) : Option PV := match L x with
    | .ref r p i m => if off < m then some (.ref r p (i + off) (m - off)) else Option.none
    | .sp cs => if off < cs.length then some (.sp (cs.drop off)) else Option.none
    | _ => Option.none
def qp_fld (C : Calls') (L : XO → PV) (S : Subs) (agg : Bool) (off : Nat) (sz : Nat) (x : XO) : Option PV := match L x with
    | .agg cs => part agg off sz cs
    | _ => Option.none
def qp_idx (C : Calls') (L : XO → PV) (S : Subs) (agg : Bool) (sz : Nat) (n : Nat) (x : XO) (i : XO) : Option PV := match L x, L i with
    | .agg cs, .int _ j => if idxOk j n then part agg (j.toNat * sz) sz cs else Option.none
    | _, _ => Option.none
def qp_len (C : Calls') (L : XO → PV) (S : Subs) (str : Bool) (x : XO) : Option PV := match L x with
    | .str s => if str then some (.int .i64 s.length) else Option.none
    | .sl n _ => if str then Option.none else some (.int .i64 n)
    | .view _ _ _ n _ => if str then Option.none else some (.int .i64 n)
    | .nils => if str then Option.none else some (.int .i64 0)
    | _ => Option.none
def qp_lenk (C : Calls') (L : XO → PV) (S : Subs) (n : Nat) : Option PV := some (.int .i64 n)
def qp_ext (C : Calls') (L : XO → PV) (S : Subs) (x : XO) (i : Nat) : Option PV := match L x with
    | .tup vs => match vs[i]? with
      | some (.agg cs) => if cs.all PV.free then some (.agg cs) else Option.none
      | some v => if v.free then some v else Option.none
      | _ => Option.none
    | _ => Option.none
def qp_nilck (C : Calls') (L : XO → PV) (S : Subs) (x : XO) : Option PV := match L x with
    | .ref r p i m => some (.ref r p i m)
    | .sp cs => some (.sp cs)
    | _ => Option.none
def qp_callv (C : Calls') (L : XO → PV) (S : Subs) (x : XO) (args : List XO) : Option PV := match L x with
    | .fn f caps =>
      let vs := args.map L
      match lendL S vs, lendCaps S caps with
      | some ws, some us => match C f (ws ++ us) with
        | some (r, _) => if r.flat || !(vs.any lent || lent (.fn f caps)) then some r else Option.none
        | _ => Option.none
      | _, _ => Option.none
    | _ => Option.none
def qp_mkfn (C : Calls') (L : XO → PV) (S : Subs) (f : Nat) (caps : List XO) : Option PV :=
    let vs := caps.map L
    if vs.all PV.isCap then some (.fn f vs) else Option.none
def qp_mx (C : Calls') (L : XO → PV) (S : Subs) (x : XO) (y : XO) : Option PV := match L x, L y with
    | .int k a, .int k' b => if k = k' then some (.int k (if a < b then b else a)) else Option.none
    | _, _ => Option.none
def qp_mn (C : Calls') (L : XO → PV) (S : Subs) (x : XO) (y : XO) : Option PV := match L x, L y with
    | .int k a, .int k' b => if k = k' then some (.int k (if b < a then b else a)) else Option.none
    | _, _ => Option.none
def qp_b2s (C : Calls') (L : XO → PV) (S : Subs) (x : XO) : Option PV := match slCells S (L x) with
    | some (n, cs) => if n = cs.length then (bytesOf cs).map .str else Option.none
    | _ => Option.none
def qp_app (C : Calls') (L : XO → PV) (S : Subs) (sz : Nat) (bytes : Nat) (s : XO) (x : XO) : Option PV := match L s with
    | .nils => match slCells S (L x) with
      | some (n, cs) => if n * sz = cs.length ∧ n * bytes ≤ lim ∧ n ≤ lim ∧ cs.all PV.free ∧ 0 < sz then some (mkOwn sz n cs) else Option.none
      | _ => Option.none
    | _ => Option.none
noncomputable def evPQ (C : Calls') (L : XO → PV) (S : Subs) : XOp → Option PV
  | .mv x => qp_mv C L S x
  | .pick c a b => qp_pick C L S c a b
  | .alloc z => qp_alloc C L S z
  | .box x => qp_box C L S x
  | .build z ps => qp_build C L S z ps
  | .bsl sz len z ps => qp_bsl C L S sz len z ps
  | .load agg sz x => qp_load C L S agg sz x
  | .bin op x y => qp_bin C L S op x y
  | .beq neg x y => qp_beq C L S neg x y
  | .peq neg x y => qp_peq C L S neg x y
  | .aeq neg z x y => qp_aeq C L S neg z x y
  | .un op x => qp_un C L S op x
  | .conv k x => qp_conv C L S k x
  | .mksl sz bytes z l c => qp_mksl C L S sz bytes z l c
  | .slc sz x lo hi => qp_slc C L S sz x lo hi
  | .fadr off x => qp_fadr C L S off x
  | .fld agg off sz x => qp_fld C L S agg off sz x
  | .iadr sz arr x i => qp_iadr C L S sz arr x i
  | .idx agg sz n x i => qp_idx C L S agg sz n x i
  | .idxs x i => qp_idxs C L S x i
  | .len str x => qp_len C L S str x
  | .lenk n => qp_lenk C L S n
  | .ext x i => qp_ext C L S x i
  | .nilck x => qp_nilck C L S x
  | .call f args [] => qp_call C L S f args
  | .callv x args => qp_callv C L S x args
  | .mkfn f caps => qp_mkfn C L S f caps
  | .mx x y => qp_mx C L S x y
  | .mn x y => qp_mn C L S x y
  | .b2s x => qp_b2s C L S x
  | .app sz bytes s x => qp_app C L S sz bytes s x
  | _ => Option.none
theorem evPQ_eq (C : Calls') (L : XO → PV) (S : Subs) (op : XOp) : evPQ C L S op = evP C L S op := by
  cases op
  case call f args muts =>
    cases muts
    · exact qp_call_eq C L S f args
    · rfl
  case idxs x i => exact qp_idxs_eq C L S x i
  case load a z x => exact qp_load_eq C L S a z x
  case iadr z n x i => exact qp_iadr_eq C L S z n x i
  case slc z x l h => exact qp_slc_eq C L S z x l h
  case bin p x y => exact pvBinQ_eq p (L x) (L y)
  case build z ps => simp only [evPQ, evP, qp_build, fillQ_eq lokQ_eq]
  case bsl z n c ps => simp only [evPQ, evP, qp_bsl, repQ_eq, fillQ_eq freeQ_eq, mapQ_eq]
  all_goals rfl
def qs_asg (C : Calls') (e : Env) (dst : Option Nat) (x : XO) : Option Env := match dst with
    | some d => match look e x with
      | .agg cs => (takeL e [] cs).map fun (ys, e') => e'.setD d (.agg ys)
      | .view r p off len z =>
        if r = d ∧ p = [] then
          match e.get d with
          | .own sz n cs =>
            if z ≠ sz then Option.none
            else if off = 0 ∧ len * sz ≤ cs.length then some (e.setD d (.own sz len (cs.take (len * sz))))
            else if off + len * sz ≤ cs.length then (frzL ((cs.drop off).take (len * sz))).map fun ds => e.setD d (.sl len ds)
            else Option.none
          | _ => Option.none
        else (take1 e (.view r p off len z)).map fun (v, e') => e'.setD d v
      | .ref r p i m =>
        if isT x r then (take1 e (.ref r p i m)).map fun (v, e') => e'.setD d v
        else if r = d then Option.none else some (e.setD d (.ref r p i m))
      | .fn f cs => some (e.setD d (purge1 (und d []) (.fn f cs)))
      | .sp cs => some (e.setD d (.sp cs))
      | v => (take1 e v).map fun (v, e') => e'.setD d v
    | _ => Option.none
def qs_box (C : Calls') (e : Env) (dst : Option Nat) (x : XO) : Option Env := match dst with
    | some d => (takeL e [] (cells (look e x))).map fun (ys, e') => e'.setD d (.box ys)
    | _ => Option.none
def qs_store (C : Calls') (e : Env) (dst : Option Nat) (sz : Nat) (a : XO) (x : XO) : Option Env := match look e a with
    | .ref r p i _ =>
      match takeL e [] (cells (look e x)) with
      | some (ys, e') => match objCells (e'.sub r p) with
        | some cs => if ys.length = sz ∧ i + sz ≤ cs.length ∧ 0 < sz ∧ canUpd e' r p = true then
            some ((putObj e' r p (setCells cs i ys)).purgeBy (deep r p))
          else Option.none
        | _ => Option.none
      | _ => Option.none
    | _ => Option.none
def qs_bsl (C : Calls') (e : Env) (dst : Option Nat) (sz : Nat) (len : Nat) (u2 : List PV) (ps : List (Nat × Nat × XO)) : Option Env := match dst with
    | some d => match ps with
      | [(off, sz', x)] =>
        if off = 0 ∧ len = 1 ∧ sz' = sz ∧ (cells (look e x)).length = sz then (packL e (cells (look e x))).map fun (ys, e') => e'.setD d (.own sz 1 ys) else Option.none
      | _ => Option.none
    | _ => Option.none
def qs_app (C : Calls') (e : Env) (dst : Option Nat) (sz : Nat) (bytes : Nat) (s : XO) (x : XO) : Option Env := match dst with
    | some d => match look e s with
      | .view r p off len z => match e.sub r p with
        | .own sz' n cs => match slCells e.sub (look e x) with
          | some (m, new) =>
            if off = 0 ∧ sz' = sz ∧ z = sz ∧ len ≤ n ∧ len * sz ≤ cs.length ∧ m * sz = new.length ∧ (len + m) * bytes ≤ lim ∧ len + m ≤ lim ∧ new.all PV.free ∧ r ≠ d ∧ canUpd e r p = true ∧ 0 < sz then
              some (((e.upd r p .none).purge r p).setD d (.own sz (len + m) (cs.take (len * sz) ++ new)))
            else Option.none
          | _ => Option.none
        | _ => Option.none
      | _ => Option.none
    | _ => Option.none
def qs_ext (C : Calls') (e : Env) (dst : Option Nat) (x : XO) (i : Nat) : Option Env := match dst with
    | some d => match x with
      | .t n => match e.get n with
        | .tup vs => match vs[i]? with
          | some v => if n ≠ d ∧ canUpd e n [i] = true ∧ v.isNone = false then some (((e.upd n [i] .none).purge n [i]).setD d v) else Option.none
          | _ => Option.none
        | _ => Option.none
      | _ => Option.none
    | _ => Option.none
def qs_call (C : Calls') (e : Env) (dst : Option Nat) (f : Nat) (args : List XO) (muts : List Nat) : Option Env :=
    match rowAt e muts (args.map (look e)) with
    | some (k, q, p, sz, n, cs) =>
      if canUpd e q p = true ∧ ((args.map (look e)).set k (.own sz n cs)).all (fun w => (refs w).isEmpty) then
        match C f ((args.map (look e)).set k (.own sz n cs)) with
        | some (r, outs) => match outs[k]? with
          | some (.own sz' n' ds) => if sz' = sz ∧ n' = n then some (setO ((e.upd q p (.own sz n ds)).purge q p) dst r) else Option.none
          | _ => Option.none
        | _ => Option.none
      else Option.none
    | Option.none =>
    match passL e [] (args.map (look e)) with
    | some (ws, e1) => match refAt ws with
      | Option.none => if ws.all (fun w => (refs w).isEmpty) then (match C f ws with
        | some (r, _) => some (setO e1 dst r)
        | _ => Option.none) else Option.none
      | some (k, q, p, m) => match e1.sub q p with
        | .box cs => if 0 < cs.length ∧ 0 < m ∧ canUpd e1 q p = true ∧ (ws.set k (.box cs)).all (fun w => (refs w).isEmpty) then
            match C f (ws.set k (.box cs)) with
            | some (r, outs) => match outs[k]? with
              | some (.box ds) => some (setO ((e1.upd q p (.box ds)).purge q p) dst r)
              | _ => Option.none
            | _ => Option.none
          else Option.none
        | _ => Option.none
    | _ => Option.none
def evSQ0 (C : Calls') (e : Env) (dst : Option Nat) : XOp → Option Env
  | .asg x => qs_asg C e dst x
  | .box x => qs_box C e dst x
  | .store sz a x => qs_store C e dst sz a x
  | .bsl sz len u2 ps => qs_bsl C e dst sz len u2 ps
  | .app sz bytes s x => qs_app C e dst sz bytes s x
  | .ext x i => qs_ext C e dst x i
  | .call f args muts => qs_call C e dst f args muts
  | _ => Option.none
theorem evSQ0_eq (C : Calls') (e : Env) (dst : Option Nat) (op : XOp) : evSQ0 C e dst op = evS C e dst op := by
  cases op <;> rfl

def simpleQ : PV → Bool
  | .int _ _ => true
  | .bool _ => true
  | .str _ => true
  | .sl _ _ => true
  | .nils => true
  | _ => false
noncomputable def asgQ (C : Calls') (e : Env) (dst : Option Nat) (x : XO) : Option Env :=
  match simpleQ (lookQ e x) with
  | true => (match dst with
    | some d => some (setDQ e d (lookQ e x))
    | Option.none => Option.none)
  | false => evSQ0 C e dst (.asg x)
theorem asgQ_eq (C : Calls') (e : Env) (dst : Option Nat) (x : XO) : asgQ C e dst x = evS C e dst (.asg x) := by
  unfold asgQ
  rw [evSQ0_eq, lookQ_eq]
  split
  · rename_i h
    cases dst with
    | none => rfl
    | some d =>
      simp only [evS, setDQ_eq]
      cases hl : look e x <;> rw [hl] at h <;> first | (simp [simpleQ] at h; done) | simp [take1, PV.free]
  · rfl
theorem takeL_free (e : Env) : ∀ (cs : List PV), cs.all PV.free = true → takeL e [] cs = some (cs, e)
  | [], _ => rfl
  | c :: cs, h => by
    simp only [List.all_cons, Bool.and_eq_true] at h
    have h1 : take1 e c = some (c, e) := by cases c <;> first | rfl | (simp [PV.free] at h; done)
    have h2 : refs c = [] := by cases c <;> first | rfl | (simp [PV.free] at h; done)
    simp only [takeL, purges, h1, h2, List.append_nil, takeL_free e cs h.2]
noncomputable def setCellsQ (cs : List PV) (i : Nat) (ys : List PV) : List PV := appQ (takeQ cs i) (appQ ys (dropQ cs (i + lenQ ys)))
theorem setCells_eq : ∀ (ys cs : List PV) (i : Nat), i + ys.length ≤ cs.length → setCells cs i ys = cs.take i ++ (ys ++ cs.drop (i + ys.length))
  | [], cs, i, h => by simp [setCells]
  | y :: ys, cs, i, h => by
    simp only [List.length_cons] at h
    rw [setCells, setCells_eq ys (cs.set i y) (i + 1) (by simp; omega)]
    have hi : i < cs.length := by omega
    rw [List.take_set, List.drop_set_of_lt (by omega)]
    have e1 : (cs.take (i + 1)).set i y = cs.take i ++ [y] := by
      rw [List.take_succ_eq_append_getElem hi, List.set_append_right _ _ (by simp; omega)]
      simp [Nat.min_eq_left (by omega : i ≤ cs.length)]
    rw [e1, show i + 1 + ys.length = i + (y :: ys).length by simp; omega]
    simp
noncomputable def storeQ (C : Calls') (e : Env) (dst : Option Nat) (sz : Nat) (a x : XO) : Option Env :=
  match lookQ e a with
  | .ref r p i m => (match freeQ (cells (lookQ e x)) with
    | true => (match objCells (e.sub r p) with
      | some cs => (match Nat.beq (lenQ (cells (lookQ e x))) sz && Nat.ble (i + sz) (lenQ cs) && Nat.blt 0 sz && canUpd e r p with
        | true => some ((putObj e r p (setCellsQ cs i (cells (lookQ e x)))).purgeBy (deep r p))
        | false => Option.none)
      | Option.none => Option.none)
    | false => evSQ0 C e dst (.store sz a x))
  | _ => evSQ0 C e dst (.store sz a x)
theorem storeQ_eq (C : Calls') (e : Env) (dst : Option Nat) (sz : Nat) (a x : XO) : storeQ C e dst sz a x = evS C e dst (.store sz a x) := by
  unfold storeQ
  simp only [evSQ0_eq, lookQ_eq, freeQ_eq, lenQ_eq, beqN, bltN]
  split
  · rename_i r p i m ha
    split
    · rename_i hf
      simp only [evS, ha, takeL_free e _ hf]
      cases objCells (e.sub r p) with
      | none => rfl
      | some cs =>
        simp only
        by_cases h1 : (cells (look e x)).length = sz
        · by_cases h2 : i + sz ≤ cs.length
          · rw [Nat.ble_eq_true_of_le h2]
            by_cases h3 : 0 < sz
            · cases h4 : canUpd e r p with
              | false => simp [h1, h2, h3]
              | true =>
                simp only [h1, h2, h3, decide_true, Bool.and_self, and_self, if_true]
                rw [show setCellsQ cs i (cells (look e x)) = setCells cs i (cells (look e x)) from by
                  rw [setCells_eq _ _ _ (by omega)]
                  simp only [setCellsQ, appQ_eq, takeQ_eq, dropQ_eq, lenQ_eq]]
            · simp [h3]
          · rw [show Nat.ble (i + sz) cs.length = false from by
              cases h5 : Nat.ble (i + sz) cs.length with
              | false => rfl
              | true => exact absurd (Nat.le_of_ble_eq_true h5) h2]
            simp [h2]
        · simp [h1]
    · rfl
  · rfl
noncomputable def evSQ (C : Calls') (e : Env) (dst : Option Nat) : XOp → Option Env
  | .asg x => asgQ C e dst x
  | .store sz a x => storeQ C e dst sz a x
  | op => evSQ0 C e dst op
theorem evSQ_eq (C : Calls') (e : Env) (dst : Option Nat) (op : XOp) : evSQ C e dst op = evS C e dst op := by
  rw [← evSQ0_eq]
  cases op
  case asg x => rw [evSQ0_eq]; exact asgQ_eq C e dst x
  case store sz a x => rw [evSQ0_eq]; exact storeQ_eq C e dst sz a x
  all_goals rfl


def blockedQ (C : Calls') (L : XO → PV) (S : Subs) : XOp → Bool
  | .call f args [] => blocked C L S (.call f args [])
  | _ => false
theorem blockedQ_eq (C : Calls') (L : XO → PV) (S : Subs) (op : XOp) : blockedQ C L S op = blocked C L S op := by
  cases op
  case call f args muts => cases muts <;> rfl
  all_goals rfl
noncomputable def wantsQ (e : Env) : Option (Nat × Bool) → Option Bool
  | Option.none => some true
  | some (d, want) => match getQ e d with
    | .bool b => some (b == want)
    | .tup [] => some false
    | _ => Option.none
theorem wantsQ_eq (e : Env) (o : XI) : wantsQ e o.guard = wants e o := by
  unfold wantsQ wants wantsG
  simp only [getQ_eq]
  rfl
noncomputable def stepQ (C : Calls') (e : Env) (o : XI) : Option Env :=
  match wantsQ e o.guard with
  | some true => match evPQ C (lookQ e) e.sub o.op with
    | some v => match o.dst with
      | some d => some (setDQ e d (purgeD d v))
      | Option.none => match blockedQ C (lookQ e) e.sub o.op with
        | true => Option.none
        | false => evSQ C e o.dst o.op
    | Option.none => match blockedQ C (lookQ e) e.sub o.op with
      | true => Option.none
      | false => evSQ C e o.dst o.op
  | some false => match o.dst with
    | some d => some (setDQ e d (.tup []))
    | Option.none => some e
  | Option.none => Option.none
theorem stepQ_eq (C : Calls') (e : Env) (o : XI) : stepQ C e o = step C e o := by
  unfold stepQ step stepP
  simp only [wantsQ_eq, evPQ_eq, lookQ_eq, setDQ_eq, purgeD_eq, blockedQ_eq, evSQ_eq]
  cases wants e o with
  | none => rfl
  | some b => cases b with
    | false => simp only [skipped]; cases o.dst <;> rfl
    | true =>
      simp only
      cases evP C (look e) e.sub o.op with
      | none => simp only; cases blocked C (look e) e.sub o.op <;> rfl
      | some v => cases hd : o.dst with
        | none => simp only; cases blocked C (look e) e.sub o.op <;> rfl
        | some d => rfl
noncomputable def stepsQ (C : Calls') : Env → List XI → Option Env
  | e, [] => some e
  | e, o :: r => match stepQ C e o with
    | some e' => stepsQ C e' r
    | Option.none => Option.none
theorem stepsQ_eq (C : Calls') : ∀ (l : List XI) (e : Env), stepsQ C e l = steps C e l
  | [], e => rfl
  | o :: r, e => by
    simp only [stepsQ, steps, stepQ_eq]
    cases step C e o with
    | none => rfl
    | some e' => exact stepsQ_eq C r e'
noncomputable def stepDQ (C : Calls') (S : Subs) (ds : List Nat) (e : Env) (o : XI) : Option (Nat × PV) :=
  match o.dst with
  | some d => match wantsQ e o.guard with
      | some true => match evPQ C (lookQ e) S o.op with
        | some v => match noRefsQ ds v with
          | true => some (d, v)
          | false => Option.none
        | Option.none => Option.none
      | some false => some (d, .tup [])
      | Option.none => Option.none
  | Option.none => Option.none
theorem stepDQ_eq (C : Calls') (S : Subs) (ds : List Nat) (e : Env) (o : XI) : stepDQ C S ds e o = stepD C S ds e o := by
  unfold stepDQ stepD
  simp only [wantsQ_eq, evPQ_eq, lookQ_eq, noRefsQ_eq]
  cases o.dst with
  | none => rfl
  | some d =>
    simp only
    cases wants e o with
    | none => rfl
    | some b => cases b with
      | false => rfl
      | true =>
        simp only
        cases evP C (look e) S o.op with
        | none => rfl
        | some v => simp only; cases noRefs ds v <;> rfl
noncomputable def stepsDQ (C : Calls') (S : Subs) (ds : List Nat) : Env → List XI → Option Env
  | e, [] => some e
  | e, o :: r => match o.bar with
    | true => match r.all (·.bar) with
      | true => stepsQ C e (o :: r)
      | false => Option.none
    | false => match stepDQ C S ds e o with
      | some (d, v) => match getQ e d with
        | .none => stepsDQ C S ds (setQ e d v) r
        | _ => Option.none
      | Option.none => Option.none
theorem stepsDQ_eq (C : Calls') (S : Subs) (ds : List Nat) : ∀ (l : List XI) (e : Env), stepsDQ C S ds e l = stepsD C S ds e l
  | [], e => rfl
  | o :: r, e => by
    simp only [stepsDQ, stepsD, stepsQ_eq, stepDQ_eq, getQ_eq, setQ_eq]
    cases o.bar with
    | true => simp only [if_true]; cases r.all (·.bar) <;> simp
    | false =>
      simp only [Bool.false_eq_true, if_false]
      cases stepD C S ds e o with
      | none => rfl
      | some q =>
        obtain ⟨d, v⟩ := q
        simp only
        cases e.get d <;> first | rfl | exact stepsDQ_eq C S ds r _
noncomputable def allQ (ds : List Nat) : Env → Bool
  | [] => true
  | (k, v) :: r => match noRefsQ ds v with
    | true => match memQ ds k with
      | true => false
      | false => allQ ds r
    | false => false
theorem allQ_eq (ds : List Nat) : ∀ e : Env, allQ ds e = e.all (fun x => noRefs ds x.2 && !ds.contains x.1)
  | [] => rfl
  | (k, v) :: r => by
    simp only [allQ, List.all_cons, noRefsQ_eq, memQ_eq, allQ_eq ds r]
    cases noRefs ds v <;> cases ds.contains k <;> simp
noncomputable def regDQ (C : Calls') (e : Env) (ops : List XI) : Option Env :=
  match allQ (dstsOf ops) e with
  | true => stepsDQ C e.sub (dstsOf ops) e ops
  | false => Option.none
theorem regDQ_eq (C : Calls') (e : Env) (ops : List XI) : regDQ C e ops = regD C e ops := by
  unfold regDQ regD
  simp only [allQ_eq, stepsDQ_eq]
  cases e.all (fun x => noRefs (dstsOf ops) x.2 && !(dstsOf ops).contains x.1) <;> simp
noncomputable def fgtQ (k : List Nat) (x : Option (Ex × Env)) : Option (Ex × Env) :=
  match x with
  | some (.norm, e) => some (.norm, keepQ k e)
  | r => r
theorem fgtQ_eq (k : List Nat) (x : Option (Ex × Env)) : fgtQ k x = fgt k x := by
  unfold fgtQ fgt
  simp only [keepQ_eq]
  rfl
noncomputable def regK (k : List Nat) : Option Env → Option (Ex × Env)
  | some e => some (.norm, keepQ k e)
  | Option.none => Option.none
theorem regK_eq (k : List Nat) (x : Option Env) : regK k x = x.map fun e' => (.norm, e'.keep k) := by
  cases x <;> simp [regK, keepQ_eq]
noncomputable def blockQ (id : Nat) (x : Option (Ex × Env)) : Option (Ex × Env) :=
  match x with
  | some (.exit id', e') => match Nat.beq id' id with
    | true => some (.norm, e')
    | false => some (.exit id', e')
  | r => r
theorem blockQ_eq (id : Nat) (x : Option (Ex × Env)) : blockQ id x = blockK id x := by
  cases x with
  | none => rfl
  | some q =>
    obtain ⟨ex, e⟩ := q
    cases ex with
    | norm => rfl
    | ret => rfl
    | exit i =>
      simp only [blockQ, blockK]
      cases h : Nat.beq i id with
      | true => rw [if_pos (Nat.eq_of_beq_eq_true h)]
      | false => rw [if_neg (fun hh => by rw [hh, Nat.beq_refl] at h; cases h)]
/-- one round of the evaluator -/
noncomputable def evC1 (C : Calls') (rec : XC → Env → Option (Ex × Env)) (e : Env) : XC → Option (Ex × Env)
  | .skip => some (.norm, e)
  | .reg ops draw keep => match draw with
    | true => regK keep (regDQ C e ops)
    | false => regK keep (stepsQ C e ops)
  | .seq a b => match rec a e with
    | some (.norm, e') => rec b e'
    | r => r
  | .cond x a b k => match lookQ e x with
    | .bool true => fgtQ k (rec a e)
    | .bool false => fgtQ k (rec b e)
    | _ => Option.none
  | .block id b k => fgtQ k (blockQ id (rec b e))
  | .loop b k => match fgtQ k (rec b e) with
    | some (.norm, e') => rec (.loop b k) e'
    | r => r
  | .exit id k => some (.exit id, keepQ k e)
  | .ret => some (.ret, e)
noncomputable def evCQ (C : Calls') : Nat → XC → Env → Option (Ex × Env)
  | 0 => fun _ _ => Option.none
  | n + 1 => fun c e => evC1 C (evCQ C n) e c
theorem evCQ_eq (C : Calls') : ∀ (n : Nat) (c : XC) (e : Env), evCQ C n c e = evC C n c e
  | 0, c, e => by simp [evCQ, evC]
  | n + 1, c, e => by
    have ih := evCQ_eq C n
    cases c with
    | skip => rfl
    | ret => rfl
    | reg ops draw keep => cases draw <;> simp [evCQ, evC1, evC, regDQ_eq, stepsQ_eq, regK_eq]
    | seq a b =>
      simp only [evCQ, evC1, evC, ih]
      rfl
    | cond x a b k =>
      simp only [evCQ, evC1, evC, ih, lookQ_eq, fgtQ_eq]
      cases look e x <;> try rfl
      rename_i bb
      cases bb <;> rfl
    | block id b k =>
      simp only [evCQ, evC1, evC, ih, fgtQ_eq, blockQ_eq]
      rfl
    | loop b k =>
      simp only [evCQ, evC1, evC, ih, fgtQ_eq]
      rfl
    | exit id k => simp only [evCQ, evC1, evC, keepQ_eq]
noncomputable def retQ (x : XF) (ws : List PV) (y : Option (Ex × Env)) : Option (PV × List PV) := retK x ws y
noncomputable def callQ (rec : Calls') (n : Nat) (ws : List PV) (x : XF) : Option (PV × List PV) :=
  match x.ext with
  | some k => extSem k ws
  | Option.none => match Nat.beq ws.length x.np with
    | true => retK x ws (evCQ rec n x.body (params 0 (argsIn x.nk ws)))
    | false => Option.none
noncomputable def evFQ (T : Nat → Option XF) : Nat → Calls'
  | 0 => fun _ _ => Option.none
  | n + 1 => fun f args => match T f with
    | some x => callQ (evFQ T n) n args x
    | Option.none => Option.none
theorem evFQ_eq (T : Nat → Option XF) : ∀ n, evFQ T n = evF T n
  | 0 => by funext f ws; simp [evFQ, evF]
  | n + 1 => by
    funext f ws
    simp only [evFQ, evF, callQ, evFQ_eq T n, evCQ_eq]
    cases T f with
    | none => rfl
    | some x =>
      simp only
      cases x.ext with
      | some k => rfl
      | none =>
        simp only
        cases h : Nat.beq ws.length x.np with
        | true =>
          rw [if_pos (Nat.eq_of_beq_eq_true h)]
          simp only [retK]
          cases evC (evF T n) n x.body (params 0 (argsIn x.nk ws)) with
          | none => rfl
          | some q => obtain ⟨ex, e⟩ := q; cases ex <;> rfl
        | false => rw [if_neg (fun hh => by rw [hh, Nat.beq_refl] at h; cases h)]
/-- a call in pieces -/
theorem call3_ok {T : Nat → Option XF} {M : Tab} (hM : TabOk T M) {m n f : Nat} {x : XF} {ws : List PV} {r : PV × List PV} (hx : T f = some x) (h : callQ (memoC M (evFQ T m)) n ws x = some r) : evI T f ws = some r := by
  refine call2_ok hM (m := m) (n := n) hx ?_
  rw [← h, evFQ_eq]
  unfold call1 callQ
  simp only [evCQ_eq]
  all_goals rfl

end Go.Ab

/-
  A computation in pieces. Printed by memo.py.
-/
namespace Go.Ab
open Go
set_option linter.unusedVariables false
set_option maxRecDepth 100000
def cwv0 : List PV := [.int .i64 27, .int .i64 (-1), .int .i64 0, .int .i64 0, .sl 1 [.int .i64 0], .sl 2 [.int .i64 2, .int .i64 3], .str [], .int .i64 28]
def cwv1 : List PV := [.int .i64 27, .int .i64 (-1), .int .i64 0, .int .i64 0, .sl 1 [.int .i64 0], .sl 2 [.int .i64 1, .int .i64 5], .str [], .int .i64 64]
def cwv2 : List PV := [.sl 1 [.int .i64 1], .sl 2 [.int .i64 2, .int .i64 3], .sl 1 [.int .i64 4], .sl 1 [.int .i64 4], .sl 2 [.int .i64 1, .int .i64 5], .sl 0 [], .sl 0 []]
def cwv3 : List PV := [.str [102, 117, 110, 99, 32, 102, 40, 105, 41, 32, 110, 32, 123, 32, 98, 48, 58, 32, 98, 114, 32, 98, 49, 32, 98, 49, 58, 32, 105, 102, 32, 37, 48, 32, 98, 50, 32, 98, 51, 32, 98, 50, 58, 32, 98, 114, 32, 98, 52, 32, 98, 51, 58, 32, 98, 114, 32, 98, 52, 32, 98, 52, 58, 32, 105, 102, 32, 37, 48, 32, 98, 49, 32, 98, 53, 32, 98, 53, 58, 32, 114, 101, 116, 32, 98, 54, 58, 32, 114, 101, 116, 32, 125]]
def cwv4 : List PV := [.sl 1 [.int .i64 26, .int .i64 (-1), .int .i64 0, .int .i64 0, .sl 0 [], .sl 1 [.int .i64 1], .str [], .int .i64 18], .sl 1 cwv0, .sl 1 [.int .i64 26, .int .i64 (-1), .int .i64 0, .int .i64 0, .sl 0 [], .sl 1 [.int .i64 4], .str [], .int .i64 44], .sl 1 [.int .i64 26, .int .i64 (-1), .int .i64 0, .int .i64 0, .sl 0 [], .sl 1 [.int .i64 4], .str [], .int .i64 54], .sl 1 cwv1, .sl 1 [.int .i64 28, .int .i64 (-1), .int .i64 0, .int .i64 0, .sl 0 [], .sl 0 [], .str [], .int .i64 80], .sl 1 [.int .i64 28, .int .i64 (-1), .int .i64 0, .int .i64 0, .sl 0 [], .sl 0 [], .str [], .int .i64 88]]
def cwv5 : List PV := [.str [102], .sl 1 [.int .i64 1], .int .i64 0, .sl 7 cwv4, .int .i64 0]
def cwv6 : List PV := [.sp cwv5]
def cwv7 : List PV := [.agg cwv5]
def cwv8 : List PV := [.sl 1 [.int .i64 1], .fn 30 cwv6]
def cwv9 : List PV := [.sl 1 [.int .i64 4], .fn 30 cwv6]
def cwv10 : List PV := [.sl 2 [.int .i64 2, .int .i64 3], .fn 30 cwv6]
def cwv11 : List PV := [.sl 2 [.int .i64 1, .int .i64 5], .fn 30 cwv6]
def cwv12 : List PV := [.str [102, 117, 110, 99], .int .i64 0, .str [102], .int .i64 5, .str [40], .int .i64 6, .str [105], .int .i64 7, .str [41], .int .i64 8, .str [110], .int .i64 10, .str [123], .int .i64 12, .str [98, 48], .int .i64 14, .str [58], .int .i64 16, .str [98, 114], .int .i64 18, .str [98, 49], .int .i64 21, .str [98, 49], .int .i64 24, .str [58], .int .i64 26, .str [105, 102], .int .i64 28, .str [37, 48], .int .i64 31, .str [98, 50], .int .i64 34, .str [98, 51], .int .i64 37, .str [98, 50], .int .i64 40, .str [58], .int .i64 42, .str [98, 114], .int .i64 44, .str [98, 52], .int .i64 47, .str [98, 51], .int .i64 50, .str [58], .int .i64 52, .str [98, 114], .int .i64 54, .str [98, 52], .int .i64 57, .str [98, 52], .int .i64 60, .str [58], .int .i64 62, .str [105, 102], .int .i64 64, .str [37, 48], .int .i64 67, .str [98, 49], .int .i64 70, .str [98, 53], .int .i64 73, .str [98, 53], .int .i64 76, .str [58], .int .i64 78, .str [114, 101, 116], .int .i64 80, .str [98, 54], .int .i64 84, .str [58], .int .i64 86, .str [114, 101, 116], .int .i64 88, .str [125], .int .i64 92]
def cwv13 : List PV := [.sl 38 cwv12, .int .i64 0, .int .i64 93, .int .i64 0, .int .i64 0, .int .i64 0]
def cwv14 : List PV := [.sl 38 cwv12, .int .i64 1, .int .i64 93, .int .i64 0, .int .i64 0, .int .i64 0]
def cwv15 : List PV := [.sl 38 cwv12, .int .i64 2, .int .i64 93, .int .i64 0, .int .i64 0, .int .i64 0]
def cwv16 : List PV := [.sl 38 cwv12, .int .i64 7, .int .i64 93, .int .i64 0, .int .i64 0, .int .i64 0]
def cwv17 : List PV := [.sl 38 cwv12, .int .i64 10, .int .i64 93, .int .i64 1, .int .i64 0, .int .i64 0]
def cwv18 : List PV := [.sl 38 cwv12, .int .i64 11, .int .i64 93, .int .i64 1, .int .i64 0, .int .i64 0]
def cwv19 : List PV := [.sl 38 cwv12, .int .i64 14, .int .i64 93, .int .i64 2, .int .i64 0, .int .i64 0]
def cwv20 : List PV := [.sl 38 cwv12, .int .i64 15, .int .i64 93, .int .i64 2, .int .i64 0, .int .i64 0]
def cwv21 : List PV := [.sl 38 cwv12, .int .i64 16, .int .i64 93, .int .i64 2, .int .i64 0, .int .i64 0]
def cwv22 : List PV := [.sl 38 cwv12, .int .i64 17, .int .i64 93, .int .i64 2, .int .i64 0, .int .i64 0]
def cwv23 : List PV := [.sl 38 cwv12, .int .i64 20, .int .i64 93, .int .i64 3, .int .i64 0, .int .i64 0]
def cwv24 : List PV := [.sl 38 cwv12, .int .i64 21, .int .i64 93, .int .i64 3, .int .i64 0, .int .i64 0]
def cwv25 : List PV := [.sl 38 cwv12, .int .i64 24, .int .i64 93, .int .i64 4, .int .i64 0, .int .i64 0]
def cwv26 : List PV := [.sl 38 cwv12, .int .i64 25, .int .i64 93, .int .i64 4, .int .i64 0, .int .i64 0]
def cwv27 : List PV := [.sl 38 cwv12, .int .i64 28, .int .i64 93, .int .i64 5, .int .i64 0, .int .i64 0]
def cwv28 : List PV := [.sl 38 cwv12, .int .i64 29, .int .i64 93, .int .i64 5, .int .i64 0, .int .i64 0]
def cwv29 : List PV := [.sl 38 cwv12, .int .i64 30, .int .i64 93, .int .i64 5, .int .i64 0, .int .i64 0]
def cwv30 : List PV := [.sl 38 cwv12, .int .i64 31, .int .i64 93, .int .i64 5, .int .i64 0, .int .i64 0]
def cwv31 : List PV := [.sl 38 cwv12, .int .i64 34, .int .i64 93, .int .i64 6, .int .i64 0, .int .i64 0]
def cwv32 : List PV := [.sl 38 cwv12, .int .i64 37, .int .i64 93, .int .i64 7, .int .i64 0, .int .i64 0]
def cwv33 : List PV := [.sl 38 cwv12, .int .i64 38, .int .i64 93, .int .i64 7, .int .i64 0, .int .i64 0]
def cwv34 : List PV := [.box cwv18]
def cwv35 : List PV := [.box cwv20]
def cwv36 : List PV := [.box cwv21]
def cwv37 : List PV := [.box cwv22]
def cwv38 : List PV := [.box cwv24]
def cwv39 : List PV := [.box cwv26]
def cwv40 : List PV := [.box cwv28]
def cwv41 : List PV := [.box cwv29]
def cwv42 : List PV := [.box cwv30]
def cwv43 : List PV := [.box cwv31]
def cwv44 : List PV := [.box cwv32]
def cwv45 : List PV := [.box cwv18, .none]
def cwv46 : List PV := [.box cwv22, .none]
def cwv47 : List PV := [.box cwv24, .none]
def cwv48 : List PV := [.box cwv26, .none]
def cwv49 : List PV := [.box cwv30, .none]
def cwv50 : List PV := [.box cwv31, .none]
def cwv51 : List PV := [.box cwv32, .none]
def cwa0 : List PV := [.int .u8 32]
def cwr0 : PV × List PV := (.bool false, [.none])
theorem cw0 : evI T 47 cwa0 = some cwr0 := call3_ok (M := []) (m := 200) (n := 2000) trivial (T := T) (f := 47) (x := x47) rfl (by kernel_rfl)
def cwa1 : List PV := [.int .u8 40]
def cwr1 : PV × List PV := (.bool false, [.none])
theorem cw1 : evI T 47 cwa1 = some cwr1 := call3_ok (M := []) (m := 200) (n := 2000) trivial (T := T) (f := 47) (x := x47) rfl (by kernel_rfl)
def cwa2 : List PV := [.int .u8 41]
def cwr2 : PV × List PV := (.bool false, [.none])
theorem cw2 : evI T 47 cwa2 = some cwr2 := call3_ok (M := []) (m := 200) (n := 2000) trivial (T := T) (f := 47) (x := x47) rfl (by kernel_rfl)
def cwa3 : List PV := [.int .u8 58]
def cwr3 : PV × List PV := (.bool false, [.none])
theorem cw3 : evI T 47 cwa3 = some cwr3 := call3_ok (M := []) (m := 200) (n := 2000) trivial (T := T) (f := 47) (x := x47) rfl (by kernel_rfl)
def cwa4 : List PV := [.int .u8 37]
def cwr4 : PV × List PV := (.bool true, [.none])
theorem cw4 : evI T 47 cwa4 = some cwr4 := call3_ok (M := []) (m := 200) (n := 2000) trivial (T := T) (f := 47) (x := x47) rfl (by kernel_rfl)
def cwa5 : List PV := cwv3
def cwr5 : PV × List PV := (.tup [.sl 38 cwv12, .agg [.int .i64 0, .int .i64 0]], [.none])
theorem cw5 : evI T 42 cwa5 = some cwr5 := call3_ok (M := [(47, cwa0, cwr0), (47, cwa1, cwr1), (47, cwa2, cwr2), (47, cwa3, cwr3), (47, cwa4, cwr4)]) (m := 200) (n := 2000) ⟨cw0, cw1, cw2, cw3, cw4, trivial⟩ (T := T) (f := 42) (x := x42) rfl (by kernel_rfl)
def cwa6 : List PV := [.box cwv13, .str [102, 117, 110, 99]]
def cwr6 : PV × List PV := (.tup [], [.box cwv14, .none])
theorem cw6 : evI T 48 cwa6 = some cwr6 := call3_ok (M := []) (m := 200) (n := 2000) trivial (T := T) (f := 48) (x := x48) rfl (by kernel_rfl)
def cwa7 : List PV := [.box cwv14]
def cwr7 : PV × List PV := (.str [102], [.box cwv15])
theorem cw7 : evI T 49 cwa7 = some cwr7 := call3_ok (M := []) (m := 200) (n := 2000) trivial (T := T) (f := 49) (x := x49) rfl (by kernel_rfl)
def cwa8 : List PV := [.box cwv15, .str [40]]
def cwr8 : PV × List PV := (.tup [], [.box [.sl 38 cwv12, .int .i64 3, .int .i64 93, .int .i64 0, .int .i64 0, .int .i64 0], .none])
theorem cw8 : evI T 48 cwa8 = some cwr8 := call3_ok (M := []) (m := 200) (n := 2000) trivial (T := T) (f := 48) (x := x48) rfl (by kernel_rfl)
def cwa9 : List PV := [.box [.sl 38 cwv12, .int .i64 4, .int .i64 93, .int .i64 0, .int .i64 0, .int .i64 0], .str [41]]
def cwr9 : PV × List PV := (.tup [], [.box [.sl 38 cwv12, .int .i64 5, .int .i64 93, .int .i64 0, .int .i64 0, .int .i64 0], .none])
theorem cw9 : evI T 48 cwa9 = some cwr9 := call3_ok (M := []) (m := 200) (n := 2000) trivial (T := T) (f := 48) (x := x48) rfl (by kernel_rfl)
def cwa10 : List PV := [.box [.sl 38 cwv12, .int .i64 6, .int .i64 93, .int .i64 0, .int .i64 0, .int .i64 0], .str [123]]
def cwr10 : PV × List PV := (.tup [], [.box cwv16, .none])
theorem cw10 : evI T 48 cwa10 = some cwr10 := call3_ok (M := []) (m := 200) (n := 2000) trivial (T := T) (f := 48) (x := x48) rfl (by kernel_rfl)
def cwa11 : List PV := [.box [.sl 38 cwv12, .int .i64 8, .int .i64 93, .int .i64 0, .int .i64 0, .int .i64 0], .str [58]]
def cwr11 : PV × List PV := (.tup [], [.box [.sl 38 cwv12, .int .i64 9, .int .i64 93, .int .i64 0, .int .i64 0, .int .i64 0], .none])
theorem cw11 : evI T 48 cwa11 = some cwr11 := call3_ok (M := []) (m := 200) (n := 2000) trivial (T := T) (f := 48) (x := x48) rfl (by kernel_rfl)
def cwa12 : List PV := [.agg [.int .i64 1, .int .i64 0, .int .i64 0, .int .i64 0, .nils, .nils, .str [], .int .i64 0]]
def cwr12 : PV × List PV := (.str [99, 111, 110, 115, 116], [.none])
theorem cw12 : evI T 62 cwa12 = some cwr12 := call3_ok (M := []) (m := 200) (n := 2000) trivial (T := T) (f := 62) (x := x62) rfl (by kernel_rfl)
def cwa13 : List PV := [.agg [.int .i64 2, .int .i64 0, .int .i64 0, .int .i64 0, .nils, .nils, .str [], .int .i64 0]]
def cwr13 : PV × List PV := (.str [97, 100, 100], [.none])
theorem cw13 : evI T 62 cwa13 = some cwr13 := call3_ok (M := []) (m := 200) (n := 2000) trivial (T := T) (f := 62) (x := x62) rfl (by kernel_rfl)
def cwa14 : List PV := [.agg [.int .i64 3, .int .i64 0, .int .i64 0, .int .i64 0, .nils, .nils, .str [], .int .i64 0]]
def cwr14 : PV × List PV := (.str [115, 117, 98], [.none])
theorem cw14 : evI T 62 cwa14 = some cwr14 := call3_ok (M := []) (m := 200) (n := 2000) trivial (T := T) (f := 62) (x := x62) rfl (by kernel_rfl)
def cwa15 : List PV := [.agg [.int .i64 4, .int .i64 0, .int .i64 0, .int .i64 0, .nils, .nils, .str [], .int .i64 0]]
def cwr15 : PV × List PV := (.str [109, 117, 108], [.none])
theorem cw15 : evI T 62 cwa15 = some cwr15 := call3_ok (M := []) (m := 200) (n := 2000) trivial (T := T) (f := 62) (x := x62) rfl (by kernel_rfl)
def cwa16 : List PV := [.agg [.int .i64 5, .int .i64 0, .int .i64 0, .int .i64 0, .nils, .nils, .str [], .int .i64 0]]
def cwr16 : PV × List PV := (.str [100, 105, 118], [.none])
theorem cw16 : evI T 62 cwa16 = some cwr16 := call3_ok (M := []) (m := 200) (n := 2000) trivial (T := T) (f := 62) (x := x62) rfl (by kernel_rfl)
def cwa17 : List PV := [.agg [.int .i64 6, .int .i64 0, .int .i64 0, .int .i64 0, .nils, .nils, .str [], .int .i64 0]]
def cwr17 : PV × List PV := (.str [108, 116], [.none])
theorem cw17 : evI T 62 cwa17 = some cwr17 := call3_ok (M := []) (m := 200) (n := 2000) trivial (T := T) (f := 62) (x := x62) rfl (by kernel_rfl)
def cwa18 : List PV := [.agg [.int .i64 7, .int .i64 0, .int .i64 0, .int .i64 0, .nils, .nils, .str [], .int .i64 0]]
def cwr18 : PV × List PV := (.str [101, 113], [.none])
theorem cw18 : evI T 62 cwa18 = some cwr18 := call3_ok (M := []) (m := 200) (n := 2000) trivial (T := T) (f := 62) (x := x62) rfl (by kernel_rfl)
def cwa19 : List PV := [.agg [.int .i64 8, .int .i64 0, .int .i64 0, .int .i64 0, .nils, .nils, .str [], .int .i64 0]]
def cwr19 : PV × List PV := (.str [110, 105, 108], [.none])
theorem cw19 : evI T 62 cwa19 = some cwr19 := call3_ok (M := []) (m := 200) (n := 2000) trivial (T := T) (f := 62) (x := x62) rfl (by kernel_rfl)
def cwa20 : List PV := [.agg [.int .i64 9, .int .i64 0, .int .i64 0, .int .i64 0, .nils, .nils, .str [], .int .i64 0]]
def cwr20 : PV × List PV := (.str [115, 97, 109, 101], [.none])
theorem cw20 : evI T 62 cwa20 = some cwr20 := call3_ok (M := []) (m := 200) (n := 2000) trivial (T := T) (f := 62) (x := x62) rfl (by kernel_rfl)
def cwa21 : List PV := [.agg [.int .i64 10, .int .i64 0, .int .i64 0, .int .i64 0, .nils, .nils, .str [], .int .i64 0]]
def cwr21 : PV × List PV := (.str [110, 101, 119], [.none])
theorem cw21 : evI T 62 cwa21 = some cwr21 := call3_ok (M := []) (m := 200) (n := 2000) trivial (T := T) (f := 62) (x := x62) rfl (by kernel_rfl)
def cwa22 : List PV := [.agg [.int .i64 11, .int .i64 0, .int .i64 0, .int .i64 0, .nils, .nils, .str [], .int .i64 0]]
def cwr22 : PV × List PV := (.str [108, 111, 97, 100, 46, 105], [.none])
theorem cw22 : evI T 62 cwa22 = some cwr22 := call3_ok (M := []) (m := 200) (n := 2000) trivial (T := T) (f := 62) (x := x62) rfl (by kernel_rfl)
def cwa23 : List PV := [.agg [.int .i64 12, .int .i64 0, .int .i64 0, .int .i64 0, .nils, .nils, .str [], .int .i64 0]]
def cwr23 : PV × List PV := (.str [108, 111, 97, 100, 46, 112], [.none])
theorem cw23 : evI T 62 cwa23 = some cwr23 := call3_ok (M := []) (m := 200) (n := 2000) trivial (T := T) (f := 62) (x := x62) rfl (by kernel_rfl)
def cwa24 : List PV := [.agg [.int .i64 13, .int .i64 0, .int .i64 0, .int .i64 0, .nils, .nils, .str [], .int .i64 0]]
def cwr24 : PV × List PV := (.str [115, 116, 111, 114, 101, 46, 105], [.none])
theorem cw24 : evI T 62 cwa24 = some cwr24 := call3_ok (M := []) (m := 200) (n := 2000) trivial (T := T) (f := 62) (x := x62) rfl (by kernel_rfl)
def cwa25 : List PV := [.agg [.int .i64 14, .int .i64 0, .int .i64 0, .int .i64 0, .nils, .nils, .str [], .int .i64 0]]
def cwr25 : PV × List PV := (.str [115, 116, 111, 114, 101, 46, 112], [.none])
theorem cw25 : evI T 62 cwa25 = some cwr25 := call3_ok (M := []) (m := 200) (n := 2000) trivial (T := T) (f := 62) (x := x62) rfl (by kernel_rfl)
def cwa26 : List PV := [.agg [.int .i64 15, .int .i64 0, .int .i64 0, .int .i64 0, .nils, .nils, .str [], .int .i64 0]]
def cwr26 : PV × List PV := (.str [115, 108, 111, 116], [.none])
theorem cw26 : evI T 62 cwa26 = some cwr26 := call3_ok (M := []) (m := 200) (n := 2000) trivial (T := T) (f := 62) (x := x62) rfl (by kernel_rfl)
def cwa27 : List PV := [.agg [.int .i64 16, .int .i64 0, .int .i64 0, .int .i64 0, .nils, .nils, .str [], .int .i64 0]]
def cwr27 : PV × List PV := (.str [103, 101, 116, 46, 105], [.none])
theorem cw27 : evI T 62 cwa27 = some cwr27 := call3_ok (M := []) (m := 200) (n := 2000) trivial (T := T) (f := 62) (x := x62) rfl (by kernel_rfl)
def cwa28 : List PV := [.agg [.int .i64 17, .int .i64 0, .int .i64 0, .int .i64 0, .nils, .nils, .str [], .int .i64 0]]
def cwr28 : PV × List PV := (.str [103, 101, 116, 46, 112], [.none])
theorem cw28 : evI T 62 cwa28 = some cwr28 := call3_ok (M := []) (m := 200) (n := 2000) trivial (T := T) (f := 62) (x := x62) rfl (by kernel_rfl)
def cwa29 : List PV := [.agg [.int .i64 18, .int .i64 0, .int .i64 0, .int .i64 0, .nils, .nils, .str [], .int .i64 0]]
def cwr29 : PV × List PV := (.str [112, 117, 116, 46, 105], [.none])
theorem cw29 : evI T 62 cwa29 = some cwr29 := call3_ok (M := []) (m := 200) (n := 2000) trivial (T := T) (f := 62) (x := x62) rfl (by kernel_rfl)
def cwa30 : List PV := [.agg [.int .i64 19, .int .i64 0, .int .i64 0, .int .i64 0, .nils, .nils, .str [], .int .i64 0]]
def cwr30 : PV × List PV := (.str [112, 117, 116, 46, 112], [.none])
theorem cw30 : evI T 62 cwa30 = some cwr30 := call3_ok (M := []) (m := 200) (n := 2000) trivial (T := T) (f := 62) (x := x62) rfl (by kernel_rfl)
def cwa31 : List PV := [.agg [.int .i64 20, .int .i64 0, .int .i64 0, .int .i64 1, .nils, .nils, .str [], .int .i64 0]]
def cwr31 : PV × List PV := (.str [112, 104, 105, 46, 105], [.none])
theorem cw31 : evI T 62 cwa31 = some cwr31 := call3_ok (M := []) (m := 200) (n := 2000) trivial (T := T) (f := 62) (x := x62) rfl (by kernel_rfl)
def cwa32 : List PV := [.agg [.int .i64 20, .int .i64 0, .int .i64 0, .int .i64 2, .nils, .nils, .str [], .int .i64 0]]
def cwr32 : PV × List PV := (.str [112, 104, 105, 46, 112], [.none])
theorem cw32 : evI T 62 cwa32 = some cwr32 := call3_ok (M := []) (m := 200) (n := 2000) trivial (T := T) (f := 62) (x := x62) rfl (by kernel_rfl)
def cwa33 : List PV := [.agg [.int .i64 20, .int .i64 0, .int .i64 0, .int .i64 3, .nils, .nils, .str [], .int .i64 0]]
def cwr33 : PV × List PV := (.str [112, 104, 105, 46, 100], [.none])
theorem cw33 : evI T 62 cwa33 = some cwr33 := call3_ok (M := []) (m := 200) (n := 2000) trivial (T := T) (f := 62) (x := x62) rfl (by kernel_rfl)
def cwa34 : List PV := [.agg [.int .i64 21, .int .i64 0, .int .i64 0, .int .i64 0, .nils, .nils, .str [], .int .i64 0]]
def cwr34 : PV × List PV := (.str [99, 97, 108, 108, 46, 110], [.none])
theorem cw34 : evI T 62 cwa34 = some cwr34 := call3_ok (M := []) (m := 200) (n := 2000) trivial (T := T) (f := 62) (x := x62) rfl (by kernel_rfl)
def cwa35 : List PV := [.agg [.int .i64 21, .int .i64 0, .int .i64 0, .int .i64 1, .nils, .nils, .str [], .int .i64 0]]
def cwr35 : PV × List PV := (.str [99, 97, 108, 108, 46, 105], [.none])
theorem cw35 : evI T 62 cwa35 = some cwr35 := call3_ok (M := []) (m := 200) (n := 2000) trivial (T := T) (f := 62) (x := x62) rfl (by kernel_rfl)
def cwa36 : List PV := [.agg [.int .i64 21, .int .i64 0, .int .i64 0, .int .i64 2, .nils, .nils, .str [], .int .i64 0]]
def cwr36 : PV × List PV := (.str [99, 97, 108, 108, 46, 112], [.none])
theorem cw36 : evI T 62 cwa36 = some cwr36 := call3_ok (M := []) (m := 200) (n := 2000) trivial (T := T) (f := 62) (x := x62) rfl (by kernel_rfl)
def cwa37 : List PV := [.agg [.int .i64 22, .int .i64 0, .int .i64 0, .int .i64 0, .nils, .nils, .str [], .int .i64 0]]
def cwr37 : PV × List PV := (.str [111, 117, 116], [.none])
theorem cw37 : evI T 62 cwa37 = some cwr37 := call3_ok (M := []) (m := 200) (n := 2000) trivial (T := T) (f := 62) (x := x62) rfl (by kernel_rfl)
def cwa38 : List PV := [.agg [.int .i64 23, .int .i64 0, .int .i64 0, .int .i64 0, .nils, .nils, .str [], .int .i64 0]]
def cwr38 : PV × List PV := (.str [112, 111, 108, 108], [.none])
theorem cw38 : evI T 62 cwa38 = some cwr38 := call3_ok (M := []) (m := 200) (n := 2000) trivial (T := T) (f := 62) (x := x62) rfl (by kernel_rfl)
def cwa39 : List PV := [.agg [.int .i64 24, .int .i64 0, .int .i64 0, .int .i64 2, .nils, .nils, .str [], .int .i64 0]]
def cwr39 : PV × List PV := (.str [114, 101, 108, 111, 99, 46, 112], [.none])
theorem cw39 : evI T 62 cwa39 = some cwr39 := call3_ok (M := []) (m := 200) (n := 2000) trivial (T := T) (f := 62) (x := x62) rfl (by kernel_rfl)
def cwa40 : List PV := [.agg [.int .i64 24, .int .i64 0, .int .i64 0, .int .i64 3, .nils, .nils, .str [], .int .i64 0]]
def cwr40 : PV × List PV := (.str [114, 101, 108, 111, 99, 46, 100], [.none])
theorem cw40 : evI T 62 cwa40 = some cwr40 := call3_ok (M := []) (m := 200) (n := 2000) trivial (T := T) (f := 62) (x := x62) rfl (by kernel_rfl)
def cwa41 : List PV := [.agg [.int .i64 25, .int .i64 0, .int .i64 0, .int .i64 0, .nils, .nils, .str [], .int .i64 0]]
def cwr41 : PV × List PV := (.str [109, 97, 114, 107], [.none])
theorem cw41 : evI T 62 cwa41 = some cwr41 := call3_ok (M := []) (m := 200) (n := 2000) trivial (T := T) (f := 62) (x := x62) rfl (by kernel_rfl)
def cwa42 : List PV := [.agg [.int .i64 26, .int .i64 0, .int .i64 0, .int .i64 0, .nils, .nils, .str [], .int .i64 0]]
def cwr42 : PV × List PV := (.str [98, 114], [.none])
theorem cw42 : evI T 62 cwa42 = some cwr42 := call3_ok (M := []) (m := 200) (n := 2000) trivial (T := T) (f := 62) (x := x62) rfl (by kernel_rfl)
def cwa43 : List PV := [.str [98, 114]]
def cwr43 : PV × List PV := (.tup [.int .i64 26, .int .i64 0], [.none])
theorem cw43 : evI T 57 cwa43 = some cwr43 := call3_ok (M := [(62, cwa12, cwr12), (62, cwa13, cwr13), (62, cwa14, cwr14), (62, cwa15, cwr15), (62, cwa16, cwr16), (62, cwa17, cwr17), (62, cwa18, cwr18), (62, cwa19, cwr19), (62, cwa20, cwr20), (62, cwa21, cwr21), (62, cwa22, cwr22), (62, cwa23, cwr23), (62, cwa24, cwr24), (62, cwa25, cwr25), (62, cwa26, cwr26), (62, cwa27, cwr27), (62, cwa28, cwr28), (62, cwa29, cwr29), (62, cwa30, cwr30), (62, cwa31, cwr31), (62, cwa32, cwr32), (62, cwa33, cwr33), (62, cwa34, cwr34), (62, cwa35, cwr35), (62, cwa36, cwr36), (62, cwa37, cwr37), (62, cwa38, cwr38), (62, cwa39, cwr39), (62, cwa40, cwr40), (62, cwa41, cwr41), (62, cwa42, cwr42)]) (m := 200) (n := 2000) ⟨cw12, cw13, cw14, cw15, cw16, cw17, cw18, cw19, cw20, cw21, cw22, cw23, cw24, cw25, cw26, cw27, cw28, cw29, cw30, cw31, cw32, cw33, cw34, cw35, cw36, cw37, cw38, cw39, cw40, cw41, cw42, trivial⟩ (T := T) (f := 57) (x := x57) rfl (by kernel_rfl)
def cwa44 : List PV := [.agg [.int .i64 26, .int .i64 (-1), .int .i64 0, .int .i64 0, .nils, .nils, .str [], .int .i64 18]]
def cwr44 : PV × List PV := (.int .i64 0, [.none])
theorem cw44 : evI T 58 cwa44 = some cwr44 := call3_ok (M := []) (m := 200) (n := 2000) trivial (T := T) (f := 58) (x := x58) rfl (by kernel_rfl)
def cwa45 : List PV := [.str [49]]
def cwr45 : PV × List PV := (.tup [.int .i64 1, .int .i64 0], [.none])
theorem cw45 : evI T 74 cwa45 = some cwr45 := call3_ok (M := []) (m := 200) (n := 2000) trivial (T := T) (f := 74) (x := x74) rfl (by kernel_rfl)
def cwa46 : List PV := [.str [49], .int .i64 255]
def cwr46 : PV × List PV := (.tup [.int .i64 1, .int .i64 0], [.none, .none])
theorem cw46 : evI T 71 cwa46 = some cwr46 := call3_ok (M := [(74, cwa45, cwr45)]) (m := 200) (n := 2000) ⟨cw45, trivial⟩ (T := T) (f := 71) (x := x71) rfl (by kernel_rfl)
def cwa47 : List PV := [.box cwv17, .int .u8 98, .int .i64 255, .int .i64 7]
def cwr47 : PV × List PV := (.int .i64 1, [.box cwv18, .none, .none, .none])
theorem cw47 : evI T 60 cwa47 = some cwr47 := call3_ok (M := [(71, cwa46, cwr46)]) (m := 200) (n := 2000) ⟨cw46, trivial⟩ (T := T) (f := 60) (x := x60) rfl (by kernel_rfl)
def cwa48 : List PV := [.box cwv17]
def cwr48 : PV × List PV := (.int .i64 1, cwv34)
theorem cw48 : evI T 77 cwa48 = some cwr48 := call3_ok (M := [(60, cwa47, cwr47)]) (m := 200) (n := 2000) ⟨cw47, trivial⟩ (T := T) (f := 77) (x := x77) rfl (by kernel_rfl)
def cwa49 : List PV := [.box cwv17, .agg [.int .i64 26, .int .i64 (-1), .int .i64 0, .int .i64 0, .nils, .nils, .str [], .int .i64 18], .str [108]]
def cwr49 : PV × List PV := (.agg [.int .i64 26, .int .i64 (-1), .int .i64 0, .int .i64 0, .sl 0 [], .sl 1 [.int .i64 1], .str [], .int .i64 18], [.box cwv18, .none, .none])
theorem cw49 : evI T 69 cwa49 = some cwr49 := call3_ok (M := [(77, cwa48, cwr48)]) (m := 200) (n := 2000) ⟨cw48, trivial⟩ (T := T) (f := 69) (x := x69) rfl (by kernel_rfl)
def cwa50 : List PV := [.box cwv17, .agg [.int .i64 26, .int .i64 (-1), .int .i64 0, .int .i64 0, .nils, .nils, .str [], .int .i64 18]]
def cwr50 : PV × List PV := (.agg [.int .i64 26, .int .i64 (-1), .int .i64 0, .int .i64 0, .sl 0 [], .sl 1 [.int .i64 1], .str [], .int .i64 18], cwv45)
theorem cw50 : evI T 59 cwa50 = some cwr50 := call3_ok (M := [(69, cwa49, cwr49)]) (m := 200) (n := 2000) ⟨cw49, trivial⟩ (T := T) (f := 59) (x := x59) rfl (by kernel_rfl)
def cwa51 : List PV := [.box [.sl 38 cwv12, .int .i64 9, .int .i64 93, .int .i64 1, .int .i64 0, .int .i64 0]]
def cwr51 : PV × List PV := (.agg [.int .i64 26, .int .i64 (-1), .int .i64 0, .int .i64 0, .sl 0 [], .sl 1 [.int .i64 1], .str [], .int .i64 18], cwv34)
theorem cw51 : evI T 55 cwa51 = some cwr51 := call3_ok (M := [(57, cwa43, cwr43), (58, cwa44, cwr44), (59, cwa50, cwr50)]) (m := 200) (n := 2000) ⟨cw43, cw44, cw50, trivial⟩ (T := T) (f := 55) (x := x55) rfl (by kernel_rfl)
def cwa52 : List PV := [.box cwv16, .int .i64 0]
def cwr52 : PV × List PV := (.sl 1 [.int .i64 26, .int .i64 (-1), .int .i64 0, .int .i64 0, .sl 0 [], .sl 1 [.int .i64 1], .str [], .int .i64 18], cwv45)
theorem cw52 : evI T 52 cwa52 = some cwr52 := call3_ok (M := [(48, cwa11, cwr11), (55, cwa51, cwr51)]) (m := 200) (n := 2000) ⟨cw11, cw51, trivial⟩ (T := T) (f := 52) (x := x52) rfl (by kernel_rfl)
def cwa53 : List PV := [.box [.sl 38 cwv12, .int .i64 12, .int .i64 93, .int .i64 1, .int .i64 0, .int .i64 0], .str [58]]
def cwr53 : PV × List PV := (.tup [], [.box [.sl 38 cwv12, .int .i64 13, .int .i64 93, .int .i64 1, .int .i64 0, .int .i64 0], .none])
theorem cw53 : evI T 48 cwa53 = some cwr53 := call3_ok (M := []) (m := 200) (n := 2000) trivial (T := T) (f := 48) (x := x48) rfl (by kernel_rfl)
def cwa54 : List PV := [.agg [.int .i64 27, .int .i64 0, .int .i64 0, .int .i64 0, .nils, .nils, .str [], .int .i64 0]]
def cwr54 : PV × List PV := (.str [105, 102], [.none])
theorem cw54 : evI T 62 cwa54 = some cwr54 := call3_ok (M := []) (m := 200) (n := 2000) trivial (T := T) (f := 62) (x := x62) rfl (by kernel_rfl)
def cwa55 : List PV := [.str [105, 102]]
def cwr55 : PV × List PV := (.tup [.int .i64 27, .int .i64 0], [.none])
theorem cw55 : evI T 57 cwa55 = some cwr55 := call3_ok (M := [(62, cwa12, cwr12), (62, cwa13, cwr13), (62, cwa14, cwr14), (62, cwa15, cwr15), (62, cwa16, cwr16), (62, cwa17, cwr17), (62, cwa18, cwr18), (62, cwa19, cwr19), (62, cwa20, cwr20), (62, cwa21, cwr21), (62, cwa22, cwr22), (62, cwa23, cwr23), (62, cwa24, cwr24), (62, cwa25, cwr25), (62, cwa26, cwr26), (62, cwa27, cwr27), (62, cwa28, cwr28), (62, cwa29, cwr29), (62, cwa30, cwr30), (62, cwa31, cwr31), (62, cwa32, cwr32), (62, cwa33, cwr33), (62, cwa34, cwr34), (62, cwa35, cwr35), (62, cwa36, cwr36), (62, cwa37, cwr37), (62, cwa38, cwr38), (62, cwa39, cwr39), (62, cwa40, cwr40), (62, cwa41, cwr41), (62, cwa42, cwr42), (62, cwa54, cwr54)]) (m := 200) (n := 2000) ⟨cw12, cw13, cw14, cw15, cw16, cw17, cw18, cw19, cw20, cw21, cw22, cw23, cw24, cw25, cw26, cw27, cw28, cw29, cw30, cw31, cw32, cw33, cw34, cw35, cw36, cw37, cw38, cw39, cw40, cw41, cw42, cw54, trivial⟩ (T := T) (f := 57) (x := x57) rfl (by kernel_rfl)
def cwa56 : List PV := [.agg [.int .i64 27, .int .i64 (-1), .int .i64 0, .int .i64 0, .nils, .nils, .str [], .int .i64 28]]
def cwr56 : PV × List PV := (.int .i64 0, [.none])
theorem cw56 : evI T 58 cwa56 = some cwr56 := call3_ok (M := []) (m := 200) (n := 2000) trivial (T := T) (f := 58) (x := x58) rfl (by kernel_rfl)
def cwa57 : List PV := [.str [48]]
def cwr57 : PV × List PV := (.tup [.int .i64 0, .int .i64 0], [.none])
theorem cw57 : evI T 74 cwa57 = some cwr57 := call3_ok (M := []) (m := 200) (n := 2000) trivial (T := T) (f := 74) (x := x74) rfl (by kernel_rfl)
def cwa58 : List PV := [.str [48], .int .i64 1048576]
def cwr58 : PV × List PV := (.tup [.int .i64 0, .int .i64 0], [.none, .none])
theorem cw58 : evI T 71 cwa58 = some cwr58 := call3_ok (M := [(74, cwa57, cwr57)]) (m := 200) (n := 2000) ⟨cw57, trivial⟩ (T := T) (f := 71) (x := x71) rfl (by kernel_rfl)
def cwa59 : List PV := [.box cwv19, .int .u8 37, .int .i64 1048576, .int .i64 8]
def cwr59 : PV × List PV := (.int .i64 0, [.box cwv20, .none, .none, .none])
theorem cw59 : evI T 60 cwa59 = some cwr59 := call3_ok (M := [(71, cwa58, cwr58)]) (m := 200) (n := 2000) ⟨cw58, trivial⟩ (T := T) (f := 60) (x := x60) rfl (by kernel_rfl)
def cwa60 : List PV := [.box cwv19]
def cwr60 : PV × List PV := (.int .i64 0, cwv35)
theorem cw60 : evI T 56 cwa60 = some cwr60 := call3_ok (M := [(60, cwa59, cwr59)]) (m := 200) (n := 2000) ⟨cw59, trivial⟩ (T := T) (f := 56) (x := x56) rfl (by kernel_rfl)
def cwa61 : List PV := [.str [50]]
def cwr61 : PV × List PV := (.tup [.int .i64 2, .int .i64 0], [.none])
theorem cw61 : evI T 74 cwa61 = some cwr61 := call3_ok (M := []) (m := 200) (n := 2000) trivial (T := T) (f := 74) (x := x74) rfl (by kernel_rfl)
def cwa62 : List PV := [.str [50], .int .i64 255]
def cwr62 : PV × List PV := (.tup [.int .i64 2, .int .i64 0], [.none, .none])
theorem cw62 : evI T 71 cwa62 = some cwr62 := call3_ok (M := [(74, cwa61, cwr61)]) (m := 200) (n := 2000) ⟨cw61, trivial⟩ (T := T) (f := 71) (x := x71) rfl (by kernel_rfl)
def cwa63 : List PV := [.box cwv20, .int .u8 98, .int .i64 255, .int .i64 7]
def cwr63 : PV × List PV := (.int .i64 2, [.box cwv21, .none, .none, .none])
theorem cw63 : evI T 60 cwa63 = some cwr63 := call3_ok (M := [(71, cwa62, cwr62)]) (m := 200) (n := 2000) ⟨cw62, trivial⟩ (T := T) (f := 60) (x := x60) rfl (by kernel_rfl)
def cwa64 : List PV := cwv35
def cwr64 : PV × List PV := (.int .i64 2, cwv36)
theorem cw64 : evI T 77 cwa64 = some cwr64 := call3_ok (M := [(60, cwa63, cwr63)]) (m := 200) (n := 2000) ⟨cw63, trivial⟩ (T := T) (f := 77) (x := x77) rfl (by kernel_rfl)
def cwa65 : List PV := [.str [51]]
def cwr65 : PV × List PV := (.tup [.int .i64 3, .int .i64 0], [.none])
theorem cw65 : evI T 74 cwa65 = some cwr65 := call3_ok (M := []) (m := 200) (n := 2000) trivial (T := T) (f := 74) (x := x74) rfl (by kernel_rfl)
def cwa66 : List PV := [.str [51], .int .i64 255]
def cwr66 : PV × List PV := (.tup [.int .i64 3, .int .i64 0], [.none, .none])
theorem cw66 : evI T 71 cwa66 = some cwr66 := call3_ok (M := [(74, cwa65, cwr65)]) (m := 200) (n := 2000) ⟨cw65, trivial⟩ (T := T) (f := 71) (x := x71) rfl (by kernel_rfl)
def cwa67 : List PV := [.box cwv21, .int .u8 98, .int .i64 255, .int .i64 7]
def cwr67 : PV × List PV := (.int .i64 3, [.box cwv22, .none, .none, .none])
theorem cw67 : evI T 60 cwa67 = some cwr67 := call3_ok (M := [(71, cwa66, cwr66)]) (m := 200) (n := 2000) ⟨cw66, trivial⟩ (T := T) (f := 60) (x := x60) rfl (by kernel_rfl)
def cwa68 : List PV := cwv36
def cwr68 : PV × List PV := (.int .i64 3, cwv37)
theorem cw68 : evI T 77 cwa68 = some cwr68 := call3_ok (M := [(60, cwa67, cwr67)]) (m := 200) (n := 2000) ⟨cw67, trivial⟩ (T := T) (f := 77) (x := x77) rfl (by kernel_rfl)
def cwa69 : List PV := [.box cwv19, .agg [.int .i64 27, .int .i64 (-1), .int .i64 0, .int .i64 0, .nils, .nils, .str [], .int .i64 28], .str [118, 108, 108]]
def cwr69 : PV × List PV := (.agg cwv0, [.box cwv22, .none, .none])
theorem cw69 : evI T 69 cwa69 = some cwr69 := call3_ok (M := [(56, cwa60, cwr60), (77, cwa64, cwr64), (77, cwa68, cwr68)]) (m := 200) (n := 2000) ⟨cw60, cw64, cw68, trivial⟩ (T := T) (f := 69) (x := x69) rfl (by kernel_rfl)
def cwa70 : List PV := [.box cwv19, .agg [.int .i64 27, .int .i64 (-1), .int .i64 0, .int .i64 0, .nils, .nils, .str [], .int .i64 28]]
def cwr70 : PV × List PV := (.agg cwv0, cwv46)
theorem cw70 : evI T 59 cwa70 = some cwr70 := call3_ok (M := [(69, cwa69, cwr69)]) (m := 200) (n := 2000) ⟨cw69, trivial⟩ (T := T) (f := 59) (x := x59) rfl (by kernel_rfl)
def cwa71 : List PV := [.box [.sl 38 cwv12, .int .i64 13, .int .i64 93, .int .i64 2, .int .i64 0, .int .i64 0]]
def cwr71 : PV × List PV := (.agg cwv0, cwv37)
theorem cw71 : evI T 55 cwa71 = some cwr71 := call3_ok (M := [(57, cwa55, cwr55), (58, cwa56, cwr56), (59, cwa70, cwr70)]) (m := 200) (n := 2000) ⟨cw55, cw56, cw70, trivial⟩ (T := T) (f := 55) (x := x55) rfl (by kernel_rfl)
def cwa72 : List PV := [.box cwv18, .int .i64 1]
def cwr72 : PV × List PV := (.sl 1 cwv0, cwv46)
theorem cw72 : evI T 52 cwa72 = some cwr72 := call3_ok (M := [(48, cwa53, cwr53), (55, cwa71, cwr71)]) (m := 200) (n := 2000) ⟨cw53, cw71, trivial⟩ (T := T) (f := 52) (x := x52) rfl (by kernel_rfl)
def cwa73 : List PV := [.box [.sl 38 cwv12, .int .i64 18, .int .i64 93, .int .i64 2, .int .i64 0, .int .i64 0], .str [58]]
def cwr73 : PV × List PV := (.tup [], [.box [.sl 38 cwv12, .int .i64 19, .int .i64 93, .int .i64 2, .int .i64 0, .int .i64 0], .none])
theorem cw73 : evI T 48 cwa73 = some cwr73 := call3_ok (M := []) (m := 200) (n := 2000) trivial (T := T) (f := 48) (x := x48) rfl (by kernel_rfl)
def cwa74 : List PV := [.agg [.int .i64 26, .int .i64 (-1), .int .i64 0, .int .i64 0, .nils, .nils, .str [], .int .i64 44]]
def cwr74 : PV × List PV := (.int .i64 0, [.none])
theorem cw74 : evI T 58 cwa74 = some cwr74 := call3_ok (M := []) (m := 200) (n := 2000) trivial (T := T) (f := 58) (x := x58) rfl (by kernel_rfl)
def cwa75 : List PV := [.str [52]]
def cwr75 : PV × List PV := (.tup [.int .i64 4, .int .i64 0], [.none])
theorem cw75 : evI T 74 cwa75 = some cwr75 := call3_ok (M := []) (m := 200) (n := 2000) trivial (T := T) (f := 74) (x := x74) rfl (by kernel_rfl)
def cwa76 : List PV := [.str [52], .int .i64 255]
def cwr76 : PV × List PV := (.tup [.int .i64 4, .int .i64 0], [.none, .none])
theorem cw76 : evI T 71 cwa76 = some cwr76 := call3_ok (M := [(74, cwa75, cwr75)]) (m := 200) (n := 2000) ⟨cw75, trivial⟩ (T := T) (f := 71) (x := x71) rfl (by kernel_rfl)
def cwa77 : List PV := [.box cwv23, .int .u8 98, .int .i64 255, .int .i64 7]
def cwr77 : PV × List PV := (.int .i64 4, [.box cwv24, .none, .none, .none])
theorem cw77 : evI T 60 cwa77 = some cwr77 := call3_ok (M := [(71, cwa76, cwr76)]) (m := 200) (n := 2000) ⟨cw76, trivial⟩ (T := T) (f := 60) (x := x60) rfl (by kernel_rfl)
def cwa78 : List PV := [.box cwv23]
def cwr78 : PV × List PV := (.int .i64 4, cwv38)
theorem cw78 : evI T 77 cwa78 = some cwr78 := call3_ok (M := [(60, cwa77, cwr77)]) (m := 200) (n := 2000) ⟨cw77, trivial⟩ (T := T) (f := 77) (x := x77) rfl (by kernel_rfl)
def cwa79 : List PV := [.box cwv23, .agg [.int .i64 26, .int .i64 (-1), .int .i64 0, .int .i64 0, .nils, .nils, .str [], .int .i64 44], .str [108]]
def cwr79 : PV × List PV := (.agg [.int .i64 26, .int .i64 (-1), .int .i64 0, .int .i64 0, .sl 0 [], .sl 1 [.int .i64 4], .str [], .int .i64 44], [.box cwv24, .none, .none])
theorem cw79 : evI T 69 cwa79 = some cwr79 := call3_ok (M := [(77, cwa78, cwr78)]) (m := 200) (n := 2000) ⟨cw78, trivial⟩ (T := T) (f := 69) (x := x69) rfl (by kernel_rfl)
def cwa80 : List PV := [.box cwv23, .agg [.int .i64 26, .int .i64 (-1), .int .i64 0, .int .i64 0, .nils, .nils, .str [], .int .i64 44]]
def cwr80 : PV × List PV := (.agg [.int .i64 26, .int .i64 (-1), .int .i64 0, .int .i64 0, .sl 0 [], .sl 1 [.int .i64 4], .str [], .int .i64 44], cwv47)
theorem cw80 : evI T 59 cwa80 = some cwr80 := call3_ok (M := [(69, cwa79, cwr79)]) (m := 200) (n := 2000) ⟨cw79, trivial⟩ (T := T) (f := 59) (x := x59) rfl (by kernel_rfl)
def cwa81 : List PV := [.box [.sl 38 cwv12, .int .i64 19, .int .i64 93, .int .i64 3, .int .i64 0, .int .i64 0]]
def cwr81 : PV × List PV := (.agg [.int .i64 26, .int .i64 (-1), .int .i64 0, .int .i64 0, .sl 0 [], .sl 1 [.int .i64 4], .str [], .int .i64 44], cwv38)
theorem cw81 : evI T 55 cwa81 = some cwr81 := call3_ok (M := [(57, cwa43, cwr43), (58, cwa74, cwr74), (59, cwa80, cwr80)]) (m := 200) (n := 2000) ⟨cw43, cw74, cw80, trivial⟩ (T := T) (f := 55) (x := x55) rfl (by kernel_rfl)
def cwa82 : List PV := [.box cwv22, .int .i64 2]
def cwr82 : PV × List PV := (.sl 1 [.int .i64 26, .int .i64 (-1), .int .i64 0, .int .i64 0, .sl 0 [], .sl 1 [.int .i64 4], .str [], .int .i64 44], cwv47)
theorem cw82 : evI T 52 cwa82 = some cwr82 := call3_ok (M := [(48, cwa73, cwr73), (55, cwa81, cwr81)]) (m := 200) (n := 2000) ⟨cw73, cw81, trivial⟩ (T := T) (f := 52) (x := x52) rfl (by kernel_rfl)
def cwa83 : List PV := [.box [.sl 38 cwv12, .int .i64 22, .int .i64 93, .int .i64 3, .int .i64 0, .int .i64 0], .str [58]]
def cwr83 : PV × List PV := (.tup [], [.box [.sl 38 cwv12, .int .i64 23, .int .i64 93, .int .i64 3, .int .i64 0, .int .i64 0], .none])
theorem cw83 : evI T 48 cwa83 = some cwr83 := call3_ok (M := []) (m := 200) (n := 2000) trivial (T := T) (f := 48) (x := x48) rfl (by kernel_rfl)
def cwa84 : List PV := [.agg [.int .i64 26, .int .i64 (-1), .int .i64 0, .int .i64 0, .nils, .nils, .str [], .int .i64 54]]
def cwr84 : PV × List PV := (.int .i64 0, [.none])
theorem cw84 : evI T 58 cwa84 = some cwr84 := call3_ok (M := []) (m := 200) (n := 2000) trivial (T := T) (f := 58) (x := x58) rfl (by kernel_rfl)
def cwa85 : List PV := [.box cwv25, .int .u8 98, .int .i64 255, .int .i64 7]
def cwr85 : PV × List PV := (.int .i64 4, [.box cwv26, .none, .none, .none])
theorem cw85 : evI T 60 cwa85 = some cwr85 := call3_ok (M := [(71, cwa76, cwr76)]) (m := 200) (n := 2000) ⟨cw76, trivial⟩ (T := T) (f := 60) (x := x60) rfl (by kernel_rfl)
def cwa86 : List PV := [.box cwv25]
def cwr86 : PV × List PV := (.int .i64 4, cwv39)
theorem cw86 : evI T 77 cwa86 = some cwr86 := call3_ok (M := [(60, cwa85, cwr85)]) (m := 200) (n := 2000) ⟨cw85, trivial⟩ (T := T) (f := 77) (x := x77) rfl (by kernel_rfl)
def cwa87 : List PV := [.box cwv25, .agg [.int .i64 26, .int .i64 (-1), .int .i64 0, .int .i64 0, .nils, .nils, .str [], .int .i64 54], .str [108]]
def cwr87 : PV × List PV := (.agg [.int .i64 26, .int .i64 (-1), .int .i64 0, .int .i64 0, .sl 0 [], .sl 1 [.int .i64 4], .str [], .int .i64 54], [.box cwv26, .none, .none])
theorem cw87 : evI T 69 cwa87 = some cwr87 := call3_ok (M := [(77, cwa86, cwr86)]) (m := 200) (n := 2000) ⟨cw86, trivial⟩ (T := T) (f := 69) (x := x69) rfl (by kernel_rfl)
def cwa88 : List PV := [.box cwv25, .agg [.int .i64 26, .int .i64 (-1), .int .i64 0, .int .i64 0, .nils, .nils, .str [], .int .i64 54]]
def cwr88 : PV × List PV := (.agg [.int .i64 26, .int .i64 (-1), .int .i64 0, .int .i64 0, .sl 0 [], .sl 1 [.int .i64 4], .str [], .int .i64 54], cwv48)
theorem cw88 : evI T 59 cwa88 = some cwr88 := call3_ok (M := [(69, cwa87, cwr87)]) (m := 200) (n := 2000) ⟨cw87, trivial⟩ (T := T) (f := 59) (x := x59) rfl (by kernel_rfl)
def cwa89 : List PV := [.box [.sl 38 cwv12, .int .i64 23, .int .i64 93, .int .i64 4, .int .i64 0, .int .i64 0]]
def cwr89 : PV × List PV := (.agg [.int .i64 26, .int .i64 (-1), .int .i64 0, .int .i64 0, .sl 0 [], .sl 1 [.int .i64 4], .str [], .int .i64 54], cwv39)
theorem cw89 : evI T 55 cwa89 = some cwr89 := call3_ok (M := [(57, cwa43, cwr43), (58, cwa84, cwr84), (59, cwa88, cwr88)]) (m := 200) (n := 2000) ⟨cw43, cw84, cw88, trivial⟩ (T := T) (f := 55) (x := x55) rfl (by kernel_rfl)
def cwa90 : List PV := [.box cwv24, .int .i64 3]
def cwr90 : PV × List PV := (.sl 1 [.int .i64 26, .int .i64 (-1), .int .i64 0, .int .i64 0, .sl 0 [], .sl 1 [.int .i64 4], .str [], .int .i64 54], cwv48)
theorem cw90 : evI T 52 cwa90 = some cwr90 := call3_ok (M := [(48, cwa83, cwr83), (55, cwa89, cwr89)]) (m := 200) (n := 2000) ⟨cw83, cw89, trivial⟩ (T := T) (f := 52) (x := x52) rfl (by kernel_rfl)
def cwa91 : List PV := [.box [.sl 38 cwv12, .int .i64 26, .int .i64 93, .int .i64 4, .int .i64 0, .int .i64 0], .str [58]]
def cwr91 : PV × List PV := (.tup [], [.box [.sl 38 cwv12, .int .i64 27, .int .i64 93, .int .i64 4, .int .i64 0, .int .i64 0], .none])
theorem cw91 : evI T 48 cwa91 = some cwr91 := call3_ok (M := []) (m := 200) (n := 2000) trivial (T := T) (f := 48) (x := x48) rfl (by kernel_rfl)
def cwa92 : List PV := [.agg [.int .i64 27, .int .i64 (-1), .int .i64 0, .int .i64 0, .nils, .nils, .str [], .int .i64 64]]
def cwr92 : PV × List PV := (.int .i64 0, [.none])
theorem cw92 : evI T 58 cwa92 = some cwr92 := call3_ok (M := []) (m := 200) (n := 2000) trivial (T := T) (f := 58) (x := x58) rfl (by kernel_rfl)
def cwa93 : List PV := [.box cwv27, .int .u8 37, .int .i64 1048576, .int .i64 8]
def cwr93 : PV × List PV := (.int .i64 0, [.box cwv28, .none, .none, .none])
theorem cw93 : evI T 60 cwa93 = some cwr93 := call3_ok (M := [(71, cwa58, cwr58)]) (m := 200) (n := 2000) ⟨cw58, trivial⟩ (T := T) (f := 60) (x := x60) rfl (by kernel_rfl)
def cwa94 : List PV := [.box cwv27]
def cwr94 : PV × List PV := (.int .i64 0, cwv40)
theorem cw94 : evI T 56 cwa94 = some cwr94 := call3_ok (M := [(60, cwa93, cwr93)]) (m := 200) (n := 2000) ⟨cw93, trivial⟩ (T := T) (f := 56) (x := x56) rfl (by kernel_rfl)
def cwa95 : List PV := [.box cwv28, .int .u8 98, .int .i64 255, .int .i64 7]
def cwr95 : PV × List PV := (.int .i64 1, [.box cwv29, .none, .none, .none])
theorem cw95 : evI T 60 cwa95 = some cwr95 := call3_ok (M := [(71, cwa46, cwr46)]) (m := 200) (n := 2000) ⟨cw46, trivial⟩ (T := T) (f := 60) (x := x60) rfl (by kernel_rfl)
def cwa96 : List PV := cwv40
def cwr96 : PV × List PV := (.int .i64 1, cwv41)
theorem cw96 : evI T 77 cwa96 = some cwr96 := call3_ok (M := [(60, cwa95, cwr95)]) (m := 200) (n := 2000) ⟨cw95, trivial⟩ (T := T) (f := 77) (x := x77) rfl (by kernel_rfl)
def cwa97 : List PV := [.str [53]]
def cwr97 : PV × List PV := (.tup [.int .i64 5, .int .i64 0], [.none])
theorem cw97 : evI T 74 cwa97 = some cwr97 := call3_ok (M := []) (m := 200) (n := 2000) trivial (T := T) (f := 74) (x := x74) rfl (by kernel_rfl)
def cwa98 : List PV := [.str [53], .int .i64 255]
def cwr98 : PV × List PV := (.tup [.int .i64 5, .int .i64 0], [.none, .none])
theorem cw98 : evI T 71 cwa98 = some cwr98 := call3_ok (M := [(74, cwa97, cwr97)]) (m := 200) (n := 2000) ⟨cw97, trivial⟩ (T := T) (f := 71) (x := x71) rfl (by kernel_rfl)
def cwa99 : List PV := [.box cwv29, .int .u8 98, .int .i64 255, .int .i64 7]
def cwr99 : PV × List PV := (.int .i64 5, [.box cwv30, .none, .none, .none])
theorem cw99 : evI T 60 cwa99 = some cwr99 := call3_ok (M := [(71, cwa98, cwr98)]) (m := 200) (n := 2000) ⟨cw98, trivial⟩ (T := T) (f := 60) (x := x60) rfl (by kernel_rfl)
def cwa100 : List PV := cwv41
def cwr100 : PV × List PV := (.int .i64 5, cwv42)
theorem cw100 : evI T 77 cwa100 = some cwr100 := call3_ok (M := [(60, cwa99, cwr99)]) (m := 200) (n := 2000) ⟨cw99, trivial⟩ (T := T) (f := 77) (x := x77) rfl (by kernel_rfl)
def cwa101 : List PV := [.box cwv27, .agg [.int .i64 27, .int .i64 (-1), .int .i64 0, .int .i64 0, .nils, .nils, .str [], .int .i64 64], .str [118, 108, 108]]
def cwr101 : PV × List PV := (.agg cwv1, [.box cwv30, .none, .none])
theorem cw101 : evI T 69 cwa101 = some cwr101 := call3_ok (M := [(56, cwa94, cwr94), (77, cwa96, cwr96), (77, cwa100, cwr100)]) (m := 200) (n := 2000) ⟨cw94, cw96, cw100, trivial⟩ (T := T) (f := 69) (x := x69) rfl (by kernel_rfl)
def cwa102 : List PV := [.box cwv27, .agg [.int .i64 27, .int .i64 (-1), .int .i64 0, .int .i64 0, .nils, .nils, .str [], .int .i64 64]]
def cwr102 : PV × List PV := (.agg cwv1, cwv49)
theorem cw102 : evI T 59 cwa102 = some cwr102 := call3_ok (M := [(69, cwa101, cwr101)]) (m := 200) (n := 2000) ⟨cw101, trivial⟩ (T := T) (f := 59) (x := x59) rfl (by kernel_rfl)
def cwa103 : List PV := [.box [.sl 38 cwv12, .int .i64 27, .int .i64 93, .int .i64 5, .int .i64 0, .int .i64 0]]
def cwr103 : PV × List PV := (.agg cwv1, cwv42)
theorem cw103 : evI T 55 cwa103 = some cwr103 := call3_ok (M := [(57, cwa55, cwr55), (58, cwa92, cwr92), (59, cwa102, cwr102)]) (m := 200) (n := 2000) ⟨cw55, cw92, cw102, trivial⟩ (T := T) (f := 55) (x := x55) rfl (by kernel_rfl)
def cwa104 : List PV := [.box cwv26, .int .i64 4]
def cwr104 : PV × List PV := (.sl 1 cwv1, cwv49)
theorem cw104 : evI T 52 cwa104 = some cwr104 := call3_ok (M := [(48, cwa91, cwr91), (55, cwa103, cwr103)]) (m := 200) (n := 2000) ⟨cw91, cw103, trivial⟩ (T := T) (f := 52) (x := x52) rfl (by kernel_rfl)
def cwa105 : List PV := [.box [.sl 38 cwv12, .int .i64 32, .int .i64 93, .int .i64 5, .int .i64 0, .int .i64 0], .str [58]]
def cwr105 : PV × List PV := (.tup [], [.box [.sl 38 cwv12, .int .i64 33, .int .i64 93, .int .i64 5, .int .i64 0, .int .i64 0], .none])
theorem cw105 : evI T 48 cwa105 = some cwr105 := call3_ok (M := []) (m := 200) (n := 2000) trivial (T := T) (f := 48) (x := x48) rfl (by kernel_rfl)
def cwa106 : List PV := [.agg [.int .i64 28, .int .i64 0, .int .i64 0, .int .i64 0, .nils, .nils, .str [], .int .i64 0]]
def cwr106 : PV × List PV := (.str [114, 101, 116], [.none])
theorem cw106 : evI T 62 cwa106 = some cwr106 := call3_ok (M := []) (m := 200) (n := 2000) trivial (T := T) (f := 62) (x := x62) rfl (by kernel_rfl)
def cwa107 : List PV := [.str [114, 101, 116]]
def cwr107 : PV × List PV := (.tup [.int .i64 28, .int .i64 0], [.none])
theorem cw107 : evI T 57 cwa107 = some cwr107 := call3_ok (M := [(62, cwa12, cwr12), (62, cwa13, cwr13), (62, cwa14, cwr14), (62, cwa15, cwr15), (62, cwa16, cwr16), (62, cwa17, cwr17), (62, cwa18, cwr18), (62, cwa19, cwr19), (62, cwa20, cwr20), (62, cwa21, cwr21), (62, cwa22, cwr22), (62, cwa23, cwr23), (62, cwa24, cwr24), (62, cwa25, cwr25), (62, cwa26, cwr26), (62, cwa27, cwr27), (62, cwa28, cwr28), (62, cwa29, cwr29), (62, cwa30, cwr30), (62, cwa31, cwr31), (62, cwa32, cwr32), (62, cwa33, cwr33), (62, cwa34, cwr34), (62, cwa35, cwr35), (62, cwa36, cwr36), (62, cwa37, cwr37), (62, cwa38, cwr38), (62, cwa39, cwr39), (62, cwa40, cwr40), (62, cwa41, cwr41), (62, cwa42, cwr42), (62, cwa54, cwr54), (62, cwa106, cwr106)]) (m := 200) (n := 2000) ⟨cw12, cw13, cw14, cw15, cw16, cw17, cw18, cw19, cw20, cw21, cw22, cw23, cw24, cw25, cw26, cw27, cw28, cw29, cw30, cw31, cw32, cw33, cw34, cw35, cw36, cw37, cw38, cw39, cw40, cw41, cw42, cw54, cw106, trivial⟩ (T := T) (f := 57) (x := x57) rfl (by kernel_rfl)
def cwa108 : List PV := [.agg [.int .i64 28, .int .i64 (-1), .int .i64 0, .int .i64 0, .nils, .nils, .str [], .int .i64 80]]
def cwr108 : PV × List PV := (.int .i64 0, [.none])
theorem cw108 : evI T 58 cwa108 = some cwr108 := call3_ok (M := []) (m := 200) (n := 2000) trivial (T := T) (f := 58) (x := x58) rfl (by kernel_rfl)
def cwa109 : List PV := cwv43
def cwr109 : PV × List PV := (.bool false, cwv43)
theorem cw109 : evI T 68 cwa109 = some cwr109 := call3_ok (M := []) (m := 200) (n := 2000) trivial (T := T) (f := 68) (x := x68) rfl (by kernel_rfl)
def cwa110 : List PV := [.box cwv31, .agg [.int .i64 28, .int .i64 (-1), .int .i64 0, .int .i64 0, .nils, .nils, .str [], .int .i64 80]]
def cwr110 : PV × List PV := (.agg [.int .i64 28, .int .i64 (-1), .int .i64 0, .int .i64 0, .sl 0 [], .sl 0 [], .str [], .int .i64 80], cwv50)
theorem cw110 : evI T 59 cwa110 = some cwr110 := call3_ok (M := [(68, cwa109, cwr109)]) (m := 200) (n := 2000) ⟨cw109, trivial⟩ (T := T) (f := 59) (x := x59) rfl (by kernel_rfl)
def cwa111 : List PV := [.box [.sl 38 cwv12, .int .i64 33, .int .i64 93, .int .i64 6, .int .i64 0, .int .i64 0]]
def cwr111 : PV × List PV := (.agg [.int .i64 28, .int .i64 (-1), .int .i64 0, .int .i64 0, .sl 0 [], .sl 0 [], .str [], .int .i64 80], cwv43)
theorem cw111 : evI T 55 cwa111 = some cwr111 := call3_ok (M := [(57, cwa107, cwr107), (58, cwa108, cwr108), (59, cwa110, cwr110)]) (m := 200) (n := 2000) ⟨cw107, cw108, cw110, trivial⟩ (T := T) (f := 55) (x := x55) rfl (by kernel_rfl)
def cwa112 : List PV := [.box cwv30, .int .i64 5]
def cwr112 : PV × List PV := (.sl 1 [.int .i64 28, .int .i64 (-1), .int .i64 0, .int .i64 0, .sl 0 [], .sl 0 [], .str [], .int .i64 80], cwv50)
theorem cw112 : evI T 52 cwa112 = some cwr112 := call3_ok (M := [(48, cwa105, cwr105), (55, cwa111, cwr111)]) (m := 200) (n := 2000) ⟨cw105, cw111, trivial⟩ (T := T) (f := 52) (x := x52) rfl (by kernel_rfl)
def cwa113 : List PV := [.box [.sl 38 cwv12, .int .i64 35, .int .i64 93, .int .i64 6, .int .i64 0, .int .i64 0], .str [58]]
def cwr113 : PV × List PV := (.tup [], [.box [.sl 38 cwv12, .int .i64 36, .int .i64 93, .int .i64 6, .int .i64 0, .int .i64 0], .none])
theorem cw113 : evI T 48 cwa113 = some cwr113 := call3_ok (M := []) (m := 200) (n := 2000) trivial (T := T) (f := 48) (x := x48) rfl (by kernel_rfl)
def cwa114 : List PV := [.agg [.int .i64 28, .int .i64 (-1), .int .i64 0, .int .i64 0, .nils, .nils, .str [], .int .i64 88]]
def cwr114 : PV × List PV := (.int .i64 0, [.none])
theorem cw114 : evI T 58 cwa114 = some cwr114 := call3_ok (M := []) (m := 200) (n := 2000) trivial (T := T) (f := 58) (x := x58) rfl (by kernel_rfl)
def cwa115 : List PV := cwv44
def cwr115 : PV × List PV := (.bool false, cwv44)
theorem cw115 : evI T 68 cwa115 = some cwr115 := call3_ok (M := []) (m := 200) (n := 2000) trivial (T := T) (f := 68) (x := x68) rfl (by kernel_rfl)
def cwa116 : List PV := [.box cwv32, .agg [.int .i64 28, .int .i64 (-1), .int .i64 0, .int .i64 0, .nils, .nils, .str [], .int .i64 88]]
def cwr116 : PV × List PV := (.agg [.int .i64 28, .int .i64 (-1), .int .i64 0, .int .i64 0, .sl 0 [], .sl 0 [], .str [], .int .i64 88], cwv51)
theorem cw116 : evI T 59 cwa116 = some cwr116 := call3_ok (M := [(68, cwa115, cwr115)]) (m := 200) (n := 2000) ⟨cw115, trivial⟩ (T := T) (f := 59) (x := x59) rfl (by kernel_rfl)
def cwa117 : List PV := [.box [.sl 38 cwv12, .int .i64 36, .int .i64 93, .int .i64 7, .int .i64 0, .int .i64 0]]
def cwr117 : PV × List PV := (.agg [.int .i64 28, .int .i64 (-1), .int .i64 0, .int .i64 0, .sl 0 [], .sl 0 [], .str [], .int .i64 88], cwv44)
theorem cw117 : evI T 55 cwa117 = some cwr117 := call3_ok (M := [(57, cwa107, cwr107), (58, cwa114, cwr114), (59, cwa116, cwr116)]) (m := 200) (n := 2000) ⟨cw107, cw114, cw116, trivial⟩ (T := T) (f := 55) (x := x55) rfl (by kernel_rfl)
def cwa118 : List PV := [.box cwv31, .int .i64 6]
def cwr118 : PV × List PV := (.sl 1 [.int .i64 28, .int .i64 (-1), .int .i64 0, .int .i64 0, .sl 0 [], .sl 0 [], .str [], .int .i64 88], cwv51)
theorem cw118 : evI T 52 cwa118 = some cwr118 := call3_ok (M := [(48, cwa113, cwr113), (55, cwa117, cwr117)]) (m := 200) (n := 2000) ⟨cw113, cw117, trivial⟩ (T := T) (f := 52) (x := x52) rfl (by kernel_rfl)
def cwa119 : List PV := [.box cwv32, .str [125]]
def cwr119 : PV × List PV := (.tup [], [.box cwv33, .none])
theorem cw119 : evI T 48 cwa119 = some cwr119 := call3_ok (M := []) (m := 200) (n := 2000) trivial (T := T) (f := 48) (x := x48) rfl (by kernel_rfl)
def cwa120 : List PV := [.box cwv13]
def cwr120 : PV × List PV := (.agg cwv5, [.box cwv33])
theorem cw120 : evI T 44 cwa120 = some cwr120 := call3_ok (M := [(48, cwa6, cwr6), (49, cwa7, cwr7), (48, cwa8, cwr8), (48, cwa9, cwr9), (48, cwa10, cwr10), (52, cwa52, cwr52), (52, cwa72, cwr72), (52, cwa82, cwr82), (52, cwa90, cwr90), (52, cwa104, cwr104), (52, cwa112, cwr112), (52, cwa118, cwr118), (48, cwa119, cwr119)]) (m := 200) (n := 2000) ⟨cw6, cw7, cw8, cw9, cw10, cw52, cw72, cw82, cw90, cw104, cw112, cw118, cw119, trivial⟩ (T := T) (f := 44) (x := x44) rfl (by kernel_rfl)
def cwa121 : List PV := cwv3
def cwr121 : PV × List PV := (.tup [.agg [.sl 1 cwv5], .agg [.int .i64 0, .int .i64 0]], [.none])
theorem cw121 : evI T 38 cwa121 = some cwr121 := call3_ok (M := [(42, cwa5, cwr5), (44, cwa120, cwr120)]) (m := 200) (n := 2000) ⟨cw5, cw120, trivial⟩ (T := T) (f := 38) (x := x38) rfl (by kernel_rfl)
def cwa122 : List PV := []
def cwr122 : PV × List PV := (.agg cwv5, [])
theorem cw122 : evI T 27 cwa122 = some cwr122 := call3_ok (M := [(38, cwa121, cwr121)]) (m := 200) (n := 2000) ⟨cw121, trivial⟩ (T := T) (f := 27) (x := x27) rfl (by kernel_rfl)
def cwa123 : List PV := [.int .i64 26]
def cwr123 : PV × List PV := (.agg [.str [98, 114], .int .i64 0, .int .i64 0, .int .i64 0, .bool false, .bool false, .bool false, .bool true, .bool true], [.none])
theorem cw123 : evI T 39 cwa123 = some cwr123 := call3_ok (M := []) (m := 200) (n := 2000) trivial (T := T) (f := 39) (x := x39) rfl (by kernel_rfl)
def cwa124 : List PV := [.int .i64 26]
def cwr124 : PV × List PV := (.bool true, [.none])
theorem cw124 : evI T 28 cwa124 = some cwr124 := call3_ok (M := [(39, cwa123, cwr123)]) (m := 200) (n := 2000) ⟨cw123, trivial⟩ (T := T) (f := 28) (x := x28) rfl (by kernel_rfl)
def cwa125 : List PV := cwv8
def cwr125 : PV × List PV := (.int .i64 (-1), [.none, .none])
theorem cw125 : evI T 40 cwa125 = some cwr125 := call3_ok (M := []) (m := 200) (n := 2000) trivial (T := T) (f := 40) (x := x40) rfl (by kernel_rfl)
def cwa126 : List PV := cwv8
def cwr126 : PV × List PV := (.bool false, [.none, .none])
theorem cw126 : evI T 29 cwa126 = some cwr126 := call3_ok (M := [(40, cwa125, cwr125)]) (m := 200) (n := 2000) ⟨cw125, trivial⟩ (T := T) (f := 29) (x := x29) rfl (by kernel_rfl)
def cwa127 : List PV := [.int .i64 27]
def cwr127 : PV × List PV := (.agg [.str [105, 102], .int .i64 1, .int .i64 0, .int .i64 0, .bool false, .bool false, .bool false, .bool true, .bool true], [.none])
theorem cw127 : evI T 39 cwa127 = some cwr127 := call3_ok (M := []) (m := 200) (n := 2000) trivial (T := T) (f := 39) (x := x39) rfl (by kernel_rfl)
def cwa128 : List PV := [.int .i64 27]
def cwr128 : PV × List PV := (.bool true, [.none])
theorem cw128 : evI T 28 cwa128 = some cwr128 := call3_ok (M := [(39, cwa127, cwr127)]) (m := 200) (n := 2000) ⟨cw127, trivial⟩ (T := T) (f := 28) (x := x28) rfl (by kernel_rfl)
def cwa129 : List PV := cwv10
def cwr129 : PV × List PV := (.int .i64 (-1), [.none, .none])
theorem cw129 : evI T 40 cwa129 = some cwr129 := call3_ok (M := []) (m := 200) (n := 2000) trivial (T := T) (f := 40) (x := x40) rfl (by kernel_rfl)
def cwa130 : List PV := cwv10
def cwr130 : PV × List PV := (.bool false, [.none, .none])
theorem cw130 : evI T 29 cwa130 = some cwr130 := call3_ok (M := [(40, cwa129, cwr129)]) (m := 200) (n := 2000) ⟨cw129, trivial⟩ (T := T) (f := 29) (x := x29) rfl (by kernel_rfl)
def cwa131 : List PV := cwv9
def cwr131 : PV × List PV := (.int .i64 (-1), [.none, .none])
theorem cw131 : evI T 40 cwa131 = some cwr131 := call3_ok (M := []) (m := 200) (n := 2000) trivial (T := T) (f := 40) (x := x40) rfl (by kernel_rfl)
def cwa132 : List PV := cwv9
def cwr132 : PV × List PV := (.bool false, [.none, .none])
theorem cw132 : evI T 29 cwa132 = some cwr132 := call3_ok (M := [(40, cwa131, cwr131)]) (m := 200) (n := 2000) ⟨cw131, trivial⟩ (T := T) (f := 29) (x := x29) rfl (by kernel_rfl)
def cwa133 : List PV := cwv11
def cwr133 : PV × List PV := (.int .i64 (-1), [.none, .none])
theorem cw133 : evI T 40 cwa133 = some cwr133 := call3_ok (M := []) (m := 200) (n := 2000) trivial (T := T) (f := 40) (x := x40) rfl (by kernel_rfl)
def cwa134 : List PV := cwv11
def cwr134 : PV × List PV := (.bool false, [.none, .none])
theorem cw134 : evI T 29 cwa134 = some cwr134 := call3_ok (M := [(40, cwa133, cwr133)]) (m := 200) (n := 2000) ⟨cw133, trivial⟩ (T := T) (f := 29) (x := x29) rfl (by kernel_rfl)
def cwa135 : List PV := [.int .i64 28]
def cwr135 : PV × List PV := (.agg [.str [114, 101, 116], .int .i64 0, .int .i64 0, .int .i64 0, .bool false, .bool false, .bool false, .bool true, .bool true], [.none])
theorem cw135 : evI T 39 cwa135 = some cwr135 := call3_ok (M := []) (m := 200) (n := 2000) trivial (T := T) (f := 39) (x := x39) rfl (by kernel_rfl)
def cwa136 : List PV := [.int .i64 28]
def cwr136 : PV × List PV := (.bool true, [.none])
theorem cw136 : evI T 28 cwa136 = some cwr136 := call3_ok (M := [(39, cwa135, cwr135)]) (m := 200) (n := 2000) ⟨cw135, trivial⟩ (T := T) (f := 28) (x := x28) rfl (by kernel_rfl)
def cwa137 : List PV := [.sl 0 [], .fn 30 cwv6]
def cwr137 : PV × List PV := (.bool false, [.none, .none])
theorem cw137 : evI T 29 cwa137 = some cwr137 := call3_ok (M := []) (m := 200) (n := 2000) trivial (T := T) (f := 29) (x := x29) rfl (by kernel_rfl)
def cwa138 : List PV := cwv7
def cwr138 : PV × List PV := (.agg [.int .i64 0, .int .i64 0], [.none])
theorem cw138 : evI T 9 cwa138 = some cwr138 := call3_ok (M := [(28, cwa124, cwr124), (29, cwa126, cwr126), (28, cwa128, cwr128), (29, cwa130, cwr130), (29, cwa132, cwr132), (29, cwa134, cwr134), (28, cwa136, cwr136), (29, cwa137, cwr137)]) (m := 200) (n := 2000) ⟨cw124, cw126, cw128, cw130, cw132, cw134, cw136, cw137, trivial⟩ (T := T) (f := 9) (x := x9) rfl (by kernel_rfl)
def cwa139 : List PV := [.nils, .int .i64 1]
def cwr139 : PV × List PV := (.bool false, [.none, .none])
theorem cw139 : evI T 32 cwa139 = some cwr139 := call3_ok (M := []) (m := 200) (n := 2000) trivial (T := T) (f := 32) (x := x32) rfl (by kernel_rfl)
def cwa140 : List PV := [.nils, .int .i64 2]
def cwr140 : PV × List PV := (.bool false, [.none, .none])
theorem cw140 : evI T 32 cwa140 = some cwr140 := call3_ok (M := []) (m := 200) (n := 2000) trivial (T := T) (f := 32) (x := x32) rfl (by kernel_rfl)
def cwa141 : List PV := [.sl 1 [.int .i64 2], .int .i64 3]
def cwr141 : PV × List PV := (.bool false, [.none, .none])
theorem cw141 : evI T 32 cwa141 = some cwr141 := call3_ok (M := []) (m := 200) (n := 2000) trivial (T := T) (f := 32) (x := x32) rfl (by kernel_rfl)
def cwa142 : List PV := [.nils, .int .i64 4]
def cwr142 : PV × List PV := (.bool false, [.none, .none])
theorem cw142 : evI T 32 cwa142 = some cwr142 := call3_ok (M := []) (m := 200) (n := 2000) trivial (T := T) (f := 32) (x := x32) rfl (by kernel_rfl)
def cwa143 : List PV := [.sl 1 [.int .i64 1], .int .i64 5]
def cwr143 : PV × List PV := (.bool false, [.none, .none])
theorem cw143 : evI T 32 cwa143 = some cwr143 := call3_ok (M := []) (m := 200) (n := 2000) trivial (T := T) (f := 32) (x := x32) rfl (by kernel_rfl)
def cwa144 : List PV := cwv7
def cwr144 : PV × List PV := (.sl 7 cwv2, [.none])
theorem cw144 : evI T 13 cwa144 = some cwr144 := call3_ok (M := [(32, cwa139, cwr139), (32, cwa140, cwr140), (32, cwa141, cwr141), (32, cwa142, cwr142), (32, cwa143, cwr143)]) (m := 200) (n := 2000) ⟨cw139, cw140, cw141, cw142, cw143, trivial⟩ (T := T) (f := 13) (x := x13) rfl (by kernel_rfl)
def cwa145 : List PV := cwv7
def cwr145 : PV × List PV := (.sl 7 [.sl 0 [], .sl 2 [.int .i64 0, .int .i64 4], .sl 1 [.int .i64 1], .sl 1 [.int .i64 1], .sl 2 [.int .i64 2, .int .i64 3], .sl 1 [.int .i64 4], .sl 0 []], [.none])
theorem cw145 : evI T 15 cwa145 = some cwr145 := call3_ok (M := [(13, cwa144, cwr144)]) (m := 200) (n := 2000) ⟨cw144, trivial⟩ (T := T) (f := 15) (x := x15) rfl (by kernel_rfl)
def cwa146 : List PV := [.box [.sl 7 cwv2, .own 1 7 [.bool true, .bool true, .bool true, .bool false, .bool false, .bool false, .bool false], .nils], .int .i64 4]
def cwr146 : PV × List PV := (.tup [], [.box [.sl 7 cwv2, .own 1 7 [.bool true, .bool true, .bool true, .bool false, .bool true, .bool true, .bool false], .own 1 2 [.int .i64 5, .int .i64 4]], .none])
theorem cw146 : evI T 34 cwa146 = some cwr146 := call3_ok (M := []) (m := 200) (n := 2000) trivial (T := T) (f := 34) (x := x34) rfl (by kernel_rfl)
def cwa147 : List PV := [.box [.sl 7 cwv2, .own 1 7 [.bool true, .bool true, .bool false, .bool false, .bool false, .bool false, .bool false], .nils], .int .i64 2]
def cwr147 : PV × List PV := (.tup [], [.box [.sl 7 cwv2, .own 1 7 [.bool true, .bool true, .bool true, .bool false, .bool true, .bool true, .bool false], .own 1 3 [.int .i64 5, .int .i64 4, .int .i64 2]], .none])
theorem cw147 : evI T 34 cwa147 = some cwr147 := call3_ok (M := [(34, cwa146, cwr146)]) (m := 200) (n := 2000) ⟨cw146, trivial⟩ (T := T) (f := 34) (x := x34) rfl (by kernel_rfl)
def cwa148 : List PV := [.box [.sl 7 cwv2, .own 1 7 [.bool true, .bool false, .bool false, .bool false, .bool false, .bool false, .bool false], .nils], .int .i64 1]
def cwr148 : PV × List PV := (.tup [], [.box [.sl 7 cwv2, .own 1 7 [.bool true, .bool true, .bool true, .bool true, .bool true, .bool true, .bool false], .own 1 5 [.int .i64 5, .int .i64 4, .int .i64 2, .int .i64 3, .int .i64 1]], .none])
theorem cw148 : evI T 34 cwa148 = some cwr148 := call3_ok (M := [(34, cwa147, cwr147)]) (m := 200) (n := 2000) ⟨cw147, trivial⟩ (T := T) (f := 34) (x := x34) rfl (by kernel_rfl)
def cwa149 : List PV := [.box [.sl 7 cwv2, .own 1 7 [.bool false, .bool false, .bool false, .bool false, .bool false, .bool false, .bool false], .nils], .int .i64 0]
def cwr149 : PV × List PV := (.tup [], [.box [.sl 7 cwv2, .own 1 7 [.bool true, .bool true, .bool true, .bool true, .bool true, .bool true, .bool false], .own 1 6 [.int .i64 5, .int .i64 4, .int .i64 2, .int .i64 3, .int .i64 1, .int .i64 0]], .none])
theorem cw149 : evI T 34 cwa149 = some cwr149 := call3_ok (M := [(34, cwa148, cwr148)]) (m := 200) (n := 2000) ⟨cw148, trivial⟩ (T := T) (f := 34) (x := x34) rfl (by kernel_rfl)
def cwa150 : List PV := cwv7
def cwr150 : PV × List PV := (.sl 6 [.int .i64 0, .int .i64 1, .int .i64 3, .int .i64 2, .int .i64 4, .int .i64 5], [.none])
theorem cw150 : evI T 18 cwa150 = some cwr150 := call3_ok (M := [(13, cwa144, cwr144), (34, cwa149, cwr149)]) (m := 200) (n := 2000) ⟨cw144, cw149, trivial⟩ (T := T) (f := 18) (x := x18) rfl (by kernel_rfl)
def cwa151 : List PV := cwv7
def cwr151 : PV × List PV := (.sl 7 [.int .i64 0, .int .i64 1, .int .i64 3, .int .i64 2, .int .i64 4, .int .i64 5, .int .i64 (-1)], [.none])
theorem cw151 : evI T 20 cwa151 = some cwr151 := call3_ok (M := [(18, cwa150, cwr150)]) (m := 200) (n := 2000) ⟨cw150, trivial⟩ (T := T) (f := 20) (x := x20) rfl (by kernel_rfl)
def cwa152 : List PV := cwv7
def cwr152 : PV × List PV := (.sl 1 [.int .i64 4, .int .i64 1], [.none])
theorem cw152 : evI T 22 cwa152 = some cwr152 := call3_ok (M := [(20, cwa151, cwr151), (13, cwa144, cwr144)]) (m := 200) (n := 2000) ⟨cw151, cw144, trivial⟩ (T := T) (f := 22) (x := x22) rfl (by kernel_rfl)
def cwa153 : List PV := []
def cwr153 : PV × List PV := (.bool true, [])
theorem cw153 : evI T 8 cwa153 = some cwr153 := call3_ok (M := [(27, cwa122, cwr122), (9, cwa138, cwr138), (15, cwa145, cwr145), (18, cwa150, cwr150), (22, cwa152, cwr152), (13, cwa144, cwr144), (20, cwa151, cwr151)]) (m := 200) (n := 2000) ⟨cw122, cw138, cw145, cw150, cw152, cw144, cw151, trivial⟩ (T := T) (f := 8) (x := x8) rfl (by kernel_rfl)
theorem cw_ok : evI T 8 [] = some (.bool true, []) := cw153
end Go.Ab

/-
  Printed by gen.py.
-/
namespace Go.Ab
open Go
set_option linter.unusedVariables false
set_option linter.unusedSimpArgs false
set_option maxRecDepth 100000
set_option maxHeartbeats 4000000
theorem l08_GraphReaches_j1_ok (p0 : Fun) (p1 : List Int) (p2 : Int) : Sim (l08_GraphReaches_j1 p0 p1 p2) fun r => evX (evI T) x5_1 [(1, .sl p1.length (p1.flatMap (cint .u8))), (2, .int .i64 p2), (3, .box [.str p0.Name, .sl p0.Params.length (p0.Params.flatMap (cint .i64)), .int .i64 p0.Ret, .sl p0.Blocks.length (p0.Blocks.flatMap (csl cIns)), .int .i64 p0.At])] = some (.norm, [(1, .sl p1.length (p1.flatMap (cint .u8))), (2, .int .i64 p2), (3, .box [.str p0.Name, .sl p0.Params.length (p0.Params.flatMap (cint .i64)), .int .i64 p0.Ret, .sl p0.Blocks.length (p0.Blocks.flatMap (csl cIns)), .int .i64 p0.At]), (18, .bool r)]) := by
  unfold l08_GraphReaches_j1
  refine sim_bind (fun r1 h1 => ?_)
  have f2 := l08_Light_okN p0 _ h1
  dsimp only at f2
  refine sim_if (fun h3 => ?_) (fun h3 => ?_)
  · refine sim_some ?_
    try simp only [nz, nzIns, nzFun] at f2
    all_goals
      refine' (w_reg (w_cons ?_ (w_cons ?_ (w_cons ?_ (w_cons ?_ (w_cons ?_ (w_cons ?_ (w_cons ?_ (w_cons ?_ w_nil)))))))) ?_)
      all_goals (first | (simp only [nz, rn, nzIns, nzFun, f2, h3, Int.reduceLT, Int.reduceEq, List.contains_cons, List.contains_nil, Option.map_some, Option.map_none, reduceIte, reduceCtorEq, Nat.reduceEqDiff, Nat.reduceLT, Nat.reduceBEq, Nat.reduceAdd, Nat.reduceMul, Nat.reduceLeDiff, Nat.reduceSub, Bool.false_eq_true]; try rfl) | skip)
  · refine sim_some ?_
    try simp only [nz, nzIns, nzFun] at f2
    all_goals
      refine' (w_reg (w_cons ?_ (w_cons ?_ (w_cons ?_ (w_cons ?_ (w_cons ?_ (w_cons ?_ (w_cons ?_ (w_cons ?_ w_nil)))))))) ?_)
      all_goals (first | (simp only [nz, rn, nzIns, nzFun, f2, h3, Int.reduceLT, Int.reduceEq, List.contains_cons, List.contains_nil, Option.map_some, Option.map_none, reduceIte, reduceCtorEq, Nat.reduceEqDiff, Nat.reduceLT, Nat.reduceBEq, Nat.reduceAdd, Nat.reduceMul, Nat.reduceLeDiff, Nat.reduceSub, Bool.false_eq_true]; try rfl) | skip)
theorem l08_GraphReaches_l2_bok (p0 : Fun) (p1 : List Int) (p2 : Int) (v3 : List Int) (v4 : Int) : Sim (l08_GraphReaches_l2_b p0 p1 p2 v3 v4) fun x => fgt [1, 2, 3, 7, 8] (evX (evI T) x5_2 [(1, .sl p1.length (p1.flatMap (cint .u8))), (2, .int .i64 p2), (3, .box [.str p0.Name, .sl p0.Params.length (p0.Params.flatMap (cint .i64)), .int .i64 p0.Ret, .sl p0.Blocks.length (p0.Blocks.flatMap (csl cIns)), .int .i64 p0.At]), (7, mkOwn 1 v3.length (v3.flatMap (cint .i64))), (8, .int .i64 v4)]) = some (stpK (fun s => (.norm, [(1, .sl p1.length (p1.flatMap (cint .u8))), (2, .int .i64 p2), (3, .box [.str p0.Name, .sl p0.Params.length (p0.Params.flatMap (cint .i64)), .int .i64 p0.Ret, .sl p0.Blocks.length (p0.Blocks.flatMap (csl cIns)), .int .i64 p0.At]), (7, mkOwn 1 s.1.length (s.1.flatMap (cint .i64))), (8, .int .i64 s.2)])) (fun r => (.exit 0, [(2, .int .i64 p2), (3, .box [.str p0.Name, .sl p0.Params.length (p0.Params.flatMap (cint .i64)), .int .i64 p0.Ret, .sl p0.Blocks.length (p0.Blocks.flatMap (csl cIns)), .int .i64 p0.At]), (7, mkOwn 1 r.length (r.flatMap (cint .i64)))])) x) := by
  unfold l08_GraphReaches_l2_b
  refine sim_if (fun h8 => ?_) (fun h8 => ?_)
  · refine sim_bind (fun x_5 h9 => ?_)
    have f10 := ix_ok h9
    have f10o := ix_own2 h9
    have f11 := ix_cells (sz_int .u8) h9
    simp only [nz, nzIns, nzFun] at f11
    refine sim_if (fun h12 => ?_) (fun h12 => ?_)
    · exact sim_none
    · refine sim_bind (fun l_6 h13 => ?_)
      have f14 := app1_cond h13
      try simp only [nz, Nat.reduceLeDiff, Nat.reduceAdd, Nat.reduceMul, Nat.reduceSub] at f14
      have f14a : PV.own 1 (v3.length + 1) (v3.flatMap (cint .i64) ++ [.int .i64 (Int.tmod (IntKind.wrap .i64 x_5) ((p0.Blocks.length : Int)))]) = .own 1 l_6.length (l_6.flatMap (cint .i64)) := app1_own h13 (cint .i64) 1
      have f14o := app1_own2 h13
      refine sim_some ?_
      rcases own_cases v3 with rfl | o_v3
      · obtain rfl := app_eq h13
        refine' (w_fgt (w_seq (w_seq (w_reg (w_cons ?_ (w_cons ?_ (w_cons ?_ (w_cons ?_ w_nil)))) ?_) (w_go (w_condt ?_ w_skip ?_))) (w_go (w_seq (w_block (w_regD ?_ ?_ (w_consD rfl ?_ ?_ ?_ (w_consD rfl ?_ ?_ ?_ (w_consD rfl ?_ ?_ ?_ (w_consD rfl ?_ ?_ ?_ (w_consD rfl ?_ ?_ ?_ (w_consD rfl ?_ ?_ ?_ (w_consD rfl ?_ ?_ ?_ (w_consD rfl ?_ ?_ ?_ (w_consD rfl ?_ ?_ ?_ (w_consD rfl ?_ ?_ ?_ (w_consD rfl ?_ ?_ ?_ (w_barD rfl rfl (w_cons ?_ (w_cons ?_ w_nil)))))))))))))) ?_) ?_) (w_go (w_reg (w_cons ?_ (w_cons ?_ (w_cons ?_ w_nil))) ?_))))) ?_)
        all_goals (first | (simp only [nz, rn, nzIns, nzFun, h8, f10, f10o, f11, of_decide_eq_false h12, h12, Int.reduceLT, Int.reduceEq, List.contains_cons, List.contains_nil, Option.map_some, Option.map_none, reduceIte, reduceCtorEq, Nat.reduceEqDiff, Nat.reduceLT, Nat.reduceBEq, Nat.reduceAdd, Nat.reduceMul, Nat.reduceLeDiff, Nat.reduceSub, Bool.false_eq_true]; try rfl) | skip)
      · refine' (w_fgt (w_seq (w_seq (w_reg (w_cons ?_ (w_cons ?_ (w_cons ?_ (w_cons ?_ w_nil)))) ?_) (w_go (w_condt ?_ w_skip ?_))) (w_go (w_seq (w_block (w_regD ?_ ?_ (w_consD rfl ?_ ?_ ?_ (w_consD rfl ?_ ?_ ?_ (w_consD rfl ?_ ?_ ?_ (w_consD rfl ?_ ?_ ?_ (w_consD rfl ?_ ?_ ?_ (w_consD rfl ?_ ?_ ?_ (w_consD rfl ?_ ?_ ?_ (w_consD rfl ?_ ?_ ?_ (w_consD rfl ?_ ?_ ?_ (w_consD rfl ?_ ?_ ?_ (w_consD rfl ?_ ?_ ?_ (w_barD rfl rfl (w_cons ?_ (w_cons ?_ w_nil)))))))))))))) ?_) ?_) (w_go (w_reg (w_cons ?_ (w_cons ?_ (w_cons ?_ w_nil))) ?_))))) ?_)
        all_goals (first | (simp only [nz, rn, nzIns, nzFun, h8, f10, f10o, f11, of_decide_eq_false h12, h12, f14, f14a, f14o, o_v3, Int.reduceLT, Int.reduceEq, List.contains_cons, List.contains_nil, Option.map_some, Option.map_none, reduceIte, reduceCtorEq, Nat.reduceEqDiff, Nat.reduceLT, Nat.reduceBEq, Nat.reduceAdd, Nat.reduceMul, Nat.reduceLeDiff, Nat.reduceSub, Bool.false_eq_true]; try rfl) | skip)
  · refine sim_some ?_
    refine' (w_fgt (w_seq (w_seq (w_reg (w_cons ?_ (w_cons ?_ (w_cons ?_ (w_cons ?_ w_nil)))) ?_) (w_go (w_condf ?_ (w_exit ?_) ?_))) w_gox) ?_)
    all_goals (first | (simp only [nz, rn, nzIns, nzFun, h8, Int.reduceLT, Int.reduceEq, List.contains_cons, List.contains_nil, Option.map_some, Option.map_none, reduceIte, reduceCtorEq, Nat.reduceEqDiff, Nat.reduceLT, Nat.reduceBEq, Nat.reduceAdd, Nat.reduceMul, Nat.reduceLeDiff, Nat.reduceSub, Bool.false_eq_true]; try rfl) | skip)
theorem l08_GraphReaches_l2_ok (p0 : Fun) (p1 : List Int) (p2 : Int) (s : List Int × Int) : Sim (l08_GraphReaches_l2 p0 p1 p2 s) fun r => evX (evI T) (.loop x5_2 [1, 2, 3, 7, 8]) [(1, .sl p1.length (p1.flatMap (cint .u8))), (2, .int .i64 p2), (3, .box [.str p0.Name, .sl p0.Params.length (p0.Params.flatMap (cint .i64)), .int .i64 p0.Ret, .sl p0.Blocks.length (p0.Blocks.flatMap (csl cIns)), .int .i64 p0.At]), (7, mkOwn 1 s.1.length (s.1.flatMap (cint .i64))), (8, .int .i64 s.2)] = some (.exit 0, [(2, .int .i64 p2), (3, .box [.str p0.Name, .sl p0.Params.length (p0.Params.flatMap (cint .i64)), .int .i64 p0.Ret, .sl p0.Blocks.length (p0.Blocks.flatMap (csl cIns)), .int .i64 p0.At]), (7, mkOwn 1 r.length (r.flatMap (cint .i64)))]) := by
  unfold l08_GraphReaches_l2
  exact loop_rule (C := evI T) (b := x5_2) (ks := [1, 2, 3, 7, 8]) (σ := List Int × Int) (ρ := List Int) (body := fun s => l08_GraphReaches_l2_b p0 p1 p2 s.1 s.2) (E := fun s => [(1, .sl p1.length (p1.flatMap (cint .u8))), (2, .int .i64 p2), (3, .box [.str p0.Name, .sl p0.Params.length (p0.Params.flatMap (cint .i64)), .int .i64 p0.Ret, .sl p0.Blocks.length (p0.Blocks.flatMap (csl cIns)), .int .i64 p0.At]), (7, mkOwn 1 s.1.length (s.1.flatMap (cint .i64))), (8, .int .i64 s.2)]) (R := fun r => (.exit 0, [(2, .int .i64 p2), (3, .box [.str p0.Name, .sl p0.Params.length (p0.Params.flatMap (cint .i64)), .int .i64 p0.Ret, .sl p0.Blocks.length (p0.Blocks.flatMap (csl cIns)), .int .i64 p0.At]), (7, mkOwn 1 r.length (r.flatMap (cint .i64)))])) (fun r h => nomatch h) (fun s => l08_GraphReaches_l2_bok p0 p1 p2 s.1 s.2) s
theorem l08_GraphReaches_j6_ok (p0 : Fun) (p2 : Int) (r9 : List Bool) (v10 : List Int) (v10b : Bool) (v11 : Int) : Sim (l08_GraphReaches_j6 p0 p2 r9 v10 v10b v11) fun r => evX (evI T) x5_3 [(2, .int .i64 p2), (3, .box [.str p0.Name, .sl p0.Params.length (p0.Params.flatMap (cint .i64)), .int .i64 p0.Ret, .sl p0.Blocks.length (p0.Blocks.flatMap (csl cIns)), .int .i64 p0.At]), (7, eit v10b 1 v10.length (v10.flatMap (cint .i64))), (9, .sl r9.length (r9.flatMap cbool)), (10, .int .i64 v11)] = some (.norm, [(2, .int .i64 p2), (3, .box [.str p0.Name, .sl p0.Params.length (p0.Params.flatMap (cint .i64)), .int .i64 p0.Ret, .sl p0.Blocks.length (p0.Blocks.flatMap (csl cIns)), .int .i64 p0.At]), (7, eit r.2.1 1 r.1.length (r.1.flatMap (cint .i64))), (9, .sl r9.length (r9.flatMap cbool)), (10, .int .i64 v11), (65, .bool r.2.2)]) := by
  unfold l08_GraphReaches_j6
  refine sim_bind (fun x_12 h23 => ?_)
  have f24 := ix_ok h23
  have f24o := ix_own2 h23
  have f25 := ix_cells sz_bool h23
  simp only [nz, nzIns, nzFun] at f25
  refine sim_bind (fun r13 h26 => ?_)
  have f27 := r08_Succs_okN p0 _ h26
  dsimp only at f27
  refine sim_if (fun h28 => ?_) (fun h28 => ?_)
  · refine sim_bind (fun r14 h29 => ?_)
    have f30 := r08_Path_okN r13 v10 v11 p2 _ h29
    dsimp only at f30
    refine sim_some ?_
    try simp only [nz, nzIns, nzFun, f24o] at f27
    try simp only [nz, nzIns, nzFun, f24o] at f30
    all_goals
      refine' (w_regD ?_ ?_ (w_consD rfl ?_ ?_ ?_ (w_consD rfl ?_ ?_ ?_ (w_consD rfl ?_ ?_ ?_ (w_consD rfl ?_ ?_ ?_ (w_consD rfl ?_ ?_ ?_ (w_consD rfl ?_ ?_ ?_ (w_consD rfl ?_ ?_ ?_ (w_consD rfl ?_ ?_ ?_ (w_consD rfl ?_ ?_ ?_ (w_consD rfl ?_ ?_ ?_ (w_barD rfl rfl (w_cons ?_ w_nil)))))))))))) ?_)
      all_goals (first | (simp only [nz, rn, nzIns, nzFun, f24, f24o, f25, f27, h28, f30, Int.reduceLT, Int.reduceEq, List.contains_cons, List.contains_nil, Option.map_some, Option.map_none, reduceIte, reduceCtorEq, Nat.reduceEqDiff, Nat.reduceLT, Nat.reduceBEq, Nat.reduceAdd, Nat.reduceMul, Nat.reduceLeDiff, Nat.reduceSub, Bool.false_eq_true]; try rfl) | skip)
  · refine sim_bind (fun r15 h31 => ?_)
    have f32 := r08_Path_okN r13 v10 v11 p2 _ h31
    dsimp only at f32
    refine sim_some ?_
    rcases own_cases v10 with rfl | o_v10
    · try simp only [nz, nzIns, nzFun, f24o] at f27
      try simp only [nz, nzIns, nzFun, f24o] at f32
      all_goals
        refine' (w_regD ?_ ?_ (w_consD rfl ?_ ?_ ?_ (w_consD rfl ?_ ?_ ?_ (w_consD rfl ?_ ?_ ?_ (w_consD rfl ?_ ?_ ?_ (w_consD rfl ?_ ?_ ?_ (w_consD rfl ?_ ?_ ?_ (w_consD rfl ?_ ?_ ?_ (w_consD rfl ?_ ?_ ?_ (w_consD rfl ?_ ?_ ?_ (w_consD rfl ?_ ?_ ?_ (w_barD rfl rfl (w_cons ?_ w_nil)))))))))))) ?_)
        all_goals (first | (simp only [nz, rn, nzIns, nzFun, f24, f24o, f25, f27, h28, f32, Int.reduceLT, Int.reduceEq, List.contains_cons, List.contains_nil, Option.map_some, Option.map_none, reduceIte, reduceCtorEq, Nat.reduceEqDiff, Nat.reduceLT, Nat.reduceBEq, Nat.reduceAdd, Nat.reduceMul, Nat.reduceLeDiff, Nat.reduceSub, Bool.false_eq_true]; try rfl) | skip)
    · try simp only [nz, nzIns, nzFun, o_v10, f24o] at f27
      try simp only [nz, nzIns, nzFun, o_v10, f24o] at f32
      all_goals
        refine' (w_regD ?_ ?_ (w_consD rfl ?_ ?_ ?_ (w_consD rfl ?_ ?_ ?_ (w_consD rfl ?_ ?_ ?_ (w_consD rfl ?_ ?_ ?_ (w_consD rfl ?_ ?_ ?_ (w_consD rfl ?_ ?_ ?_ (w_consD rfl ?_ ?_ ?_ (w_consD rfl ?_ ?_ ?_ (w_consD rfl ?_ ?_ ?_ (w_consD rfl ?_ ?_ ?_ (w_barD rfl rfl (w_cons ?_ w_nil)))))))))))) ?_)
        all_goals (first | (simp only [nz, rn, nzIns, nzFun, f24, f24o, f25, f27, h28, f32, o_v10, Int.reduceLT, Int.reduceEq, List.contains_cons, List.contains_nil, Option.map_some, Option.map_none, reduceIte, reduceCtorEq, Nat.reduceEqDiff, Nat.reduceLT, Nat.reduceBEq, Nat.reduceAdd, Nat.reduceMul, Nat.reduceLeDiff, Nat.reduceSub, Bool.false_eq_true]; try rfl) | skip)
theorem l08_GraphReaches_l7_bok (p0 : Fun) (p2 : Int) (r9 : List Bool) (v10 : List Int) (v10b : Bool) (v11 : Int) : Sim (l08_GraphReaches_l7_b p0 p2 r9 v10 v10b v11) fun x => fgt [2, 3, 7, 9, 10] (evX (evI T) x5_4 [(2, .int .i64 p2), (3, .box [.str p0.Name, .sl p0.Params.length (p0.Params.flatMap (cint .i64)), .int .i64 p0.Ret, .sl p0.Blocks.length (p0.Blocks.flatMap (csl cIns)), .int .i64 p0.At]), (7, eit v10b 1 v10.length (v10.flatMap (cint .i64))), (9, .sl r9.length (r9.flatMap cbool)), (10, .int .i64 v11)]) = some (stpK (fun s => (.norm, [(2, .int .i64 p2), (3, .box [.str p0.Name, .sl p0.Params.length (p0.Params.flatMap (cint .i64)), .int .i64 p0.Ret, .sl p0.Blocks.length (p0.Blocks.flatMap (csl cIns)), .int .i64 p0.At]), (7, eit s.2.1 1 s.1.length (s.1.flatMap (cint .i64))), (9, .sl r9.length (r9.flatMap cbool)), (10, .int .i64 s.2.2)])) (fun r => (stpK (fun t0 => (.exit 2, [])) (fun u0 => (.ret, [(6, .bool false)])) r)) x) := by
  unfold l08_GraphReaches_l7_b
  refine sim_if (fun h22 => ?_) (fun h22 => ?_)
  · refine sim_bind (fun qh33 h33 => ?_)
    obtain ⟨v16, v16b, v17⟩ := qh33
    dsimp only
    have f34 := l08_GraphReaches_j6_ok p0 p2 r9 v10 v10b v11 _ h33
    dsimp only at f34
    refine sim_if (fun h35 => ?_) (fun h35 => ?_)
    · refine sim_some ?_
      try simp only [nz, nzIns, nzFun] at f34
      all_goals
        refine' (w_fgt (w_seq (w_seq (w_reg (w_cons ?_ (w_cons ?_ (w_cons ?_ (w_cons ?_ w_nil)))) ?_) (w_go (w_condt ?_ w_skip ?_))) (w_go (w_seq (w_block (w_seq f34 (w_go (w_condt ?_ (w_seq (w_reg (w_cons ?_ w_nil) ?_) (w_go w_ret)) ?_))) ?_) w_gor))) ?_)
        all_goals (first | (simp only [nz, rn, nzIns, nzFun, h22, h35, Int.reduceLT, Int.reduceEq, List.contains_cons, List.contains_nil, Option.map_some, Option.map_none, reduceIte, reduceCtorEq, Nat.reduceEqDiff, Nat.reduceLT, Nat.reduceBEq, Nat.reduceAdd, Nat.reduceMul, Nat.reduceLeDiff, Nat.reduceSub, Bool.false_eq_true]; try rfl) | skip)
    · refine sim_some ?_
      try simp only [nz, nzIns, nzFun] at f34
      all_goals
        refine' (w_fgt (w_seq (w_seq (w_reg (w_cons ?_ (w_cons ?_ (w_cons ?_ (w_cons ?_ w_nil)))) ?_) (w_go (w_condt ?_ w_skip ?_))) (w_go (w_seq (w_block (w_seq f34 (w_go (w_condf ?_ w_skip ?_))) ?_) (w_go (w_reg (w_cons ?_ (w_cons ?_ (w_cons ?_ w_nil))) ?_))))) ?_)
        all_goals (first | (simp only [nz, rn, nzIns, nzFun, h22, h35, Int.reduceLT, Int.reduceEq, List.contains_cons, List.contains_nil, Option.map_some, Option.map_none, reduceIte, reduceCtorEq, Nat.reduceEqDiff, Nat.reduceLT, Nat.reduceBEq, Nat.reduceAdd, Nat.reduceMul, Nat.reduceLeDiff, Nat.reduceSub, Bool.false_eq_true]; try rfl) | skip)
  · refine sim_some ?_
    refine' (w_fgt (w_seq (w_seq (w_reg (w_cons ?_ (w_cons ?_ (w_cons ?_ (w_cons ?_ w_nil)))) ?_) (w_go (w_condf ?_ (w_exit ?_) ?_))) w_gox) ?_)
    all_goals (first | (simp only [nz, rn, nzIns, nzFun, h22, Int.reduceLT, Int.reduceEq, List.contains_cons, List.contains_nil, Option.map_some, Option.map_none, reduceIte, reduceCtorEq, Nat.reduceEqDiff, Nat.reduceLT, Nat.reduceBEq, Nat.reduceAdd, Nat.reduceMul, Nat.reduceLeDiff, Nat.reduceSub, Bool.false_eq_true]; try rfl) | skip)
theorem l08_GraphReaches_l7_ok (p0 : Fun) (p2 : Int) (r9 : List Bool) (s : List Int × Bool × Int) : Sim (l08_GraphReaches_l7 p0 p2 r9 s) fun r => evX (evI T) (.loop x5_4 [2, 3, 7, 9, 10]) [(2, .int .i64 p2), (3, .box [.str p0.Name, .sl p0.Params.length (p0.Params.flatMap (cint .i64)), .int .i64 p0.Ret, .sl p0.Blocks.length (p0.Blocks.flatMap (csl cIns)), .int .i64 p0.At]), (7, eit s.2.1 1 s.1.length (s.1.flatMap (cint .i64))), (9, .sl r9.length (r9.flatMap cbool)), (10, .int .i64 s.2.2)] = some (stpK (fun t0 => (.exit 2, [])) (fun u0 => (.ret, [(6, .bool false)])) r) := by
  unfold l08_GraphReaches_l7
  exact loop_rule (C := evI T) (b := x5_4) (ks := [2, 3, 7, 9, 10]) (σ := List Int × Bool × Int) (ρ := Stp Unit Unit) (body := fun s => l08_GraphReaches_l7_b p0 p2 r9 s.1 s.2.1 s.2.2) (E := fun s => [(2, .int .i64 p2), (3, .box [.str p0.Name, .sl p0.Params.length (p0.Params.flatMap (cint .i64)), .int .i64 p0.Ret, .sl p0.Blocks.length (p0.Blocks.flatMap (csl cIns)), .int .i64 p0.At]), (7, eit s.2.1 1 s.1.length (s.1.flatMap (cint .i64))), (9, .sl r9.length (r9.flatMap cbool)), (10, .int .i64 s.2.2)]) (R := fun r => (stpK (fun t0 => (.exit 2, [])) (fun u0 => (.ret, [(6, .bool false)])) r)) (fun r h => by rcases r with _ | _ <;> cases h) (fun s => l08_GraphReaches_l7_bok p0 p2 r9 s.1 s.2.1 s.2.2) s
theorem l08_GraphReaches_ok (p0 : Fun) (p1 : List Int) (p2 : Int) : Sim (l08_GraphReaches p0 p1 p2) fun r => evI T 5 [.agg [.str p0.Name, .sl p0.Params.length (p0.Params.flatMap (cint .i64)), .int .i64 p0.Ret, .sl p0.Blocks.length (p0.Blocks.flatMap (csl cIns)), .int .i64 p0.At], .sl p1.length (p1.flatMap (cint .u8)), .int .i64 p2] = some (.bool r, [.none, .none, .none]) := by
  unfold l08_GraphReaches
  refine sim_bind (fun v2 h4 => ?_)
  have f5 := l08_GraphReaches_j1_ok p0 p1 p2 _ h4
  dsimp only at f5
  refine sim_if (fun h6 => ?_) (fun h6 => ?_)
  · have f7 := cw_ok
    refine sim_some ?_
    refine evI_ret (x := x5) rfl rfl rfl ?_
    try simp only [nz, nzIns, nzFun] at f5
    all_goals
      refine' (w_fn rfl rfl (w_seq (w_reg (w_cons ?_ (w_cons ?_ w_nil)) ?_) (w_go (w_seq (w_seq f5 (w_go (w_condt ?_ (w_seq (w_reg (w_cons ?_ (w_cons ?_ w_nil)) ?_) (w_go w_ret)) ?_))) w_gor))) ?_)
      all_goals (first | (simp only [x5, nz, rn, nzIns, nzFun, h6, f7, Int.reduceLT, Int.reduceEq, List.contains_cons, List.contains_nil, Option.map_some, Option.map_none, reduceIte, reduceCtorEq, Nat.reduceEqDiff, Nat.reduceLT, Nat.reduceBEq, Nat.reduceAdd, Nat.reduceMul, Nat.reduceLeDiff, Nat.reduceSub, Bool.false_eq_true]; try rfl) | skip)
  · refine sim_bind (fun v7 h15 => ?_)
    have f16 := l08_GraphReaches_l2_ok p0 p1 p2 ([], 0) _ h15
    dsimp only at f16
    refine sim_bind (fun r8 h17 => ?_)
    have f18 := graph_Succs_okN p0 _ h17
    dsimp only at f18
    refine sim_bind (fun r9 h19 => ?_)
    have f20 := graph_Reached_okN r8 v7 p2 _ h19
    dsimp only at f20
    refine sim_if (fun h21 => ?_) (fun h21 => ?_)
    · refine sim_some ?_
      refine evI_ret (x := x5) rfl rfl rfl ?_
      rcases own_cases v7 with rfl | o_v7
      · try simp only [nz, nzIns, nzFun] at f5
        try simp only [nz, nzIns, nzFun] at f16
        try simp only [nz, nzIns, nzFun] at f18
        try simp only [nz, nzIns, nzFun] at f20
        all_goals
          refine' (w_fn rfl rfl (w_seq (w_reg (w_cons ?_ (w_cons ?_ w_nil)) ?_) (w_go (w_seq (w_seq f5 (w_go (w_condf ?_ w_skip ?_))) (w_go (w_seq (w_reg (w_cons ?_ w_nil) ?_) (w_go (w_seq (w_seq (w_reg (w_cons ?_ w_nil) ?_) (w_go (w_block f16 ?_))) (w_go (w_seq (w_reg (w_cons ?_ (w_cons ?_ (w_cons ?_ (w_cons ?_ (w_cons ?_ (w_cons ?_ w_nil)))))) ?_) (w_go (w_seq (w_seq (w_reg (w_cons ?_ (w_cons ?_ (w_cons ?_ (w_cons ?_ (w_cons ?_ (w_cons ?_ w_nil)))))) ?_) (w_go (w_condt ?_ (w_seq (w_reg (w_cons ?_ w_nil) ?_) (w_go w_ret)) ?_))) w_gor))))))))))) ?_)
          all_goals (first | (simp only [x5, nz, rn, nzIns, nzFun, h6, f18, f20, h21, Int.reduceLT, Int.reduceEq, List.contains_cons, List.contains_nil, Option.map_some, Option.map_none, reduceIte, reduceCtorEq, Nat.reduceEqDiff, Nat.reduceLT, Nat.reduceBEq, Nat.reduceAdd, Nat.reduceMul, Nat.reduceLeDiff, Nat.reduceSub, Bool.false_eq_true]; try rfl) | skip)
      · try simp only [nz, nzIns, nzFun, o_v7] at f5
        try simp only [nz, nzIns, nzFun, o_v7] at f16
        try simp only [nz, nzIns, nzFun, o_v7] at f18
        try simp only [nz, nzIns, nzFun, o_v7] at f20
        all_goals
          refine' (w_fn rfl rfl (w_seq (w_reg (w_cons ?_ (w_cons ?_ w_nil)) ?_) (w_go (w_seq (w_seq f5 (w_go (w_condf ?_ w_skip ?_))) (w_go (w_seq (w_reg (w_cons ?_ w_nil) ?_) (w_go (w_seq (w_seq (w_reg (w_cons ?_ w_nil) ?_) (w_go (w_block f16 ?_))) (w_go (w_seq (w_reg (w_cons ?_ (w_cons ?_ (w_cons ?_ (w_cons ?_ (w_cons ?_ (w_cons ?_ w_nil)))))) ?_) (w_go (w_seq (w_seq (w_reg (w_cons ?_ (w_cons ?_ (w_cons ?_ (w_cons ?_ (w_cons ?_ (w_cons ?_ w_nil)))))) ?_) (w_go (w_condt ?_ (w_seq (w_reg (w_cons ?_ w_nil) ?_) (w_go w_ret)) ?_))) w_gor))))))))))) ?_)
          all_goals (first | (simp only [x5, nz, rn, nzIns, nzFun, h6, f18, f20, h21, o_v7, Int.reduceLT, Int.reduceEq, List.contains_cons, List.contains_nil, Option.map_some, Option.map_none, reduceIte, reduceCtorEq, Nat.reduceEqDiff, Nat.reduceLT, Nat.reduceBEq, Nat.reduceAdd, Nat.reduceMul, Nat.reduceLeDiff, Nat.reduceSub, Bool.false_eq_true]; try rfl) | skip)
    · refine sim_bind (fun qh36 h36 => ?_)
      rcases qh36 with ⟨_⟩ | ⟨_⟩
      · dsimp only
        have f37 := l08_GraphReaches_l7_ok p0 p2 r9 (v7, (!v7.isEmpty), 0) _ h36
        dsimp only at f37
        have f38 := cw_ok
        refine sim_some ?_
        refine evI_ret (x := x5) rfl rfl rfl ?_
        rcases own_cases v7 with rfl | o_v7
        · try simp only [nz, nzIns, nzFun] at f5
          try simp only [nz, nzIns, nzFun] at f16
          try simp only [nz, nzIns, nzFun] at f18
          try simp only [nz, nzIns, nzFun] at f20
          try simp only [nz, nzIns, nzFun] at f37
          all_goals
            refine' (w_fn rfl rfl (w_seq (w_reg (w_cons ?_ (w_cons ?_ w_nil)) ?_) (w_go (w_seq (w_seq f5 (w_go (w_condf ?_ w_skip ?_))) (w_go (w_seq (w_reg (w_cons ?_ w_nil) ?_) (w_go (w_seq (w_seq (w_reg (w_cons ?_ w_nil) ?_) (w_go (w_block f16 ?_))) (w_go (w_seq (w_reg (w_cons ?_ (w_cons ?_ (w_cons ?_ (w_cons ?_ (w_cons ?_ (w_cons ?_ w_nil)))))) ?_) (w_go (w_seq (w_seq (w_reg (w_cons ?_ (w_cons ?_ (w_cons ?_ (w_cons ?_ (w_cons ?_ (w_cons ?_ w_nil)))))) ?_) (w_go (w_condf ?_ w_skip ?_))) (w_go (w_seq (w_seq (w_reg (w_cons ?_ w_nil) ?_) (w_go (w_block f37 ?_))) (w_go (w_seq (w_reg (w_cons ?_ (w_cons ?_ w_nil)) ?_) (w_go w_ret)))))))))))))))) ?_)
            all_goals (first | (simp only [x5, nz, rn, nzIns, nzFun, h6, f18, f20, h21, f38, Int.reduceLT, Int.reduceEq, List.contains_cons, List.contains_nil, Option.map_some, Option.map_none, reduceIte, reduceCtorEq, Nat.reduceEqDiff, Nat.reduceLT, Nat.reduceBEq, Nat.reduceAdd, Nat.reduceMul, Nat.reduceLeDiff, Nat.reduceSub, Bool.false_eq_true]; try rfl) | skip)
        · try simp only [nz, nzIns, nzFun, o_v7] at f5
          try simp only [nz, nzIns, nzFun, o_v7] at f16
          try simp only [nz, nzIns, nzFun, o_v7] at f18
          try simp only [nz, nzIns, nzFun, o_v7] at f20
          try simp only [nz, nzIns, nzFun, o_v7] at f37
          all_goals
            refine' (w_fn rfl rfl (w_seq (w_reg (w_cons ?_ (w_cons ?_ w_nil)) ?_) (w_go (w_seq (w_seq f5 (w_go (w_condf ?_ w_skip ?_))) (w_go (w_seq (w_reg (w_cons ?_ w_nil) ?_) (w_go (w_seq (w_seq (w_reg (w_cons ?_ w_nil) ?_) (w_go (w_block f16 ?_))) (w_go (w_seq (w_reg (w_cons ?_ (w_cons ?_ (w_cons ?_ (w_cons ?_ (w_cons ?_ (w_cons ?_ w_nil)))))) ?_) (w_go (w_seq (w_seq (w_reg (w_cons ?_ (w_cons ?_ (w_cons ?_ (w_cons ?_ (w_cons ?_ (w_cons ?_ w_nil)))))) ?_) (w_go (w_condf ?_ w_skip ?_))) (w_go (w_seq (w_seq (w_reg (w_cons ?_ w_nil) ?_) (w_go (w_block f37 ?_))) (w_go (w_seq (w_reg (w_cons ?_ (w_cons ?_ w_nil)) ?_) (w_go w_ret)))))))))))))))) ?_)
            all_goals (first | (simp only [x5, nz, rn, nzIns, nzFun, h6, f18, f20, h21, f38, o_v7, Int.reduceLT, Int.reduceEq, List.contains_cons, List.contains_nil, Option.map_some, Option.map_none, reduceIte, reduceCtorEq, Nat.reduceEqDiff, Nat.reduceLT, Nat.reduceBEq, Nat.reduceAdd, Nat.reduceMul, Nat.reduceLeDiff, Nat.reduceSub, Bool.false_eq_true]; try rfl) | skip)
      · dsimp only
        have f37 := l08_GraphReaches_l7_ok p0 p2 r9 (v7, (!v7.isEmpty), 0) _ h36
        dsimp only at f37
        refine sim_some ?_
        refine evI_ret (x := x5) rfl rfl rfl ?_
        rcases own_cases v7 with rfl | o_v7
        · try simp only [nz, nzIns, nzFun] at f5
          try simp only [nz, nzIns, nzFun] at f16
          try simp only [nz, nzIns, nzFun] at f18
          try simp only [nz, nzIns, nzFun] at f20
          try simp only [nz, nzIns, nzFun] at f37
          all_goals
            refine' (w_fn rfl rfl (w_seq (w_reg (w_cons ?_ (w_cons ?_ w_nil)) ?_) (w_go (w_seq (w_seq f5 (w_go (w_condf ?_ w_skip ?_))) (w_go (w_seq (w_reg (w_cons ?_ w_nil) ?_) (w_go (w_seq (w_seq (w_reg (w_cons ?_ w_nil) ?_) (w_go (w_block f16 ?_))) (w_go (w_seq (w_reg (w_cons ?_ (w_cons ?_ (w_cons ?_ (w_cons ?_ (w_cons ?_ (w_cons ?_ w_nil)))))) ?_) (w_go (w_seq (w_seq (w_reg (w_cons ?_ (w_cons ?_ (w_cons ?_ (w_cons ?_ (w_cons ?_ (w_cons ?_ w_nil)))))) ?_) (w_go (w_condf ?_ w_skip ?_))) (w_go (w_seq (w_seq (w_reg (w_cons ?_ w_nil) ?_) (w_go (w_block f37 ?_))) w_gor))))))))))))) ?_)
            all_goals (first | (simp only [x5, nz, rn, nzIns, nzFun, h6, f18, f20, h21, Int.reduceLT, Int.reduceEq, List.contains_cons, List.contains_nil, Option.map_some, Option.map_none, reduceIte, reduceCtorEq, Nat.reduceEqDiff, Nat.reduceLT, Nat.reduceBEq, Nat.reduceAdd, Nat.reduceMul, Nat.reduceLeDiff, Nat.reduceSub, Bool.false_eq_true]; try rfl) | skip)
        · try simp only [nz, nzIns, nzFun, o_v7] at f5
          try simp only [nz, nzIns, nzFun, o_v7] at f16
          try simp only [nz, nzIns, nzFun, o_v7] at f18
          try simp only [nz, nzIns, nzFun, o_v7] at f20
          try simp only [nz, nzIns, nzFun, o_v7] at f37
          all_goals
            refine' (w_fn rfl rfl (w_seq (w_reg (w_cons ?_ (w_cons ?_ w_nil)) ?_) (w_go (w_seq (w_seq f5 (w_go (w_condf ?_ w_skip ?_))) (w_go (w_seq (w_reg (w_cons ?_ w_nil) ?_) (w_go (w_seq (w_seq (w_reg (w_cons ?_ w_nil) ?_) (w_go (w_block f16 ?_))) (w_go (w_seq (w_reg (w_cons ?_ (w_cons ?_ (w_cons ?_ (w_cons ?_ (w_cons ?_ (w_cons ?_ w_nil)))))) ?_) (w_go (w_seq (w_seq (w_reg (w_cons ?_ (w_cons ?_ (w_cons ?_ (w_cons ?_ (w_cons ?_ (w_cons ?_ w_nil)))))) ?_) (w_go (w_condf ?_ w_skip ?_))) (w_go (w_seq (w_seq (w_reg (w_cons ?_ w_nil) ?_) (w_go (w_block f37 ?_))) w_gor))))))))))))) ?_)
            all_goals (first | (simp only [x5, nz, rn, nzIns, nzFun, h6, f18, f20, h21, o_v7, Int.reduceLT, Int.reduceEq, List.contains_cons, List.contains_nil, Option.map_some, Option.map_none, reduceIte, reduceCtorEq, Nat.reduceEqDiff, Nat.reduceLT, Nat.reduceBEq, Nat.reduceAdd, Nat.reduceMul, Nat.reduceLeDiff, Nat.reduceSub, Bool.false_eq_true]; try rfl) | skip)
theorem l08_GraphReaches_okN (p0 : Fun) (p1 : List Int) (p2 : Int) : Sim (l08_GraphReaches p0 p1 p2) fun r => ∀ ws, ws.map normA = [.agg [.str p0.Name, .sl p0.Params.length (p0.Params.flatMap (cint .i64)), .int .i64 p0.Ret, .sl p0.Blocks.length (p0.Blocks.flatMap (csl cIns)), .int .i64 p0.At], .sl p1.length (p1.flatMap (cint .u8)), .int .i64 p2] → evI T 5 ws = some (.bool r, [.none, .none, .none]) := fun r h => evI_okN (x := x5) rfl rfl rfl (l08_GraphReaches_ok p0 p1 p2 r h)
end Go.Ab

/-
  Loops and numbers: plain laws.
-/
namespace Go.Ab
open Go
set_option linter.unusedVariables false
set_option linter.unusedSimpArgs false

/-- total correctness of a loop -/
theorem runL_inv {σ ρ : Type} {body : σ → Option (Stp σ ρ)} (I : σ → Prop) (Q : ρ → Prop) (μ : σ → Nat)
    (h : ∀ s, I s → (∃ r, body s = some (.stop r) ∧ Q r) ∨ ∃ s', body s = some (.next s') ∧ I s' ∧ μ s' < μ s) : ∀ s, I s → ∃ r, runL body s = some r ∧ Q r := by
  intro s
  induction hn : μ s using Nat.strongRecOn generalizing s with
  | ind n ih =>
    intro hs
    rw [runL_eq]
    rcases h s hs with ⟨r, hb, hq⟩ | ⟨s', hb, hi, hm⟩
    · exact ⟨r, by rw [hb]; rfl, hq⟩
    · obtain ⟨r, hr, hq⟩ := ih (μ s') (by omega) s' rfl hi
      exact ⟨r, by rw [hb]; exact hr, hq⟩

theorem wr64 {x : Int} (h1 : -9223372036854775808 ≤ x) (h2 : x ≤ 9223372036854775807) : IntKind.wrap .i64 x = x := wrap_id h1 (by omega)

theorem ofInt_toNat {a : Nat} (h : a < 9223372036854775808) : (BitVec.ofInt 64 (a : Int)).toNat = a := by
  rw [BitVec.toNat_ofInt]
  have : ((a : Int) % ((2 ^ 64 : Nat) : Int)) = a := Int.emod_eq_of_lt (by omega) (by omega)
  rw [this]; rfl

theorem bAnd64 {a b : Nat} (ha : a < 9223372036854775808) (hb : b < 9223372036854775808) : bAnd .i64 a b = ((a &&& b : Nat) : Int) := by
  have h1 := ofInt_toNat ha
  have h2 := ofInt_toNat hb
  unfold bAnd
  show IntKind.wrap .i64 (((BitVec.ofInt 64 (a : Int)) &&& (BitVec.ofInt 64 (b : Int))).toNat : Int) = _
  rw [BitVec.toNat_and, h1, h2]
  have : a &&& b ≤ a := Nat.and_le_left
  exact wr64 (by omega) (by omega)

theorem bOr64 {a b : Nat} (ha : a < 4611686018427387904) (hb : b < 4611686018427387904) : bOr .i64 a b = ((a ||| b : Nat) : Int) := by
  have h1 := ofInt_toNat (a := a) (by omega)
  have h2 := ofInt_toNat (a := b) (by omega)
  unfold bOr
  show IntKind.wrap .i64 (((BitVec.ofInt 64 (a : Int)) ||| (BitVec.ofInt 64 (b : Int))).toNat : Int) = _
  rw [BitVec.toNat_or, h1, h2]
  have : a ||| b < 2 ^ 62 := Nat.or_lt_two_pow (by omega) (by omega)
  exact wr64 (by omega) (by omega)
end Go.Ab

/-
  Loops: more plain laws.
-/
namespace Go.Ab
open Go
set_option linter.unusedVariables false
set_option linter.unusedSimpArgs false

theorem runN_congr {σ ρ : Type} {b1 b2 : σ → Option (Stp σ ρ)} (I : σ → Prop) (h : ∀ s, I s → b1 s = b2 s ∧ ∀ s', b1 s = some (.next s') → I s') : ∀ (n : Nat) (s : σ), I s → runN b1 n s = runN b2 n s
  | 0, _, _ => rfl
  | n + 1, s, hs => by
    simp only [runN]
    have := h s hs
    rw [← this.1]
    split
    · rename_i s' e; exact runN_congr I h n s' (this.2 s' e)
    · rfl
    · rfl
theorem runL_congr {σ ρ : Type} {b1 b2 : σ → Option (Stp σ ρ)} (I : σ → Prop) (h : ∀ s, I s → b1 s = b2 s ∧ ∀ s', b1 s = some (.next s') → I s') (s : σ) (hs : I s) : runL b1 s = runL b2 s := ext_some fun r => by
  rw [runL_some, runL_some]
  constructor
  · rintro ⟨n, hn⟩; exact ⟨n, by rw [← runN_congr I h n s hs]; exact hn⟩
  · rintro ⟨n, hn⟩; exact ⟨n, by rw [runN_congr I h n s hs]; exact hn⟩
/-- a loop whose number goes up to another -/
theorem runL_up {σ ρ : Type} {body : σ → Option (Stp σ ρ)} (N : Nat) (idx : σ → Int) (I : σ → Prop) (Q : ρ → Prop)
    (h : ∀ s, I s → 0 ≤ idx s → idx s ≤ N → (∃ r, body s = some (.stop r) ∧ Q r) ∨ ∃ s', body s = some (.next s') ∧ I s' ∧ idx s' = idx s + 1 ∧ idx s' ≤ N) (s : σ) (hs : I s) (h0 : 0 ≤ idx s) (h1 : idx s ≤ N) : ∃ r, runL body s = some r ∧ Q r :=
  runL_inv (fun s => I s ∧ 0 ≤ idx s ∧ idx s ≤ N) Q (fun s => (N - idx s).toNat) (fun s ⟨hI, h0, h1⟩ => by
    rcases h s hI h0 h1 with hr | ⟨s', hb, hI', hi, hN⟩
    · exact .inl hr
    · exact .inr ⟨s', hb, ⟨hI', by omega, hN⟩, by omega⟩) s ⟨hs, h0, h1⟩
theorem ix_of_lt {α : Type} {xs : List α} {i : Int} (h0 : 0 ≤ i) (h1 : i < xs.length) : ∃ x, ix xs i = some x ∧ xs[i.toNat]? = some x := by
  have : i.toNat < xs.length := by omega
  refine ⟨xs[i.toNat], ?_, by simp [this]⟩
  simp only [ix, if_pos h0, List.getElem?_eq_getElem this]
theorem wr1 {i : Int} (h0 : 0 ≤ i) (h1 : i < 140737488355328) : IntKind.wrap .i64 (i + 1) = i + 1 := wr64 (by omega) (by omega)
/-- what a list has from a place on -/
theorem drop_step {α : Type} {xs : List α} {i : Nat} {x : α} (h : xs[i]? = some x) : xs.drop i = x :: xs.drop (i + 1) := by
  obtain ⟨hl, rfl⟩ := List.getElem?_eq_some_iff.1 h
  rw [List.drop_eq_getElem_cons hl]
end Go.Ab

/-
  Shapes: plain laws.
-/
namespace Go.Ab
open Go
set_option linter.unusedVariables false
set_option linter.unusedSimpArgs false
set_option maxRecDepth 10000

def outOf (n : Nat) (b : Int) : Bool := decide (b < 0) || decide ((n : Int) ≤ b)
theorem l115_eq {f : Fun} {k i : Int} {code : List Ins} {x : Ins} (hk : ix f.Blocks k = some code) (hi : ix code i = some x) (hl : x.To.length < 140737488355328) :
    r08_Shaped_l115 f k code i x 0 = some (if (x.Op != 20) && x.To.any (outOf f.Blocks.length) then .stop () else .next ()) := by
  have key : ∃ r, r08_Shaped_l115 f k code i x 0 = some r ∧ r = (if (x.Op != 20) && x.To.any (outOf f.Blocks.length) then .stop () else .next ()) := by
    refine runL_up x.To.length (fun s => s) (fun s => (x.Op != 20) = true → (x.To.take s.toNat).any (outOf f.Blocks.length) = false) _ (fun s hI h0 h1 => ?_) 0 (by simp) (by decide) (by omega)
    unfold r08_Shaped_l115_b r08_Shaped_j114
    cases hop : (x.Op != 20) with
    | false => left; exact ⟨.next (), by simp, by simp⟩
    | true =>
      by_cases hlt : s < x.To.length
      · obtain ⟨b, hb, hb'⟩ := ix_of_lt h0 hlt
        have hstep : (x.To.take (s.toNat + 1)).any (outOf f.Blocks.length) = outOf f.Blocks.length b := by
          rw [List.take_add_one, hb', List.any_append, hI hop]; simp
        simp only [hlt, decide_true, Bool.and_self, if_true, hb, Option.bind_some]
        have hval : (if decide (b < 0) = true then some true else some (decide ((f.Blocks.length : Int) ≤ b))) = some (outOf f.Blocks.length b) := by
          unfold outOf; by_cases h : b < 0 <;> simp [h]
        rw [hval]
        simp only [Option.bind_some]
        cases ho : outOf f.Blocks.length b with
        | true =>
          left
          refine ⟨.stop (), rfl, ?_⟩
          have : x.To.any (outOf f.Blocks.length) = true := by rw [List.any_eq_true]; exact ⟨b, List.mem_of_getElem? hb', ho⟩
          simp [this]
        | false =>
          right
          refine ⟨s + 1, by rw [wr1 h0 (by omega)]; rfl, fun _ => ?_, rfl, by omega⟩
          rw [show (s + 1).toNat = s.toNat + 1 by omega, hstep, ho]
      · left
        have h2 := hI hop
        have : x.To.take s.toNat = x.To := List.take_of_length_le (by omega)
        rw [this] at h2
        exact ⟨.next (), by simp [hlt], by simp [h2]⟩
  obtain ⟨r, hr, rfl⟩ := key
  exact hr
end Go.Ab

/-
  What follows what: plain laws.
-/
namespace Go.Ab
open Go
set_option linter.unusedVariables false
set_option linter.unusedSimpArgs false
set_option maxRecDepth 10000

/-- a loop that looks for something -/
theorem search_loop {α ρ : Type} {xs : List α} (hl : xs.length < 140737488355328) (p : α → Bool) (g : Int → ρ) {body : Int → Option (Stp Int (Stp Unit ρ))}
    (hb : ∀ i x, 0 ≤ i → ix xs i = some x → body i = some (if p x then .stop (.stop (g i)) else .next (IntKind.wrap .i64 (i + 1)))) (he : ∀ i : Int, ¬ i < (xs.length : Int) → body i = some (.stop (.next ()))) :
    ∃ r, runL body 0 = some r ∧ ((r = .next () ∧ xs.any p = false) ∨ ∃ i, 0 ≤ i ∧ r = .stop (g i) ∧ xs.any p = true) := by
  refine runL_up xs.length (fun s => s) (fun s => (xs.take s.toNat).any p = false) _ (fun s hI h0 h1 => ?_) 0 (by simp) (by decide) (by omega)
  by_cases hlt : s < xs.length
  · obtain ⟨x, hx, hx'⟩ := ix_of_lt h0 hlt
    have hstep : (xs.take (s.toNat + 1)).any p = p x := by
      rw [List.take_add_one, hx', List.any_append, hI]; simp
    rw [hb s x h0 hx]
    cases ho : p x with
    | true => exact .inl ⟨_, rfl, .inr ⟨s, h0, rfl, by rw [List.any_eq_true]; exact ⟨x, List.mem_of_getElem? hx', ho⟩⟩⟩
    | false => exact .inr ⟨s + 1, by rw [wr1 h0 (by omega)]; rfl, by rw [show (s + 1).toNat = s.toNat + 1 by omega, hstep, ho], rfl, by omega⟩
  · have : xs.take s.toNat = xs := List.take_of_length_le (by omega)
    rw [this] at hI
    exact .inl ⟨.next (), he s hlt, .inl ⟨rfl, hI⟩⟩
/-- a loop of which the state is known ahead of each round -/
theorem loop_fn {σ ρ : Type} (N : Nat) (hN : N < 140737488355328) (G : Nat → σ) {body : σ × Int → Option (Stp (σ × Int) ρ)} {fin : ρ}
    (hb : ∀ i : Nat, i < N → body (G i, (i : Int)) = some (.next (G (i + 1), IntKind.wrap .i64 ((i : Int) + 1)))) (he : body (G N, (N : Int)) = some (.stop fin)) : runL body (G 0, 0) = some fin := by
  obtain ⟨r, hr, rfl⟩ := runL_up (body := body) N (fun s => s.2) (fun s => s = (G s.2.toNat, s.2)) (fun r => r = fin) (fun s hI h0 h1 => by
    rw [hI]
    simp only at h0 h1 ⊢
    by_cases hlt : s.2 < N
    · right
      have := hb s.2.toNat (by omega)
      rw [show ((s.2.toNat : Nat) : Int) = s.2 by omega] at this
      refine ⟨_, this, ?_, ?_, ?_⟩
      · simp only [wr1 h0 (show s.2 < 140737488355328 by omega), show (s.2 + 1).toNat = s.2.toNat + 1 by omega]
      · simp only [wr1 h0 (show s.2 < 140737488355328 by omega)]
      · simp only [wr1 h0 (show s.2 < 140737488355328 by omega)]; omega
    · left
      have h2 : s.2 = N := by omega
      exact ⟨fin, by rw [h2]; simpa using he, rfl⟩) (G 0, 0) (by simp) (by simp) (by simp)
  exact hr
theorem Has_eq {l : List Int} (hl : l.length < 140737488355328) (n : Int) : r08_Has l n = some (l.contains n) := by
  obtain ⟨r, hr, h⟩ := search_loop hl (fun x => x == n) (fun _ => ()) (body := fun s => r08_Has_l1_b l n s) (fun i x h0 hx => by
    have := (ix_lt hx).2
    simp only [r08_Has_l1_b, this, decide_true, if_true, hx, Option.bind_some]
    cases (x == n) <;> rfl) (fun i hi => by simp [r08_Has_l1_b, hi])
  have e : l.any (fun x => x == n) = l.contains n := by
    rw [List.contains_eq_any_beq]; congr 1; funext x; rw [Bool.beq_comm]
  rw [e] at h
  unfold r08_Has r08_Has_l1
  rw [hr]
  rcases h with ⟨rfl, h⟩ | ⟨i, _, rfl, h⟩ <;> rw [h] <;> rfl
theorem Contains_eq' {l : List Int} (hl : l.length < 140737488355328) (n : Int) : slices_Contains_intint l n = some (l.contains n) := by
  obtain ⟨r, hr, h⟩ := search_loop hl (fun x => n == x) (fun i => i) (body := fun s => slices_Index_intint_l1_b l n s) (fun i x h0 hx => by
    have := (ix_lt hx).2
    simp only [slices_Index_intint_l1_b, this, decide_true, if_true, hx, Option.bind_some]
    cases (n == x) <;> rfl) (fun i hi => by simp [slices_Index_intint_l1_b, hi])
  have e : l.any (fun x => n == x) = l.contains n := by rw [List.contains_eq_any_beq]
  rw [e] at h
  unfold slices_Contains_intint slices_Index_intint slices_Index_intint_l1
  rw [hr]
  rcases h with ⟨rfl, h⟩ | ⟨i, h0, rfl, h⟩ <;> rw [h]
  · rfl
  · simp [h0]
theorem Ints_self {l : List Int} (hl : l.length < 140737488355328) : r05_Ints l l = some true := by
  obtain ⟨r, hr, h⟩ := search_loop hl (fun _ => false) (fun _ => ()) (body := fun s => r05_Ints_l1_b l l s) (fun i x h0 hx => by
    have := (ix_lt hx).2
    simp [r05_Ints_l1_b, this, hx]) (fun i hi => by simp [r05_Ints_l1_b, hi])
  unfold r05_Ints r05_Ints_l1
  rw [hr]
  rcases h with ⟨rfl, h⟩ | ⟨i, h0, rfl, h⟩
  · simp
  · simp at h
theorem Lists_self {l : List (List Int)} (hl : l.length < 140737488355328) (hi : ∀ x ∈ l, x.length < 140737488355328) : r08_Lists l l = some true := by
  obtain ⟨r, hr, h⟩ := search_loop hl (fun _ => false) (fun _ => ()) (body := fun s => r08_Lists_l1_b l l s) (fun i x h0 hx => by
    have := (ix_lt hx).2
    simp [r08_Lists_l1_b, this, hx, Ints_self (hi x (List.mem_of_getElem? (ix_get hx)))]) (fun i hi => by simp [r08_Lists_l1_b, hi])
  unfold r08_Lists r08_Lists_l1
  rw [hr]
  rcases h with ⟨rfl, h⟩ | ⟨i, h0, rfl, h⟩
  · simp
  · simp at h

/-! ### lists without what stands twice -/
def dd : List Int → List Int → List Int
  | acc, [] => acc
  | acc, x :: xs => dd (if acc.contains x then acc else acc ++ [x]) xs
theorem dd_snoc (x : Int) : ∀ (l acc : List Int), dd acc (l ++ [x]) = if (dd acc l).contains x then dd acc l else dd acc l ++ [x]
  | [], acc => rfl
  | y :: l, acc => dd_snoc x l _
theorem dd_mem (x : Int) : ∀ (l acc : List Int), x ∈ dd acc l ↔ x ∈ acc ∨ x ∈ l
  | [], acc => by simp [dd]
  | y :: l, acc => by
    rw [dd, dd_mem x l]
    by_cases h : acc.contains y = true
    · rw [if_pos h]
      have : y ∈ acc := by simpa using h
      constructor
      · rintro (h | h)
        · exact .inl h
        · exact .inr (by simp [h])
      · rintro (h | h)
        · exact .inl h
        · rcases List.mem_cons.1 h with rfl | h
          · exact .inl this
          · exact .inr h
    · rw [if_neg h]; simp [or_assoc]
theorem dd_nodup : ∀ (l acc : List Int), acc.Nodup → (dd acc l).Nodup
  | [], acc, h => h
  | y :: l, acc, h => by
    rw [dd]
    apply dd_nodup
    by_cases hc : acc.contains y = true
    · rw [if_pos hc]; exact h
    · rw [if_neg hc]
      rw [List.nodup_append]
      refine ⟨h, by simp, fun a ha b hb => ?_⟩
      simp only [List.mem_singleton] at hb
      rintro rfl
      subst hb
      exact hc (by simpa using ha)
theorem dd_len : ∀ (l acc : List Int), (dd acc l).length ≤ acc.length + l.length
  | [], acc => by simp [dd]
  | y :: l, acc => by
    rw [dd]
    by_cases hc : acc.contains y = true
    · rw [if_pos hc]
      have := dd_len l acc
      simp; omega
    · rw [if_neg hc]
      have := dd_len l (acc ++ [y])
      simp at this ⊢; omega

/-- what is known of a function behind Light -/
structure Wf (f : Fun) : Prop where
  n0 : 0 < f.Blocks.length
  n1 : f.Blocks.length ≤ 24
  blk : ∀ k (hk : k < f.Blocks.length), ∃ x, f.Blocks[k] ≠ [] ∧ f.Blocks[k].length < 140737488355328 ∧ f.Blocks[k].getLast? = some x ∧ x.To.length ≤ 30 ∧ ∀ b ∈ x.To, 0 ≤ b ∧ b < f.Blocks.length
def lastTo (f : Fun) (k : Nat) : List Int := match f.Blocks[k]? with
  | some code => match code.getLast? with
    | some x => x.To
    | Option.none => []
  | Option.none => []
def nxt (f : Fun) (k : Nat) : List Int := dd [] (lastTo f k)
section
variable {f : Fun}
theorem last_ix {code : List Ins} {x : Ins} (hl : code.length < 140737488355328) (h : code.getLast? = some x) : ix code (IntKind.wrap .i64 ((code.length : Int) - 1)) = some x := by
  have hne : code ≠ [] := by rintro rfl; simp at h
  have hp : 0 < code.length := List.length_pos_iff.2 hne
  rw [wr64 (by omega) (by omega)]
  rw [List.getLast?_eq_getElem?] at h
  rw [ix, if_pos (by omega)]
  rw [← h]; congr 1; omega
theorem Wf.get (W : Wf f) {k : Nat} (hk : k < f.Blocks.length) : ∃ code x, ix f.Blocks (k : Int) = some code ∧ ix code (IntKind.wrap .i64 ((code.length : Int) - 1)) = some x ∧ x.To = lastTo f k ∧ x.To.length ≤ 30 ∧ ∀ b ∈ x.To, 0 ≤ b ∧ b < f.Blocks.length := by
  obtain ⟨x, hne, hlen, hlast, h1, h2⟩ := W.blk k hk
  refine ⟨f.Blocks[k], x, ?_, last_ix hlen hlast, ?_, h1, h2⟩
  · rw [ix, if_pos (by omega)]; simp [hk]
  · simp [lastTo, hk, hlast]
theorem Wf.to_len (W : Wf f) (k : Nat) : (lastTo f k).length ≤ 30 := by
  by_cases hk : k < f.Blocks.length
  · obtain ⟨_, x, _, _, h, h1, _⟩ := W.get hk
    rw [← h]; exact h1
  · simp [lastTo, hk]
theorem Wf.nxt_len (W : Wf f) (k : Nat) : (nxt f k).length ≤ 30 := by
  have := dd_len (lastTo f k) []
  have := W.to_len k
  simp at *
  unfold nxt
  omega
theorem Wf.nxt_lt (W : Wf f) {k : Nat} {b : Int} (h : b ∈ nxt f k) : 0 ≤ b ∧ b < f.Blocks.length := by
  rw [nxt, dd_mem] at h
  have h : b ∈ lastTo f k := by simpa using h
  by_cases hk : k < f.Blocks.length
  · obtain ⟨_, x, _, _, h3, _, h4⟩ := W.get hk
    exact h4 b (by rw [h3]; exact h)
  · simp [lastTo, hk] at h
theorem dd_take (l : List Int) (i : Nat) (x : Int) (h : l[i]? = some x) : dd [] (l.take (i + 1)) = if (dd [] (l.take i)).contains x then dd [] (l.take i) else dd [] (l.take i) ++ [x] := by
  rw [List.take_add_one, h]
  exact dd_snoc x _ _
theorem ddt_len (l : List Int) (i : Nat) : (dd [] (l.take i)).length ≤ l.length := by
  have := dd_len (l.take i) []
  simp at this
  omega
theorem ix_nat {α : Type} {xs : List α} {i : Nat} (h : i < xs.length) : ix xs (i : Int) = some xs[i] := by
  rw [ix, if_pos (by omega)]; simp [h]
theorem app_ok {α : Type} {xs ys : List α} {b : Nat} (h : (xs.length + ys.length) * b ≤ 1099511627776) (h2 : xs.length + ys.length ≤ 1099511627776) : app xs ys b = some (xs ++ ys) := by
  unfold app; rw [if_pos ⟨h, h2⟩]
theorem Next_eq (W : Wf f) {k : Nat} (hk : k < f.Blocks.length) : r08_Next f k = some (nxt f k) := by
  obtain ⟨code, x, h1, h2, h3, h4, h5⟩ := W.get hk
  unfold r08_Next
  rw [h1]
  simp only [Option.bind_some, h2]
  have : r08_Next_l5 x ([], 0) = some (dd [] x.To) := by
    refine loop_fn x.To.length (by omega) (fun i => dd [] (x.To.take i)) (fun i hi => ?_) ?_
    · have hl := ddt_len x.To i
      simp only [r08_Next_l5_b, show (i : Int) < (x.To.length : Int) by omega, decide_true, if_true, ix_nat hi, Option.bind_some, Has_eq (show (dd [] (x.To.take i)).length < 140737488355328 by omega), r08_Next_j4]
      rw [dd_take x.To i _ (List.getElem?_eq_getElem hi)]
      cases (dd [] (x.To.take i)).contains x.To[i] with
      | true => rfl
      | false =>
        rw [app_ok (by simp; omega) (by simp; omega)]; rfl
    · simp [r08_Next_l5_b]
  rw [this, h3]; rfl
def succs (f : Fun) : List (List Int) := (List.range f.Blocks.length).map (nxt f)
theorem rSuccs_eq (W : Wf f) : r08_Succs f = some (succs f) := by
  have h24 := W.n1
  have : r08_Succs_l1 f ([], 0) = some (succs f) := by
    refine loop_fn f.Blocks.length (by omega) (fun i => (List.range i).map (nxt f)) (fun i hi => ?_) ?_
    · simp only [r08_Succs_l1_b, show (i : Int) < (f.Blocks.length : Int) by omega, decide_true, if_true, Next_eq W hi, Option.bind_some]
      rw [app_ok (by simp; omega) (by simp; omega), List.range_succ]
      simp
    · simp [r08_Succs_l1_b, succs]
  unfold r08_Succs
  rw [this]; rfl
theorem set_mid {α : Type} (a b : List α) (x y : α) : (a ++ x :: b).set a.length y = a ++ y :: b := by simp
theorem gSuccs_eq (W : Wf f) : graph_Succs f = some (succs f) := by
  have h24 := W.n1
  unfold graph_Succs
  have hmk : mk (f.Blocks.length : Int) 24 ([] : List Int) = some (List.replicate f.Blocks.length []) := by
    unfold mk; rw [if_pos ⟨by omega, by simp; omega, by simp; omega⟩]; simp
  rw [hmk]
  simp only [Option.bind_some]
  have : graph_Succs_l21 f (List.replicate f.Blocks.length [], 0) = some (succs f) := by
    have := loop_fn f.Blocks.length (by omega) (fun k => (List.range k).map (nxt f) ++ List.replicate (f.Blocks.length - k) []) (body := fun s => graph_Succs_l21_b f s.1 s.2) (fin := succs f) (fun k hk => ?_) ?_
    · unfold graph_Succs_l21; simpa using this
    · obtain ⟨code, x, h1, h2, h3, h4, h5⟩ := W.get hk
      simp only [graph_Succs_l21_b, show (k : Int) < (f.Blocks.length : Int) by omega, decide_true, if_true, h1, Option.bind_some, h2]
      have hrep : List.replicate (f.Blocks.length - k) ([] : List Int) = [] :: List.replicate (f.Blocks.length - (k + 1)) [] := by
        rw [show f.Blocks.length - k = (f.Blocks.length - (k + 1)) + 1 by omega, List.replicate_succ]
      have hin : graph_Succs_l20 f k code x ((List.range k).map (nxt f) ++ List.replicate (f.Blocks.length - k) [], 0) = some ((List.range (k + 1)).map (nxt f) ++ List.replicate (f.Blocks.length - (k + 1)) []) := by
        have := loop_fn x.To.length (by omega) (fun i => (List.range k).map (nxt f) ++ dd [] (x.To.take i) :: List.replicate (f.Blocks.length - (k + 1)) []) (body := fun s => graph_Succs_l20_b f k code x s.1 s.2) (fin := (List.range (k + 1)).map (nxt f) ++ List.replicate (f.Blocks.length - (k + 1)) []) (fun i hi => ?_) ?_
        · rw [hrep]; unfold graph_Succs_l20; simpa [dd] using this
        · have hl := ddt_len x.To i
          have hix : ix ((List.range k).map (nxt f) ++ dd [] (x.To.take i) :: List.replicate (f.Blocks.length - (k + 1)) []) (k : Int) = some (dd [] (x.To.take i)) := by
            rw [ix, if_pos (by omega)]; simp
          simp only [graph_Succs_l20_b, show (i : Int) < (x.To.length : Int) by omega, decide_true, if_true, ix_nat hi, Option.bind_some, hix, Contains_eq' (show (dd [] (x.To.take i)).length < 140737488355328 by omega), graph_Succs_j19]
          rw [dd_take x.To i _ (List.getElem?_eq_getElem hi)]
          cases (dd [] (x.To.take i)).contains x.To[i] with
          | true => rfl
          | false =>
            rw [app_ok (by simp; omega) (by simp; omega)]
            have := set_mid ((List.range k).map (nxt f)) (List.replicate (f.Blocks.length - (k + 1)) []) (dd [] (x.To.take i)) (dd [] (x.To.take i) ++ [x.To[i]])
            simp only [List.length_map, List.length_range] at this
            simp only [Bool.not_false, if_true, Option.bind_some, Int.toNat_natCast, this]
            rfl
        · simp only [graph_Succs_l20_b, Int.lt_irrefl, decide_false, Bool.false_eq_true, if_false, List.take_length]
          rw [List.range_succ]
          simp [nxt, ← h3]
      rw [hin]; rfl
    · simp [graph_Succs_l21_b, succs]
  rw [this]; rfl
end
end Go.Ab

/-
  What Light lets in: plain laws.
-/
namespace Go.Ab
open Go
set_option linter.unusedVariables false
set_option linter.unusedSimpArgs false
set_option maxRecDepth 10000

theorem inner_spec {f : Fun} {k : Int} {code : List Ins} (hk : ix f.Blocks k = some code) (hc : code.length < 140737488355328) (hl : ∀ x ∈ code, x.To.length < 140737488355328) :
    ∃ r, r08_Shaped_l116 f k code 0 = some r ∧ ((∃ v, r = .stop v ∧ v ≠ 0) ∨ (r = .next () ∧ ∀ (i : Nat) (x : Ins), i < code.length → code[i]? = some x → ((decide (26 ≤ x.Op) && decide (x.Op ≤ 29)) = decide (i + 1 = code.length)) ∧ ((x.Op != 20) && x.To.any (outOf f.Blocks.length)) = false)) := by
  refine runL_up code.length (fun s => s) (fun s => ∀ (i : Nat) (x : Ins), i < s.toNat → code[i]? = some x → ((decide (26 ≤ x.Op) && decide (x.Op ≤ 29)) = decide (i + 1 = code.length)) ∧ ((x.Op != 20) && x.To.any (outOf f.Blocks.length)) = false) _ (fun s hI h0 h1 => ?_) 0 (fun i x hi => by simp at hi) (by decide) (by omega)
  unfold r08_Shaped_l116_b
  by_cases hlt : s < code.length
  · obtain ⟨x, hx, hx'⟩ := ix_of_lt h0 hlt
    simp only [hlt, decide_true, if_true, hx, hk, Option.bind_some, r05_Ends, l115_eq hk hx (hl x (List.mem_of_getElem? hx')), wr1 h0 (show s < 140737488355328 by omega)]
    have e1 : ((s + 1 : Int) == (code.length : Int)) = decide (s.toNat + 1 = code.length) := by
      by_cases h : s.toNat + 1 = code.length
      · rw [decide_eq_true h, beq_iff_eq]; omega
      · rw [decide_eq_false h, beq_eq_false_iff_ne]; omega
    rw [e1]
    cases hb : ((decide (26 ≤ x.Op) && decide (x.Op ≤ 29)) == decide (s.toNat + 1 = code.length)) with
    | false => exact .inl ⟨.stop 15, rfl, .inl ⟨15, rfl, by decide⟩⟩
    | true =>
      have hb' := eq_of_beq hb
      cases ho : ((x.Op != 20) && x.To.any (outOf f.Blocks.length)) with
      | true => exact .inl ⟨.stop 7, rfl, .inl ⟨7, rfl, by decide⟩⟩
      | false =>
        refine .inr ⟨s + 1, rfl, fun i y hi hy => ?_, rfl, by omega⟩
        by_cases h : i < s.toNat
        · exact hI i y h hy
        · have h2 : i = s.toNat := by omega
          subst h2
          rw [hx'] at hy
          obtain rfl := Option.some.inj hy
          exact ⟨hb', ho⟩
  · refine .inl ⟨.next (), by simp [hlt], .inr ⟨rfl, fun i x hi hx => hI i x (by omega) hx⟩⟩
theorem Shaped_spec {f : Fun} (r : RFun f) : ∃ e, r08_Shaped f = some e ∧ (e.Code = 0 → 0 < f.Blocks.length ∧ ∀ (k : Nat) (code : List Ins), f.Blocks[k]? = some code → ∃ x : Ins, code ≠ [] ∧ code.getLast? = some x ∧ ∀ b ∈ x.To, 0 ≤ b ∧ b < f.Blocks.length) := by
  obtain ⟨_, _, _, ⟨hB, hC⟩, _⟩ := r
  have key : ∃ q, r08_Shaped_l117 f 0 = some q ∧ ((∃ v, q = .stop v ∧ v.1 ≠ 0) ∨ (q = .next () ∧ ∀ (k : Nat) (code : List Ins), k < f.Blocks.length → f.Blocks[k]? = some code → ∃ x : Ins, code ≠ [] ∧ code.getLast? = some x ∧ ∀ b ∈ x.To, 0 ≤ b ∧ b < f.Blocks.length)) := by
    refine runL_up f.Blocks.length (fun s => s) (fun s => ∀ (k : Nat) (code : List Ins), k < s.toNat → f.Blocks[k]? = some code → ∃ x : Ins, code ≠ [] ∧ code.getLast? = some x ∧ ∀ b ∈ x.To, 0 ≤ b ∧ b < f.Blocks.length) _ (fun s hI h0 h1 => ?_) 0 (fun i x hi => by simp at hi) (by decide) (by omega)
    unfold r08_Shaped_l117_b
    by_cases hlt : s < f.Blocks.length
    · obtain ⟨code, hx, hx'⟩ := ix_of_lt h0 hlt
      obtain ⟨hcl, hci⟩ := hC code (List.mem_of_getElem? hx')
      obtain ⟨q, hq, hs⟩ := inner_spec hx hcl (fun x hx => (hci x hx).2.2.2.2.2.1.1)
      simp only [hlt, decide_true, if_true, hx, Option.bind_some, hq]
      rcases hs with ⟨v, rfl, hv⟩ | ⟨rfl, hs⟩
      · exact .inl ⟨_, rfl, .inl ⟨_, rfl, hv⟩⟩
      · simp only [wr1 h0 (show s < 140737488355328 by omega)]
        by_cases hz : code.length = 0
        · have : ((code.length : Int) == 0) = true := by rw [hz]; rfl
          rw [this]
          exact .inl ⟨_, rfl, .inl ⟨_, rfl, by simp⟩⟩
        · have : ((code.length : Int) == 0) = false := by rw [beq_eq_false_iff_ne]; omega
          rw [this]
          refine .inr ⟨s + 1, rfl, fun k c hk hc => ?_, rfl, by omega⟩
          by_cases h : k < s.toNat
          · exact hI k c h hc
          · have h2 : k = s.toNat := by omega
            subst h2
            rw [hx'] at hc
            obtain rfl := Option.some.inj hc
            have hne : code ≠ [] := by rintro rfl; simp at hz
            have hlast : code[code.length - 1]? = some (code.getLast hne) := by
              rw [← List.getLast?_eq_getElem?, List.getLast?_eq_some_getLast hne]
            obtain ⟨h3, h4⟩ := hs (code.length - 1) _ (by omega) hlast
            refine ⟨code.getLast hne, hne, List.getLast?_eq_some_getLast hne, fun b hb => ?_⟩
            have h5 : decide (code.length - 1 + 1 = code.length) = true := decide_eq_true (by omega)
            rw [h5] at h3
            simp only [Bool.and_eq_true, decide_eq_true_eq] at h3
            have h6 : ((code.getLast hne).Op != 20) = true := by simp; omega
            rw [h6, Bool.true_and] at h4
            have h7 := List.any_eq_false.1 h4 b hb
            simp only [outOf, Bool.or_eq_true, decide_eq_true_eq, not_or] at h7
            omega
    · exact .inl ⟨.next (), by simp [hlt], .inr ⟨rfl, fun k c hk hc => hI k c (by omega) hc⟩⟩
  obtain ⟨q, hq, hs⟩ := key
  unfold r08_Shaped
  by_cases hz : f.Blocks.length = 0
  · have : ((f.Blocks.length : Int) == 0) = true := by rw [hz]; rfl
    rw [this]
    exact ⟨_, rfl, fun h => by cases h⟩
  · have : ((f.Blocks.length : Int) == 0) = false := by rw [beq_eq_false_iff_ne]; omega
    rw [this]
    simp only [Bool.false_eq_true, if_false, hq, Option.bind_some]
    rcases hs with ⟨v, rfl, hv⟩ | ⟨rfl, hs⟩
    · exact ⟨_, rfl, fun h => absurd h hv⟩
    · refine ⟨_, rfl, fun _ => ⟨by omega, fun k code hk => ?_⟩⟩
      obtain ⟨h1, _⟩ := List.getElem?_eq_some_iff.1 hk
      exact hs k code h1 hk
theorem Light_spec {f : Fun} (r : RFun f) : ∃ v, l08_Light f = some v ∧ (v = 1 ∨ v = 0 ∧ Wf f) := by
  obtain ⟨e, he, hs⟩ := Shaped_spec r
  obtain ⟨_, _, _, ⟨hB, hC⟩, _⟩ := r
  unfold l08_Light
  by_cases h24 : 24 < f.Blocks.length
  · exact ⟨1, by rw [show decide (24 < (f.Blocks.length : Int)) = true from decide_eq_true (by omega)]; rfl, .inl rfl⟩
  rw [show decide (24 < (f.Blocks.length : Int)) = false from decide_eq_false (by omega)]
  simp only [Bool.false_eq_true, if_false]
  have h20 : ∀ (n k : Int) (code : List Ins), ix f.Blocks k = some code → code.length < 140737488355328 → ∃ q, l08_Light_l20 f n k code 0 = some q ∧ ((∃ v, q = .stop v) ∨ q = .next () ∧ ∀ (i : Nat) (x : Ins), i < code.length → code[i]? = some x → x.To.length ≤ 30) := fun n k code hk hl => by
    refine runL_up code.length (fun s => s) (fun s => ∀ (i : Nat) (x : Ins), i < s.toNat → code[i]? = some x → x.To.length ≤ 30) _ (fun s hI h0 h1 => ?_) 0 (fun i x hi => by simp at hi) (by decide) (by omega)
    unfold l08_Light_l20_b
    simp only [hk, Option.bind_some]
    by_cases hlt : s < code.length
    · obtain ⟨x, hx, hx'⟩ := ix_of_lt h0 hlt
      simp only [hlt, decide_true, if_true, hx, Option.bind_some, wr1 h0 (show s < 140737488355328 by omega)]
      cases hb : (decide (30 < (x.To.length : Int)) || (decide (30 < (x.Args.length : Int)) || decide (100 < (x.Name.length : Int)))) with
      | true => exact .inl ⟨_, rfl, .inl ⟨_, rfl⟩⟩
      | false =>
        refine .inr ⟨s + 1, rfl, fun i y hi hy => ?_, rfl, by omega⟩
        by_cases h : i < s.toNat
        · exact hI i y h hy
        · have h2 : i = s.toNat := by omega
          subst h2
          rw [hx'] at hy
          obtain rfl := Option.some.inj hy
          simp only [Bool.or_eq_false_iff, decide_eq_false_iff_not] at hb
          omega
    · exact .inl ⟨.next (), by simp [hlt], .inr ⟨rfl, fun i x hi hx => hI i x (by omega) hx⟩⟩
  have key : ∃ q, l08_Light_l21 f (0, 0) = some q ∧ ((∃ v, q = .stop v) ∨ q = .next () ∧ ∀ (k : Nat) (code : List Ins), k < f.Blocks.length → f.Blocks[k]? = some code → ∀ (i : Nat) (x : Ins), i < code.length → code[i]? = some x → x.To.length ≤ 30) := by
    refine runL_up f.Blocks.length (fun s => s.2) (fun s => ∀ (k : Nat) (code : List Ins), k < s.2.toNat → f.Blocks[k]? = some code → ∀ (i : Nat) (x : Ins), i < code.length → code[i]? = some x → x.To.length ≤ 30) _ (fun s hI h0 h1 => ?_) (0, 0) (fun i x hi => by simp at hi) (by decide) (by simp)
    unfold l08_Light_l21_b
    by_cases hlt : s.2 < f.Blocks.length
    · obtain ⟨code, hx, hx'⟩ := ix_of_lt h0 hlt
      obtain ⟨hcl, hci⟩ := hC code (List.mem_of_getElem? hx')
      obtain ⟨q, hq, hs⟩ := h20 s.1 s.2 code hx hcl
      simp only [hlt, decide_true, if_true, hx, Option.bind_some, hq, wr1 h0 (show s.2 < 140737488355328 by omega)]
      cases decide (150 < IntKind.wrap .i64 (s.1 + (code.length : Int))) with
      | true => exact .inl ⟨_, rfl, .inl ⟨_, rfl⟩⟩
      | false =>
        rcases hs with ⟨v, rfl⟩ | ⟨rfl, hs⟩
        · exact .inl ⟨_, rfl, .inl ⟨_, rfl⟩⟩
        · refine .inr ⟨(_, s.2 + 1), rfl, fun k c hk hc => ?_, rfl, by simp only; omega⟩
          by_cases h : k < s.2.toNat
          · exact hI k c h hc
          · have h2 : k = s.2.toNat := by simp only at hk; omega
            subst h2
            rw [hx'] at hc
            obtain rfl := Option.some.inj hc
            exact hs
    · exact .inl ⟨.next (), by simp [hlt], .inr ⟨rfl, fun k c hk hc => hI k c (by omega) hc⟩⟩
  obtain ⟨q, hq, hk⟩ := key
  rw [hq]
  rcases hk with ⟨v, rfl⟩ | ⟨rfl, hk⟩
  · exact ⟨1, rfl, .inl rfl⟩
  · simp only [Option.bind_some, he]
    by_cases hz : e.Code = 0
    · rw [show (e.Code != 0) = false by rw [hz]; rfl]
      obtain ⟨hn, hb⟩ := hs hz
      refine ⟨0, rfl, .inr ⟨rfl, ⟨hn, by omega, fun k hkl => ?_⟩⟩⟩
      obtain ⟨x, hne, hlast, hto⟩ := hb k f.Blocks[k] (by simp [hkl])
      refine ⟨x, hne, (hC _ (List.getElem_mem hkl)).1, hlast, ?_, hto⟩
      have hp : 0 < f.Blocks[k].length := List.length_pos_iff.2 hne
      exact hk k f.Blocks[k] hkl (by simp [hkl]) (f.Blocks[k].length - 1) x (by omega) (by rw [← List.getLast?_eq_getElem?]; exact hlast)
    · rw [show (e.Code != 0) = true by simpa using hz]
      exact ⟨1, rfl, .inl rfl⟩
end Go.Ab

/-
  The order of blocks: plain laws.
-/
namespace Go.Ab
open Go
set_option linter.unusedVariables false
set_option linter.unusedSimpArgs false
set_option maxRecDepth 10000

def foldO {α σ : Type} (step : σ → α → Option σ) : σ → List α → Option σ
  | s, [] => some s
  | s, x :: xs => (step s x).bind fun s' => foldO step s' xs
theorem loop_fold {α σ S ρ : Type} (xs : List α) (hl : xs.length < 140737488355328) (E : σ → Int → S) {body : S → Option (Stp S ρ)} (step : σ → α → Option σ) (fin : σ → ρ) (I : σ → Prop)
    (hb : ∀ s (i : Nat) x, I s → xs[i]? = some x → body (E s i) = (step s x).map fun s' => .next (E s' (IntKind.wrap .i64 ((i : Int) + 1))))
    (hI : ∀ s x s', I s → x ∈ xs → step s x = some s' → I s') (he : ∀ s, I s → body (E s xs.length) = some (.stop (fin s))) (s : σ) (hs : I s) : runL body (E s 0) = (foldO step s xs).map fin := by
  have key : ∀ (d i : Nat) (s : σ), xs.length - i = d → i ≤ xs.length → I s → runL body (E s i) = (foldO step s (xs.drop i)).map fin := by
    intro d
    induction d with
    | zero =>
      intro i s hd hi hs
      have : i = xs.length := by omega
      subst this
      rw [runL_eq, he s hs, List.drop_length]; rfl
    | succ d ih =>
      intro i s hd hi hs
      have hlt : i < xs.length := by omega
      rw [runL_eq, hb s i xs[i] hs (by simp [hlt]), List.drop_eq_getElem_cons hlt, foldO]
      cases hst : step s xs[i] with
      | none => rfl
      | some s' =>
        simp only [Option.map_some, Option.bind_some]
        rw [wr1 (by omega) (by omega)]
        exact ih (i + 1) s' (by omega) (by omega) (hI s _ s' hs (List.getElem_mem hlt) hst)
  have := key xs.length 0 s (by omega) (by omega) hs
  simpa using this
/-- blocks behind those that were met -/
def dfs (nx : Nat → List Int) : Nat → Int → List Int → List Int → Option (List Int)
  | 0, _, _, _ => Option.none
  | m + 1, k, done, opn => (foldO (fun out s => if out.contains s || (opn ++ [k]).contains s then some out else dfs nx m s out (opn ++ [k])) done (nx k.toNat)).map (· ++ [k])
theorem foldO_mono {α σ : Type} {f g : σ → α → Option σ} (h : ∀ s x y, f s x = some y → g s x = some y) : ∀ (xs : List α) (s y : σ), foldO f s xs = some y → foldO g s xs = some y
  | [], s, y, hy => hy
  | x :: xs, s, y, hy => by
    simp only [foldO, Option.bind_eq_some_iff] at hy ⊢
    obtain ⟨z, hz, hy⟩ := hy
    exact ⟨z, h _ _ _ hz, foldO_mono h xs z y hy⟩
theorem dfs_mono (nx : Nat → List Int) : ∀ {m m' : Nat} {k : Int} {done opn out : List Int}, m ≤ m' → dfs nx m k done opn = some out → dfs nx m' k done opn = some out
  | 0, m', k, done, opn, out, hm, h => by simp [dfs] at h
  | m + 1, 0, k, done, opn, out, hm, h => by omega
  | m + 1, m' + 1, k, done, opn, out, hm, h => by
    simp only [dfs, Option.map_eq_some_iff] at h ⊢
    obtain ⟨y, hy, rfl⟩ := h
    refine ⟨y, foldO_mono (fun s x z hz => ?_) _ _ _ hy, rfl⟩
    split at hz
    · rename_i hc; rw [if_pos hc]; exact hz
    · rename_i hc; rw [if_neg hc]; exact dfs_mono nx (by omega) hz
theorem nodup_len : ∀ (n : Nat) (l : List Int), l.Nodup → (∀ x ∈ l, 0 ≤ x ∧ x < n) → l.length ≤ n
  | 0, l, _, h => by
    cases l with
    | nil => simp
    | cons x l => have := h x (by simp); omega
  | n + 1, l, hd, h => by
    by_cases hm : (n : Int) ∈ l
    · have h1 := nodup_len n (l.erase (n : Int)) (hd.erase _) (fun x hx => by
        have h2 := hd.mem_erase_iff.1 hx
        have := h x h2.2
        have := h2.1
        omega)
      rw [List.length_erase_of_mem hm] at h1
      omega
    · have h1 := nodup_len n l hd (fun x hx => by
        have := h x hx
        have : x ≠ n := fun e => hm (e ▸ hx)
        omega)
      omega
/-- what was met so far may stand so -/
structure Met (n : Nat) (out opn : List Int) : Prop where
  nd : (out ++ opn).Nodup
  lt : ∀ x ∈ out ++ opn, 0 ≤ x ∧ x < n
theorem Met.len {n : Nat} {out opn : List Int} (M : Met n out opn) : out.length + opn.length ≤ n := by
  have := nodup_len n _ M.nd M.lt
  simpa using this
theorem Met.push {n : Nat} {out opn : List Int} {k : Int} (M : Met n out opn) (h0 : 0 ≤ k ∧ k < n) (h1 : k ∉ out) (h2 : k ∉ opn) : Met n out (opn ++ [k]) :=
  ⟨by
    rw [← List.append_assoc, List.nodup_append]
    exact ⟨M.nd, by simp, fun a ha b hb => by
      simp only [List.mem_singleton] at hb
      rintro rfl
      subst hb
      rcases List.mem_append.1 ha with h | h
      · exact h1 h
      · exact h2 h⟩, fun x hx => by
    rw [← List.append_assoc, List.mem_append] at hx
    rcases hx with hx | hx
    · exact M.lt x hx
    · simp only [List.mem_singleton] at hx; subst hx; exact h0⟩
theorem Met.pop {n : Nat} {out opn : List Int} {k : Int} (M : Met n out (opn ++ [k])) : Met n (out ++ [k]) opn := by
  have hp : (out ++ (opn ++ [k])).Perm ((out ++ [k]) ++ opn) := by
    rw [List.append_assoc]
    exact List.Perm.append_left out List.perm_append_comm
  exact ⟨hp.nodup_iff.1 M.nd, fun x hx => M.lt x (hp.mem_iff.2 hx)⟩
theorem dfs_tot {n : Nat} {nx : Nat → List Int} (hnx : ∀ k, k < n → ∀ b ∈ nx k, 0 ≤ b ∧ b < (n : Int)) : ∀ (m : Nat) (k : Int) (done opn : List Int), Met n done opn → 0 ≤ k ∧ k < n → k ∉ done → k ∉ opn → n + 1 ≤ m + opn.length →
    ∃ out, dfs nx m k done opn = some (out ++ [k]) ∧ Met n (out ++ [k]) opn
  | 0, k, done, opn, M, hk, h1, h2, hm => by have := M.len; omega
  | m + 1, k, done, opn, M, hk, h1, h2, hm => by
    have M' := M.push hk h1 h2
    have key : ∀ (xs out : List Int), (∀ b ∈ xs, 0 ≤ b ∧ b < (n : Int)) → Met n out (opn ++ [k]) → ∃ o, foldO (fun out s => if out.contains s || (opn ++ [k]).contains s then some out else dfs nx m s out (opn ++ [k])) out xs = some o ∧ Met n o (opn ++ [k]) := by
      intro xs
      induction xs with
      | nil => exact fun out _ Mo => ⟨out, rfl, Mo⟩
      | cons x xs ih =>
        intro out hx Mo
        simp only [foldO]
        by_cases hc : (out.contains x || (opn ++ [k]).contains x) = true
        · rw [if_pos hc]; exact ih out (fun b hb => hx b (by simp [hb])) Mo
        · rw [if_neg hc]
          simp only [Bool.or_eq_true, List.contains_iff_mem, not_or] at hc
          obtain ⟨o, ho, Mo'⟩ := dfs_tot hnx m x out (opn ++ [k]) Mo (hx x (by simp)) hc.1 hc.2 (by simp; omega)
          rw [ho]
          exact ih _ (fun b hb => hx b (by simp [hb])) Mo'
    obtain ⟨o, ho, Mo⟩ := key (nx k.toNat) done (hnx k.toNat (by omega)) M'
    exact ⟨o, by simp only [dfs, ho, Option.map_some], Mo.pop⟩
section
variable {f : Fun}
theorem foldO_snd {α β σ : Type} (step : σ → α → Option σ) (nb : β → σ → α → β) : ∀ (xs : List α) (b : β) (s : σ), (foldO (fun (q : β × σ) x => (step q.2 x).map fun s' => (nb q.1 q.2 x, s')) (b, s) xs).map Prod.snd = foldO step s xs
  | [], b, s => rfl
  | x :: xs, b, s => by
    simp only [foldO]
    cases step s x with
    | none => rfl
    | some s' => exact foldO_snd step nb xs _ s'
theorem Wf.nx (W : Wf f) : ∀ k, k < f.Blocks.length → ∀ b ∈ nxt f k, 0 ≤ b ∧ b < (f.Blocks.length : Int) := fun k _ b hb => W.nxt_lt hb
theorem post_n (W : Wf f) : ∀ (m : Nat) (k : Int) (done opn : List Int), Met f.Blocks.length done opn → 0 ≤ k ∧ k < f.Blocks.length → k ∉ done → k ∉ opn → r08_post_n m f k done opn = dfs (nxt f) m k done opn
  | 0, k, done, opn, M, hk, h1, h2 => rfl
  | m + 1, k, done, opn, M, hk, h1, h2 => by
    have h24 := W.n1
    have hlen := M.len
    have M' := M.push hk h1 h2
    simp only [r08_post_n, r08_post_r]
    rw [app_ok (by simp; omega) (by simp; omega)]
    simp only [List.nil_append, Option.bind_some]
    rw [app_ok (by simp; omega) (by simp; omega)]
    simp only [Option.bind_some]
    have hN := Next_eq W (k := k.toNat) (by omega)
    rw [show ((k.toNat : Nat) : Int) = k by omega] at hN
    rw [hN]
    simp only [Option.bind_some]
    have hne : (opn ++ [k]).isEmpty = false := by simp
    have hloop : r08_post_l13 f k (r08_post_n m) (nxt f k.toNat) (opn ++ [k], false, done, 0) = foldO (fun out s => if out.contains s || (opn ++ [k]).contains s then some out else dfs (nxt f) m s out (opn ++ [k])) done (nxt f k.toNat) := by
      rw [← foldO_snd _ (fun (b : Bool) out s => if out.contains s || (opn ++ [k]).contains s then b else true) (nxt f k.toNat) false done]
      refine loop_fold (nxt f k.toNat) (by have := W.nxt_len k.toNat; omega) (fun (q : Bool × List Int) i => (opn ++ [k], q.1, q.2, i)) _ Prod.snd (fun q => Met f.Blocks.length q.2 (opn ++ [k])) (fun q i x Mo hx => ?_) (fun q x q' Mo hx hq => ?_) (fun q Mo => ?_) (false, done) M'
      · obtain ⟨b, out⟩ := q
        have hi := (List.getElem?_eq_some_iff.1 hx).1
        have hxr := W.nxt_lt (List.mem_of_getElem? hx)
        have hol := Mo.len
        simp only [List.length_append, List.length_singleton] at hol
        have hix : ix (nxt f k.toNat) (i : Int) = some x := by rw [ix_nat hi, ← hx]; simp [hi]
        simp only at Mo
        simp only [r08_post_l13_b, r08_post_j9, r08_post_j12, r08_post_j11, show (i : Int) < ((nxt f k.toNat).length : Int) by omega, decide_true, if_true, hix, Option.bind_some, Has_eq (show out.length < 140737488355328 by omega), Has_eq (show (opn ++ [k]).length < 140737488355328 by simp; omega)]
        cases hc1 : out.contains x with
        | true => cases b <;> simp [hc1]
        | false =>
          cases hc2 : (opn ++ [k]).contains x with
          | true => cases b <;> simp [hc1, hc2]
          | false =>
            have hp := post_n W m x out (opn ++ [k]) Mo hxr (by simpa using hc1) (by simpa using hc2)
            cases b <;> simp only [Bool.not_false, Bool.false_eq_true, if_false, if_true, Option.bind_some, hp, Bool.or_self, hne] <;> cases dfs (nxt f) m x out (opn ++ [k]) <;> rfl
      · obtain ⟨b, out⟩ := q
        simp only [Option.map_eq_some_iff] at hq
        obtain ⟨o, ho, rfl⟩ := hq
        simp only at ho Mo ⊢
        split at ho
        · obtain rfl := Option.some.inj ho; exact Mo
        · rename_i hc
          simp only [Bool.or_eq_true, List.contains_iff_mem, not_or] at hc
          obtain ⟨o', ho', Mo'⟩ := dfs_tot W.nx (m + f.Blocks.length + 1) x out (opn ++ [k]) Mo (W.nxt_lt hx) hc.1 hc.2 (by omega)
          have := dfs_mono (nxt f) (show m ≤ m + f.Blocks.length + 1 by omega) ho
          rw [ho'] at this
          obtain rfl := Option.some.inj this
          exact Mo'
      · simp [r08_post_l13_b]
    rw [hloop]
    simp only [dfs]
    cases hf : foldO (fun out s => if out.contains s || (opn ++ [k]).contains s then some out else dfs (nxt f) m s out (opn ++ [k])) done (nxt f k.toNat) with
    | none => rfl
    | some out =>
      have hout : out.length ≤ 24 := by
        obtain ⟨o', ho', Mo'⟩ := dfs_tot W.nx (m + 1 + f.Blocks.length + 1) k done opn M hk h1 h2 (by omega)
        have hd : dfs (nxt f) (m + 1) k done opn = some (out ++ [k]) := by simp only [dfs, hf, Option.map_some]
        have := dfs_mono (nxt f) (show m + 1 ≤ m + 1 + f.Blocks.length + 1 by omega) hd
        rw [ho'] at this
        have hl := Mo'.len
        have := congrArg List.length (Option.some.inj this)
        simp at this hl
        omega
      simp only [Option.bind_some, Option.map_some]
      rw [app_ok (by simp; omega) (by simp; omega)]
      simp only [List.nil_append, Option.bind_some]
      rw [app_ok (by simp; omega) (by simp; omega)]
      rfl
theorem met0 (n : Nat) : Met n [] [] := ⟨by simp, by simp⟩
/-- blocks, as the reference lists them -/
theorem post_spec (W : Wf f) : ∃ out, r08_post f 0 [] [] = some (out ++ [0]) ∧ dfs (nxt f) (f.Blocks.length + 1) 0 [] [] = some (out ++ [0]) ∧ Met f.Blocks.length (out ++ [0]) [] := by
  have h0 := W.n0
  obtain ⟨out, ho, M⟩ := dfs_tot W.nx (f.Blocks.length + 1) 0 [] [] (met0 _) ⟨by omega, by omega⟩ (by simp) (by simp) (by simp)
  refine ⟨out, ?_, ho, M⟩
  have heq : ∀ m, r08_post_n m f 0 [] [] = dfs (nxt f) m 0 [] [] := fun m => post_n W m 0 [] [] (met0 _) ⟨by omega, by omega⟩ (by simp) (by simp)
  unfold r08_post
  refine (limO_some (fun a b x hab hx => ?_)).2 ⟨f.Blocks.length + 1, by rw [heq]; exact ho⟩
  rw [heq] at hx ⊢
  exact dfs_mono _ hab hx
end
end Go.Ab

/-
  Where blocks stand, and which edges go back: plain laws.
-/
namespace Go.Ab
open Go
set_option linter.unusedVariables false
set_option linter.unusedSimpArgs false
set_option maxRecDepth 10000

theorem cont_app (a b : List Int) (x : Int) : (a ++ b).contains x = (a.contains x || b.contains x) := by simp [List.contains_eq_any_beq]
def metL (n : Nat) (l : List Int) : List Bool := (List.range n).map fun (b : Nat) => l.contains (b : Int)
theorem metL_len (n : Nat) (l : List Int) : (metL n l).length = n := by simp [metL]
theorem metL_congr {n : Nat} {a b : List Int} (h : ∀ x, x ∈ a ↔ x ∈ b) : metL n a = metL n b := by
  unfold metL
  refine List.map_congr_left fun x _ => ?_
  have := h x
  by_cases hx : (x : Int) ∈ a
  · rw [List.contains_iff_mem.2 hx, List.contains_iff_mem.2 (this.1 hx)]
  · have h2 : (x : Int) ∉ b := fun h => hx (this.2 h)
    rw [Bool.eq_false_iff.2 (fun h => hx (List.contains_iff_mem.1 h)), Bool.eq_false_iff.2 (fun h => h2 (List.contains_iff_mem.1 h))]
theorem ix_metL {n : Nat} {l : List Int} {x : Int} (h : 0 ≤ x ∧ x < n) : ix (metL n l) x = some (l.contains x) := by
  rw [ix, if_pos h.1]
  have : x.toNat < n := by omega
  simp only [metL, List.getElem?_map, List.getElem?_range this, Option.map_some]
  rw [show ((x.toNat : Nat) : Int) = x by omega]
theorem metL_set {n : Nat} {l : List Int} {x : Int} (h : 0 ≤ x ∧ x < n) : (metL n l).set x.toNat true = metL n (l ++ [x]) := by
  refine List.ext_getElem (by simp [metL_len]) fun i h1 h2 => ?_
  simp only [metL_len] at h2
  simp only [metL, List.getElem_set, List.getElem_map, List.getElem_range, cont_app]
  by_cases hi : x.toNat = i
  · rw [if_pos hi]
    have : ([x] : List Int).contains (i : Int) = true := by simp; omega
    rw [this, Bool.or_true]
  · rw [if_neg hi]
    have : ([x] : List Int).contains (i : Int) = false := by simp; omega
    rw [this, Bool.or_false]
section
variable {f : Fun}
theorem ix_succs {k : Int} (h : 0 ≤ k ∧ k < f.Blocks.length) : ix (succs f) k = some (nxt f k.toNat) := by
  rw [ix, if_pos h.1]
  have : k.toNat < f.Blocks.length := by omega
  simp [succs, List.getElem?_map, List.getElem?_range this]
theorem visit_n (W : Wf f) : ∀ (m : Nat) (k : Int) (done opn : List Int), Met f.Blocks.length done opn → 0 ≤ k ∧ k < f.Blocks.length → k ∉ done → k ∉ opn →
    graph_walk_visit_s1_n m (succs f) (metL f.Blocks.length (done ++ opn)) done k = (dfs (nxt f) m k done opn).map fun out => (metL f.Blocks.length (out ++ opn), out)
  | 0, k, done, opn, M, hk, h1, h2 => rfl
  | m + 1, k, done, opn, M, hk, h1, h2 => by
    have h24 := W.n1
    have hlen := M.len
    have M' := M.push hk h1 h2
    simp only [graph_walk_visit_s1_n, graph_walk_visit_s1_r, ix_metL hk, ix_succs hk, Option.bind_some, metL_set hk, List.append_assoc]
    have hloop : graph_walk_visit_s1_l5 (succs f) k (graph_walk_visit_s1_n m) (nxt f k.toNat) (metL f.Blocks.length (done ++ (opn ++ [k])), done, 0) = (foldO (fun out s => if out.contains s || (opn ++ [k]).contains s then some out else dfs (nxt f) m s out (opn ++ [k])) done (nxt f k.toNat)).map fun out => (metL f.Blocks.length (out ++ (opn ++ [k])), out) := by
      refine loop_fold (nxt f k.toNat) (by have := W.nxt_len k.toNat; omega) (fun (out : List Int) i => (metL f.Blocks.length (out ++ (opn ++ [k])), out, i)) _ _ (fun out => Met f.Blocks.length out (opn ++ [k])) (fun out i x Mo hx => ?_) (fun out x o Mo hx ho => ?_) (fun out Mo => ?_) done M'
      · have hi := (List.getElem?_eq_some_iff.1 hx).1
        have hxr := W.nxt_lt (List.mem_of_getElem? hx)
        have hix : ix (nxt f k.toNat) (i : Int) = some x := by rw [ix_nat hi, ← hx]; simp [hi]
        simp only [graph_walk_visit_s1_l5_b, graph_walk_visit_s1_j4, show (i : Int) < ((nxt f k.toNat).length : Int) by omega, decide_true, if_true, hix, Option.bind_some, ix_metL hxr]
        rw [cont_app]
        cases hc1 : out.contains x with
        | true => simp
        | false =>
          cases hc2 : (opn ++ [k]).contains x with
          | true => simp
          | false =>
            have hp := visit_n W m x out (opn ++ [k]) Mo hxr (by simpa using hc1) (by simpa using hc2)
            simp only [Bool.or_self, Bool.not_false, if_true, hp, Bool.false_eq_true, if_false]
            cases dfs (nxt f) m x out (opn ++ [k]) <;> rfl
      · split at ho
        · obtain rfl := Option.some.inj ho; exact Mo
        · rename_i hc
          simp only [Bool.or_eq_true, List.contains_iff_mem, not_or] at hc
          obtain ⟨o', ho', Mo'⟩ := dfs_tot W.nx (m + f.Blocks.length + 1) x out (opn ++ [k]) Mo (W.nxt_lt hx) hc.1 hc.2 (by omega)
          have := dfs_mono (nxt f) (show m ≤ m + f.Blocks.length + 1 by omega) ho
          rw [ho'] at this
          obtain rfl := Option.some.inj this
          exact Mo'
      · simp [graph_walk_visit_s1_l5_b]
    rw [hloop]
    simp only [dfs]
    cases hf : foldO (fun out s => if out.contains s || (opn ++ [k]).contains s then some out else dfs (nxt f) m s out (opn ++ [k])) done (nxt f k.toNat) with
    | none => rfl
    | some out =>
      have hout : out.length ≤ 24 := by
        obtain ⟨o', ho', Mo'⟩ := dfs_tot W.nx (m + 1 + f.Blocks.length + 1) k done opn M hk h1 h2 (by omega)
        have hd : dfs (nxt f) (m + 1) k done opn = some (out ++ [k]) := by simp only [dfs, hf, Option.map_some]
        have := dfs_mono (nxt f) (show m + 1 ≤ m + 1 + f.Blocks.length + 1 by omega) hd
        rw [ho'] at this
        have hl := Mo'.len
        have := congrArg List.length (Option.some.inj this)
        simp at this hl
        omega
      simp only [Option.bind_some, Option.map_some]
      rw [app_ok (by simp; omega) (by simp; omega)]
      simp only [Option.bind_some, Option.some.injEq, Prod.mk.injEq, and_true]
      exact metL_congr fun x => by
        simp only [List.mem_append, List.mem_singleton]
        constructor
        · rintro (h | h | h)
          · exact .inl (.inl h)
          · exact .inr h
          · exact .inl (.inr h)
        · rintro ((h | h) | h)
          · exact .inl h
          · exact .inr (.inr h)
          · exact .inr (.inl h)
theorem Order_eq (W : Wf f) : ∃ o, graph_Order f = some (0 :: o) ∧ r08_Order f = some (0 :: o) ∧ (0 :: o).Nodup ∧ (∀ x ∈ (0 :: o), 0 ≤ x ∧ x < (f.Blocks.length : Int)) ∧ (0 :: o).length ≤ 24 := by
  have h24 := W.n1
  obtain ⟨out, h1, h2, M⟩ := post_spec W
  have hl := M.len
  simp only [List.length_append, List.length_singleton, List.length_nil] at hl
  have hM := M.nd
  rw [List.append_nil] at hM
  refine ⟨out.reverse, ?_, ?_, ?_, ?_, ?_⟩
  · unfold graph_Order
    have hmk : mk (f.Blocks.length : Int) 1 false = some (metL f.Blocks.length ([] ++ [])) := by
      unfold mk
      rw [if_pos ⟨by omega, by simp; omega, by simp; omega⟩]
      congr 1
      refine List.ext_getElem (by simp [metL_len]) fun i h1 h2 => ?_
      simp [metL]
    rw [gSuccs_eq W]
    simp only [Option.bind_some, hmk]
    have heq : ∀ m, graph_walk_visit_s1_n m (succs f) (metL f.Blocks.length ([] ++ [])) [] 0 = (dfs (nxt f) m 0 [] []).map fun out => (metL f.Blocks.length (out ++ []), out) := fun m => visit_n W m 0 [] [] (met0 _) ⟨by omega, by have := W.n0; omega⟩ (by simp) (by simp)
    have hv : graph_walk_visit_s1 (succs f) (metL f.Blocks.length ([] ++ [])) [] 0 = some (metL f.Blocks.length ((out ++ [0]) ++ []), out ++ [0]) := by
      unfold graph_walk_visit_s1
      refine (limO_some (fun a b x hab hx => ?_)).2 ⟨f.Blocks.length + 1, by rw [heq, h2]; rfl⟩
      rw [heq] at hx ⊢
      simp only [Option.map_eq_some_iff] at hx ⊢
      obtain ⟨y, hy, rfl⟩ := hx
      exact ⟨y, dfs_mono _ hab hy, rfl⟩
    rw [hv]
    simp only [Option.bind_some, rev]
    rw [if_pos (by simp; omega)]
    simp
  · unfold r08_Order
    rw [h1]
    simp only [Option.bind_some]
    have key : ∀ (j : Nat) (acc : List Int), j ≤ (out ++ [0]).length → acc.length + j ≤ 24 → r08_Order_l1 (out ++ [0]) (acc, (j : Int) - 1) = some (acc ++ ((out ++ [0]).take j).reverse) := by
      intro j
      induction j with
      | zero =>
        intro acc _ _
        unfold r08_Order_l1
        rw [runL_eq]
        simp [r08_Order_l1_b]
      | succ j ih =>
        intro acc hj ha
        unfold r08_Order_l1 at ih ⊢
        have hj' : j < (out ++ [0]).length := by omega
        have hix : ix (out ++ [0]) (((j + 1 : Nat) : Int) - 1) = some (out ++ [0])[j] := by
          rw [show (((j + 1 : Nat) : Int) - 1) = (j : Int) by omega, ix_nat hj']
        have hbody : r08_Order_l1_b (out ++ [0]) acc (((j + 1 : Nat) : Int) - 1) = some (.next (acc ++ [(out ++ [0])[j]], (j : Int) - 1)) := by
          simp only [r08_Order_l1_b, show (0 : Int) ≤ ((j + 1 : Nat) : Int) - 1 by omega, decide_true, if_true, hix, Option.bind_some]
          rw [app_ok (by simp; omega) (by simp; omega)]
          simp only [Option.bind_some]
          rw [wr64 (by omega) (by omega), show (((j + 1 : Nat) : Int) - 1 - 1) = (j : Int) - 1 by omega]
        rw [runL_eq]
        simp only [hbody, Option.bind_some]
        rw [ih _ (by omega) (by simp; omega)]
        rw [List.take_add_one, List.getElem?_eq_getElem hj']
        simp only [Option.toList_some, List.reverse_append, List.reverse_cons, List.reverse_nil, List.nil_append, List.append_assoc, List.cons_append]
    have := key (out ++ [0]).length [] (by omega) (by simp; omega)
    rw [wr64 (by simp <;> omega) (by simp <;> omega), this, List.take_length]
    simp
  · have h : (0 :: out.reverse).Perm (out ++ [0]) := by
      have := (List.reverse_perm (out ++ [0]))
      simpa using this
    exact h.nodup_iff.2 hM
  · intro x hx
    exact M.lt x (by simp at hx ⊢; exact hx.symm)
  · simp; omega
/-! ### places -/
def plc : List Int → Int → Int → Int
  | [], _, _ => -1
  | x :: xs, k, i => if x == k then i else plc xs k (i + 1)
theorem Place_eq {l : List Int} (hl : l.length < 140737488355328) (k : Int) : r08_Place l k = some (plc l k 0) := by
  have key : ∀ (d i : Nat), l.length - i = d → i ≤ l.length → (r08_Place_l1 l k (i : Int)).bind (fun | .next _ => some (-1) | .stop v3 => some v3) = some (plc (l.drop i) k i) := by
    intro d
    induction d with
    | zero =>
      intro i hd hi
      have : i = l.length := by omega
      subst this
      unfold r08_Place_l1
      rw [runL_eq]
      simp [r08_Place_l1_b, plc]
    | succ d ih =>
      intro i hd hi
      have hlt : i < l.length := by omega
      unfold r08_Place_l1 at ih ⊢
      rw [runL_eq, List.drop_eq_getElem_cons hlt, plc]
      simp only [r08_Place_l1_b, show (i : Int) < (l.length : Int) by omega, decide_true, if_true, ix_nat hlt, Option.bind_some]
      cases (l[i] == k) with
      | true => rfl
      | false =>
        simp only [Bool.false_eq_true, if_false, Option.bind_some]
        rw [wr1 (by omega) (by omega)]
        exact ih (i + 1) (by omega) (by omega)
  have := key l.length 0 (by omega) (by omega)
  rw [List.drop_zero] at this
  exact this
theorem plc_snoc (x b : Int) : ∀ (l : List Int) (j : Int), x ∉ l → plc (l ++ [x]) b j = if b = x then j + l.length else plc l b j
  | [], j, _ => by
    by_cases h : b = x
    · subst h; simp [plc]
    · have : (x == b) = false := by rw [beq_eq_false_iff_ne]; exact fun e => h e.symm
      simp [plc, h, this]
  | y :: l, j, hx => by
    simp only [List.mem_cons, not_or] at hx
    rw [List.cons_append, plc, plc]
    by_cases hy : (y == b) = true
    · have := eq_of_beq hy
      subst this
      rw [if_pos hy, if_neg (fun e => hx.1 e.symm), if_pos hy]
    · rw [if_neg hy, if_neg hy, plc_snoc x b l (j + 1) hx.2]
      by_cases h : b = x
      · rw [if_pos h, if_pos h]; simp; omega
      · rw [if_neg h, if_neg h]
def places (n : Nat) (o : List Int) : List Int := (List.range n).map fun (b : Nat) => plc o (b : Int) 0
theorem ix_places {n : Nat} {o : List Int} {b : Int} (h : 0 ≤ b ∧ b < n) : ix (places n o) b = some (plc o b 0) := by
  rw [ix, if_pos h.1]
  have : b.toNat < n := by omega
  simp only [places, List.getElem?_map, List.getElem?_range this, Option.map_some]
  rw [show ((b.toNat : Nat) : Int) = b by omega]
theorem rPlaces_eq (W : Wf f) {o : List Int} (ho : r08_Order f = some o) (hl : o.length ≤ 24) : r08_Places f = some (places f.Blocks.length o) := by
  have h24 := W.n1
  unfold r08_Places
  rw [ho]
  simp only [Option.bind_some]
  have : r08_Places_l1 f o ([], 0) = some (places f.Blocks.length o) := by
    refine loop_fn f.Blocks.length (by omega) (fun i => places i o) (fun i hi => ?_) ?_
    · simp only [r08_Places_l1_b, show (i : Int) < (f.Blocks.length : Int) by omega, decide_true, if_true, Place_eq (show o.length < 140737488355328 by omega), Option.bind_some]
      rw [app_ok (by simp [places]; omega) (by simp [places]; omega)]
      simp [places, List.range_succ]
    · simp [r08_Places_l1_b]
  rw [this]; rfl
theorem gPlaces_eq (W : Wf f) {o : List Int} (ho : graph_Order f = some o) (hl : o.length ≤ 24) (hnd : o.Nodup) (hlt : ∀ x ∈ o, 0 ≤ x ∧ x < (f.Blocks.length : Int)) : graph_Places f = some (places f.Blocks.length o) := by
  have h24 := W.n1
  unfold graph_Places
  have hmk : mk (f.Blocks.length : Int) 8 (0 : Int) = some (List.replicate f.Blocks.length 0) := by
    unfold mk; rw [if_pos ⟨by omega, by simp; omega, by simp; omega⟩]; simp
  rw [hmk]
  simp only [Option.bind_some]
  have h1 : graph_Places_l1 f (List.replicate f.Blocks.length 0) (List.replicate f.Blocks.length 0, 0) = some (List.replicate f.Blocks.length (-1)) := by
    have := loop_fn f.Blocks.length (by omega) (fun i => List.replicate i (-1 : Int) ++ List.replicate (f.Blocks.length - i) 0) (body := fun s => graph_Places_l1_b f (List.replicate f.Blocks.length 0) s.1 s.2) (fin := List.replicate f.Blocks.length (-1)) (fun i hi => ?_) ?_
    · unfold graph_Places_l1; simpa using this
    · have hrep : List.replicate (f.Blocks.length - i) (0 : Int) = 0 :: List.replicate (f.Blocks.length - (i + 1)) 0 := by
        rw [show f.Blocks.length - i = (f.Blocks.length - (i + 1)) + 1 by omega, List.replicate_succ]
      have hix : ix (List.replicate i (-1 : Int) ++ 0 :: List.replicate (f.Blocks.length - (i + 1)) 0) (i : Int) = some 0 := by
        rw [ix, if_pos (by omega)]; simp
      have hset := set_mid (List.replicate i (-1 : Int)) (List.replicate (f.Blocks.length - (i + 1)) 0) 0 (-1)
      simp only [List.length_replicate] at hset
      simp only [graph_Places_l1_b, List.length_replicate, show (i : Int) < (f.Blocks.length : Int) by omega, decide_true, if_true, hrep, hix, Option.bind_some, Int.toNat_natCast, hset]
      rw [List.replicate_succ', List.append_assoc]
      rfl
    · simp [graph_Places_l1_b]
  rw [h1]
  simp only [Option.bind_some, ho]
  have h2 : graph_Places_l2 o (List.replicate f.Blocks.length (-1), 0) = some (places f.Blocks.length o) := by
    have := loop_fn o.length (by omega) (fun i => places f.Blocks.length (o.take i)) (body := fun s => graph_Places_l2_b o s.1 s.2) (fin := places f.Blocks.length o) (fun i hi => ?_) ?_
    · have e : places f.Blocks.length (o.take 0) = List.replicate f.Blocks.length (-1) := by
        refine List.ext_getElem (by simp [places]) fun i h1 h2 => ?_
        simp [places, plc]
      rw [e] at this
      exact this
    · have hx := hlt o[i] (List.getElem_mem hi)
      simp only [graph_Places_l2_b, show (i : Int) < (o.length : Int) by omega, decide_true, if_true, ix_nat hi, Option.bind_some, ix_places hx]
      have hni : o[i] ∉ o.take i := fun h => by
        obtain ⟨j, hj, he⟩ := List.getElem_of_mem h
        have hj' : j < i := by simp at hj; omega
        simp only [List.getElem_take] at he
        exact (List.pairwise_iff_getElem.1 hnd j i (by omega) hi hj') he
      have : (places f.Blocks.length (o.take i)).set o[i].toNat (i : Int) = places f.Blocks.length (o.take (i + 1)) := by
        rw [List.take_add_one, List.getElem?_eq_getElem hi]
        refine List.ext_getElem (by simp [places]) fun j h1 h2 => ?_
        simp only [places, List.getElem_set, List.getElem_map, List.getElem_range, Option.toList_some, plc_snoc _ _ _ _ hni]
        by_cases hj : o[i].toNat = j
        · rw [if_pos hj, if_pos (by omega)]; simp; omega
        · rw [if_neg hj, if_neg (by omega)]
      rw [this]
    · simp [graph_Places_l2_b]
  rw [h2]; rfl
/-! ### edges that go back -/
def bk (A : Int → Int) (k : Nat) (l : List Int) : List A2_Int := (l.filter fun b => decide (0 ≤ A k) && decide (A b ≤ A k)).map fun b => ⟨(k : Int), b⟩
def backs (f : Fun) (A : Int → Int) (n : Nat) : List A2_Int := (List.range n).flatMap fun k => bk A k (nxt f k)
theorem bk_len (A : Int → Int) (k : Nat) (l : List Int) : (bk A k l).length ≤ l.length := by
  simp only [bk, List.length_map]; exact List.length_filter_le _ _
theorem backs_len (W : Wf f) (A : Int → Int) : ∀ n, (backs f A n).length ≤ 30 * n
  | 0 => by simp [backs]
  | n + 1 => by
    have h1 := backs_len W A n
    have h2 := bk_len A n (nxt f n)
    have h3 := W.nxt_len n
    unfold backs at h1 ⊢
    rw [List.range_succ, List.flatMap_append, List.length_append]
    simp only [List.flatMap_cons, List.flatMap_nil, List.append_nil]
    omega
theorem bk_take (A : Int → Int) (k : Nat) (l : List Int) (i : Nat) (hi : i < l.length) : bk A k (l.take (i + 1)) = if decide (0 ≤ A k) && decide (A l[i] ≤ A k) then bk A k (l.take i) ++ [⟨(k : Int), l[i]⟩] else bk A k (l.take i) := by
  rw [List.take_add_one, List.getElem?_eq_getElem hi]
  simp only [bk, Option.toList_some, List.filter_append, List.map_append]
  cases h : (decide (0 ≤ A k) && decide (A l[i] ≤ A k)) <;> simp [h]
theorem gBacks_eq (W : Wf f) {o : List Int} (hp : graph_Places f = some (places f.Blocks.length o)) : graph_Backs f = some (backs f (fun b => plc o b 0) f.Blocks.length) := by
  have h24 := W.n1
  unfold graph_Backs
  rw [hp, gSuccs_eq W]
  simp only [Option.bind_some]
  have hsl : (succs f).length = f.Blocks.length := by simp [succs]
  have : graph_Backs_l37 (places f.Blocks.length o) (succs f) ([], 0) = some (backs f (fun b => plc o b 0) f.Blocks.length) := by
    refine loop_fn f.Blocks.length (by omega) (fun k => backs f (fun b => plc o b 0) k) (fun k hk => ?_) ?_
    · have hkr : 0 ≤ (k : Int) ∧ (k : Int) < f.Blocks.length := by omega
      simp only [graph_Backs_l37_b, hsl, show (k : Int) < (f.Blocks.length : Int) by omega, decide_true, if_true, ix_succs hkr, Option.bind_some, Int.toNat_natCast]
      have hbl := backs_len W (fun b => plc o b 0) k
      have hnl := W.nxt_len k
      have hin : graph_Backs_l36 (places f.Blocks.length o) (succs f) k (nxt f k) (backs f (fun b => plc o b 0) k, 0) = some (backs f (fun b => plc o b 0) (k + 1)) := by
        have := loop_fn (nxt f k).length (by omega) (fun i => backs f (fun b => plc o b 0) k ++ bk (fun b => plc o b 0) k ((nxt f k).take i)) (body := fun s => graph_Backs_l36_b (places f.Blocks.length o) (succs f) k (nxt f k) s.1 s.2) (fin := backs f (fun b => plc o b 0) (k + 1)) (fun i hi => ?_) ?_
        · unfold graph_Backs_l36; simpa [bk] using this
        · have hb := W.nxt_lt (List.getElem_mem hi)
          have hbt := bk_len (fun b => plc o b 0) k ((nxt f k).take i)
          have htl : ((nxt f k).take i).length ≤ 30 := by simp; omega
          simp only [graph_Backs_l36_b, graph_Backs_j34, graph_Backs_j35, show (i : Int) < ((nxt f k).length : Int) by omega, decide_true, if_true, ix_nat hi, Option.bind_some, ix_places hkr, ix_places hb]
          rw [bk_take _ _ _ _ hi]
          by_cases h1 : 0 ≤ plc o k 0
          · simp only [h1, decide_true, if_true, Option.bind_some, Bool.true_and]
            cases decide (plc o (nxt f k)[i] 0 ≤ plc o k 0) with
            | true =>
              simp only [if_true]
              rw [app_ok (by simp; omega) (by simp; omega)]
              simp
            | false => simp
          · simp [h1]
        · simp [graph_Backs_l36_b, backs, List.range_succ]
      rw [hin]; rfl
    · simp [graph_Backs_l37_b, hsl]
  rw [this]; rfl
theorem rBacks_eq (W : Wf f) {o : List Int} (hp : r08_Places f = some (places f.Blocks.length o)) : r08_Backs f = some (backs f (fun b => plc o b 0) f.Blocks.length) := by
  have h24 := W.n1
  unfold r08_Backs
  rw [hp]
  simp only [Option.bind_some]
  have : r08_Backs_l29 f (places f.Blocks.length o) ([], 0) = some (backs f (fun b => plc o b 0) f.Blocks.length) := by
    refine loop_fn f.Blocks.length (by omega) (fun k => backs f (fun b => plc o b 0) k) (fun k hk => ?_) ?_
    · have hkr : 0 ≤ (k : Int) ∧ (k : Int) < f.Blocks.length := by omega
      simp only [r08_Backs_l29_b, show (k : Int) < (f.Blocks.length : Int) by omega, decide_true, if_true, Next_eq W hk, Option.bind_some]
      have hbl := backs_len W (fun b => plc o b 0) k
      have hnl := W.nxt_len k
      have hin : r08_Backs_l28 f (places f.Blocks.length o) k (nxt f k) (backs f (fun b => plc o b 0) k, 0) = some (backs f (fun b => plc o b 0) (k + 1)) := by
        by_cases hA : 0 ≤ plc o k 0
        · have := loop_fn (nxt f k).length (by omega) (fun i => backs f (fun b => plc o b 0) k ++ bk (fun b => plc o b 0) k ((nxt f k).take i)) (body := fun s => r08_Backs_l28_b f (places f.Blocks.length o) k (nxt f k) s.1 s.2) (fin := backs f (fun b => plc o b 0) (k + 1)) (fun i hi => ?_) ?_
          · unfold r08_Backs_l28; simpa [bk] using this
          · have hb := W.nxt_lt (List.getElem_mem hi)
            have hbt := bk_len (fun b => plc o b 0) k ((nxt f k).take i)
            have htl : ((nxt f k).take i).length ≤ 30 := by simp; omega
            simp only [r08_Backs_l28_b, r08_Backs_j25, r08_Backs_j27, show (i : Int) < ((nxt f k).length : Int) by omega, decide_true, if_true, ix_nat hi, Option.bind_some, ix_places hkr, ix_places hb, hA]
            rw [bk_take _ _ _ _ hi]
            simp only [hA, decide_true, Bool.true_and]
            cases decide (plc o (nxt f k)[i] 0 ≤ plc o k 0) with
            | true =>
              simp only [if_true]
              rw [app_ok (by simp; omega) (by simp; omega)]
              simp
            | false => simp
          · simp [r08_Backs_l28_b, r08_Backs_j25, backs, List.range_succ]
        · have hbk : bk (fun b => plc o b 0) k (nxt f k) = [] := by simp [bk, hA]
          have e : backs f (fun b => plc o b 0) (k + 1) = backs f (fun b => plc o b 0) k := by simp [backs, List.range_succ, hbk]
          rw [e]
          unfold r08_Backs_l28
          rw [runL_eq]
          have hj : r08_Backs_j25 f (places f.Blocks.length o) k (nxt f k) (backs f (fun b => plc o b 0) k) 0 = some false := by
            unfold r08_Backs_j25
            simp only [ix_places hkr, Option.bind_some, hA, decide_false]
            split <;> rfl
          simp only [r08_Backs_l28_b, hj, Option.bind_some, Bool.false_eq_true, if_false]
      rw [hin]; rfl
    · simp [r08_Backs_l29_b]
  rw [this]; rfl
end
end Go.Ab

/-
  GraphReaches: plain laws.
-/
namespace Go.Ab
open Go
set_option linter.unusedVariables false
set_option linter.unusedSimpArgs false
set_option maxRecDepth 10000
set_option maxHeartbeats 4000000

theorem foldO_some {α σ : Type} (g : σ → α → σ) : ∀ (xs : List α) (s : σ), foldO (fun s x => some (g s x)) s xs = some (xs.foldl g s)
  | [], s => rfl
  | x :: xs, s => by simp only [foldO, Option.bind_some, List.foldl_cons]; exact foldO_some g xs _
def addB (but : Int) (M : List Int) (x : Int) : List Int := if (x != but) && !M.contains x then M ++ [x] else M
def addsB (but : Int) (M : List Int) (l : List Int) : List Int := l.foldl (addB but) M
theorem addB_pre (but : Int) (M : List Int) (x : Int) : ∃ r, addB but M x = M ++ r := by
  unfold addB; split
  · exact ⟨[x], rfl⟩
  · exact ⟨[], by simp⟩
theorem addsB_pre (but : Int) : ∀ (l M : List Int), ∃ r, addsB but M l = M ++ r
  | [], M => ⟨[], by simp [addsB]⟩
  | x :: l, M => by
    obtain ⟨r, hr⟩ := addB_pre but M x
    obtain ⟨q, hq⟩ := addsB_pre but l (addB but M x)
    exact ⟨r ++ q, by rw [show addsB but M (x :: l) = addsB but (addB but M x) l from rfl, hq, hr, List.append_assoc]⟩
theorem addB_met {n : Nat} {but x : Int} {M : List Int} (h : Met n M []) (hx : 0 ≤ x ∧ x < n) : Met n (addB but M x) [] := by
  unfold addB
  split
  · rename_i hc
    simp only [Bool.and_eq_true, Bool.not_eq_true'] at hc
    have hn : x ∉ M := fun hm => by rw [List.contains_iff_mem.2 hm] at hc; cases hc.2
    have := (h.push (k := x) hx hn (by simp)).pop
    simpa using this
  · exact h
theorem addsB_met {n : Nat} {but : Int} : ∀ (l M : List Int), Met n M [] → (∀ x ∈ l, 0 ≤ x ∧ x < (n : Int)) → Met n (addsB but M l) []
  | [], M, h, _ => h
  | x :: l, M, h, hl => addsB_met l _ (addB_met h (hl x (by simp))) fun y hy => hl y (by simp [hy])
theorem addsB_take (but : Int) (M l : List Int) (i : Nat) (hi : i < l.length) : addsB but M (l.take (i + 1)) = addB but (addsB but M (l.take i)) l[i] := by
  rw [List.take_add_one, List.getElem?_eq_getElem hi]
  simp only [addsB, List.foldl_append, Option.toList_some, List.foldl_cons, List.foldl_nil]
theorem metL_add {n : Nat} {but x : Int} {M : List Int} (hx : 0 ≤ x ∧ x < n) : metL n (addB but M x) = if (x != but) && !M.contains x then (metL n M).set x.toNat true else metL n M := by
  unfold addB
  split
  · rename_i hc; rw [metL_set hx]
  · rfl
section
variable {f : Fun}
/-- how what is met grows: its place i is looked at -/
def grow (f : Fun) (but : Int) (M0 : List Int) : Nat → List Int
  | 0 => M0
  | i + 1 => match (grow f but M0 i)[i]? with
    | some k => addsB but (grow f but M0 i) (nxt f k.toNat)
    | Option.none => grow f but M0 i
theorem grow_pre (but : Int) (M0 : List Int) (i : Nat) : ∀ d, ∃ r, grow f but M0 (i + d) = grow f but M0 i ++ r
  | 0 => ⟨[], by simp⟩
  | d + 1 => by
    obtain ⟨r, hr⟩ := grow_pre but M0 i d
    rw [show i + (d + 1) = (i + d) + 1 by omega]
    simp only [grow]
    split
    · rename_i k _
      obtain ⟨q, hq⟩ := addsB_pre but (nxt f k.toNat) (grow f but M0 (i + d))
      exact ⟨r ++ q, by rw [hq, hr, List.append_assoc]⟩
    · exact ⟨r, hr⟩
theorem grow_met (W : Wf f) {but : Int} {M0 : List Int} (h : Met f.Blocks.length M0 []) : ∀ i, Met f.Blocks.length (grow f but M0 i) []
  | 0 => h
  | i + 1 => by
    simp only [grow]
    split
    · exact addsB_met _ _ (grow_met W h i) fun x hx => W.nxt_lt hx
    · exact grow_met W h i
theorem grow_len (W : Wf f) {but : Int} {M0 : List Int} (h : Met f.Blocks.length M0 []) (i : Nat) : (grow f but M0 i).length ≤ f.Blocks.length := by
  have := (grow_met W (but := but) h i).len
  simpa using this
theorem grow_stable {but : Int} {M0 : List Int} {i : Nat} (h : (grow f but M0 i).length ≤ i) : ∀ d, grow f but M0 (i + d) = grow f but M0 i
  | 0 => rfl
  | d + 1 => by
    have ih := grow_stable h d
    rw [show i + (d + 1) = (i + d) + 1 by omega]
    simp only [grow, ih]
    rw [List.getElem?_eq_none (by omega)]
theorem grow_at {but : Int} {M0 : List Int} {i t : Nat} (h : i + t < (grow f but M0 i).length) : (grow f but M0 (i + t))[i + t]? = some (grow f but M0 i)[i + t] := by
  obtain ⟨r, hr⟩ := grow_pre (f := f) but M0 i t
  rw [hr, List.getElem?_append_left h, List.getElem?_eq_getElem h]
theorem grow_fold (but : Int) (M0 : List Int) (i : Nat) : ∀ t, i + t ≤ (grow f but M0 i).length → (((grow f but M0 i).drop i).take t).foldl (fun M (k : Int) => addsB but M (nxt f k.toNat)) (grow f but M0 i) = grow f but M0 (i + t)
  | 0, _ => by simp
  | t + 1, h => by
    have hlt : t < ((grow f but M0 i).drop i).length := by simp; omega
    rw [List.take_add_one, List.getElem?_eq_getElem hlt, List.foldl_append, grow_fold but M0 i t (by omega)]
    rw [show i + (t + 1) = (i + t) + 1 by omega]
    simp only [grow, grow_at (show i + t < (grow f but M0 i).length by omega)]
    simp
/-! ### the reference -/
theorem Path_eq (W : Wf f) {l : List Int} (hl : ∀ x ∈ l, 0 ≤ x ∧ x < (f.Blocks.length : Int)) (hll : l.length ≤ 100) (to but : Int) : r08_Path (succs f) l to but = some ((grow f but (addsB but [] l) f.Blocks.length).contains to) := by
  have h24 := W.n1
  have hM0 : ∀ i, Met f.Blocks.length (addsB but [] (l.take i)) [] := fun i => addsB_met _ _ (met0 _) fun x hx => hl x (List.mem_of_mem_take hx)
  have h9 : r08_Path_l9 (succs f) l to but ([], 0) = some (addsB but [] l) := by
    have := loop_fn l.length (by omega) (fun i => addsB but [] (l.take i)) (body := fun s => r08_Path_l9_b (succs f) l to but s.1 s.2) (fin := addsB but [] l) (fun i hi => ?_) ?_
    · exact this
    · have hml := (hM0 i).len
      simp only [List.length_nil, Nat.add_zero] at hml
      simp only [r08_Path_l9_b, r08_Path_j7, r08_Path_j8, show (i : Int) < (l.length : Int) by omega, decide_true, if_true, ix_nat hi, Option.bind_some, Has_eq (show (addsB but [] (l.take i)).length < 140737488355328 by omega)]
      rw [addsB_take but [] l i hi, addB]
      cases (l[i] != but) with
      | false => simp
      | true =>
        cases (addsB but [] (l.take i)).contains l[i] with
        | true => simp
        | false =>
          simp only [if_true, Bool.not_false, Option.bind_some, Bool.and_self]
          rw [app_ok (by simp; omega) (by simp; omega)]
          rfl
    · simp [r08_Path_l9_b]
  have hS := hM0 l.length
  rw [List.take_length] at hS
  have h46 : ∃ r, r08_Path_l46 (succs f) to but (addsB but [] l, 0) = some r ∧ r = grow f but (addsB but [] l) f.Blocks.length := by
    refine runL_up f.Blocks.length (fun s => s.2) (fun s => s.1 = grow f but (addsB but [] l) s.2.toNat ∧ s.2 ≤ s.1.length) _ (fun s hI h0 h1 => ?_) (addsB but [] l, 0) ⟨rfl, by simp⟩ (by simp) (by simp)
    obtain ⟨hs, hle⟩ := hI
    have hgl := grow_len W (but := but) hS s.2.toNat
    have hmet := grow_met W (but := but) hS s.2.toNat
    unfold r08_Path_l46_b
    by_cases hlt : s.2 < s.1.length
    · obtain ⟨k, hk, hk'⟩ := ix_of_lt h0 hlt
      have hkr : 0 ≤ k ∧ k < f.Blocks.length := hmet.lt k (by
        rw [List.append_nil, ← hs]; exact List.mem_of_getElem? hk')
      have hnl := W.nxt_len k.toNat
      simp only [hlt, decide_true, if_true, hk, ix_succs hkr, Option.bind_some]
      have h45 : r08_Path_l45 (succs f) to but s.2 (nxt f k.toNat) (s.1, 0) = some (addsB but s.1 (nxt f k.toNat)) := by
        have := loop_fn (nxt f k.toNat).length (by omega) (fun i => addsB but s.1 ((nxt f k.toNat).take i)) (body := fun q => r08_Path_l45_b (succs f) to but s.2 (nxt f k.toNat) q.1 q.2) (fin := addsB but s.1 (nxt f k.toNat)) (fun i hi => ?_) ?_
        · exact this
        · have hm2 : Met f.Blocks.length (addsB but s.1 ((nxt f k.toNat).take i)) [] := addsB_met _ _ (hs ▸ hmet) fun x hx => W.nxt_lt (List.mem_of_mem_take hx)
          have hml := hm2.len
          simp only [List.length_nil, Nat.add_zero] at hml
          simp only [r08_Path_l45_b, r08_Path_j43, r08_Path_j44, show (i : Int) < ((nxt f k.toNat).length : Int) by omega, decide_true, if_true, ix_nat hi, Option.bind_some, Has_eq (show (addsB but s.1 ((nxt f k.toNat).take i)).length < 140737488355328 by omega)]
          rw [addsB_take but s.1 (nxt f k.toNat) i hi, addB]
          cases ((nxt f k.toNat)[i] != but) with
          | false => simp
          | true =>
            cases (addsB but s.1 ((nxt f k.toNat).take i)).contains (nxt f k.toNat)[i] with
            | true => simp
            | false =>
              simp only [if_true, Bool.not_false, Option.bind_some, Bool.and_self]
              rw [app_ok (by simp; omega) (by simp; omega)]
              rfl
        · simp [r08_Path_l45_b]
      rw [h45]
      right
      have hg : grow f but (addsB but [] l) (s.2.toNat + 1) = addsB but s.1 (nxt f k.toNat) := by
        simp only [grow]
        rw [← hs, hk']
      obtain ⟨r, hr⟩ := addsB_pre but (nxt f k.toNat) s.1
      have hlen2 : s.1.length ≤ (addsB but s.1 (nxt f k.toNat)).length := by rw [hr]; simp
      have hgl2 := grow_len W (but := but) hS (s.2.toNat + 1)
      rw [hg] at hgl2
      refine ⟨(addsB but s.1 (nxt f k.toNat), s.2 + 1), ?_, ⟨?_, ?_⟩, rfl, ?_⟩
      · simp only [Option.bind_some]; rw [wr1 h0 (by omega)]
      · simp only
        rw [show (s.2 + 1).toNat = s.2.toNat + 1 by omega, hg]
      · simp only; omega
      · simp only; rw [hs] at hlt; omega
    · left
      refine ⟨s.1, by simp [hlt], ?_⟩
      have h2 : s.2.toNat = s.1.length := by omega
      have h3 : (grow f but (addsB but [] l) s.2.toNat).length ≤ s.2.toNat := by rw [← hs]; omega
      have := grow_stable h3 (f.Blocks.length - s.2.toNat)
      rw [hs] at h2
      rw [show s.2.toNat + (f.Blocks.length - s.2.toNat) = f.Blocks.length by omega] at this
      rw [this, ← hs]
  obtain ⟨r, hr, rfl⟩ := h46
  have hfl := grow_len W (but := but) hS f.Blocks.length
  unfold r08_Path
  rw [h9]
  simp only [Option.bind_some, hr, Has_eq (show (grow f but (addsB but [] l) f.Blocks.length).length < 140737488355328 by omega)]
/-! ### the program's -/
theorem Reached_eq (W : Wf f) {l : List Int} (hl : ∀ x ∈ l, 0 ≤ x ∧ x < (f.Blocks.length : Int)) (hll : l.length ≤ 100) (but : Int) : graph_Reached (succs f) l but = some (metL f.Blocks.length (grow f but (addsB but [] l) f.Blocks.length)) := by
  have h24 := W.n1
  have hS : Met f.Blocks.length (addsB but [] l) [] := addsB_met _ _ (met0 _) hl
  have hsl : (succs f).length = f.Blocks.length := by simp [succs]
  unfold graph_Reached
  have hmk : mk ((succs f).length : Int) 1 false = some (metL f.Blocks.length []) := by
    rw [hsl]
    unfold mk
    rw [if_pos ⟨by omega, by simp; omega, by simp; omega⟩]
    congr 1
    refine List.ext_getElem (by simp [metL_len]) fun i h1 h2 => ?_
    simp [metL]
  rw [hmk]
  simp only [Option.bind_some]
  have h9 : graph_Reached_l9 (succs f) l but (metL f.Blocks.length [], [], 0) = some (metL f.Blocks.length (addsB but [] l), addsB but [] l) := by
    have := loop_fold l (by omega) (fun (M : List Int) i => (metL f.Blocks.length M, M, i)) (body := fun s => graph_Reached_l9_b (succs f) l but s.1 s.2.1 s.2.2) (fun M x => some (addB but M x)) (fun M => (metL f.Blocks.length M, M)) (fun M => Met f.Blocks.length M []) (fun M i x hM hx => ?_) (fun M x M' hM hx hq => ?_) (fun M hM => ?_) [] (met0 _)
    · rw [foldO_some] at this; exact this
    · have hi := (List.getElem?_eq_some_iff.1 hx).1
      have hxr := hl x (List.mem_of_getElem? hx)
      have hml := hM.len
      simp only [List.length_nil, Nat.add_zero] at hml
      have hix : ix l (i : Int) = some x := by rw [ix_nat hi, ← hx]; simp [hi]
      simp only [graph_Reached_l9_b, graph_Reached_j7, graph_Reached_j8, show (i : Int) < (l.length : Int) by omega, decide_true, if_true, hix, Option.bind_some, ix_metL hxr, Option.map_some]
      rw [metL_add hxr, addB]
      cases (x != but) with
      | false => simp
      | true =>
        cases M.contains x with
        | true => simp
        | false =>
          simp only [if_true, Bool.not_false, Option.bind_some, Bool.and_self]
          rw [app_ok (by simp; omega) (by simp; omega)]
          rfl
    · obtain rfl := Option.some.inj hq
      exact addB_met hM (hl x hx)
    · simp [graph_Reached_l9_b]
  rw [h9]
  simp only [Option.bind_some]
  have h158 : ∃ r, graph_Reached_l158 (succs f) but (metL f.Blocks.length (addsB but [] l), addsB but [] l, 0) = some r ∧ r = metL f.Blocks.length (grow f but (addsB but [] l) f.Blocks.length) := by
    refine runL_up f.Blocks.length (fun s => s.2.2) (fun s => ∃ m : Nat, s.1 = metL f.Blocks.length (grow f but (addsB but [] l) m) ∧ s.2.1 = (grow f but (addsB but [] l) m).drop m ∧ m ≤ (grow f but (addsB but [] l) m).length ∧ s.2.2 ≤ (m : Int)) _ (fun s hI h0 h1 => ?_) (metL f.Blocks.length (addsB but [] l), addsB but [] l, 0) ⟨0, rfl, rfl, by omega, by simp⟩ (by simp) (by simp)
    obtain ⟨m, e1, e2, hm, hv⟩ := hI
    have hgl := grow_len W (but := but) hS m
    have hmet := grow_met W (but := but) hS m
    have fin : (grow f but (addsB but [] l) m).length ≤ m → s.1 = metL f.Blocks.length (grow f but (addsB but [] l) f.Blocks.length) := fun h => by
      have := grow_stable h (f.Blocks.length - m)
      rw [show m + (f.Blocks.length - m) = f.Blocks.length by omega] at this
      rw [this, e1]
    unfold graph_Reached_l158_b
    rw [hsl]
    by_cases hlt : s.2.2 < f.Blocks.length
    · simp only [hlt, decide_true, if_true]
      by_cases hz : s.2.1.length = 0
      · rw [show ((s.2.1.length : Int) == 0) = true by rw [hz]; rfl]
        left
        refine ⟨s.1, rfl, fin ?_⟩
        rw [e2] at hz; simp at hz; omega
      · rw [show ((s.2.1.length : Int) == 0) = false by rw [beq_eq_false_iff_ne]; omega]
        simp only [Bool.false_eq_true, if_false]
        have hopl : s.2.1.length ≤ 24 := by rw [e2]; simp; omega
        have hopr : ∀ x ∈ s.2.1, 0 ≤ x ∧ x < (f.Blocks.length : Int) := fun x hx => hmet.lt x (by
          rw [List.append_nil]; rw [e2] at hx; exact List.mem_of_mem_drop hx)
        have h157 : graph_Reached_l157 (succs f) but s.2.1 s.2.2 (s.1, [], 0) = some (metL f.Blocks.length (grow f but (addsB but [] l) (grow f but (addsB but [] l) m).length), (grow f but (addsB but [] l) (grow f but (addsB but [] l) m).length).drop (grow f but (addsB but [] l) m).length) := by
          have := loop_fold s.2.1 (by omega) (fun (M : List Int) i => (metL f.Blocks.length M, M.drop (grow f but (addsB but [] l) m).length, i)) (body := fun q => graph_Reached_l157_b (succs f) but s.2.1 s.2.2 q.1 q.2.1 q.2.2) (fun M (k : Int) => some (addsB but M (nxt f k.toNat))) (fun M => (metL f.Blocks.length M, M.drop (grow f but (addsB but [] l) m).length)) (fun M => Met f.Blocks.length M [] ∧ (grow f but (addsB but [] l) m).length ≤ M.length) (fun M i k hM hk => ?_) (fun M k M' hM hk hq => ?_) (fun M hM => ?_) (grow f but (addsB but [] l) m) ⟨hmet, Nat.le_refl _⟩
          · rw [foldO_some] at this
            have hf := grow_fold (f := f) but (addsB but [] l) m ((grow f but (addsB but [] l) m).length - m) (by omega)
            rw [List.take_of_length_le (by simp), show m + ((grow f but (addsB but [] l) m).length - m) = (grow f but (addsB but [] l) m).length by omega, ← e2] at hf
            rw [hf, List.drop_length, ← e1] at this
            exact this
          · obtain ⟨hM, hML⟩ := hM
            have hi := (List.getElem?_eq_some_iff.1 hk).1
            have hkr := hopr k (List.mem_of_getElem? hk)
            have hnl := W.nxt_len k.toNat
            have hix : ix s.2.1 (i : Int) = some k := by rw [ix_nat hi, ← hk]; simp [hi]
            simp only [graph_Reached_l157_b, show (i : Int) < (s.2.1.length : Int) by omega, decide_true, if_true, hix, ix_succs hkr, Option.bind_some, Option.map_some]
            have h156 : graph_Reached_l156 (succs f) but s.2.1 s.2.2 i (nxt f k.toNat) (metL f.Blocks.length M, M.drop (grow f but (addsB but [] l) m).length, 0) = some (metL f.Blocks.length (addsB but M (nxt f k.toNat)), (addsB but M (nxt f k.toNat)).drop (grow f but (addsB but [] l) m).length) := by
              have := loop_fold (nxt f k.toNat) (by omega) (fun (M : List Int) i => (metL f.Blocks.length M, M.drop (grow f but (addsB but [] l) m).length, i)) (body := fun q => graph_Reached_l156_b (succs f) but s.2.1 s.2.2 i (nxt f k.toNat) q.1 q.2.1 q.2.2) (fun M x => some (addB but M x)) (fun M => (metL f.Blocks.length M, M.drop (grow f but (addsB but [] l) m).length)) (fun M => Met f.Blocks.length M [] ∧ (grow f but (addsB but [] l) m).length ≤ M.length) (fun M j x hM hx => ?_) (fun M x M' hM hx hq => ?_) (fun M hM => ?_) M ⟨hM, hML⟩
              · rw [foldO_some] at this; exact this
              · obtain ⟨hM, hML⟩ := hM
                have hi := (List.getElem?_eq_some_iff.1 hx).1
                have hxr := W.nxt_lt (List.mem_of_getElem? hx)
                have hml := hM.len
                simp only [List.length_nil, Nat.add_zero] at hml
                have hix : ix (nxt f k.toNat) (j : Int) = some x := by rw [ix_nat hi, ← hx]; simp [hi]
                simp only [graph_Reached_l156_b, graph_Reached_j154, graph_Reached_j155, show (j : Int) < ((nxt f k.toNat).length : Int) by omega, decide_true, if_true, hix, Option.bind_some, ix_metL hxr, Option.map_some]
                rw [metL_add hxr, addB]
                cases (x != but) with
                | false => simp
                | true =>
                  cases M.contains x with
                  | true => simp
                  | false =>
                    simp only [if_true, Bool.not_false, Option.bind_some, Bool.and_self]
                    rw [app_ok (by simp; omega) (by simp; omega), List.drop_append_of_le_length hML]
                    rfl
              · obtain rfl := Option.some.inj hq
                obtain ⟨r, hr⟩ := addB_pre but M x
                exact ⟨addB_met hM.1 (W.nxt_lt hx), by rw [hr]; simp; have := hM.2; omega⟩
              · simp [graph_Reached_l156_b]
            rw [h156]; rfl
          · obtain rfl := Option.some.inj hq
            obtain ⟨r, hr⟩ := addsB_pre but (nxt f k.toNat) M
            exact ⟨addsB_met _ _ hM.1 fun x hx => W.nxt_lt hx, by rw [hr]; simp; have := hM.2; omega⟩
          · simp [graph_Reached_l157_b]
        rw [h157]
        right
        have hgt : m < (grow f but (addsB but [] l) m).length := by rw [e2] at hz; simp at hz; omega
        obtain ⟨r, hr⟩ := grow_pre (f := f) but (addsB but [] l) m ((grow f but (addsB but [] l) m).length - m)
        rw [show m + ((grow f but (addsB but [] l) m).length - m) = (grow f but (addsB but [] l) m).length by omega] at hr
        refine ⟨(metL f.Blocks.length (grow f but (addsB but [] l) (grow f but (addsB but [] l) m).length), (grow f but (addsB but [] l) (grow f but (addsB but [] l) m).length).drop (grow f but (addsB but [] l) m).length, s.2.2 + 1), ?_, ⟨(grow f but (addsB but [] l) m).length, rfl, rfl, ?_, ?_⟩, rfl, ?_⟩
        · simp only [Option.bind_some]; rw [wr1 h0 (by omega)]
        · rw [hr]; simp
        · simp only; omega
        · simp only; omega
    · left
      refine ⟨s.1, by simp [hlt], fin (by omega)⟩
  obtain ⟨r, hr, rfl⟩ := h158
  rw [hr]; rfl
theorem graphReaches (f : Fun) (p1 : List Int) (p2 : Int) (r : RFun f) (hp : p1.length < 140737488355328 ∧ ∀ y ∈ p1, Rng .u8 y) (r3 : Rng .i64 p2) : l08_GraphReaches f p1 p2 = some true := by
  obtain ⟨v, hv, h⟩ := Light_spec r
  unfold l08_GraphReaches l08_GraphReaches_j1
  rw [hv]
  rcases h with rfl | ⟨rfl, W⟩
  · rfl
  simp only [Option.bind_some, Int.lt_irrefl, decide_false, Bool.false_eq_true, if_false]
  by_cases h20 : 20 < p1.length
  · rw [show decide (20 < (p1.length : Int)) = true from decide_eq_true (by omega)]; rfl
  rw [show decide (20 < (p1.length : Int)) = false from decide_eq_false (by omega)]
  simp only [Bool.false_eq_true, if_false]
  have h24 := W.n1
  have hn0 := W.n0
  have hrng : ∀ x ∈ p1, 0 ≤ Int.tmod (IntKind.wrap .i64 x) (f.Blocks.length : Int) ∧ Int.tmod (IntKind.wrap .i64 x) (f.Blocks.length : Int) < f.Blocks.length := fun x hx => by
    have := (hp.2 x hx).u8
    rw [wr64 (by omega) (by omega)]
    exact ⟨Int.tmod_nonneg _ (by omega), Int.tmod_lt_of_pos _ (by omega)⟩
  have h2 : l08_GraphReaches_l2 f p1 p2 ([], 0) = some (p1.map fun x => Int.tmod (IntKind.wrap .i64 x) (f.Blocks.length : Int)) := by
    have := loop_fn p1.length (by omega) (fun i => (p1.take i).map fun x => Int.tmod (IntKind.wrap .i64 x) (f.Blocks.length : Int)) (body := fun s => l08_GraphReaches_l2_b f p1 p2 s.1 s.2) (fin := p1.map fun x => Int.tmod (IntKind.wrap .i64 x) (f.Blocks.length : Int)) (fun i hi => ?_) ?_
    · exact this
    · simp only [l08_GraphReaches_l2_b, show (i : Int) < (p1.length : Int) by omega, decide_true, if_true, ix_nat hi, Option.bind_some, show ¬ ((f.Blocks.length : Int) = 0) by omega, decide_false, Bool.false_eq_true, if_false]
      have e : (p1.take (i + 1)).map (fun x => Int.tmod (IntKind.wrap .i64 x) (f.Blocks.length : Int)) = (p1.take i).map (fun x => Int.tmod (IntKind.wrap .i64 x) (f.Blocks.length : Int)) ++ [Int.tmod (IntKind.wrap .i64 p1[i]) (f.Blocks.length : Int)] := by
        rw [List.take_add_one, List.getElem?_eq_getElem hi]; simp only [Option.toList_some, List.map_append, List.map_cons, List.map_nil]
      rw [app_ok (by simp; omega) (by simp; omega), e]
      rfl
    · simp [l08_GraphReaches_l2_b]
  rw [h2]
  generalize hL : (p1.map fun x => Int.tmod (IntKind.wrap .i64 x) (f.Blocks.length : Int)) = L
  have hLr : ∀ x ∈ L, 0 ≤ x ∧ x < (f.Blocks.length : Int) := fun x hx => by
    rw [← hL] at hx
    obtain ⟨y, hy, rfl⟩ := List.mem_map.1 hx
    exact hrng y hy
  have hLl : L.length ≤ 100 := by rw [← hL]; simp; omega
  simp only [Option.bind_some, gSuccs_eq W, Reached_eq W hLr hLl, metL_len, show ((f.Blocks.length : Int) != (f.Blocks.length : Int)) = false by simp, Bool.false_eq_true, if_false]
  have h7 : ∃ q, l08_GraphReaches_l7 f p2 (metL f.Blocks.length (grow f p2 (addsB p2 [] L) f.Blocks.length)) (L, (!L.isEmpty), 0) = some q ∧ q = .next () := by
    refine runL_up f.Blocks.length (fun s => s.2.2) (fun s => s.1 = L) _ (fun s hI h0 h1 => ?_) (L, (!L.isEmpty), 0) rfl (by simp) (by simp)
    unfold l08_GraphReaches_l7_b l08_GraphReaches_j6
    rw [metL_len, hI]
    by_cases hlt : s.2.2 < f.Blocks.length
    · simp only [hlt, decide_true, if_true, ix_metL (show 0 ≤ s.2.2 ∧ s.2.2 < f.Blocks.length by omega), Option.bind_some, rSuccs_eq W, Path_eq W hLr hLl]
      right
      cases s.2.1 with
      | true => exact ⟨(L, true, s.2.2 + 1), by simp only [if_true, Option.bind_some, beq_self_eq_true, Bool.not_true, Bool.false_eq_true, if_false]; rw [wr1 h0 (by omega)], rfl, rfl, by simp only; omega⟩
      | false => exact ⟨(L, false, s.2.2 + 1), by simp only [Bool.false_eq_true, if_false, Option.bind_some, beq_self_eq_true, Bool.not_true]; rw [wr1 h0 (by omega)], rfl, rfl, by simp only; omega⟩
    · left; exact ⟨.next (), by simp [hlt], rfl⟩
  obtain ⟨q, hq, rfl⟩ := h7
  rw [hq]; rfl
end
end Go.Ab
