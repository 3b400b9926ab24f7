/-
  Plain laws: when rows are those of tasks (both texts).
  Plain laws: which tasks depend on a task; lists of tasks.
  Plain law: MasterForest's typed function answers true.
  What is proved: ceilinglaw33.MasterForest returns true for every slice of rows, and leaves its argument as it was. No condition.
-/
import Derived.Test.YtfggehkiglenjaaM3
import Derived.KernelRfl
import Derived.Test.YtfggehkiglenjaaRows
import Derived.Test.YtfggehkiglenjaaM2
import Derived.WalkKit
import Derived.ProofKit
import Derived.OpenShut
set_option linter.all false
set_option linter.deprecated false
namespace Go.Proofs.Ytfggehkiglenjaa
open Go Go.Eng

/-- Cell c of row i, as a truth value, as a number. -/
def cB (l : List Row) (i : Int) (c : Nat) : Bool := ((l.getD i.toNat []).getD c .top).toB
def cI (l : List Row) (i : Int) (c : Nat) : Int := ((l.getD i.toNat []).getD c .top).toI

theorem wrap_id {n : Int} (h0 : -9223372036854775808 ≤ n) (h1 : n ≤ 9223372036854775807) : IntKind.wrap .i64 n = n := by
  simp [IntKind.wrap, IntKind.bits, IntKind.signed]
  split <;> omega

def badA (i o s : Int) : Bool := (i == 0) && (o != -1 || s != -1)
def badB (i o s : Int) : Bool := decide (0 < i) && (decide (o < 0) || (decide (i ≤ o) || decide (s < 0)))
def badC (b0 b1 b2 b3 b4 : Bool) (a : Int) : Bool := !b0 && (b1 || b2) || (!(b0 && !b1) && (b3 || (b4 || a != -1)) || (decide (a < -1) || b3 && a != -1))
def lv (l : List Row) (i : Int) : Bool := cB l i 0 && !cB l i 1
/-- Row i is right. -/
def okAt (l : List Row) (i : Int) : Bool :=
  !badA i (cI l i 5) (cI l i 6) && (!badB i (cI l i 5) (cI l i 6) && (!badC (cB l i 0) (cB l i 1) (cB l i 2) (cB l i 3) (cB l i 4) (cI l i 7) && !(decide (0 < i) && (lv l i && !lv l (cI l i 5)))))

theorem J16a (N : Nat) (b0 b1 b2 b3 b4 : Bool) (o s a : Int) : J16a7474 N b0 b1 b2 b3 b4 o s a = some (.nx (b0 && !b1) b0 b1 b2 b3 b4 o s a) := by cases b0 <;> rfl
theorem J16b (N : Nat) (i : Int) (b0 b1 b2 b3 b4 : Bool) (o s a : Int) : J16a29900 N i b0 b1 b2 b3 b4 o s a = some (.nx (badA i o s) b0 b1 b2 b3 b4 o s a) := by
  unfold J16a29900 badA
  cases (i == 0) <;> cases (o != -1) <;> rfl
theorem J16c (N : Nat) (i : Int) (b0 b1 b2 b3 b4 : Bool) (o s a : Int) : J16a119606 N i b0 b1 b2 b3 b4 o s a = some (.nx (badB i o s) b0 b1 b2 b3 b4 o s a) := by
  unfold J16a119606 badB
  cases decide (0 < i) <;> cases decide (o < 0) <;> cases decide (i ≤ o) <;> rfl
theorem J16e (N : Nat) (b0 b1 b2 b3 b4 : Bool) (o s a : Int) : J16a956860 N b0 b1 b2 b3 b4 o s a = some (.nx (!b0 && (b1 || b2)) b0 b1 b2 b3 b4 o s a) := by cases b0 <;> cases b1 <;> rfl
theorem J16f (N : Nat) (x b0 b1 b2 b3 b4 : Bool) (o s a : Int) : J16a3827446 N x b0 b1 b2 b3 b4 o s a = some (.nx (!x && (b3 || (b4 || a != -1))) b0 b1 b2 b3 b4 o s a) := by cases x <;> cases b3 <;> cases b4 <;> rfl
theorem J16d (N : Nat) (b0 b1 b2 b3 b4 : Bool) (o s a : Int) : J16a478430 N (b0 && !b1) b0 b1 b2 b3 b4 o s a = some (.nx (badC b0 b1 b2 b3 b4 a) b0 b1 b2 b3 b4 o s a) := by
  unfold J16a478430 badC
  simp only [J16e, J16f]
  cases (!b0 && (b1 || b2)) with
  | true => rfl
  | false =>
    cases (!(b0 && !b1) && (b3 || (b4 || a != -1))) with
    | true => rfl
    | false => cases decide (a < -1) <;> cases b3 <;> rfl

theorem L16_step (N n : Nat) (l : List Row) (i : Int) (h0 : 0 ≤ i) (h1 : i < l.length) : L16a58 N (n + 1) l l l.length i = match okAt l i with | true => L16a58 N n l l l.length (IntKind.wrap .i64 (i + 1)) | false => some (.ret false) := by
  have e0 : decide (i < (l.length : Int)) = true := by simpa using h1
  have e1 : decide (0 ≤ i) = true := by simpa using h0
  show (match decide (i < (l.length : Int)) with | true => _ | false => _) = _
  simp only [e0, e1, J16a, J16b, J16c, J16d, Bool.and_self, tst]
  unfold okAt
  simp only [← cB.eq_1, ← cI.eq_1, ← lv.eq_1]
  cases hA : badA i (cI l i 5) (cI l i 6) with
  | true => rfl
  | false =>
    cases hB : badB i (cI l i 5) (cI l i 6) with
    | true => rfl
    | false =>
      cases hC : badC (cB l i 0) (cB l i 1) (cB l i 2) (cB l i 3) (cB l i 4) (cI l i 7) with
      | true => rfl
      | false =>
        cases hd : decide (0 < i) with
        | false => rfl
        | true =>
          cases hl : lv l i with
          | false => rfl
          | true =>
            unfold badB at hB
            rw [hd] at hB
            have hi : 0 < i := by simpa using hd
            simp only [Bool.true_and, Bool.or_eq_false_iff, decide_eq_false_iff_not] at hB
            have e2 : decide (0 ≤ cI l i 5) = true := by simp; omega
            have e3 : decide (cI l i 5 < (l.length : Int)) = true := by simp; omega
            simp only [e2, e3, Bool.and_self, lv]
            cases cB l (cI l i 5) 0 with
            | false => rfl
            | true => cases cB l (cI l i 5) 1 <;> rfl

def okFrom (l : List Row) (i : Nat) : Nat → Bool
  | 0 => true
  | k + 1 => okAt l i && okFrom l (i + 1) k
/-- The rows are those of tasks with their masters. -/
def may (l : List Row) : Bool := decide (l.length ≤ 32) && okFrom l 0 l.length

theorem wrap_succ {i : Nat} (h : i ≤ 1000000) : IntKind.wrap .i64 ((i : Int) + 1) = ((i + 1 : Nat) : Int) := by
  rw [wrap_id (by omega) (by omega)]; omega

theorem L16_all (N : Nat) (l : List Row) (hl : l.length ≤ 1000) : ∀ (k n i : Nat), i + k = l.length → k < n → L16a58 N n l l l.length i = match okFrom l i k with | true => some .x0 | false => some (.ret false)
  | 0, n + 1, i, h, _ => by
    have e : decide ((i : Int) < (l.length : Int)) = false := by simp; omega
    show (match decide ((i : Int) < (l.length : Int)) with | true => _ | false => _) = _
    rw [e]; rfl
  | k + 1, n + 1, i, h, hn => by
    rw [L16_step N n l i (by omega) (by omega)]
    cases ho : okAt l i with
    | false => simp only [okFrom, ho, Bool.false_and]
    | true =>
      simp only [okFrom, ho, Bool.true_and]
      rw [wrap_succ (by omega)]
      exact L16_all N l hl k n (i + 1) (by omega) (by omega)
  | _, 0, _, _, h => by omega

theorem F16_eq {N : Nat} (hN : 40 ≤ N) (l : List Row) : F16 N l = some (.r (may l)) := by
  obtain ⟨M, rfl⟩ : ∃ M, N = M + 1 := ⟨N - 1, by omega⟩
  show (match decide ((32 : Int) < (l.length : Int)) with | true => _ | false => _) = _
  unfold may
  by_cases h : l.length ≤ 32
  · have e : decide ((32 : Int) < (l.length : Int)) = false := by simp; omega
    rw [e]
    simp only
    have := L16_all M l (by omega) l.length M 0 (by omega) (by omega)
    rw [show (0 : Int) = ((0 : Nat) : Int) from rfl, this]
    simp only [h, decide_true, Bool.true_and]
    cases okFrom l 0 l.length <;> rfl
  · have e : decide ((32 : Int) < (l.length : Int)) = true := by simp; omega
    rw [e]
    simp [h]

theorem F30_eq (N : Nat) (b0 b1 b2 b3 b4 : Bool) (o s a : Int) : F30 (N + 1) b0 b1 b2 b3 b4 o s a = some (.r (b0 && !b1)) := by cases b0 <;> rfl
theorem J19a_eq (N : Nat) (i : Int) (b0 b1 b2 b3 b4 : Bool) (o s a : Int) : J19a3730 N i b0 b1 b2 b3 b4 o s a = match badA i o s || badB i o s with | true => some (.ret false b0 b1 b2 b3 b4 o s a) | false => some (.nx b0 b1 b2 b3 b4 o s a) := by
  unfold J19a3730 badA badB
  cases (i == 0) <;> cases (o != -1) <;> cases (s != -1) <;> cases decide (0 < i) <;> cases decide (o < 0) <;> cases decide (i ≤ o) <;> cases decide (s < 0) <;> rfl
theorem J19b_eq (N : Nat) (b0 b1 b2 b3 b4 : Bool) (o s a : Int) : J19a7462 (N + 1) b0 b1 b2 b3 b4 o s a = match badC b0 b1 b2 b3 b4 a with | true => some (.ret false b0 b1 b2 b3 b4 o s a) | false => some (.nx b0 b1 b2 b3 b4 o s a) := by
  unfold J19a7462 badC
  simp only [F30_eq]
  cases b0 <;> cases b1 <;> cases b2 <;> cases b3 <;> cases b4 <;> cases (a != -1) <;> cases decide (a < -1) <;> rfl

theorem L19_step (N n : Nat) (l : List Row) (i : Int) (h0 : 0 ≤ i) (h1 : i < l.length) : L19a58 (N + 1) (n + 1) l i = match okAt l i with | true => L19a58 (N + 1) n l (IntKind.wrap .i64 (i + 1)) | false => some (.ret false) := by
  have e0 : decide (i < (l.length : Int)) = true := by simpa using h1
  have e1 : decide (0 ≤ i) = true := by simpa using h0
  show (match decide (i < (l.length : Int)) with | true => _ | false => _) = _
  simp only [e0, e1, J19a_eq, Bool.and_self, tst]
  unfold okAt
  simp only [← cB.eq_1, ← cI.eq_1, ← lv.eq_1]
  cases hA : badA i (cI l i 5) (cI l i 6) with
  | true => rfl
  | false =>
    cases hB : badB i (cI l i 5) (cI l i 6) with
    | true => rfl
    | false =>
      simp only [Bool.or_self, J19b_eq]
      cases hC : badC (cB l i 0) (cB l i 1) (cB l i 2) (cB l i 3) (cB l i 4) (cI l i 7) with
      | true => rfl
      | false =>
        cases hd : decide (0 < i) with
        | false => rfl
        | true =>
          simp only [F30_eq, ← lv.eq_1]
          cases hl : lv l i with
          | false => rfl
          | true =>
            unfold badB at hB
            rw [hd] at hB
            have hi : 0 < i := by simpa using hd
            simp only [Bool.true_and, Bool.or_eq_false_iff, decide_eq_false_iff_not] at hB
            have e2 : decide (0 ≤ cI l i 5) = true := by simp; omega
            have e3 : decide (cI l i 5 < (l.length : Int)) = true := by simp; omega
            simp only [e2, e3, Bool.and_self]
            cases lv l (cI l i 5) <;> rfl

theorem L19_all (N : Nat) (l : List Row) (hl : l.length ≤ 1000) : ∀ (k n i : Nat), i + k = l.length → k < n → L19a58 (N + 1) n l i = match okFrom l i k with | true => some .x0 | false => some (.ret false)
  | 0, n + 1, i, h, _ => by
    have e : decide ((i : Int) < (l.length : Int)) = false := by simp; omega
    show (match decide ((i : Int) < (l.length : Int)) with | true => _ | false => _) = _
    rw [e]; rfl
  | k + 1, n + 1, i, h, hn => by
    rw [L19_step N n l i (by omega) (by omega)]
    cases ho : okAt l i with
    | false => simp only [okFrom, ho, Bool.false_and]
    | true =>
      simp only [okFrom, ho, Bool.true_and]
      rw [wrap_succ (by omega)]
      exact L19_all N l hl k n (i + 1) (by omega) (by omega)
  | _, 0, _, _, h => by omega

theorem F19_eq {N : Nat} (hN : 40 ≤ N) (l : List Row) : F19 N l = some (.r (may l)) := by
  obtain ⟨M, rfl⟩ : ∃ M, N = M + 2 := ⟨N - 2, by omega⟩
  show (match decide ((32 : Int) < (l.length : Int)) with | true => _ | false => _) = _
  unfold may
  by_cases h : l.length ≤ 32
  · have e : decide ((32 : Int) < (l.length : Int)) = false := by simp; omega
    rw [e]
    simp only
    have := L19_all M l (by omega) l.length (M + 1) 0 (by omega) (by omega)
    rw [show (0 : Int) = ((0 : Nat) : Int) from rfl, this]
    simp only [h, decide_true, Bool.true_and]
    cases okFrom l 0 l.length <;> rfl
  · have e : decide ((32 : Int) < (l.length : Int)) = true := by simp; omega
    rw [e]
    simp [h]

/-- What holds of right rows. -/
theorem okFrom_get {l : List Row} : ∀ {k i : Nat}, okFrom l i k = true → ∀ j, i ≤ j → j < i + k → okAt l j = true
  | 0, i, _, j, h1, h2 => by omega
  | k + 1, i, h, j, h1, h2 => by
    simp only [okFrom, Bool.and_eq_true] at h
    by_cases e : j = i
    · subst e; exact h.1
    · exact okFrom_get h.2 j (by omega) (by omega)
theorem may_ok {l : List Row} (h : may l = true) : l.length ≤ 32 ∧ ∀ j : Nat, j < l.length → okAt l j = true := by
  simp only [may, Bool.and_eq_true, decide_eq_true_eq] at h
  exact ⟨h.1, fun j hj => okFrom_get h.2 j (by omega) (by omega)⟩
theorem may_own {l : List Row} (h : may l = true) {j : Nat} (hj : j < l.length) : (j = 0 → cI l j 5 = -1 ∧ cI l j 6 = -1) ∧ (0 < j → 0 ≤ cI l j 5 ∧ cI l j 5 < j ∧ 0 ≤ cI l j 6) := by
  have := (may_ok h).2 j hj
  simp only [okAt, badA, badB, Bool.and_eq_true, Bool.not_eq_true'] at this
  refine ⟨fun e => ?_, fun e => ?_⟩
  · subst e; have h1 := this.1; simp at h1; exact h1
  · have h2 := this.2.1; simp at h2; omega

end Go.Proofs.Ytfggehkiglenjaa

namespace Go.Proofs.Ytfggehkiglenjaa
open Go Go.Eng

/-! ### Lists of numbers, arrays of truth values -/
def rowsN (xs : List Nat) : List Row := xs.map fun (i : Nat) => [AV.int .i64 (i : Int)]
theorem rowsN_length (xs : List Nat) : (rowsN xs).length = xs.length := by simp [rowsN]
theorem rowsN_append (xs : List Nat) (i : Nat) : rowsN xs ++ [[AV.int .i64 (i : Int)]] = rowsN (xs ++ [i]) := by simp [rowsN]
theorem rowsN_get {xs : List Nat} {i : Nat} (h : i < xs.length) : (((rowsN xs).getD i []).getD 0 .top).toI = (xs[i] : Int) := by
  simp [rowsN, List.getD, List.getElem?_map, List.getElem?_eq_getElem h, AV.toI]

def flt (m : Nat → Bool) : Nat → Nat → List Nat
  | _, 0 => []
  | i, k + 1 => match m i with | true => i :: flt m (i + 1) k | false => flt m (i + 1) k
theorem mem_flt {m : Nat → Bool} : ∀ {k i j : Nat}, j ∈ flt m i k ↔ i ≤ j ∧ j < i + k ∧ m j = true
  | 0, i, j => by simp [flt]; omega
  | k + 1, i, j => by
    simp only [flt]
    cases h : m i with
    | true =>
      simp only [List.mem_cons, mem_flt]
      constructor
      · rintro (rfl | ⟨h1, h2, h3⟩)
        · exact ⟨Nat.le_refl _, by omega, h⟩
        · exact ⟨by omega, by omega, h3⟩
      · rintro ⟨h1, h2, h3⟩
        by_cases e : j = i
        · exact .inl e
        · exact .inr ⟨by omega, by omega, h3⟩
    | false =>
      simp only [mem_flt]
      constructor
      · rintro ⟨h1, h2, h3⟩; exact ⟨by omega, by omega, h3⟩
      · rintro ⟨h1, h2, h3⟩
        refine ⟨?_, by omega, h3⟩
        by_cases e : j = i
        · subst e; rw [h] at h3; cases h3
        · omega
theorem flt_length (m : Nat → Bool) : ∀ (k i : Nat), (flt m i k).length ≤ k
  | 0, _ => by simp [flt]
  | k + 1, i => by
    simp only [flt]
    have := flt_length m k (i + 1)
    cases m i <;> simp <;> omega
theorem flt_congr {m m' : Nat → Bool} : ∀ {k i : Nat}, (∀ j, i ≤ j → j < i + k → m j = m' j) → flt m i k = flt m' i k
  | 0, _, _ => rfl
  | k + 1, i, h => by
    simp only [flt]
    rw [h i (Nat.le_refl _) (by omega), flt_congr (k := k) (i := i + 1) fun j h1 h2 => h j (by omega) (by omega)]

def arr (m : Nat → Bool) : List AV := [.bool (m 0), .bool (m 1), .bool (m 2), .bool (m 3), .bool (m 4), .bool (m 5), .bool (m 6), .bool (m 7), .bool (m 8), .bool (m 9), .bool (m 10), .bool (m 11), .bool (m 12), .bool (m 13), .bool (m 14), .bool (m 15), .bool (m 16), .bool (m 17), .bool (m 18), .bool (m 19), .bool (m 20), .bool (m 21), .bool (m 22), .bool (m 23), .bool (m 24), .bool (m 25), .bool (m 26), .bool (m 27), .bool (m 28), .bool (m 29), .bool (m 30), .bool (m 31)]
theorem arr_eq (m : Nat → Bool) : arr m = (List.range 32).map fun i => AV.bool (m i) := rfl
theorem arr_get (m : Nat → Bool) {i : Nat} (h : i < 32) : ((arr m).getD (0 + i * 1) .top).toB = m i := by
  rw [arr_eq, Nat.zero_add, Nat.mul_one]
  simp [List.getD, List.getElem?_map, List.getElem?_range h, AV.toB]
def upd (m : Nat → Bool) (i : Nat) (j : Nat) : Bool := m j || j == i
theorem arr_set (m : Nat → Bool) {i : Nat} (h : i < 32) : Eng.setAt (arr m) (0 + i * 1) [AV.bool true] = arr (upd m i) := by
  rw [arr_eq, arr_eq, Nat.zero_add, Nat.mul_one]
  simp only [Eng.setAt]
  apply List.ext_getElem (by simp)
  intro j h1 h2
  simp only [List.length_set, List.length_map, List.length_range] at h1
  simp only [List.getElem_set, List.getElem_map, List.getElem_range, upd]
  by_cases e : i = j
  · subst e; simp
  · have : (j == i) = false := by simp; omega
    simp [e, this]
theorem arr_congr {m m' : Nat → Bool} (h : ∀ j, m j = m' j) : arr m = arr m' := by rw [show m = m' from funext h]

/-! ### In -/
theorem L18_all (N : Nat) (xs : List Nat) (hx : xs.length ≤ 1000) (v : Int) : ∀ (k n i : Nat), i + k = xs.length → k < n → L18a26 N n (rowsN xs) v i = match (xs.drop i).any (fun x => (x : Int) == v) with | true => some (.ret true) | false => some .x0
  | 0, n + 1, i, h, _ => by
    have e : decide ((i : Int) < ((rowsN xs).length : Int)) = false := by rw [rowsN_length]; simp; omega
    show (match decide ((i : Int) < ((rowsN xs).length : Int)) with | true => _ | false => _) = _
    rw [e, List.drop_eq_nil_of_le (by omega)]; rfl
  | k + 1, n + 1, i, h, hn => by
    have hi : i < xs.length := by omega
    have e : decide ((i : Int) < ((rowsN xs).length : Int)) = true := by rw [rowsN_length]; simp; omega
    have e1 : decide ((0 : Int) ≤ (i : Int)) = true := by simp
    show (match decide ((i : Int) < ((rowsN xs).length : Int)) with | true => _ | false => _) = _
    simp only [e, e1, Bool.and_self, tst, Int.toNat_natCast, rowsN_get hi]
    rw [List.drop_eq_getElem_cons hi, List.any_cons]
    cases hq : ((xs[i] : Int) == v) with
    | true => rfl
    | false =>
      simp only [Bool.false_or]
      rw [wrap_succ (by omega)]
      exact L18_all N xs hx v k n (i + 1) (by omega) (by omega)
  | _, 0, _, _, h => by omega
theorem F18_eq {N : Nat} (hN : 50 ≤ N) {xs : List Nat} (hx : xs.length ≤ 45) (v : Int) : F18 N (rowsN xs) v = some (.r (xs.any fun x => (x : Int) == v)) := by
  obtain ⟨M, rfl⟩ : ∃ M, N = M + 1 := ⟨N - 1, by omega⟩
  show (match L18a26 M M (rowsN xs) v 0 with | none => (none : Option R18) | some (.ret x) => some (.r x) | some (.x0) => some (.r false)) = _
  rw [show (0 : Int) = ((0 : Nat) : Int) from rfl, L18_all M xs (by omega) v xs.length M 0 (by omega) (by omega), List.drop_zero]
  cases xs.any fun x => (x : Int) == v <;> rfl

/-! ### Of -/
def isOf (l : List Row) (t s : Int) (i : Nat) : Bool := decide (0 < i) && (cI l i 5 == t && cI l i 6 == s)
theorem L14_all (N : Nat) (l : List Row) (hl : l.length ≤ 32) (t s : Int) (hs : 0 ≤ s) : ∀ (k n i : Nat) (acc : List Nat), i + k = l.length → k < n → acc.length ≤ i → L14i58f31a6 N n l l.length i t s (rowsN acc) = some (.x0 t s (rowsN (acc ++ flt (isOf l t s) i k)))
  | 0, n + 1, i, acc, h, _, _ => by
    have e : decide ((i : Int) < (l.length : Int)) = false := by simp; omega
    show (match decide ((i : Int) < (l.length : Int)) with | true => _ | false => _) = _
    rw [e]; simp [flt]
  | k + 1, n + 1, i, acc, h, hn, ha => by
    have e : decide ((i : Int) < (l.length : Int)) = true := by simp; omega
    have e1 : decide ((0 : Int) ≤ (i : Int)) = true := by simp
    have e2 : decide (s < 0) = false := by simp; omega
    show (match decide ((i : Int) < (l.length : Int)) with | true => _ | false => _) = _
    simp only [e, e1, e2, Bool.and_self, tst, ← cI.eq_1]
    rw [wrap_succ (by omega)]
    have ih := L14_all N l hl t s hs k n (i + 1)
    have e4 : decide (((rowsN acc).length + 1) * 8 ≤ 140737488355328) = true := by rw [rowsN_length]; simp; omega
    have e5 : decide ((0 : Int) < (i : Int)) = decide (0 < i) := by simp
    rw [e5]
    unfold flt
    have hof : isOf l t s i = (decide (0 < i) && (cI l i 5 == t && cI l i 6 == s)) := rfl
    rw [hof]
    cases decide (0 < i) with
    | false => simp only [Bool.false_and]; exact ih acc (by omega) (by omega) (by omega)
    | true =>
      cases cI l i 5 == t with
      | false => simp only [Bool.false_and, Bool.and_false]; exact ih acc (by omega) (by omega) (by omega)
      | true =>
        cases cI l i 6 == s with
        | false => simp only [Bool.and_false]; exact ih acc (by omega) (by omega) (by omega)
        | true =>
          simp only [Bool.and_self, e4, rowsN_append]
          rw [ih (acc ++ [i]) (by omega) (by omega) (by simp; omega)]
          simp
  | _, 0, _, _, _, h, _ => by omega
theorem F14_eq {N : Nat} (hN : 50 ≤ N) {l : List Row} (h : may l = true) (t s : Int) (hs : 0 ≤ s) : F14 N l t s = some (.r (rowsN (flt (isOf l t s) 0 l.length))) := by
  obtain ⟨M, rfl⟩ : ∃ M, N = M + 1 := ⟨N - 1, by omega⟩
  have hl := (may_ok h).1
  obtain ⟨K, rfl⟩ : ∃ K, M = K + 1 := ⟨M - 1, by omega⟩
  have e2 : decide (s < 0) = false := by simp; omega
  show (match F16 (K + 1) l with | none => none | some (.r x) => _) = _
  rw [F16_eq (by omega), h]
  simp only [Bool.not_true, e2]
  show (match L14i58f31a6 (K + 1) (K + 1) l l.length 0 t s (rowsN []) with | none => (none : Option R14) | some (.x0 _ _ b) => some (.r b)) = _
  rw [show (0 : Int) = ((0 : Nat) : Int) from rfl, L14_all (K + 1) l hl t s hs l.length (K + 1) 0 [] (by omega) (by omega) (by simp)]
  simp

/-! ### Dependence -/
def depF (l : List Row) (t : Int) : Nat → Nat → Bool
  | 0, _ => false
  | k + 1, j => decide (0 < j) && (cI l j 5 == t || depF l t k (cI l j 5).toNat)
/-- Task j depends on task t. -/
def dep (l : List Row) (t : Int) (j : Nat) : Bool := depF l t (j + 1) j
theorem depF_more {l : List Row} (h : may l = true) (t : Int) : ∀ (k k' j : Nat), j < l.length → j < k → j < k' → depF l t k j = depF l t k' j
  | 0, _, j, _, h1, _ => by omega
  | k + 1, 0, j, _, _, h2 => by omega
  | k + 1, k' + 1, j, hj, h1, h2 => by
    simp only [depF]
    by_cases h0 : 0 < j
    · have := (may_own h hj).2 h0
      rw [depF_more h t k k' (cI l j 5).toNat (by omega) (by omega) (by omega)]
    · simp [h0]
theorem dep_eq {l : List Row} (h : may l = true) (t : Int) {j : Nat} (hj : j < l.length) : dep l t j = (decide (0 < j) && (cI l j 5 == t || dep l t (cI l j 5).toNat)) := by
  show depF l t (j + 1) j = _
  rw [depF]
  show _ = (decide (0 < j) && (cI l j 5 == t || depF l t ((cI l j 5).toNat + 1) (cI l j 5).toNat))
  by_cases h0 : 0 < j
  · have := (may_own h hj).2 h0
    rw [depF_more h t j ((cI l j 5).toNat + 1) (cI l j 5).toNat (by omega) (by omega) (by omega)]
  · simp [h0]
theorem dep_iff {l : List Row} (h : may l = true) (t : Int) {j : Nat} (hj : j < l.length) : dep l t j = true ↔ 0 < j ∧ (cI l j 5 = t ∨ dep l t (cI l j 5).toNat = true) := by
  rw [dep_eq h t hj]; simp
theorem dep_gt {l : List Row} (h : may l = true) (t : Int) : ∀ {j : Nat}, j < l.length → dep l t j = true → 0 ≤ t ∧ t < j := by
  intro j
  induction j using Nat.strongRecOn with
  | _ j ih =>
    intro hj hd
    obtain ⟨h0, h1⟩ := (dep_iff h t hj).1 hd
    have hw := (may_own h hj).2 h0
    rcases h1 with h1 | h1
    · omega
    · have := ih (cI l j 5).toNat (by omega) (by omega) h1
      omega
theorem dep_trans {l : List Row} (h : may l = true) (t : Int) (u : Nat) (hu : u < l.length) (hd : dep l t u = true) : ∀ {j : Nat}, j < l.length → dep l u j = true → dep l t j = true := by
  intro j
  induction j using Nat.strongRecOn with
  | _ j ih =>
    intro hj hj'
    obtain ⟨h0, h1⟩ := (dep_iff h _ hj).1 hj'
    have hw := (may_own h hj).2 h0
    refine (dep_iff h t hj).2 ⟨h0, .inr ?_⟩
    rcases h1 with h1 | h1
    · rw [h1]; simpa using hd
    · exact ih (cI l j 5).toNat (by omega) (by omega) h1
/-- The first step on the way down. -/
theorem dep_top {l : List Row} (h : may l = true) (t : Int) : ∀ {j : Nat}, j < l.length → (dep l t j = true ↔ ∃ c : Nat, 0 < c ∧ c < l.length ∧ cI l c 5 = t ∧ (j = c ∨ dep l c j = true)) := by
  intro j
  induction j using Nat.strongRecOn with
  | _ j ih =>
    intro hj
    rw [dep_iff h t hj]
    constructor
    · rintro ⟨h0, h1⟩
      have hw := (may_own h hj).2 h0
      rcases h1 with h1 | h1
      · exact ⟨j, h0, hj, h1, .inl rfl⟩
      · obtain ⟨c, c1, c2, c3, c4⟩ := (ih (cI l j 5).toNat (by omega) (by omega)).1 h1
        refine ⟨c, c1, c2, c3, .inr ((dep_iff h _ hj).2 ⟨h0, ?_⟩)⟩
        rcases c4 with c4 | c4
        · left; omega
        · exact .inr c4
    · rintro ⟨c, c1, c2, c3, c4⟩
      rcases c4 with rfl | c4
      · exact ⟨c1, .inl c3⟩
      · obtain ⟨h0, h1⟩ := (dep_iff h _ hj).1 c4
        have hw := (may_own h hj).2 h0
        refine ⟨h0, .inr ((ih (cI l j 5).toNat (by omega) (by omega)).2 ⟨c, c1, c2, c3, ?_⟩)⟩
        rcases h1 with h1 | h1
        · left; omega
        · exact .inr h1

def child (l : List Row) (t : Int) (i : Nat) : Bool := decide (0 < i) && cI l i 5 == t
def mk (l : List Row) (t : Int) : Nat → Nat → (Nat → Bool) → Nat → Bool
  | _, 0, m => m
  | i, k + 1, m => mk l t (i + 1) k (match child l t i with | true => fun j => upd m i j || (decide (j < l.length) && dep l i j) | false => m)
theorem mk_iff (l : List Row) (t : Int) (j : Nat) : ∀ (k i : Nat) (m : Nat → Bool), mk l t i k m j = true ↔ m j = true ∨ ∃ c, i ≤ c ∧ c < i + k ∧ child l t c = true ∧ (j = c ∨ j < l.length ∧ dep l c j = true)
  | 0, i, m => by simp only [mk]; constructor; exact .inl; rintro (h | ⟨c, h1, h2, _⟩); exact h; omega
  | k + 1, i, m => by
    simp only [mk]
    rw [mk_iff l t j k (i + 1)]
    cases hc : child l t i with
    | true =>
      simp only [upd, Bool.or_eq_true, Bool.and_eq_true, decide_eq_true_eq, beq_iff_eq]
      constructor
      · rintro (((h | h) | h) | ⟨c, h1, h2, h3⟩)
        · exact .inl h
        · exact .inr ⟨i, by omega, by omega, hc, .inl h⟩
        · exact .inr ⟨i, by omega, by omega, hc, .inr h⟩
        · exact .inr ⟨c, by omega, by omega, h3⟩
      · rintro (h | ⟨c, h1, h2, h3, h4⟩)
        · exact .inl (.inl (.inl h))
        · by_cases e : c = i
          · subst e
            rcases h4 with h4 | h4
            · exact .inl (.inl (.inr h4))
            · exact .inl (.inr h4)
          · exact .inr ⟨c, by omega, by omega, h3, h4⟩
    | false =>
      simp only
      constructor
      · rintro (h | ⟨c, h1, h2, h3⟩)
        · exact .inl h
        · exact .inr ⟨c, by omega, by omega, h3⟩
      · rintro (h | ⟨c, h1, h2, h3, h4⟩)
        · exact .inl h
        · by_cases e : c = i
          · subst e; rw [hc] at h3; cases h3
          · exact .inr ⟨c, by omega, by omega, h3, h4⟩
theorem mk_all {l : List Row} (h : may l = true) (t : Int) (m : Nat → Bool) (j : Nat) : mk l t 0 l.length m j = (m j || (decide (j < l.length) && dep l t j)) := by
  rw [Bool.eq_iff_iff, mk_iff]
  simp only [Bool.or_eq_true, Bool.and_eq_true, decide_eq_true_eq, child, beq_iff_eq]
  constructor
  · rintro (h1 | ⟨c, _, c2, ⟨c3, c4⟩, c5⟩)
    · exact .inl h1
    · right
      have hj : j < l.length := by rcases c5 with rfl | c5; omega; exact c5.1
      exact ⟨hj, (dep_top h t hj).2 ⟨c, c3, by omega, c4, c5.imp id (fun x => x.2)⟩⟩
  · rintro (h1 | ⟨hj, h1⟩)
    · exact .inl h1
    · obtain ⟨c, c1, c2, c3, c4⟩ := (dep_top h t hj).1 h1
      exact .inr ⟨c, by omega, by omega, ⟨c1, c3⟩, c4.imp id (fun x => ⟨hj, x⟩)⟩

theorem F23_eq (N : Nat) (l : List Row) (t s : Int) : F23 (N + 1) l t s = some (.r l t s) := rfl

theorem L29_all {l : List Row} (h : may l = true) (N : Nat) (t : Int) (rec : TF29) (hrec : ∀ (c : Nat) (m : Nat → Bool), c < l.length → child l t c = true → rec c l (arr m) = some (.r l (arr fun j => m j || (decide (j < l.length) && dep l c j)))) :
    ∀ (k n i : Nat) (m : Nat → Bool), i + k = l.length → k < n → L29i6f31a6 rec N n l l.length i t (-1) (arr m) l = some (.x0 t (-1) (arr (mk l t i k m)) l)
  | 0, n + 1, i, m, h1, _ => by
    have e : decide ((i : Int) < (l.length : Int)) = false := by simp; omega
    show (match decide ((i : Int) < (l.length : Int)) with | true => _ | false => _) = _
    rw [e]; rfl
  | k + 1, n + 1, i, m, h1, hn => by
    have hl := (may_ok h).1
    have e : decide ((i : Int) < (l.length : Int)) = true := by simp; omega
    have e1 : decide ((0 : Int) ≤ (i : Int)) = true := by simp
    have e2 : decide ((-1 : Int) < 0) = true := rfl
    have e3 : decide ((i : Int) < (32 : Int)) = true := by simp; omega
    have e4 : decide ((0 + i * 1) + 1 ≤ 32) = true := by simp; omega
    have e5 : decide ((0 : Int) < (i : Int)) = decide (0 < i) := by simp
    show (match decide ((i : Int) < (l.length : Int)) with | true => _ | false => _) = _
    simp only [e, e1, e2, e3, Bool.and_self, Bool.and_true, tst, ← cI.eq_1]
    simp only [Int.toNat_natCast, e4, e5]
    rw [wrap_succ (by omega), arr_set m (by omega)]
    have ih := L29_all h N t rec hrec k n (i + 1)
    unfold mk
    have hof : child l t i = (decide (0 < i) && cI l i 5 == t) := rfl
    cases hp : decide (0 < i) with
    | false => rw [hof, hp]; simp only [Bool.false_and]; exact ih m (by omega) (by omega)
    | true =>
      cases hq : cI l i 5 == t with
      | false => rw [hof, hp, hq]; simp only [Bool.and_false]; exact ih m (by omega) (by omega)
      | true =>
        have hc : child l t i = true := by rw [hof, hp, hq]; rfl
        rw [hc]
        simp only
        rw [hrec i (upd m i) (by omega) hc]
        simp only
        exact ih _ (by omega) (by omega)
  | _, 0, _, _, _, h => by omega

theorem F29_eq {l : List Row} (h : may l = true) : ∀ (d : Nat) (t : Int), (t < 0 ∨ (l.length : Int) ≤ t + d) → ∀ (N : Nat), 40 + d ≤ N → ∀ (m : Nat → Bool), F29 (N + 1) t l (arr m) = some (.r l (arr fun j => m j || (decide (j < l.length) && dep l t j))) := by
  intro d
  induction d with
  | zero =>
    intro t ht N hN m
    have hl := (may_ok h).1
    obtain ⟨M, rfl⟩ : ∃ M, N = M + 1 := ⟨N - 1, by omega⟩
    show (match L29i6f31a6 (F29 (M + 1)) (M + 1) (M + 1) l l.length 0 t (-1) (arr m) l with | none => (none : Option R29) | some (.x0 _ _ b3 b5) => some (.r b5 b3)) = _
    rw [show (0 : Int) = ((0 : Nat) : Int) from rfl, L29_all h (M + 1) t (F29 (M + 1)) (fun c m hc hch => ?_) l.length (M + 1) 0 m (by omega) (by omega)]
    · simp only; rw [arr_congr (mk_all h t m)]
    · simp only [child, Bool.and_eq_true, decide_eq_true_eq, beq_iff_eq] at hch
      have := (may_own h hc).2 hch.1
      omega
  | succ d ih =>
    intro t ht N hN m
    have hl := (may_ok h).1
    obtain ⟨M, rfl⟩ : ∃ M, N = M + 1 := ⟨N - 1, by omega⟩
    show (match L29i6f31a6 (F29 (M + 1)) (M + 1) (M + 1) l l.length 0 t (-1) (arr m) l with | none => (none : Option R29) | some (.x0 _ _ b3 b5) => some (.r b5 b3)) = _
    rw [show (0 : Int) = ((0 : Nat) : Int) from rfl, L29_all h (M + 1) t (F29 (M + 1)) (fun c m hc hch => ?_) l.length (M + 1) 0 m (by omega) (by omega)]
    · simp only; rw [arr_congr (mk_all h t m)]
    · simp only [child, Bool.and_eq_true, decide_eq_true_eq, beq_iff_eq] at hch
      have := (may_own h hc).2 hch.1
      exact ih c (by omega) M (by omega) m

/-! ### Depends -/
theorem L26_all (N : Nat) (m : Nat → Bool) (len : Nat) (hl : len ≤ 32) : ∀ (k n i : Nat) (acc : List Nat), i + k = len → k < n → acc.length ≤ i → L26a26 N n len i (arr m) (rowsN acc) = some (.x0 (arr m) (rowsN (acc ++ flt m i k)))
  | 0, n + 1, i, acc, h, _, _ => by
    have e : decide ((i : Int) < (len : Int)) = false := by simp; omega
    show (match decide ((i : Int) < (len : Int)) with | true => _ | false => _) = _
    rw [e]; simp [flt]
  | k + 1, n + 1, i, acc, h, hn, ha => by
    have e : decide ((i : Int) < (len : Int)) = true := by simp; omega
    have e1 : decide ((0 : Int) ≤ (i : Int)) = true := by simp
    have e3 : decide ((i : Int) < (32 : Int)) = true := by simp; omega
    have e6 : decide ((0 + i * 1) + 1 ≤ 32) = true := by simp; omega
    have e4 : decide (((rowsN acc).length + 1) * 8 ≤ 140737488355328) = true := by rw [rowsN_length]; simp; omega
    show (match decide ((i : Int) < (len : Int)) with | true => _ | false => _) = _
    simp only [e, e1, e3, Bool.and_self, tst, Int.toNat_natCast, e6, arr_get m (show i < 32 by omega), e4, rowsN_append]
    rw [wrap_succ (by omega)]
    have ih := L26_all N m len hl k n (i + 1)
    unfold flt
    cases m i with
    | false => exact ih acc (by omega) (by omega) (by omega)
    | true =>
      simp only
      rw [ih (acc ++ [i]) (by omega) (by omega) (by simp; omega)]
      simp
  | _, 0, _, _, _, h, _ => by omega
theorem F26_eq {N : Nat} (hN : 50 ≤ N) {l : List Row} (hl : l.length ≤ 32) (m : Nat → Bool) : F26 N l (m 0) (m 1) (m 2) (m 3) (m 4) (m 5) (m 6) (m 7) (m 8) (m 9) (m 10) (m 11) (m 12) (m 13) (m 14) (m 15) (m 16) (m 17) (m 18) (m 19) (m 20) (m 21) (m 22) (m 23) (m 24) (m 25) (m 26) (m 27) (m 28) (m 29) (m 30) (m 31) = some (.r (rowsN (flt m 0 l.length))) := by
  obtain ⟨M, rfl⟩ : ∃ M, N = M + 1 := ⟨N - 1, by omega⟩
  show (match L26a26 M M l.length 0 (arr m) (rowsN []) with | none => (none : Option R26) | some (.x0 _ b) => some (.r b)) = _
  rw [show (0 : Int) = ((0 : Nat) : Int) from rfl, L26_all M m l.length hl l.length M 0 [] (by omega) (by omega) (by simp)]
  simp

/-- The tasks that depend on a task. -/
def deps (l : List Row) (t : Int) : List Nat := flt (dep l t) 0 l.length
theorem F15_eq {N : Nat} (hN : 100 ≤ N) {l : List Row} (h : may l = true) (t : Int) : F15 N l t = some (.r (rowsN (deps l t))) := by
  obtain ⟨M, rfl⟩ : ∃ M, N = M + 1 := ⟨N - 1, by omega⟩
  obtain ⟨K, rfl⟩ : ∃ K, M = K + 1 := ⟨M - 1, by omega⟩
  have hl := (may_ok h).1
  show (match F16 (K + 1) l with | none => none | some (.r x) => _) = _
  rw [F16_eq (by omega), h]
  simp only [Bool.not_true]
  have h29 := F29_eq h 32 t (by omega) K (by omega) (fun _ => false)
  show (match F29 (K + 1) t l (arr fun _ => false) with | none => none | some (.r l' b) => _) = _
  rw [h29]
  simp only
  generalize hm : (fun j => (false || (decide (j < l.length) && dep l t j))) = m
  show (match F26 (K + 1) l (m 0) (m 1) (m 2) (m 3) (m 4) (m 5) (m 6) (m 7) (m 8) (m 9) (m 10) (m 11) (m 12) (m 13) (m 14) (m 15) (m 16) (m 17) (m 18) (m 19) (m 20) (m 21) (m 22) (m 23) (m 24) (m 25) (m 26) (m 27) (m 28) (m 29) (m 30) (m 31) with | none => (none : Option R15) | some (.r b) => some (.r b)) = _
  rw [F26_eq (by omega) hl m]
  simp only
  unfold deps
  rw [flt_congr (m := m) (m' := dep l t) fun j h1 h2 => ?_]
  subst hm
  have : decide (j < l.length) = true := by simp; omega
  simp [this]
theorem F15_not {N : Nat} (hN : 100 ≤ N) {l : List Row} (h : may l = false) (t : Int) : F15 N l t = some (.r []) := by
  obtain ⟨M, rfl⟩ : ∃ M, N = M + 1 := ⟨N - 1, by omega⟩
  show (match F16 M l with | none => none | some (.r x) => _) = _
  rw [F16_eq (by omega), h]
  rfl

end Go.Proofs.Ytfggehkiglenjaa

namespace Go.Proofs.Ytfggehkiglenjaa
open Go Go.Eng

theorem works_true : F13 199 = some (.r true) := by kernel_rfl

theorem mem_deps {l : List Row} {t : Int} {u : Nat} : u ∈ deps l t ↔ u < l.length ∧ dep l t u = true := by
  unfold deps; rw [mem_flt]; simp
theorem deps_len {l : List Row} (h : may l = true) (t : Int) : (deps l t).length ≤ 32 := Nat.le_trans (flt_length _ _ _) (may_ok h).1
theorem inn {xs : List Nat} {u : Nat} (h : u ∈ xs) : (xs.any fun x => (x : Int) == (u : Int)) = true := List.any_eq_true.2 ⟨u, h, by simp⟩

theorem Lv {l : List Row} (h : may l = true) (t : Int) {N : Nat} (hN : 50 ≤ N) {xs : List Nat} (hx : xs.length ≤ 45) (hall : ∀ v ∈ xs, v ∈ deps l t) :
    ∀ (k n i : Nat), i + k = xs.length → k < n → L6a64173262 N n (rowsN (deps l t)) xs.length i (rowsN xs) = some (.x4 (rowsN xs))
  | 0, n + 1, i, h1, _ => by
    have e : decide ((i : Int) < (xs.length : Int)) = false := by simp; omega
    show (match decide ((i : Int) < (xs.length : Int)) with | true => _ | false => _) = _
    rw [e]
  | k + 1, n + 1, i, h1, hn => by
    have hi : i < xs.length := by omega
    have e : decide ((i : Int) < (xs.length : Int)) = true := by simp; omega
    have e1 : decide ((0 : Int) ≤ (i : Int)) = true := by simp
    have e2 : decide ((i : Int) < ((rowsN xs).length : Int)) = true := by rw [rowsN_length]; exact e
    have e3 : decide (i < (rowsN xs).length) = true := by rw [rowsN_length]; simpa using hi
    show (match decide ((i : Int) < (xs.length : Int)) with | true => _ | false => _) = _
    simp only [e, e1, e2, Bool.and_self, tst, Int.toNat_natCast, e3, rowsN_get hi]
    rw [F18_eq hN (by have := deps_len h t; omega), inn (hall _ (List.getElem_mem hi))]
    simp only [Bool.not_true]
    rw [wrap_succ (by omega)]
    exact Lv h t hN hx hall k n (i + 1) (by omega) (by omega)
  | _, 0, _, _, h => by omega

theorem Ju {l : List Row} (h : may l = true) (t : Nat) {N : Nat} (hN : 50 ≤ N) {u : Nat} (hu : u ∈ deps l t) : J6a16043314 N l t (rowsN (deps l t)) u = some .nx := by
  obtain ⟨h1, h2⟩ := mem_deps.1 hu
  have hg := dep_gt h t h1 h2
  have e1 : decide ((u : Int) ≤ (t : Int)) = false := by simp; omega
  have e2 : decide ((l.length : Int) ≤ (u : Int)) = false := by simp; omega
  have e3 : decide ((0 : Int) ≤ (u : Int)) = true := by simp
  have e4 : decide ((u : Int) < (l.length : Int)) = true := by simp; omega
  unfold J6a16043314
  simp only [e1, e2, e3, e4, Bool.and_self, tst, ← cI.eq_1]
  cases hq : (cI l u 5 != (t : Int)) with
  | false => rfl
  | true =>
    obtain ⟨h3, h4⟩ := (dep_iff h t h1).1 h2
    have hw := (may_own h h1).2 h3
    have hne : cI l u 5 ≠ (t : Int) := by simpa using hq
    have h5 : dep l t (cI l u 5).toNat = true := by rcases h4 with h4 | h4; exact absurd h4 hne; exact h4
    have hm : (cI l u 5).toNat ∈ deps l t := mem_deps.2 ⟨by omega, h5⟩
    have hc : cI l u 5 = ((cI l u 5).toNat : Int) := by omega
    simp only
    rw [F18_eq hN (by have := deps_len h t; omega), hc, inn hm]
    rfl

theorem Lu {l : List Row} (h : may l = true) (t : Nat) {N : Nat} (hN : 150 ≤ N) : ∀ (k n i : Nat), i + k = (deps l t).length → k < n →
    L6a125338 N n l t (rowsN (deps l t)) (rowsN (deps l t)) ((rowsN (deps l t)).length : Int) i = some .x2
  | 0, n + 1, i, h1, _ => by
    have e : decide ((i : Int) < ((rowsN (deps l t)).length : Int)) = false := by rw [rowsN_length]; simp; omega
    show (match decide ((i : Int) < ((rowsN (deps l t)).length : Int)) with | true => _ | false => _) = _
    rw [e]
  | k + 1, n + 1, i, h1, hn => by
    have hi : i < (deps l t).length := by omega
    have hdl := deps_len h t
    have e : decide ((i : Int) < ((rowsN (deps l t)).length : Int)) = true := by rw [rowsN_length]; simp; omega
    have e1 : decide ((0 : Int) ≤ (i : Int)) = true := by simp
    show (match decide ((i : Int) < ((rowsN (deps l t)).length : Int)) with | true => _ | false => _) = _
    simp only [e, e1, Bool.and_self, tst, Int.toNat_natCast, rowsN_get hi]
    have hm : (deps l t)[i] ∈ deps l t := List.getElem_mem hi
    obtain ⟨m1, m2⟩ := mem_deps.1 hm
    rw [Ju h t (by omega) hm]
    simp only
    rw [F15_eq (by omega) h]
    simp only [rowsN_length]
    have hall : ∀ v ∈ deps l ((deps l t)[i] : Nat), v ∈ deps l t := fun v hv => by
      obtain ⟨v1, v2⟩ := mem_deps.1 hv
      exact mem_deps.2 ⟨v1, dep_trans h t _ m1 m2 v1 v2⟩
    have hvl := deps_len h (((deps l t)[i] : Nat) : Int)
    have := Lv h t (N := N) (by omega) (xs := deps l ((deps l t)[i] : Nat)) (by omega) hall (deps l ((deps l t)[i] : Nat)).length N 0 (by omega) (by omega)
    rw [show (0 : Int) = ((0 : Nat) : Int) from rfl, this]
    simp only
    rw [wrap_succ (by omega), ← rowsN_length]
    exact Lu h t hN k n (i + 1) (by omega) (by omega)
  | _, 0, _, _, h => by omega

theorem Lx {l : List Row} (h : may l = true) (t : Nat) {N : Nat} (hN : 150 ≤ N) : ∀ (k n i : Nat), i + k = l.length → k < n →
    L6a125342 N n l t (rowsN (deps l t)) l l.length i = some .x6
  | 0, n + 1, i, h1, _ => by
    have e : decide ((i : Int) < (l.length : Int)) = false := by simp; omega
    show (match decide ((i : Int) < (l.length : Int)) with | true => _ | false => _) = _
    rw [e]
  | k + 1, n + 1, i, h1, hn => by
    have hl := (may_ok h).1
    have hi : i < l.length := by omega
    have e : decide ((i : Int) < (l.length : Int)) = true := by simp; omega
    have e1 : decide ((0 : Int) ≤ (i : Int)) = true := by simp
    show (match decide ((i : Int) < (l.length : Int)) with | true => _ | false => _) = _
    simp only [e, e1, Bool.and_self, tst, ← cI.eq_1]
    have ih := Lx h t hN k n (i + 1) (by omega) (by omega)
    rw [wrap_succ (by omega)]
    cases hq : cI l i 5 == (t : Int) with
    | false => exact ih
    | true =>
      have hq' : cI l i 5 = (t : Int) := by simpa using hq
      have h0 : 0 < i := by
        by_cases e0 : i = 0
        · have := (may_own h hi).1 e0; omega
        · omega
      have hw := (may_own h hi).2 h0
      have hm : i ∈ deps l t := mem_deps.2 ⟨hi, (dep_iff h t hi).2 ⟨h0, .inl hq'⟩⟩
      have hm2 : i ∈ flt (isOf l t (cI l i 6)) 0 l.length := mem_flt.2 ⟨by omega, by omega, by simp [isOf, hq, h0]⟩
      simp only
      rw [F18_eq (by omega) (by have := deps_len h t; omega), inn hm]
      simp only [Bool.not_true]
      rw [F14_eq (by omega) h _ _ hw.2.2]
      simp only
      rw [F18_eq (by omega) (by have := flt_length (isOf l t (cI l i 6)) l.length 0; omega), inn hm2]
      exact ih
  | _, 0, _, _, h => by omega

theorem Lt {l : List Row} (h : may l = true) {N : Nat} (hN : 150 ≤ N) : ∀ (k n i : Nat), i + k = l.length → k < n → L6a122 N n l l.length i = some .x0
  | 0, n + 1, i, h1, _ => by
    have e : decide ((i : Int) < (l.length : Int)) = false := by simp; omega
    show (match decide ((i : Int) < (l.length : Int)) with | true => _ | false => _) = _
    rw [e]
  | k + 1, n + 1, i, h1, hn => by
    have hl := (may_ok h).1
    have e : decide ((i : Int) < (l.length : Int)) = true := by simp; omega
    have hdl := deps_len h (i : Int)
    show (match decide ((i : Int) < (l.length : Int)) with | true => _ | false => _) = _
    simp only [e]
    rw [F15_eq (by omega) h]
    simp only
    have hj : J6a31334 N l i (rowsN (deps l i)) = some (.nx (rowsN (deps l i))) := by
      unfold J6a31334
      rw [show (0 : Int) = ((0 : Nat) : Int) from rfl, Lu h i hN (deps l i).length N 0 (by omega) (by omega)]
    rw [hj]
    simp only
    rw [show (0 : Int) = ((0 : Nat) : Int) from rfl, Lx h i hN l.length N 0 (by omega) (by omega)]
    simp only
    rw [wrap_succ (by omega)]
    exact Lt h hN k n (i + 1) (by omega) (by omega)
  | _, 0, _, _, h => by omega

theorem forest (x : List Row) : F6 200 x = some (.r true) := by
  have himin : Eng.imin (x.length : Int) 32 = min (x.length : Int) 32 := by unfold Eng.imin; split <;> omega
  have e : (decide ((0 : Int) ≤ Eng.imin (x.length : Int) 32) && decide (Eng.imin (x.length : Int) 32 ≤ (x.length : Int)) && decide ((x.length : Int) ≤ (x.length : Int))) = true := by
    rw [himin]; simp; omega
  show tst (decide ((0 : Int) ≤ Eng.imin (x.length : Int) 32) && decide (Eng.imin (x.length : Int) 32 ≤ (x.length : Int)) && decide ((x.length : Int) ≤ (x.length : Int))) _ = _
  rw [e]
  simp only [tst]
  generalize x.take (Eng.imin (x.length : Int) 32).toNat = l
  rw [F19_eq (by omega)]
  simp only
  cases h : may l with
  | false =>
    simp only [Bool.not_false]
    rw [F16_eq (by omega), h]
    simp only [Bool.not_false]
    rw [F15_not (by omega) h]
    simp only [List.length_nil]
    rw [works_true]
    rfl
  | true =>
    have hl := (may_ok h).1
    simp only [Bool.not_true]
    rw [show (0 : Int) = ((0 : Nat) : Int) from rfl, Lt h (by omega) l.length 199 0 (by omega) (by omega)]
    simp only
    rw [works_true]

end Go.Proofs.Ytfggehkiglenjaa

namespace Go.Proofs.Ytfggehkiglenjaa
open Go Go.Eng Go.ChangeShapes Go.WideShapes Go.ChangeAt Go.RowKit

theorem own : ownKnob Try.prog.godebug = none := by kernel_rfl
theorem laidOut : laidOutB Try.prog = true := by kernel_rfl

theorem list_of_arg {t e : TypeId} (ha : (CX.ti t).u.agg = false) (hk : (CX.ti t).ks = [.slice e]) {x : AV} (h : ArgAV CX t x) : ∃ rows, x = .list e rows := by
  rcases h with ⟨h1, _⟩ | ⟨_, h2, _⟩
  · rw [ha] at h1; cases h1
  · rw [hk] at h2
    cases x <;> simp [koks, kok] at h2
    subst h2
    exact ⟨_, rfl⟩

theorem law6 (xs : List AV) (h : ArgsAV CX [22] xs) : ∃ m M', FCalls CX 6 m xs [] (.bool true) M' := by
  match xs, h with
  | [x], ⟨hx, _⟩ =>
    obtain ⟨rows, rfl⟩ := list_of_arg (e := 30) (by kernel_rfl) (by kernel_rfl) hx
    exact ⟨_, _, soundF6 200 (fun _ => .list 30 rows) [] (.r true) (forest rows)⟩

set_option maxRecDepth 100000 in
theorem lifted6 (os : Os) (started : os.Started) (H : Type) (enc : TypeId × Value → H) :
    ReturnsInHanded {} Try.checked os 6 .any (Rows.masterForestSpec.pre6 enc Try.prog Try.f6 Rows.masterForestRow.domain false) (Rows.masterForestSpec.post enc Try.prog Try.f6 false true false false) := by
  refine returnsInHanded_of_change (C := Try.checked) own started (by kernel_rfl) Try.func6
    (ChangeSpec.witness6 (enc := enc) (C := Try.checked) false { blocks := #[], args := #[.slice none 0 0], vars := [] } 8 (by kernel_rfl) (by kernel_rfl) (by kernel_rfl) (by kernel_rfl)) ?_
  intro W base args ds gs before hval hW _ _
  exact law_contract (X := CX) hX (fun _ => rfl) laidOut (ts := [22]) (tb := 4) (n := 8) (by kernel_rfl) (by kernel_rfl) Try.underlying4 (by kernel_rfl) (by kernel_rfl) rfl
    (fun ds hds => by match ds, hds with | [d], _ => rfl) law6 W base args ds gs before hval hW

theorem masterForest_holds : Rows.MasterForestSaid :=
  OpenClaim.holds_of_wide 6 Try.f6 rfl rfl rfl rfl rfl rfl rfl ⟨rfl, rfl, rfl, rfl, rfl⟩ rfl rfl rfl rfl rfl (by kernel_rfl) Try.func6 (by kernel_rfl)
    (of_decide_eq_true (by kernel_rfl)) (by unfold Func.isWrapper; first | (rw [if_pos (by decide +kernel)]; kernel_rfl) | (rw [if_neg (by decide +kernel)]; exact ⟨rfl, rfl⟩))
    (fun os started H enc _ => lifted6 os started H enc)

#print axioms masterForest_holds
end Go.Proofs.Ytfggehkiglenjaa
