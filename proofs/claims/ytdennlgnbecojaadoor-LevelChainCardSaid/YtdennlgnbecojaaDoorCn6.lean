/-
  Plain laws of chapter 12: tables that may be. Printed by mkSD.py.
  Plain laws of chapter 12: bases, roots, types that are alike, accesses and conversions, in both texts. Printed by mkSE.py.
  Plain laws of chapter 12: chains of accesses and conversions.
  What is proved: ceilinglaw12.LevelChain returns true for every input, and leaves its arguments as they were. The table ceiling/level.adds stands as the program's text lays it (the card ties it).
-/
import Derived.Test.YtdennlgnbecojaaDoorCn5
import Derived.Test.YtdennlgnbecojaaDoorRows
import Derived.Test.YtdennlgnbecojaaDoorTie
import Derived.Test.YtdennlgnbecojaaDoorCards
import Derived.Test.YtdennlgnbecojaaDoorCn3
import Derived.WalkKit
import Derived.ProofKit
import Derived.OpenShut
import Derived.LaidMore
import Derived.Stop.Joined
import Derived.SevenTiedAt
import Derived.MakeChecks
import Derived.Lib.LaidTab
set_option linter.all false
set_option linter.deprecated false
namespace Go.Proofs.YtdennlgnbecojaaDoor
open Go Go.Eng
/-- The level that an entity must have. -/
def lvl (E : List Row) (i : Nat) : Int := if kd E i = 1 then 0 else if ow E i < (i : Int) then regI E (ow E i) else -1
def entOK (A E : List Row) (i : Nat) : Bool :=
  decide (0 ≤ lvl E i ∧ cI E i 9 = lvl E i) && (!(kd E i == 5 && !cB E i 8) || (decide (0 ≤ cI E i 4) && decide (cI E i 4 < (A.length : Int)) && (cI A (cI E i 4).toNat 17 == lvl E i)))
def mayB (A E : List Row) : Bool := (List.range' 0 E.length).all (entOK A E)
theorem lvl_ow (E : List Row) (i : Nat) (hk : ¬ kd E i = 1) (h : ¬ (0 ≤ ow E i ∧ ow E i < (i : Int))) : lvl E i = -1 := by
  unfold lvl regI
  rw [if_neg hk]
  split
  · rw [if_neg (by omega)]
  · rfl
theorem bne_t {x y : Int} (h : x ≠ y) : (x != y) = true := by simp [bne, h]
theorem bne_f {x y : Int} (h : x = y) : (x != y) = false := by simp [bne, h]
theorem lvl_nn {E : List Row} {i : Nat} (h0 : 0 ≤ ow E i) (h1 : ow E i < (i : Int)) (hk : ¬ kd E i = 1) : lvl E i = regI E (ow E i) := by
  unfold lvl
  rw [if_neg hk, if_pos h1]

theorem J15_cases (A B E C D : List Row) (hl : E.length ≤ 200) (i N : Nat) (hN : 210 ≤ N) (c0 : Int) (c1 : ByteArray) (c2 : Int) (c3 : Int) (c4 : Int) (c5 : Int) (c6 : List Row) (c7 : Int) (c8 : Bool) (c9 : Int) (c10 : Int) (c11 : Bool) (c12 : Bool) (c13 : Int) (c14 : Int) (c15 : Int) (c16 : Int) (c17 : Bool) (c18 : Bool) (c19 : Int) (c20 : Int) (c21 : Int) (h0 : c0 = kd E i) (h2 : c2 = ow E i) :
    (J15a1682 N (i : Int) A B E C D c0 c1 c2 c3 c4 c5 c6 c7 c8 c9 c10 c11 c12 c13 c14 c15 c16 c17 c18 c19 c20 c21 = some (.nx A B E C D c0 c1 c2 c3 c4 c5 c6 c7 c8 c9 c10 c11 c12 c13 c14 c15 c16 c17 c18 c19 c20 c21) ∧ 0 ≤ lvl E i ∧ c9 = lvl E i) ∨ (J15a1682 N (i : Int) A B E C D c0 c1 c2 c3 c4 c5 c6 c7 c8 c9 c10 c11 c12 c13 c14 c15 c16 c17 c18 c19 c20 c21 = some (.ret false A B E C D c0 c1 c2 c3 c4 c5 c6 c7 c8 c9 c10 c11 c12 c13 c14 c15 c16 c17 c18 c19 c20 c21) ∧ ¬ (0 ≤ lvl E i ∧ c9 = lvl E i)) := by
  subst h0
  subst h2
  simp only [J15a1682]
  by_cases hk : kd E i = 1
  · have hv : lvl E i = 0 := by unfold lvl; rw [if_pos hk]
    simp only [beq_t hk, hv]
    by_cases h : c9 = 0
    · left
      simp only [bne_f h]
      exact ⟨trivial, by omega, h⟩
    · right
      simp only [bne_t h]
      exact ⟨trivial, fun hc => h hc.2⟩
  · simp only [beq_f hk]
    by_cases o0 : ow E i < 0
    · right
      rw [decide_eq_true o0, lvl_ow E i hk (by omega)]
      exact ⟨rfl, by omega⟩
    · by_cases o1 : (i : Int) ≤ ow E i
      · right
        rw [decide_eq_false o0, decide_eq_true o1, lvl_ow E i hk (by omega)]
        exact ⟨rfl, by omega⟩
      · have hv := lvl_nn (E := E) (i := i) (by omega) (by omega) hk
        rw [decide_eq_false o0, decide_eq_false o1]
        simp only [F11_eqI A B E C D hl (ow E i) N (by omega), ← hv]
        by_cases h : lvl E i < 0
        · right
          rw [decide_eq_true h]
          exact ⟨rfl, by omega⟩
        · rw [decide_eq_false h]
          by_cases h9 : c9 = lvl E i
          · left
            simp only [bne_f h9]
            exact ⟨trivial, by omega, h9⟩
          · right
            simp only [bne_t h9]
            exact ⟨trivial, fun hc => h9 hc.2⟩

def w15 : OL15a26 → Bool
  | .ret b _ _ _ _ _ => b
  | _ => true
theorem L15_eq (A B E C D : List Row) (hl : E.length ≤ 200) : ∀ (k i n N : Nat), i + k = E.length → k < n → 210 ≤ N →
    ∃ o, L15a26 N n (i : Int) A B E C D = some o ∧ w15 o = (List.range' i k).all (entOK A E) := by
  intro k
  induction k with
  | zero =>
    intro i n N hi hn hN
    obtain ⟨n, rfl⟩ : ∃ m, n = m + 1 := ⟨n - 1, by omega⟩
    simp only [L15a26, decide_eq_false (show ¬ ((i : Int) < (E.length : Int)) by omega)]
    exact ⟨_, rfl, rfl⟩
  | succ k ih =>
    intro i n N hi hn hN
    obtain ⟨n, rfl⟩ : ∃ m, n = m + 1 := ⟨n - 1, by omega⟩
    obtain ⟨o, h1, h2⟩ := ih (i + 1) n N (by omega) (by omega) hN
    have e0 : decide ((i : Int) < (E.length : Int)) = true := by simp; omega
    have e1 : decide ((0 : Int) ≤ (i : Int)) = true := by simp
    have e2 : IntKind.wrap .i64 ((i : Int) + 1) = ((i + 1 : Nat) : Int) := by rw [wrap_id (by unfold inI; omega)]; omega
    have c0 : ((((E.getD ((i : Int).toNat) [])).getD 0 .top).toI) = kd E i := rfl
    have c4 : ((((E.getD ((i : Int).toNat) [])).getD 4 .top).toI) = cI E i 4 := rfl
    have c8 : ((((E.getD ((i : Int).toNat) [])).getD 8 .top).toB) = cB E i 8 := rfl
    have c9 : ((((E.getD ((i : Int).toNat) [])).getD 9 .top).toI) = cI E i 9 := rfl
    have ct : ((A.getD (cI E i 4).toNat []).getD 17 .top).toI = cI A (cI E i 4).toNat 17 := rfl
    rcases J15_cases A B E C D hl i N hN ((((E.getD ((i : Int).toNat) [])).getD 0 .top).toI) ((((E.getD ((i : Int).toNat) [])).getD 1 .top).toS) ((((E.getD ((i : Int).toNat) [])).getD 2 .top).toI) ((((E.getD ((i : Int).toNat) [])).getD 3 .top).toI) ((((E.getD ((i : Int).toNat) [])).getD 4 .top).toI) ((((E.getD ((i : Int).toNat) [])).getD 5 .top).toI) ((((E.getD ((i : Int).toNat) [])).getD 6 .top).rows) ((((E.getD ((i : Int).toNat) [])).getD 7 .top).toI) ((((E.getD ((i : Int).toNat) [])).getD 8 .top).toB) ((((E.getD ((i : Int).toNat) [])).getD 9 .top).toI) ((((E.getD ((i : Int).toNat) [])).getD 10 .top).toI) ((((E.getD ((i : Int).toNat) [])).getD 11 .top).toB) ((((E.getD ((i : Int).toNat) [])).getD 12 .top).toB) ((((E.getD ((i : Int).toNat) [])).getD 13 .top).toI) ((((E.getD ((i : Int).toNat) [])).getD 14 .top).toI) ((((E.getD ((i : Int).toNat) [])).getD 15 .top).toI) ((((E.getD ((i : Int).toNat) [])).getD 16 .top).toI) ((((E.getD ((i : Int).toNat) [])).getD 17 .top).toB) ((((E.getD ((i : Int).toNat) [])).getD 18 .top).toB) ((((E.getD ((i : Int).toNat) [])).getD 19 .top).toI) ((((E.getD ((i : Int).toNat) [])).getD 20 .top).toI) ((((E.getD ((i : Int).toNat) [])).getD 21 .top).toI) rfl rfl with ⟨hj, hv, h9⟩ | ⟨hj, hv⟩
    · simp only [L15a26, e0, e1, e2, Bool.and_self, tst, hj, h1]
      simp only [List.range'_succ, List.all_cons, Nat.mul_one, c0, c4, c8, ct]
      rw [c9] at h9
      have hen : entOK A E i = (!(kd E i == 5 && !cB E i 8) || (decide (0 ≤ cI E i 4) && decide (cI E i 4 < (A.length : Int)) && (cI A (cI E i 4).toNat 17 == lvl E i))) := by
        unfold entOK
        rw [decide_eq_true ⟨hv, h9⟩]; rfl
      rw [hen, ← h2, c9, h9]
      by_cases k5 : kd E i = 5
      · rw [beq_t k5]
        cases cB E i 8 with
        | true => exact ⟨o, rfl, rfl⟩
        | false =>
          by_cases t0 : cI E i 4 < 0
          · rw [decide_eq_true t0, decide_eq_false (show ¬ (0 ≤ cI E i 4) by omega)]
            exact ⟨_, rfl, rfl⟩
          · rw [decide_eq_false t0, decide_eq_true (show (0 ≤ cI E i 4) by omega)]
            by_cases t1 : (A.length : Int) ≤ cI E i 4
            · rw [decide_eq_true t1, decide_eq_false (show ¬ (cI E i 4 < (A.length : Int)) by omega)]
              exact ⟨_, rfl, rfl⟩
            · rw [decide_eq_false t1, decide_eq_true (show (cI E i 4 < (A.length : Int)) by omega)]
              by_cases t2 : cI A (cI E i 4).toNat 17 = lvl E i
              · rw [bne_f t2, beq_t t2]
                exact ⟨o, rfl, rfl⟩
              · rw [bne_t t2, beq_f t2]
                exact ⟨_, rfl, rfl⟩
      · rw [beq_f k5]
        exact ⟨o, rfl, rfl⟩
    · simp only [L15a26, e0, e1, e2, Bool.and_self, tst, hj, List.range'_succ, List.all_cons, Nat.mul_one]
      refine ⟨_, rfl, ?_⟩
      have hen : entOK A E i = false := by
        unfold entOK
        rw [c9] at hv
        rw [decide_eq_false hv]; rfl
      rw [hen]; rfl
theorem F15_eq (A B E C D : List Row) (hl : E.length ≤ 200) (N : Nat) (hN : 220 ≤ N) : F15 N A B E C D = some (.r (mayB A E)) := by
  obtain ⟨N, rfl⟩ : ∃ m, N = m + 1 := ⟨N - 1, by omega⟩
  obtain ⟨o, h1, h2⟩ := L15_eq A B E C D hl E.length 0 N N (by omega) (by omega) (by omega)
  have h1' : L15a26 N N 0 A B E C D = some o := h1
  simp only [F15, h1']
  unfold mayB
  rw [← h2]
  cases o <;> rfl

theorem Jg_cases (A B E C D : List Row) (hE : okE E) (hl : E.length ≤ 200) (i N : Nat) (hN : 210 ≤ N) (c0 : Int) (c1 : ByteArray) (c2 : Int) (c3 : Int) (c4 : Int) (c5 : Int) (c6 : List Row) (c7 : Int) (c8 : Bool) (c9 : Int) (c10 : Int) (c11 : Bool) (c12 : Bool) (c13 : Int) (c14 : Int) (c15 : Int) (c16 : Int) (c17 : Bool) (c18 : Bool) (c19 : Int) (c20 : Int) (c21 : Int) (h0 : c0 = kd E i) (h2 : c2 = ow E i) :
    J14v1a6758 N (i : Int) 0 A B E C D c0 c1 c2 c3 c4 c5 c6 c7 c8 c9 c10 c11 c12 c13 c14 c15 c16 c17 c18 c19 c20 c21 = some (.nx (lvl E i) A B E C D c0 c1 c2 c3 c4 c5 c6 c7 c8 c9 c10 c11 c12 c13 c14 c15 c16 c17 c18 c19 c20 c21) := by
  subst h0
  subst h2
  simp only [J14v1a6758]
  by_cases hk : kd E i = 1
  · have hv : lvl E i = 0 := by unfold lvl; rw [if_pos hk]
    rw [bne_f hk, hv]
  · rw [bne_t hk]
    have hv : lvl E i = if ow E i < (i : Int) then regI E (ow E i) else -1 := by unfold lvl; rw [if_neg hk]
    rw [hv]
    by_cases o1 : ow E i < (i : Int)
    · rw [decide_eq_true o1, if_pos o1]
      simp only [F10_eqI A B E C D hE hl (ow E i) N (by omega)]
    · rw [decide_eq_false o1, if_neg o1]
theorem Jh_cases (N : Nat) (v : Int) (c0 : Int) (c1 : ByteArray) (c2 : Int) (c3 : Int) (c4 : Int) (c5 : Int) (c6 : List Row) (c7 : Int) (c8 : Bool) (c9 : Int) (c10 : Int) (c11 : Bool) (c12 : Bool) (c13 : Int) (c14 : Int) (c15 : Int) (c16 : Int) (c17 : Bool) (c18 : Bool) (c19 : Int) (c20 : Int) (c21 : Int) : (J14v1a13518 N v c0 c1 c2 c3 c4 c5 c6 c7 c8 c9 c10 c11 c12 c13 c14 c15 c16 c17 c18 c19 c20 c21 = some (.nx c0 c1 c2 c3 c4 c5 c6 c7 c8 c9 c10 c11 c12 c13 c14 c15 c16 c17 c18 c19 c20 c21) ∧ 0 ≤ v ∧ c9 = v) ∨ (J14v1a13518 N v c0 c1 c2 c3 c4 c5 c6 c7 c8 c9 c10 c11 c12 c13 c14 c15 c16 c17 c18 c19 c20 c21 = some (.ret false c0 c1 c2 c3 c4 c5 c6 c7 c8 c9 c10 c11 c12 c13 c14 c15 c16 c17 c18 c19 c20 c21) ∧ ¬ (0 ≤ v ∧ c9 = v)) := by
  simp only [J14v1a13518]
  by_cases h : v < 0
  · right
    rw [decide_eq_true h]
    exact ⟨rfl, by omega⟩
  · rw [decide_eq_false h]
    by_cases h9 : c9 = v
    · left
      rw [bne_f h9]
      exact ⟨rfl, by omega, h9⟩
    · right
      rw [bne_t h9]
      exact ⟨rfl, fun hc => h9 hc.2⟩
def w14 : OL14v1a26 → Bool
  | .ret b _ _ _ _ _ => b
  | _ => true
theorem L14_eq (A B E C D : List Row) (hE : okE E) (hl : E.length ≤ 200) : ∀ (k i n N : Nat), i + k = E.length → k < n → 210 ≤ N →
    ∃ o, L14v1a26 N n E (E.length : Int) (i : Int) A B E C D = some o ∧ w14 o = (List.range' i k).all (entOK A E) := by
  intro k
  induction k with
  | zero =>
    intro i n N hi hn hN
    obtain ⟨n, rfl⟩ : ∃ m, n = m + 1 := ⟨n - 1, by omega⟩
    simp only [L14v1a26, decide_eq_false (show ¬ ((i : Int) < (E.length : Int)) by omega)]
    exact ⟨_, rfl, rfl⟩
  | succ k ih =>
    intro i n N hi hn hN
    obtain ⟨n, rfl⟩ : ∃ m, n = m + 1 := ⟨n - 1, by omega⟩
    obtain ⟨o, h1, h2⟩ := ih (i + 1) n N (by omega) (by omega) hN
    have e0 : decide ((i : Int) < (E.length : Int)) = true := by simp; omega
    have e1 : decide ((0 : Int) ≤ (i : Int)) = true := by simp
    have e2 : IntKind.wrap .i64 ((i : Int) + 1) = ((i + 1 : Nat) : Int) := by rw [wrap_id (by unfold inI; omega)]; omega
    have c0 : ((((E.getD ((i : Int).toNat) [])).getD 0 .top).toI) = kd E i := rfl
    have c4 : ((((E.getD ((i : Int).toNat) [])).getD 4 .top).toI) = cI E i 4 := rfl
    have c8 : ((((E.getD ((i : Int).toNat) [])).getD 8 .top).toB) = cB E i 8 := rfl
    have c9 : ((((E.getD ((i : Int).toNat) [])).getD 9 .top).toI) = cI E i 9 := rfl
    have ct : ((A.getD (cI E i 4).toNat []).getD 17 .top).toI = cI A (cI E i 4).toNat 17 := rfl
    have hg := Jg_cases A B E C D hE hl i N hN ((((E.getD ((i : Int).toNat) [])).getD 0 .top).toI) ((((E.getD ((i : Int).toNat) [])).getD 1 .top).toS) ((((E.getD ((i : Int).toNat) [])).getD 2 .top).toI) ((((E.getD ((i : Int).toNat) [])).getD 3 .top).toI) ((((E.getD ((i : Int).toNat) [])).getD 4 .top).toI) ((((E.getD ((i : Int).toNat) [])).getD 5 .top).toI) ((((E.getD ((i : Int).toNat) [])).getD 6 .top).rows) ((((E.getD ((i : Int).toNat) [])).getD 7 .top).toI) ((((E.getD ((i : Int).toNat) [])).getD 8 .top).toB) ((((E.getD ((i : Int).toNat) [])).getD 9 .top).toI) ((((E.getD ((i : Int).toNat) [])).getD 10 .top).toI) ((((E.getD ((i : Int).toNat) [])).getD 11 .top).toB) ((((E.getD ((i : Int).toNat) [])).getD 12 .top).toB) ((((E.getD ((i : Int).toNat) [])).getD 13 .top).toI) ((((E.getD ((i : Int).toNat) [])).getD 14 .top).toI) ((((E.getD ((i : Int).toNat) [])).getD 15 .top).toI) ((((E.getD ((i : Int).toNat) [])).getD 16 .top).toI) ((((E.getD ((i : Int).toNat) [])).getD 17 .top).toB) ((((E.getD ((i : Int).toNat) [])).getD 18 .top).toB) ((((E.getD ((i : Int).toNat) [])).getD 19 .top).toI) ((((E.getD ((i : Int).toNat) [])).getD 20 .top).toI) ((((E.getD ((i : Int).toNat) [])).getD 21 .top).toI) rfl rfl
    rcases Jh_cases N (lvl E i) ((((E.getD ((i : Int).toNat) [])).getD 0 .top).toI) ((((E.getD ((i : Int).toNat) [])).getD 1 .top).toS) ((((E.getD ((i : Int).toNat) [])).getD 2 .top).toI) ((((E.getD ((i : Int).toNat) [])).getD 3 .top).toI) ((((E.getD ((i : Int).toNat) [])).getD 4 .top).toI) ((((E.getD ((i : Int).toNat) [])).getD 5 .top).toI) ((((E.getD ((i : Int).toNat) [])).getD 6 .top).rows) ((((E.getD ((i : Int).toNat) [])).getD 7 .top).toI) ((((E.getD ((i : Int).toNat) [])).getD 8 .top).toB) ((((E.getD ((i : Int).toNat) [])).getD 9 .top).toI) ((((E.getD ((i : Int).toNat) [])).getD 10 .top).toI) ((((E.getD ((i : Int).toNat) [])).getD 11 .top).toB) ((((E.getD ((i : Int).toNat) [])).getD 12 .top).toB) ((((E.getD ((i : Int).toNat) [])).getD 13 .top).toI) ((((E.getD ((i : Int).toNat) [])).getD 14 .top).toI) ((((E.getD ((i : Int).toNat) [])).getD 15 .top).toI) ((((E.getD ((i : Int).toNat) [])).getD 16 .top).toI) ((((E.getD ((i : Int).toNat) [])).getD 17 .top).toB) ((((E.getD ((i : Int).toNat) [])).getD 18 .top).toB) ((((E.getD ((i : Int).toNat) [])).getD 19 .top).toI) ((((E.getD ((i : Int).toNat) [])).getD 20 .top).toI) ((((E.getD ((i : Int).toNat) [])).getD 21 .top).toI) with ⟨hj, hv, h9⟩ | ⟨hj, hv⟩
    · simp only [L14v1a26, e0, e1, e2, Bool.and_self, tst, hg, hj, h1]
      simp only [List.range'_succ, List.all_cons, Nat.mul_one, c0, c4, c8, ct]
      rw [c9] at h9
      have hen : entOK A E i = (!(kd E i == 5 && !cB E i 8) || (decide (0 ≤ cI E i 4) && decide (cI E i 4 < (A.length : Int)) && (cI A (cI E i 4).toNat 17 == lvl E i))) := by
        unfold entOK
        rw [decide_eq_true ⟨hv, h9⟩]; rfl
      rw [hen, ← h2]
      by_cases k5 : kd E i = 5
      · rw [beq_t k5]
        cases cB E i 8 with
        | true => exact ⟨o, rfl, rfl⟩
        | false =>
          by_cases t0 : cI E i 4 < 0
          · rw [decide_eq_true t0, decide_eq_false (show ¬ (0 ≤ cI E i 4) by omega)]
            exact ⟨_, rfl, rfl⟩
          · rw [decide_eq_false t0, decide_eq_true (show (0 ≤ cI E i 4) by omega)]
            by_cases t1 : (A.length : Int) ≤ cI E i 4
            · rw [decide_eq_true t1, decide_eq_false (show ¬ (cI E i 4 < (A.length : Int)) by omega)]
              exact ⟨_, rfl, rfl⟩
            · rw [decide_eq_false t1, decide_eq_true (show (cI E i 4 < (A.length : Int)) by omega)]
              by_cases t2 : cI A (cI E i 4).toNat 17 = lvl E i
              · rw [bne_f t2, beq_t t2]
                exact ⟨o, rfl, rfl⟩
              · rw [bne_t t2, beq_f t2]
                exact ⟨_, rfl, rfl⟩
      · rw [beq_f k5]
        exact ⟨o, rfl, rfl⟩
    · simp only [L14v1a26, e0, e1, e2, Bool.and_self, tst, hg, hj, List.range'_succ, List.all_cons, Nat.mul_one]
      refine ⟨_, rfl, ?_⟩
      have hen : entOK A E i = false := by
        unfold entOK
        rw [c9] at hv
        rw [decide_eq_false hv]; rfl
      rw [hen]; rfl
theorem F14_eq (A B E C D : List Row) (hE : okE E) (hl : E.length ≤ 200) (N : Nat) (hN : 220 ≤ N) : F14v1 N A B E C D = some (.r (mayB A E)) := by
  obtain ⟨N, rfl⟩ : ∃ m, N = m + 1 := ⟨N - 1, by omega⟩
  obtain ⟨o, h1, h2⟩ := L14_eq A B E C D hE hl E.length 0 N N (by omega) (by omega) (by omega)
  have h1' : L14v1a26 N N E (E.length : Int) 0 A B E C D = some o := h1
  simp only [F14v1, h1']
  unfold mayB
  rw [← h2]
  cases o <;> rfl
def greatB (A B E : List Row) : Bool := decide (200 < E.length) || decide (60 < A.length) || decide (100 < B.length)
theorem F8_eq (A B E C D : List Row) (N : Nat) (hN : 0 < N) : F8 N A B E C D = some (.r (greatB A B E)) := by
  obtain ⟨N, rfl⟩ : ∃ m, N = m + 1 := ⟨N - 1, by omega⟩
  simp only [F8]
  unfold greatB
  rw [show decide ((200 : Int) < (E.length : Int)) = decide (200 < E.length) by congr 1; simp; omega, show decide ((60 : Int) < (A.length : Int)) = decide (60 < A.length) by congr 1; simp; omega, show decide ((100 : Int) < (B.length : Int)) = decide (100 < B.length) by congr 1; simp; omega]
  cases decide (200 < E.length) <;> cases decide (60 < A.length) <;> rfl
theorem regions_true (A B E C D : List Row) (hE : okE E) (x : Int) : F3 301 A B E C D x = some (.r true) := by
  have hN : (300 : Nat) ≤ 300 := Nat.le_refl _
  simp only [F3, F8_eq A B E C D 300 (by omega), head_true]
  cases hg : greatB A B E with
  | true => rfl
  | false =>
    have hl : E.length ≤ 200 := by
      unfold greatB at hg
      simp only [Bool.or_eq_false_iff, decide_eq_false_iff_not] at hg
      omega
    simp only [F10_eqI A B E C D hE hl x 300 (by omega), F11_eqI A B E C D hl x 300 (by omega), F12_eqI A B E C D hE hl x 300 (by omega), F13_eqI A B E C D hl x 300 (by omega), F14_eq A B E C D hE hl 300 (by omega), F15_eq A B E C D hl 300 (by omega), beq_self_eq_true]
end Go.Proofs.YtdennlgnbecojaaDoor

namespace Go.Proofs.YtdennlgnbecojaaDoor
open Go Go.Eng
def inR (L : List Row) (x : Int) : Bool := decide (0 ≤ x) && decide (x < (L.length : Int))
theorem inR_t {L : List Row} {x : Int} (h : inR L x = true) : 0 ≤ x ∧ x < (L.length : Int) := by
  unfold inR at h; simpa using h
theorem inR_f {L : List Row} {x : Int} (h : inR L x = false) : x < 0 ∨ (L.length : Int) ≤ x := by
  unfold inR at h
  by_cases h1 : 0 ≤ x
  · right
    rw [decide_eq_true h1, Bool.true_and, decide_eq_false_iff_not] at h
    omega
  · left; omega
theorem F49_eq {N : Nat} (hN : 0 < N) (L : List Row) (x : Int) : F49 N x (L.length : Int) = some (.r (inR L x)) := by
  obtain ⟨N, rfl⟩ : ∃ m, N = m + 1 := ⟨N - 1, by omega⟩
  simp only [F49]
  unfold inR
  cases decide (0 ≤ x) <;> rfl
theorem F49_lt {N : Nat} (hN : 0 < N) (x y : Int) : F49 N x y = some (.r (decide (0 ≤ x) && decide (x < y))) := by
  obtain ⟨N, rfl⟩ : ∃ m, N = m + 1 := ⟨N - 1, by omega⟩
  simp only [F49]
  cases decide (0 ≤ x) <;> rfl
theorem F48_eq {N : Nat} (hN : 0 < N) (A B E C D : List Row) (x : Int) : F48 N A B E C D x = some (.r (inR E x)) := by
  obtain ⟨N, rfl⟩ : ∃ m, N = m + 1 := ⟨N - 1, by omega⟩
  simp only [F48]
  unfold inR
  cases decide (0 ≤ x) <;> rfl
theorem F29_eq {N : Nat} (hN : 0 < N) (A B E C D : List Row) (x : Int) : F29v1 N A B E C D x = some (.r (inR A x)) := by
  obtain ⟨N, rfl⟩ : ∃ m, N = m + 1 := ⟨N - 1, by omega⟩
  simp only [F29v1]
  unfold inR
  cases decide (0 ≤ x) <;> rfl

/-! ### Alike -/
def alk (B : List Row) (x y : Int) : Bool := inR B x && inR B y && ((cI B x.toNat 0 == cI B y.toNat 0) && ((cI B x.toNat 1 == cI B y.toNat 1) && ((cI B x.toNat 2 == cI B y.toNat 2) && true)))
theorem F47_t {N : Nat} (hN : 0 < N) {B : List Row} {x : Int} (h : inR B x = true) : F47v1 N B x = some (.r (cI B x.toNat 0) (cI B x.toNat 1) (cI B x.toNat 2) true) := by
  obtain ⟨N, rfl⟩ : ∃ m, N = m + 1 := ⟨N - 1, by omega⟩
  have h' := inR_t h
  unfold inR at h
  simp only [F47v1, h, tst, decide_eq_false (show ¬ x < 0 by omega), decide_eq_false (show ¬ (B.length : Int) ≤ x by omega)]
  rfl
theorem F47_f {N : Nat} (hN : 0 < N) {B : List Row} {x : Int} (h : inR B x = false) : F47v1 N B x = some (.r 0 0 0 false) := by
  obtain ⟨N, rfl⟩ : ∃ m, N = m + 1 := ⟨N - 1, by omega⟩
  have h' := inR_f h
  simp only [F47v1]
  by_cases h1 : x < 0
  · rw [decide_eq_true h1]
  · rw [decide_eq_false h1, decide_eq_true (show (B.length : Int) ≤ x by omega)]
theorem F31_eq {N : Nat} (hN : 1 < N) (A B E C D : List Row) (x y : Int) : F31v1 N A B E C D x y = some (.r (alk B x y)) := by
  obtain ⟨N, rfl⟩ : ∃ m, N = m + 1 := ⟨N - 1, by omega⟩
  have hp : 0 < N := by omega
  unfold alk
  cases h1 : inR B x with
  | true =>
    cases h2 : inR B y with
    | true => simp only [F31v1, F47_t hp h1, F47_t hp h2]; rfl
    | false => simp only [F31v1, F47_t hp h1, F47_f hp h2]; rfl
  | false =>
    cases h2 : inR B y with
    | true => simp only [F31v1, F47_f hp h1, F47_t hp h2]; rfl
    | false => simp only [F31v1, F47_f hp h1, F47_f hp h2]; rfl
theorem F36_eq {N : Nat} (hN : 1 < N) (A B E C D : List Row) (x y : Int) : F36 N A B E C D x y = some (.r (alk B x y)) := by
  obtain ⟨N, rfl⟩ : ∃ m, N = m + 1 := ⟨N - 1, by omega⟩
  have hp : 0 < N := by omega
  unfold alk
  simp only [F36, F49_eq hp]
  cases h1 : inR B x with
  | true =>
    cases h2 : inR B y with
    | true =>
      unfold inR at h1 h2
      simp only [h1, h2, tst]; rfl
    | false => rfl
  | false => rfl

/-! ### Bases -/
def bas (E : List Row) (r : Nat) : Nat :=
  if h : cB E r 8 = true ∧ 0 ≤ cI E r 7 ∧ cI E r 7 < (r : Int) then bas E (cI E r 7).toNat else r
termination_by r
decreasing_by omega
theorem bas_le (E : List Row) : ∀ r : Nat, bas E r ≤ r := by
  intro r
  induction r using Nat.strongRecOn with
  | _ r ih =>
    rw [bas]
    split
    · have := ih (cI E r 7).toNat (by omega); omega
    · omega
def basI (E : List Row) (x : Int) : Int := if inR E x = true then (bas E x.toNat : Int) else -1
def w26 : OL26v1a60 → Int
  | .x0 x _ _ _ _ _ _ _ _ _ _ _ _ _ _ _ _ _ _ _ _ _ _ _ _ _ _ _ => x
theorem L26_eq (A B E C D : List Row) : ∀ (r n N : Nat) (c0 : Int) (c1 : ByteArray) (c2 : Int) (c3 : Int) (c4 : Int) (c5 : Int) (c6 : List Row) (c7 : Int) (c8 : Bool) (c9 : Int) (c10 : Int) (c11 : Bool) (c12 : Bool) (c13 : Int) (c14 : Int) (c15 : Int) (c16 : Int) (c17 : Bool) (c18 : Bool) (c19 : Int) (c20 : Int) (c21 : Int), r < n → r < E.length → c7 = cI E r 7 → c8 = cB E r 8 → ∃ o, L26v1a60 N n (r : Int) A B E C D c0 c1 c2 c3 c4 c5 c6 c7 c8 c9 c10 c11 c12 c13 c14 c15 c16 c17 c18 c19 c20 c21 = some o ∧ w26 o = (bas E r : Int) := by
  intro r
  induction r using Nat.strongRecOn with
  | _ r ih =>
    intro n N c0 c1 c2 c3 c4 c5 c6 c7 c8 c9 c10 c11 c12 c13 c14 c15 c16 c17 c18 c19 c20 c21 hn hr h7 h8
    subst h7
    subst h8
    obtain ⟨n, rfl⟩ : ∃ m, n = m + 1 := ⟨n - 1, by omega⟩
    rw [bas]
    simp only [L26v1a60, J26v1a240]
    cases hb : cB E r 8 with
    | true =>
      by_cases h1 : 0 ≤ cI E r 7
      · by_cases h2 : cI E r 7 < (r : Int)
        · rw [dif_pos ⟨rfl, h1, h2⟩]
          have e1 : (decide (0 ≤ cI E r 7) && decide (cI E r 7 < (E.length : Int))) = true := by simp; omega
          obtain ⟨o, h3, h4⟩ := ih (cI E r 7).toNat (by omega) n N ((((E.getD (cI E r 7).toNat [])).getD 0 .top).toI) ((((E.getD (cI E r 7).toNat [])).getD 1 .top).toS) ((((E.getD (cI E r 7).toNat [])).getD 2 .top).toI) ((((E.getD (cI E r 7).toNat [])).getD 3 .top).toI) ((((E.getD (cI E r 7).toNat [])).getD 4 .top).toI) ((((E.getD (cI E r 7).toNat [])).getD 5 .top).toI) ((((E.getD (cI E r 7).toNat [])).getD 6 .top).rows) ((((E.getD (cI E r 7).toNat [])).getD 7 .top).toI) ((((E.getD (cI E r 7).toNat [])).getD 8 .top).toB) ((((E.getD (cI E r 7).toNat [])).getD 9 .top).toI) ((((E.getD (cI E r 7).toNat [])).getD 10 .top).toI) ((((E.getD (cI E r 7).toNat [])).getD 11 .top).toB) ((((E.getD (cI E r 7).toNat [])).getD 12 .top).toB) ((((E.getD (cI E r 7).toNat [])).getD 13 .top).toI) ((((E.getD (cI E r 7).toNat [])).getD 14 .top).toI) ((((E.getD (cI E r 7).toNat [])).getD 15 .top).toI) ((((E.getD (cI E r 7).toNat [])).getD 16 .top).toI) ((((E.getD (cI E r 7).toNat [])).getD 17 .top).toB) ((((E.getD (cI E r 7).toNat [])).getD 18 .top).toB) ((((E.getD (cI E r 7).toNat [])).getD 19 .top).toI) ((((E.getD (cI E r 7).toNat [])).getD 20 .top).toI) ((((E.getD (cI E r 7).toNat [])).getD 21 .top).toI) (by omega) (by omega) rfl rfl
          rw [show (((cI E r 7).toNat : Nat) : Int) = cI E r 7 by omega] at h3
          simp only [decide_eq_true h1, decide_eq_true h2, Bool.and_self, tst, decide_eq_true (show cI E r 7 < (E.length : Int) by omega)]
          exact ⟨o, h3, h4⟩
        · rw [dif_neg (fun h => h2 h.2.2), decide_eq_true h1, decide_eq_false h2]
          exact ⟨_, rfl, rfl⟩
      · rw [dif_neg (fun h => h1 h.2.1), decide_eq_false h1]
        exact ⟨_, rfl, rfl⟩
    | false =>
      rw [dif_neg (fun h => by cases h.1)]
      exact ⟨_, rfl, rfl⟩
theorem F46_t {N : Nat} (hN : 0 < N) (A B C D : List Row) {E : List Row} {x : Int} (h : inR E x = true) : F46v1 N A B E C D x = some (.r ((((E.getD x.toNat [])).getD 0 .top).toI) ((((E.getD x.toNat [])).getD 1 .top).toS) ((((E.getD x.toNat [])).getD 2 .top).toI) ((((E.getD x.toNat [])).getD 3 .top).toI) ((((E.getD x.toNat [])).getD 4 .top).toI) ((((E.getD x.toNat [])).getD 5 .top).toI) ((((E.getD x.toNat [])).getD 6 .top).rows) ((((E.getD x.toNat [])).getD 7 .top).toI) ((((E.getD x.toNat [])).getD 8 .top).toB) ((((E.getD x.toNat [])).getD 9 .top).toI) ((((E.getD x.toNat [])).getD 10 .top).toI) ((((E.getD x.toNat [])).getD 11 .top).toB) ((((E.getD x.toNat [])).getD 12 .top).toB) ((((E.getD x.toNat [])).getD 13 .top).toI) ((((E.getD x.toNat [])).getD 14 .top).toI) ((((E.getD x.toNat [])).getD 15 .top).toI) ((((E.getD x.toNat [])).getD 16 .top).toI) ((((E.getD x.toNat [])).getD 17 .top).toB) ((((E.getD x.toNat [])).getD 18 .top).toB) ((((E.getD x.toNat [])).getD 19 .top).toI) ((((E.getD x.toNat [])).getD 20 .top).toI) ((((E.getD x.toNat [])).getD 21 .top).toI) true) := by
  obtain ⟨N, rfl⟩ : ∃ m, N = m + 1 := ⟨N - 1, by omega⟩
  have h' := inR_t h
  unfold inR at h
  simp only [F46v1, h, tst, decide_eq_false (show ¬ x < 0 by omega), decide_eq_false (show ¬ (E.length : Int) ≤ x by omega)]
theorem F46_f {N : Nat} (hN : 0 < N) (A B C D : List Row) {E : List Row} {x : Int} (h : inR E x = false) : F46v1 N A B E C D x = some (.r 0 ByteArray.empty 0 0 0 0 ([]) 0 false 0 0 false false 0 0 0 0 false false 0 0 0 false) := by
  obtain ⟨N, rfl⟩ : ∃ m, N = m + 1 := ⟨N - 1, by omega⟩
  have h' := inR_f h
  simp only [F46v1]
  by_cases h1 : x < 0
  · rw [decide_eq_true h1]
  · rw [decide_eq_false h1, decide_eq_true (show (E.length : Int) ≤ x by omega)]
theorem F26_eq {N : Nat} (A B E C D : List Row) (hl : E.length ≤ 200) (hN : 210 ≤ N) (x : Int) : F26v1 N A B E C D x = some (.r (basI E x)) := by
  obtain ⟨N, rfl⟩ : ∃ m, N = m + 1 := ⟨N - 1, by omega⟩
  have hp : 0 < N := by omega
  unfold basI
  cases h : inR E x with
  | true =>
    have h' := inR_t h
    obtain ⟨r, rfl⟩ := Int.eq_ofNat_of_zero_le h'.1
    obtain ⟨o, h3, h4⟩ := L26_eq A B E C D r N N ((((E.getD (r : Int).toNat [])).getD 0 .top).toI) ((((E.getD (r : Int).toNat [])).getD 1 .top).toS) ((((E.getD (r : Int).toNat [])).getD 2 .top).toI) ((((E.getD (r : Int).toNat [])).getD 3 .top).toI) ((((E.getD (r : Int).toNat [])).getD 4 .top).toI) ((((E.getD (r : Int).toNat [])).getD 5 .top).toI) ((((E.getD (r : Int).toNat [])).getD 6 .top).rows) ((((E.getD (r : Int).toNat [])).getD 7 .top).toI) ((((E.getD (r : Int).toNat [])).getD 8 .top).toB) ((((E.getD (r : Int).toNat [])).getD 9 .top).toI) ((((E.getD (r : Int).toNat [])).getD 10 .top).toI) ((((E.getD (r : Int).toNat [])).getD 11 .top).toB) ((((E.getD (r : Int).toNat [])).getD 12 .top).toB) ((((E.getD (r : Int).toNat [])).getD 13 .top).toI) ((((E.getD (r : Int).toNat [])).getD 14 .top).toI) ((((E.getD (r : Int).toNat [])).getD 15 .top).toI) ((((E.getD (r : Int).toNat [])).getD 16 .top).toI) ((((E.getD (r : Int).toNat [])).getD 17 .top).toB) ((((E.getD (r : Int).toNat [])).getD 18 .top).toB) ((((E.getD (r : Int).toNat [])).getD 19 .top).toI) ((((E.getD (r : Int).toNat [])).getD 20 .top).toI) ((((E.getD (r : Int).toNat [])).getD 21 .top).toI) (by omega) (by omega) rfl rfl
    simp only [F26v1, F46_t hp A B C D h, Bool.not_true, h3, if_true]
    rw [show ((r : Int)).toNat = r from rfl, ← h4]
    cases o; rfl
  | false =>
    simp only [F26v1, F46_f hp A B C D h, Bool.not_false]
    rfl
def w35 : OL35a28 → Int
  | .x0 x _ _ _ _ _ => x
theorem L35_eq (A B E C D : List Row) : ∀ (r n N : Nat), r < n → r < E.length → ∃ o, L35a28 N n (r : Int) A B E C D = some o ∧ w35 o = (bas E r : Int) := by
  intro r
  induction r using Nat.strongRecOn with
  | _ r ih =>
    intro n N hn hr
    obtain ⟨n, rfl⟩ : ∃ m, n = m + 1 := ⟨n - 1, by omega⟩
    rw [bas]
    have e2 : (decide ((0 : Int) ≤ (r : Int)) && decide ((r : Int) < (E.length : Int))) = true := by simp; omega
    have c7 : ((((E.getD (r : Int).toNat [])).getD 7 .top).toI) = cI E r 7 := rfl
    have c8 : ((((E.getD (r : Int).toNat [])).getD 8 .top).toB) = cB E r 8 := rfl
    simp only [L35a28, J35a112, e2, tst, c7, c8]
    cases hb : cB E r 8 with
    | true =>
      by_cases h1 : 0 ≤ cI E r 7
      · by_cases h2 : cI E r 7 < (r : Int)
        · rw [dif_pos ⟨rfl, h1, h2⟩]
          obtain ⟨o, h3, h4⟩ := ih (cI E r 7).toNat (by omega) n N (by omega) (by omega)
          rw [show (((cI E r 7).toNat : Nat) : Int) = cI E r 7 by omega] at h3
          simp only [decide_eq_true h1, decide_eq_true h2, e2]
          exact ⟨o, h3, h4⟩
        · rw [dif_neg (fun h => h2 h.2.2), decide_eq_true h1, decide_eq_false h2]
          exact ⟨_, rfl, rfl⟩
      · rw [dif_neg (fun h => h1 h.2.1), decide_eq_false h1]
        exact ⟨_, rfl, rfl⟩
    | false =>
      rw [dif_neg (fun h => by cases h.1)]
      exact ⟨_, rfl, rfl⟩
theorem F35_eq {N : Nat} (A B E C D : List Row) (hl : E.length ≤ 200) (hN : 210 ≤ N) (x : Int) : F35 N A B E C D x = some (.r (basI E x)) := by
  obtain ⟨N, rfl⟩ : ∃ m, N = m + 1 := ⟨N - 1, by omega⟩
  have hp : 0 < N := by omega
  unfold basI
  simp only [F35, F48_eq hp]
  cases h : inR E x with
  | true =>
    have h' := inR_t h
    obtain ⟨r, rfl⟩ := Int.eq_ofNat_of_zero_le h'.1
    obtain ⟨o, h3, h4⟩ := L35_eq A B E C D r N N (by omega) (by omega)
    simp only [Bool.not_true, h3, if_true]
    rw [show ((r : Int)).toNat = r from rfl, ← h4]
    cases o; rfl
  | false => rfl
theorem bas_in {E : List Row} {x : Int} (h : inR E x = true) : inR E (basI E x) = true := by
  have h' := inR_t h
  have := bas_le E x.toNat
  unfold basI
  rw [if_pos h]
  unfold inR
  simp; omega
theorem bas_out {E : List Row} {x : Int} (h : inR E x = false) : inR E (basI E x) = false := by
  unfold basI
  rw [h]
  rfl

/-! ### Roots -/
def rt (A : List Row) (r : Nat) : Nat :=
  if h : 0 ≤ cI A r 2 ∧ cI A r 2 < (r : Int) then rt A (cI A r 2).toNat else r
termination_by r
decreasing_by omega
def rtI (A : List Row) (x : Int) : Int := if inR A x = true then (rt A x.toNat : Int) else -1
theorem F50_t {N : Nat} (hN : 0 < N) {A : List Row} {x : Int} (h : inR A x = true) : F50v1 N A x = some (.r ((((A.getD x.toNat [])).getD 0 .top).toI) ((((A.getD x.toNat [])).getD 1 .top).toS) ((((A.getD x.toNat [])).getD 2 .top).toI) ((((A.getD x.toNat [])).getD 3 .top).toI) ((((A.getD x.toNat [])).getD 4 .top).rows) ((((A.getD x.toNat [])).getD 5 .top).toI) ((((A.getD x.toNat [])).getD 6 .top).toI) ((((A.getD x.toNat [])).getD 7 .top).toI) ((((A.getD x.toNat [])).getD 8 .top).toS) ((((A.getD x.toNat [])).getD 9 .top).toB) ((((A.getD x.toNat [])).getD 10 .top).toI) ((((A.getD x.toNat [])).getD 11 .top).rows) ((((A.getD x.toNat [])).getD 12 .top).toI) ((((A.getD x.toNat [])).getD 13 .top).toI) ((((A.getD x.toNat [])).getD 14 .top).toB) ((((A.getD x.toNat [])).getD 15 .top).toI) ((((A.getD x.toNat [])).getD 16 .top).toI) ((((A.getD x.toNat [])).getD 17 .top).toI) true) := by
  obtain ⟨N, rfl⟩ : ∃ m, N = m + 1 := ⟨N - 1, by omega⟩
  have h' := inR_t h
  unfold inR at h
  simp only [F50v1, h, tst, decide_eq_false (show ¬ x < 0 by omega), decide_eq_false (show ¬ (A.length : Int) ≤ x by omega)]
theorem F50_f {N : Nat} (hN : 0 < N) {A : List Row} {x : Int} (h : inR A x = false) : F50v1 N A x = some (.r 0 ByteArray.empty 0 0 ([]) 0 0 0 ByteArray.empty false 0 ([]) 0 0 false 0 0 0 false) := by
  obtain ⟨N, rfl⟩ : ∃ m, N = m + 1 := ⟨N - 1, by omega⟩
  have h' := inR_f h
  simp only [F50v1]
  by_cases h1 : x < 0
  · rw [decide_eq_true h1]
  · rw [decide_eq_false h1, decide_eq_true (show (A.length : Int) ≤ x by omega)]
def w51 : OL51v1a58 → Int
  | .x0 x _ _ _ _ _ => x
theorem L51_eq (A B E C D : List Row) : ∀ (r n N : Nat), r < n → r < A.length → ∃ o, L51v1a58 N n (r : Int) (cI A r 2) A B E C D = some o ∧ w51 o = (rt A r : Int) := by
  intro r
  induction r using Nat.strongRecOn with
  | _ r ih =>
    intro n N hn hr
    obtain ⟨n, rfl⟩ : ∃ m, n = m + 1 := ⟨n - 1, by omega⟩
    rw [rt]
    simp only [L51v1a58]
    by_cases h1 : 0 ≤ cI A r 2
    · by_cases h2 : cI A r 2 < (r : Int)
      · rw [dif_pos ⟨h1, h2⟩]
        obtain ⟨o, h3, h4⟩ := ih (cI A r 2).toNat (by omega) n N (by omega) (by omega)
        rw [show (((cI A r 2).toNat : Nat) : Int) = cI A r 2 by omega] at h3
        simp only [decide_eq_true h1, decide_eq_true h2, decide_eq_true (show cI A r 2 < (A.length : Int) by omega), Bool.and_self, tst]
        exact ⟨o, h3, h4⟩
      · rw [dif_neg (fun h => h2 h.2), decide_eq_true h1, decide_eq_false h2]
        exact ⟨_, rfl, rfl⟩
    · rw [dif_neg (fun h => h1 h.1), decide_eq_false h1]
      exact ⟨_, rfl, rfl⟩
theorem F51_eq {N : Nat} (A B E C D : List Row) (hl : A.length ≤ 60) (hN : 210 ≤ N) (x : Int) : F51v1 N A B E C D x = some (.r (rtI A x)) := by
  obtain ⟨N, rfl⟩ : ∃ m, N = m + 1 := ⟨N - 1, by omega⟩
  have hp : 0 < N := by omega
  unfold rtI
  cases h : inR A x with
  | true =>
    have h' := inR_t h
    obtain ⟨r, rfl⟩ := Int.eq_ofNat_of_zero_le h'.1
    obtain ⟨o, h3, h4⟩ := L51_eq A B E C D r N N (by omega) (by omega)
    have e2 : (decide ((0 : Int) ≤ (r : Int)) && decide ((r : Int) < (A.length : Int))) = true := h
    have c2 : ((((A.getD (r : Int).toNat [])).getD 2 .top).toI) = cI A r 2 := rfl
    simp only [F51v1, F50_t hp h, Bool.not_true, if_true, e2, tst]
    rw [c2, h3, show ((r : Int)).toNat = r from rfl, ← h4]
    cases o; rfl
  | false =>
    simp only [F51v1, F50_f hp h, Bool.not_false]
    rfl
def w53 : OL53a28 → Int
  | .x0 x _ _ _ _ _ => x
theorem L53_eq (A B E C D : List Row) : ∀ (r n N : Nat), r < n → 0 < N → r < A.length → ∃ o, L53a28 N n (r : Int) A B E C D = some o ∧ w53 o = (rt A r : Int) := by
  intro r
  induction r using Nat.strongRecOn with
  | _ r ih =>
    intro n N hn hp hr
    obtain ⟨n, rfl⟩ : ∃ m, n = m + 1 := ⟨n - 1, by omega⟩
    rw [rt]
    have e2 : (decide ((0 : Int) ≤ (r : Int)) && decide ((r : Int) < (A.length : Int))) = true := by simp; omega
    have c2 : ((((A.getD (r : Int).toNat [])).getD 2 .top).toI) = cI A r 2 := rfl
    simp only [L53a28, e2, tst, c2, F49_lt hp]
    by_cases h1 : 0 ≤ cI A r 2 ∧ cI A r 2 < (r : Int)
    · rw [dif_pos h1]
      obtain ⟨o, h3, h4⟩ := ih (cI A r 2).toNat (by omega) n N (by omega) hp (by omega)
      rw [show (((cI A r 2).toNat : Nat) : Int) = cI A r 2 by omega] at h3
      simp only [decide_eq_true h1.1, decide_eq_true h1.2, Bool.and_self]
      exact ⟨o, h3, h4⟩
    · rw [dif_neg h1]
      have e3 : (decide (0 ≤ cI A r 2) && decide (cI A r 2 < (r : Int))) = false := by
        rw [Bool.eq_false_iff]; intro hc; simp only [Bool.and_eq_true, decide_eq_true_eq] at hc; exact h1 hc
      simp only [e3]
      exact ⟨_, rfl, rfl⟩
theorem F53_eq {N : Nat} (A B E C D : List Row) (hl : A.length ≤ 60) (hN : 210 ≤ N) (x : Int) : F53 N A B E C D x = some (.r (rtI A x)) := by
  obtain ⟨N, rfl⟩ : ∃ m, N = m + 1 := ⟨N - 1, by omega⟩
  have hp : 0 < N := by omega
  unfold rtI
  simp only [F53, F49_eq hp]
  cases h : inR A x with
  | true =>
    have h' := inR_t h
    obtain ⟨r, rfl⟩ := Int.eq_ofNat_of_zero_le h'.1
    obtain ⟨o, h3, h4⟩ := L53_eq A B E C D r N N (by omega) hp (by omega)
    simp only [Bool.not_true, h3, if_true]
    rw [show ((r : Int)).toNat = r from rfl, ← h4]
    cases o; rfl
  | false => rfl

/-! ### Conversions of types -/
def k12 (k : Int) : Bool := k == 1 || k == 2
def conv (A B : List Row) (x y : Int) : Bool :=
  inR A x && inR A y && ((x == y) || (k12 (cI A x.toNat 0) && k12 (cI A y.toNat 0)) || ((cI A x.toNat 0 == 3) && (cI A y.toNat 0 == 3) && (rtI A x == rtI A y)) || ((cI A x.toNat 0 == 6) && (cI A y.toNat 0 == 6) && alk B (cI A x.toNat 12) (cI A y.toNat 12)))
theorem F52_eq {N : Nat} (hN : 0 < N) (k : Int) : F52 N k = some (.r (k12 k)) := by
  obtain ⟨N, rfl⟩ : ∃ m, N = m + 1 := ⟨N - 1, by omega⟩
  simp only [F52, k12]
  cases (k == 1) <;> rfl
theorem k12_f {k : Int} (h : k = 3 ∨ k = 6) : k12 k = false := by rcases h with h | h <;> subst h <;> rfl
theorem F39_eq {N : Nat} (A B E C D : List Row) (hl : A.length ≤ 60) (hN : 220 ≤ N) (x y : Int) : F39v1 N A B E C D x y = some (.r (conv A B x y)) := by
  obtain ⟨N, rfl⟩ : ∃ m, N = m + 1 := ⟨N - 1, by omega⟩
  have hp : 0 < N := by omega
  unfold conv
  cases h1 : inR A x with
  | false =>
    cases h2 : inR A y with
    | false => simp only [F39v1, F50_f hp h1, F50_f hp h2, J39v1a30, J39v1a120, Bool.not_false]; rfl
    | true => simp only [F39v1, F50_f hp h1, F50_t hp h2, J39v1a30, J39v1a120, Bool.not_false]; rfl
  | true =>
    cases h2 : inR A y with
    | false => simp only [F39v1, F50_t hp h1, F50_f hp h2, J39v1a30, J39v1a120, Bool.not_false, Bool.not_true]; rfl
    | true =>
      have a0 : ((((A.getD x.toNat [])).getD 0 .top).toI) = cI A x.toNat 0 := rfl
      have b0 : ((((A.getD y.toNat [])).getD 0 .top).toI) = cI A y.toNat 0 := rfl
      have a12 : ((((A.getD x.toNat [])).getD 12 .top).toI) = cI A x.toNat 12 := rfl
      have b12 : ((((A.getD y.toNat [])).getD 12 .top).toI) = cI A y.toNat 12 := rfl
      simp only [F39v1, F50_t hp h1, F50_t hp h2, J39v1a30, J39v1a120, Bool.not_true, F51_eq A B E C D hl (show 210 ≤ N by omega), F31_eq (show 1 < N by omega), F52_eq hp, a0, b0, a12, b12]
      cases (x == y) with
      | true => rfl
      | false =>
        by_cases k1 : cI A x.toNat 0 = 3
        · by_cases k2 : cI A y.toNat 0 = 3
          · rw [k1, k2]
            cases (rtI A x == rtI A y) <;> rfl
          · rw [k1, beq_f k2]
            cases k12 (cI A y.toNat 0) <;> rfl
        · rw [beq_f k1]
          by_cases k3 : cI A x.toNat 0 = 6
          · by_cases k4 : cI A y.toNat 0 = 6
            · rw [k3, k4]
              cases alk B (cI A x.toNat 12) (cI A y.toNat 12) <;> rfl
            · rw [k3, beq_f k4]
              cases k12 (cI A y.toNat 0) <;> rfl
          · rw [beq_f k3]
            dsimp only
            cases k12 (cI A x.toNat 0) <;> cases k12 (cI A y.toNat 0) <;> rfl
theorem F41_eq {N : Nat} (A B E C D : List Row) (hl : A.length ≤ 60) (hN : 220 ≤ N) (x y : Int) : F41 N A B E C D x y = some (.r (conv A B x y)) := by
  obtain ⟨N, rfl⟩ : ∃ m, N = m + 1 := ⟨N - 1, by omega⟩
  have hp : 0 < N := by omega
  unfold conv
  cases h1 : inR A x with
  | false => simp only [F41, J41a6, F49_eq hp, h1, Bool.not_false]; rfl
  | true =>
    cases h2 : inR A y with
    | false => simp only [F41, J41a6, F49_eq hp, h1, h2, Bool.not_false, Bool.not_true]; rfl
    | true =>
      have e1 : (decide ((0 : Int) ≤ x) && decide (x < (A.length : Int))) = true := h1
      have e2 : (decide ((0 : Int) ≤ y) && decide (y < (A.length : Int))) = true := h2
      have a0 : ((((A.getD x.toNat [])).getD 0 .top).toI) = cI A x.toNat 0 := rfl
      have b0 : ((((A.getD y.toNat [])).getD 0 .top).toI) = cI A y.toNat 0 := rfl
      have a12 : ((((A.getD x.toNat [])).getD 12 .top).toI) = cI A x.toNat 12 := rfl
      have b12 : ((((A.getD y.toNat [])).getD 12 .top).toI) = cI A y.toNat 12 := rfl
      have g : ∀ {α : Type} (b : Bool) (f : Bool → α), (match b with | true => f true | false => f false) = f b := fun b f => by cases b <;> rfl
      simp only [F41, J41a6, F49_eq hp, h1, h2, Bool.not_true, e1, e2, tst]
      simp only [J41a62, J41a126, F53_eq A B E C D hl (show 210 ≤ N by omega), F36_eq (show 1 < N by omega), a0, b0, a12, b12]
      unfold k12
      by_cases k1 : cI A x.toNat 0 = 1
      · rw [k1]
        by_cases k2 : cI A y.toNat 0 = 1
        · rw [k2]
          cases (x == y) <;> rfl
        · rw [beq_f k2]
          cases (x == y) <;> cases (cI A y.toNat 0 == 2) <;> rfl
      · by_cases k2 : cI A x.toNat 0 = 2
        · rw [k2]
          by_cases k2 : cI A y.toNat 0 = 1
          · rw [k2]
            cases (x == y) <;> rfl
          · rw [beq_f k2]
            cases (x == y) <;> cases (cI A y.toNat 0 == 2) <;> rfl
        · rw [beq_f k1, beq_f k2]
          by_cases k3 : cI A x.toNat 0 = 3
          · rw [k3]
            by_cases k4 : cI A y.toNat 0 = 3
            · rw [k4]
              cases (x == y) <;> cases (rtI A x == rtI A y) <;> rfl
            · simp only [beq_f k4, beq_self_eq_true]
              cases (x == y) <;> rfl
          · rw [beq_f k3]
            by_cases k5 : cI A x.toNat 0 = 6
            · rw [k5]
              by_cases k6 : cI A y.toNat 0 = 6
              · rw [k6]
                dsimp only
                simp only [show ((6 : Int) == 1) = false from rfl, show ((6 : Int) == 2) = false from rfl, show ((6 : Int) == 3) = false from rfl, beq_self_eq_true]
                cases (x == y) <;> cases alk B (cI A x.toNat 12) (cI A y.toNat 12) <;> rfl
              · simp only [beq_f k6, beq_self_eq_true, show ((6 : Int) == 1) = false from rfl, show ((6 : Int) == 2) = false from rfl, show ((6 : Int) == 3) = false from rfl]
                cases (x == y) <;> rfl
            · simp only [beq_f k5, beq_f k3]
              cases (x == y) <;> rfl

/-! ### Accesses -/
def acc (A B E : List Row) (x t : Int) : Int :=
  if (inR E x && inR A t) = false then 2
  else if ((cI A t.toNat 0 == 6) && alk B (cI E (basI E x).toNat 5) (cI A t.toNat 12)) = false then 90
  else if ((cI E (basI E x).toNat 0 == 7) && cB E (basI E x).toNat 12) = false then 121
  else if cI E (basI E x).toNat 9 ≤ cI A t.toNat 17 then 0 else 120
theorem F16_eq {N : Nat} (A B E C D : List Row) (hE : E.length ≤ 200) (hN : 220 ≤ N) (x t : Int) : F16v1 N A B E C D x t = some (.r (acc A B E x t)) := by
  obtain ⟨N, rfl⟩ : ∃ m, N = m + 2 := ⟨N - 2, by omega⟩
  have hp : 0 < N := by omega
  unfold acc
  simp only [F16v1, F26_eq A B E C D hE (show 210 ≤ N + 1 by omega), F28v1, F29_eq hp]
  cases h1 : inR E x with
  | false =>
    have : basI E x = -1 := by unfold basI; rw [h1]; rfl
    rw [this]; rfl
  | true =>
    have hb := bas_in h1
    have hb' := inR_t hb
    rw [decide_eq_true hb'.1, decide_eq_true hb'.2]
    cases h2 : inR A t with
    | false => rfl
    | true =>
      have e1 : (decide ((0 : Int) ≤ basI E x) && decide (basI E x < (E.length : Int))) = true := hb
      have e2 : (decide ((0 : Int) ≤ t) && decide (t < (A.length : Int))) = true := h2
      have t0 : ((((A.getD t.toNat [])).getD 0 .top).toI) = cI A t.toNat 0 := rfl
      have t12 : ((((A.getD t.toNat [])).getD 12 .top).toI) = cI A t.toNat 12 := rfl
      have t17 : ((((A.getD t.toNat [])).getD 17 .top).toI) = cI A t.toNat 17 := rfl
      have s5 : ((((E.getD (basI E x).toNat [])).getD 5 .top).toI) = cI E (basI E x).toNat 5 := rfl
      have s0 : ((((E.getD (basI E x).toNat [])).getD 0 .top).toI) = cI E (basI E x).toNat 0 := rfl
      have s9 : ((((E.getD (basI E x).toNat [])).getD 9 .top).toI) = cI E (basI E x).toNat 9 := rfl
      have s12 : ((((E.getD (basI E x).toNat [])).getD 12 .top).toB) = cB E (basI E x).toNat 12 := rfl
      simp only [Bool.not_true, F30v1, F32v1, F33v1, e1, e2, tst, F31_eq (show 1 < N by omega), t0, t12, t17, s5, s0, s9, s12]
      cases (cI A t.toNat 0 == 6) with
      | false => rfl
      | true =>
        cases alk B (cI E (basI E x).toNat 5) (cI A t.toNat 12) with
        | false => rfl
        | true =>
          simp only [Bool.not_true, Bool.not_false, e1, e2, tst, F31_eq (show 1 < N by omega), t0, t12, t17, s5, s0, s9, s12, Bool.and_self]
          cases (cI E (basI E x).toNat 0 == 7) with
          | false => rfl
          | true =>
            cases cB E (basI E x).toNat 12 with
            | false => rfl
            | true =>
              simp only [Bool.not_true, Bool.not_false, e1, e2, tst, F31_eq (show 1 < N by omega), t0, t12, t17, s5, s0, s9, s12, Bool.and_self]
              by_cases h : cI E (basI E x).toNat 9 ≤ cI A t.toNat 17
              · simp [h]
              · simp [h]
theorem F34_eq {N : Nat} (hN : 0 < N) (A B E C D : List Row) (x : Int) : F34 N A B E C D x = some (.r (inR A x) (inR A x && (cI A x.toNat 0 == 6))) := by
  obtain ⟨N, rfl⟩ : ∃ m, N = m + 1 := ⟨N - 1, by omega⟩
  simp only [F34]
  cases h : inR A x with
  | true =>
    have h' := inR_t h
    unfold inR at h
    rw [decide_eq_false (show ¬ x < 0 by omega), decide_eq_false (show ¬ (A.length : Int) ≤ x by omega)]
    simp only [h, tst]
    rfl
  | false =>
    have h' := inR_f h
    by_cases h1 : x < 0
    · rw [decide_eq_true h1]; rfl
    · rw [decide_eq_false h1, decide_eq_true (show (A.length : Int) ≤ x by omega)]; rfl
theorem F17_eq {N : Nat} (A B E C D : List Row) (hE : E.length ≤ 200) (hN : 220 ≤ N) (x t : Int) : F17 N A B E C D x t = some (.r (acc A B E x t)) := by
  obtain ⟨N, rfl⟩ : ∃ m, N = m + 2 := ⟨N - 2, by omega⟩
  have hp : 0 < N + 1 := by omega
  have e0 : (decide ((0 : Int) ≤ x) && decide (x < (E.length : Int))) = inR E x := rfl
  unfold acc
  simp only [F17, F34_eq hp, J17a14, F24_eq hp, e0]
  cases h1 : inR E x with
  | false => rfl
  | true =>
    have hb := bas_in h1
    have e1 : (decide ((0 : Int) ≤ basI E x) && decide (basI E x < (E.length : Int))) = true := hb
    cases h2 : inR A t with
    | false => rfl
    | true =>
      have e2 : (decide ((0 : Int) ≤ t) && decide (t < (A.length : Int))) = true := h2
      have t12 : ((((A.getD t.toNat [])).getD 12 .top).toI) = cI A t.toNat 12 := rfl
      have t17 : ((((A.getD t.toNat [])).getD 17 .top).toI) = cI A t.toNat 17 := rfl
      have s5 : ((((E.getD (basI E x).toNat [])).getD 5 .top).toI) = cI E (basI E x).toNat 5 := rfl
      have s0 : ((((E.getD (basI E x).toNat [])).getD 0 .top).toI) = cI E (basI E x).toNat 0 := rfl
      have s9 : ((((E.getD (basI E x).toNat [])).getD 9 .top).toI) = cI E (basI E x).toNat 9 := rfl
      have s12 : ((((E.getD (basI E x).toNat [])).getD 12 .top).toB) = cB E (basI E x).toNat 12 := rfl
      simp only [Bool.not_true, Bool.true_and, F35_eq A B E C D hE (show 210 ≤ N + 1 by omega), e1, e2, tst, F36_eq (show 1 < N + 1 by omega), t12, t17, s5, s0, s9, s12]
      cases (cI A t.toNat 0 == 6) with
      | false => rfl
      | true =>
        cases alk B (cI E (basI E x).toNat 5) (cI A t.toNat 12) with
        | false => rfl
        | true =>
          by_cases h7 : cI E (basI E x).toNat 0 = 7
          · rw [bne_f h7, beq_t h7]
            cases cB E (basI E x).toNat 12 with
            | false => rfl
            | true =>
              by_cases h : cI E (basI E x).toNat 9 ≤ cI A t.toNat 17
              · rw [decide_eq_false (show ¬ cI A t.toNat 17 < cI E (basI E x).toNat 9 by omega), if_pos h]; rfl
              · rw [decide_eq_true (show cI A t.toNat 17 < cI E (basI E x).toNat 9 by omega), if_neg h]; rfl
          · rw [bne_t h7, beq_f h7]
            rfl
def cvt (A B : List Row) (x y : Int) : Int :=
  if (inR A x && inR A y) = false then 2
  else if ((cI A x.toNat 0 == 6) && (cI A y.toNat 0 == 6) && conv A B x y) = false then 90
  else if cI A x.toNat 17 ≤ cI A y.toNat 17 then 0 else 120
theorem F18_eq {N : Nat} (A B E C D : List Row) (hA : A.length ≤ 60) (hN : 230 ≤ N) (x y : Int) : F18v1 N A B E C D x y = some (.r (cvt A B x y)) := by
  obtain ⟨N, rfl⟩ : ∃ m, N = m + 2 := ⟨N - 2, by omega⟩
  have hp : 0 < N := by omega
  unfold cvt
  simp only [F18v1, F37v1, F29_eq hp]
  cases h1 : inR A x with
  | false => rfl
  | true =>
    cases h2 : inR A y with
    | false => rfl
    | true =>
      have e1 : (decide ((0 : Int) ≤ x) && decide (x < (A.length : Int))) = true := h1
      have e2 : (decide ((0 : Int) ≤ y) && decide (y < (A.length : Int))) = true := h2
      have a0 : ((((A.getD x.toNat [])).getD 0 .top).toI) = cI A x.toNat 0 := rfl
      have b0 : ((((A.getD y.toNat [])).getD 0 .top).toI) = cI A y.toNat 0 := rfl
      have a17 : ((((A.getD x.toNat [])).getD 17 .top).toI) = cI A x.toNat 17 := rfl
      have b17 : ((((A.getD y.toNat [])).getD 17 .top).toI) = cI A y.toNat 17 := rfl
      simp only [Bool.not_true, F38v1, F40v1, e1, e2, tst, F39_eq A B E C D hA (show 220 ≤ N by omega), a0, b0, a17, b17]
      cases (cI A x.toNat 0 == 6) with
      | false => rfl
      | true =>
        cases (cI A y.toNat 0 == 6) with
        | false => rfl
        | true =>
          cases conv A B x y with
          | false => rfl
          | true =>
            simp only [Bool.not_true, e1, e2, tst, a17, b17]
            by_cases h : cI A x.toNat 17 ≤ cI A y.toNat 17
            · simp [h]
            · simp [h]
theorem F19_eq {N : Nat} (A B E C D : List Row) (hA : A.length ≤ 60) (hN : 230 ≤ N) (x y : Int) : F19 N A B E C D x y = some (.r (cvt A B x y)) := by
  obtain ⟨N, rfl⟩ : ∃ m, N = m + 2 := ⟨N - 2, by omega⟩
  have hp : 0 < N + 1 := by omega
  unfold cvt
  simp only [F19, F34_eq hp, J19a30, J19a62]
  cases h1 : inR A x with
  | false => rfl
  | true =>
    cases h2 : inR A y with
    | false => rfl
    | true =>
      have e1 : (decide ((0 : Int) ≤ x) && decide (x < (A.length : Int))) = true := h1
      have e2 : (decide ((0 : Int) ≤ y) && decide (y < (A.length : Int))) = true := h2
      have a17 : ((((A.getD x.toNat [])).getD 17 .top).toI) = cI A x.toNat 17 := rfl
      have b17 : ((((A.getD y.toNat [])).getD 17 .top).toI) = cI A y.toNat 17 := rfl
      simp only [Bool.not_true, Bool.true_and, e1, e2, tst, F41_eq A B E C D hA (show 220 ≤ N + 1 by omega), a17, b17]
      cases (cI A x.toNat 0 == 6) with
      | false => rfl
      | true =>
        cases (cI A y.toNat 0 == 6) with
        | false => rfl
        | true =>
          cases conv A B x y with
          | false => rfl
          | true =>
            simp only [Bool.not_true, e1, e2, tst, a17, b17]
            by_cases h : cI A x.toNat 17 ≤ cI A y.toNat 17
            · rw [decide_eq_false (show ¬ cI A y.toNat 17 < cI A x.toNat 17 by omega), if_pos h]; rfl
            · rw [decide_eq_true (show cI A y.toNat 17 < cI A x.toNat 17 by omega), if_neg h]; rfl
theorem great_f {A B E : List Row} (h : greatB A B E = false) : E.length ≤ 200 ∧ A.length ≤ 60 ∧ B.length ≤ 100 := by
  unfold greatB at h
  simp only [Bool.or_eq_false_iff, decide_eq_false_iff_not] at h
  omega
theorem checks_true (A B E C D : List Row) (x y z : Int) : F4 301 A B E C D x y z = some (.r true) := by
  simp only [F4, F8_eq A B E C D 300 (by omega), head_true]
  cases hg : greatB A B E with
  | true => rfl
  | false =>
    obtain ⟨hE, hA, _⟩ := great_f hg
    simp only [F16_eq A B E C D hE (show 220 ≤ 300 by omega), F17_eq A B E C D hE (show 220 ≤ 300 by omega), F18_eq A B E C D hA (show 230 ≤ 300 by omega), F19_eq A B E C D hA (show 230 ≤ 300 by omega), beq_self_eq_true]
end Go.Proofs.YtdennlgnbecojaaDoor

namespace Go.Proofs.YtdennlgnbecojaaDoor
open Go Go.Eng
def AccOK (A B E : List Row) (x t : Int) : Prop :=
  inR E x = true ∧ inR A t = true ∧ cI A t.toNat 0 = 6 ∧ alk B (cI E (basI E x).toNat 5) (cI A t.toNat 12) = true ∧ cI E (basI E x).toNat 0 = 7 ∧ cB E (basI E x).toNat 12 = true ∧ cI E (basI E x).toNat 9 ≤ cI A t.toNat 17
theorem acc_zero {A B E : List Row} {x t : Int} : acc A B E x t = 0 ↔ AccOK A B E x t := by
  unfold acc AccOK
  constructor
  · intro h
    split at h
    · omega
    · rename_i h1
      split at h
      · omega
      · rename_i h2
        split at h
        · omega
        · rename_i h3
          split at h
          · rename_i h4
            simp only [Bool.and_eq_false_iff, not_or, Bool.not_eq_false, beq_iff_eq] at h1 h2 h3
            exact ⟨h1.1, h1.2, h2.1, h2.2, h3.1, h3.2, h4⟩
          · omega
  · rintro ⟨h1, h2, h3, h4, h5, h6, h7⟩
    rw [h1, h2, h3, h4, h5, h6, if_pos h7]
    rfl
def CvtOK (A B : List Row) (x y : Int) : Prop :=
  inR A x = true ∧ inR A y = true ∧ cI A x.toNat 0 = 6 ∧ cI A y.toNat 0 = 6 ∧ (x = y ∨ alk B (cI A x.toNat 12) (cI A y.toNat 12) = true) ∧ cI A x.toNat 17 ≤ cI A y.toNat 17
theorem cvt_zero {A B : List Row} {x y : Int} : cvt A B x y = 0 ↔ CvtOK A B x y := by
  unfold cvt CvtOK
  constructor
  · intro h
    split at h
    · omega
    · rename_i h1
      split at h
      · omega
      · rename_i h2
        split at h
        · rename_i h4
          simp only [Bool.and_eq_false_iff, not_or, Bool.not_eq_false, beq_iff_eq] at h1 h2
          refine ⟨h1.1, h1.2, h2.1.1, h2.1.2, ?_, h4⟩
          have h5 := h2.2
          unfold conv at h5
          rw [h1.1, h1.2, h2.1.1, h2.1.2] at h5
          simp [k12] at h5
          exact h5
        · omega
  · rintro ⟨h1, h2, h3, h4, h5, h6⟩
    have h7 : conv A B x y = true := by
      unfold conv
      rw [h1, h2, h3, h4]
      simp [k12]
      exact h5
    rw [h1, h2, h3, h4, h7, if_pos h6]
    rfl
theorem alk_trans {B : List Row} {x y z : Int} (h1 : alk B x y = true) (h2 : alk B y z = true) : alk B x z = true := by
  unfold alk at *
  simp only [Bool.and_eq_true, beq_iff_eq, and_true] at *
  obtain ⟨⟨a1, a2⟩, a3, a4, a5⟩ := h1
  obtain ⟨⟨b1, b2⟩, b3, b4, b5⟩ := h2
  exact ⟨⟨a1, b2⟩, by rw [a3, b3], by rw [a4, b4], by rw [a5, b5]⟩
theorem acc_cvt {A B E : List Row} {x y z : Int} (h1 : acc A B E x y = 0) (h2 : cvt A B y z = 0) : acc A B E x z = 0 := by
  obtain ⟨a1, a2, a3, a4, a5, a6, a7⟩ := acc_zero.1 h1
  obtain ⟨b1, b2, b3, b4, b5, b6⟩ := cvt_zero.1 h2
  refine acc_zero.2 ⟨a1, b2, b4, ?_, a5, a6, by omega⟩
  rcases b5 with rfl | b5
  · exact a4
  · exact alk_trans a4 b5
theorem cvt_cvt {A B : List Row} {x y z : Int} (h1 : cvt A B x y = 0) (h2 : cvt A B y z = 0) : cvt A B x z = 0 := by
  obtain ⟨a1, a2, a3, a4, a5, a6⟩ := cvt_zero.1 h1
  obtain ⟨b1, b2, b3, b4, b5, b6⟩ := cvt_zero.1 h2
  refine cvt_zero.2 ⟨a1, b2, a3, b4, ?_, by omega⟩
  rcases a5 with rfl | a5
  · exact b5
  · rcases b5 with rfl | b5
    · exact .inr a5
    · exact .inr (alk_trans a5 b5)
theorem cvt_self {A B E : List Row} {x y : Int} (h : acc A B E x y = 0) : cvt A B y y = 0 := by
  obtain ⟨a1, a2, a3, a4, a5, a6, a7⟩ := acc_zero.1 h
  exact cvt_zero.2 ⟨a2, a2, a3, a3, .inl rfl, Int.le_refl _⟩
theorem chain_true (A B E C D : List Row) (x y z u : Int) : F6 301 A B E C D x y z u = some (.r true) := by
  simp only [F6, F8_eq A B E C D 300 (by omega), head_true]
  cases hg : greatB A B E with
  | true => rfl
  | false =>
    obtain ⟨hE, hA, _⟩ := great_f hg
    simp only [F16_eq A B E C D hE (show 220 ≤ 300 by omega), F18_eq A B E C D hA (show 230 ≤ 300 by omega)]
    have hJ : J6a30 300 x y z u (acc A B E x y) (cvt A B y z) (cvt A B z u) A B E C D = some (.nx A B E C D) := by
      simp only [J6a30, F16_eq A B E C D hE (show 220 ≤ 300 by omega), F18_eq A B E C D hA (show 230 ≤ 300 by omega)]
      by_cases h1 : acc A B E x y = 0
      · by_cases h2 : cvt A B y z = 0
        · rw [h1, h2, acc_cvt h1 h2]
          by_cases h3 : cvt A B z u = 0
          · rw [h3, cvt_cvt h2 h3]; rfl
          · rw [beq_f h3]; rfl
        · rw [h1, beq_f h2]; rfl
      · rw [beq_f h1]
        by_cases h2 : cvt A B y z = 0
        · rw [h2]
          by_cases h3 : cvt A B z u = 0
          · rw [h3, cvt_cvt h2 h3]; rfl
          · rw [beq_f h3]; rfl
        · rw [beq_f h2]
    simp only [hJ]
    by_cases h1 : acc A B E x y = 0
    · rw [beq_t h1]
      simp only [F16_eq A B E C D hE (show 220 ≤ 300 by omega), F18_eq A B E C D hA (show 230 ≤ 300 by omega), bne_f (cvt_self h1), bne_f h1]
    · rw [beq_f h1]
end Go.Proofs.YtdennlgnbecojaaDoor

namespace Go.Proofs.YtdennlgnbecojaaDoor
open Go Go.Eng Go.ChangeShapes Go.WideShapes Go.ChangeAt Go.RowKit

theorem own : ownKnob Tryd.prog.godebug = none := by kernel_rfl
theorem laidOut : laidOutB Tryd.prog = true := by kernel_rfl
theorem rdS_ok : rdS CX rdL = true := by kernel_rfl

theorem wf_i64 {v : Int} (h : (Lit.int .i64 v).wf = true) : inI v := by
  simp only [Lit.wf, IntKind.min, IntKind.max, IntKind.signed, IntKind.bits, Bool.and_eq_true, decide_eq_true_eq, if_true] at h
  unfold inI; omega
theorem wf_u8 {v : Int} (h : (Lit.int .u8 v).wf = true) : 0 ≤ v ∧ v ≤ 255 := by
  simp only [Lit.wf, IntKind.min, IntKind.max, IntKind.signed, IntKind.bits, Bool.and_eq_true, decide_eq_true_eq, Bool.false_eq_true, if_false] at h
  omega
theorem int_of_arg {k : IntKind} {t : TypeId} {x : AV} (ha : (CX.ti t).u.agg = false) (hk : (CX.ti t).ks = [.int k]) (h : ArgAV CX t x) : ∃ v, x = .int k v ∧ (Lit.int k v).wf = true := by
  rcases h with ⟨h1, _⟩ | ⟨_, h2, h3⟩
  · rw [ha] at h1; cases h1
  · rw [hk] at h2
    simp only [koks, Bool.and_true] at h2
    cases x <;> simp only [kok, Bool.false_eq_true] at h2
    have e := eq_of_beq h2
    subst e
    cases h3 with
    | int _ _ h => exact ⟨_, rfl, h⟩
theorem cell_of {ks : List Kind} {row : Row} (h2 : koks ks row = true) (h3 : WfL CX.K row) {j : Nat} {k : IntKind} (hk : ks[j]? = some (.int k)) : ∃ n, row.getD j .top = .int k n ∧ (Lit.int k n).wf = true := by
  have hl := koks_length h2
  have hj : j < row.length := by
    have := (List.getElem?_eq_some_iff.1 hk).1; omega
  have h4 := koks_get h2 hk (List.getElem?_eq_getElem hj)
  have h5 := h3 _ (List.getElem_mem hj)
  have h6 : row.getD j .top = row[j] := by simp [List.getD, hj]
  rw [h6]
  generalize row[j] = x at h4 h5
  cases x <;> simp only [kok, Bool.false_eq_true] at h4
  have e := eq_of_beq h4
  subst e
  cases h5 with
  | int _ _ h => exact ⟨_, rfl, h⟩
theorem list_of {t : TypeId} {x : AV} (h : kok (.slice t) x = true) (hw : Wf CX.K x) : ∃ T, x = .list t T ∧ T.length ≤ maxLen ∧ ∀ row ∈ T, koks (CX.K t) row = true ∧ WfL CX.K row := by
  cases x <;> simp only [kok, Bool.false_eq_true] at h
  have e := eq_of_beq h
  subst e
  cases hw with
  | list _ _ hl hk h => exact ⟨_, rfl, hl, fun row hr => ⟨hk row hr, fun x hx => h row hr x hx⟩⟩
theorem okE_of {E : List Row} (h : ∀ row ∈ E, koks (CX.K 45) row = true ∧ WfL CX.K row) (h0 : (CX.K 45)[0]? = some (.int .u8)) : okE E := by
  intro i hi
  obtain ⟨h1, h2⟩ := h _ (List.getElem_mem hi)
  obtain ⟨n, h3, h4⟩ := cell_of h1 h2 h0
  have e : kd E i = n := by
    unfold kd cI
    rw [show E.getD i [] = E[i] by simp [List.getD, hi], h3]
    rfl
  rw [e]
  exact wf_u8 h4
theorem tab_of_arg {x : AV} (ha : (CX.ti 28).u.agg = true) (hk : (CX.ti 28).ks = [.slice 58, .slice 74, .slice 45, .slice 113, .slice 117]) (h : ArgAV CX 28 x) : ∃ A B E C D, x = .agg [.list 58 A, .list 74 B, .list 45 E, .list 113 C, .list 117 D] ∧ okE E := by
  rcases h with ⟨_, row, rfl, h2, h3⟩ | ⟨h1, _⟩
  · rw [hk] at h2
    match row, h2, h3 with
    | [a, b, c, d, e], h2, h3 =>
      simp only [koks, Bool.and_eq_true] at h2
      obtain ⟨k1, k2, k3, k4, k5, _⟩ := h2
      obtain ⟨A, rfl, _⟩ := list_of k1 (h3 _ (by simp))
      obtain ⟨B, rfl, _⟩ := list_of k2 (h3 _ (by simp))
      obtain ⟨E, rfl, _, hE⟩ := list_of k3 (h3 _ (by simp))
      obtain ⟨C, rfl, _⟩ := list_of k4 (h3 _ (by simp))
      obtain ⟨D, rfl, _⟩ := list_of k5 (h3 _ (by simp))
      exact ⟨A, B, E, C, D, rfl, okE_of hE (by kernel_rfl)⟩
    | [], h2, _ => simp [koks] at h2
    | [_], h2, _ => simp [koks] at h2
    | [_, _], h2, _ => simp [koks] at h2
    | [_, _, _], h2, _ => simp [koks] at h2
    | [_, _, _, _], h2, _ => simp [koks] at h2
    | _ :: _ :: _ :: _ :: _ :: _ :: _, h2, _ => simp [koks] at h2
  · rw [ha] at h1; cases h1

theorem gAdds : Tryd.prog.globalNamed "ceiling/level.adds" = some 0 := by kernel_rfl
theorem tAdds : (Tryd.prog.globals[0]?).map (·.type) = some 51 := by kernel_rfl
theorem laid_eq : (Rows.laid_ceiling_level_adds : DataW Unit) = Lib.tabData .i64 (gl0.map AV.toI) := by kernel_rfl
theorem gl0_all : (gl0.all fun x => match x with | .int .i64 _ => true | _ => false) = true := by kernel_rfl
theorem plain_laid : (Rows.levelChainRow.laid.all fun x => x.2.handleName?.isNone) = true := by kernel_rfl
/-- The pointer to the table, in a world where it is laid. -/
theorem glob_rep {W : World} (h : laidMetH Tryd.prog Rows.levelChainRow.laid W) : ∀ g, Rep CX.K [] (there W) W (CX.glob g) (.pointer (some ⟨g, 0, none⟩)) := by
  intro g
  rw [MakeChecks.laidMetH_plain _ _ _ plain_laid] at h
  have h' : laidMet Tryd.prog (("ceiling/level.adds", Lib.tabData .i64 (gl0.map AV.toI)) :: []) W := by rw [← laid_eq]; exact h
  have hT := Lib.tabIs_of_head (k := .i64) (n := 256) (t := 51) (e := 3) gAdds tAdds (by kernel_rfl) (by kernel_rfl) (by kernel_rfl) (by kernel_rfl) h'
  match g with
  | 0 =>
    refine rep_table (X := CX) (t := 51) (row := gl0) (g := 0) (by kernel_rfl) (fun j x hx => ?_) ?_
    · have hj := (List.getElem?_eq_some_iff.1 hx).1
      have h1 := hT.cell gAdds j (by simpa using hj)
      have h2 := List.all_eq_true.1 gl0_all x (List.mem_of_getElem? hx)
      have h3 : (gl0.map AV.toI).getD j 0 = x.toI := by simp [List.getD, List.getElem?_map, hx]
      rw [h3] at h1
      cases x with
      | int k n =>
        cases k <;> first | exact ⟨_, _, rfl, h1⟩ | cases h2
      | _ => cases h2
    · exact World.block_lt_of_cell? W _ (hT.cell gAdds 0 (Nat.lt_of_lt_of_eq (by decide : 0 < 256) (by kernel_rfl)))
  | g + 1 => exact .top _
theorem door_met (os : Os) (args : Array Value) : laidMetH Tryd.prog Rows.levelChainRow.laid ((World.doorLaid Tryd.prog 400 os).forCall (fun _ _ => 0) ⟨#[], args, []⟩).memory :=
  laidMetH_of_parts3 (fuel := 8) (laidMet_of_run' 8 (by kernel_rfl) (by kernel_rfl)) (by kernel_rfl) (by kernel_rfl)

theorem law6 (xs : List AV) (h : ArgsAV CX [28, 3, 3, 3, 3] xs) : ∃ m M', FCalls CX 6 m xs [] (.bool true) M' := by
  match xs, h with
  | [x0, x1, x2, x3, x4], ⟨hx0, hx1, hx2, hx3, hx4, _⟩ =>
    obtain ⟨A, B, E, C, D, rfl, tE⟩ := tab_of_arg (by kernel_rfl) (by kernel_rfl) hx0
    obtain ⟨v1, rfl, p1⟩ := int_of_arg (k := .i64) (by kernel_rfl) (by kernel_rfl) hx1
    obtain ⟨v2, rfl, p2⟩ := int_of_arg (k := .i64) (by kernel_rfl) (by kernel_rfl) hx2
    obtain ⟨v3, rfl, p3⟩ := int_of_arg (k := .i64) (by kernel_rfl) (by kernel_rfl) hx3
    obtain ⟨v4, rfl, p4⟩ := int_of_arg (k := .i64) (by kernel_rfl) (by kernel_rfl) hx4
    exact ⟨_, _, soundF6 301 (fun i => match i with | 0 => .agg [.list 58 A, .list 74 B, .list 45 E, .list 113 C, .list 117 D] | 1 => .int .i64 v1 | 2 => .int .i64 v2 | 3 => .int .i64 v3 | _ => .int .i64 v4) [] (.r true) (chain_true A B E C D _ _ _ _)⟩

set_option maxRecDepth 100000 in
theorem lifted6 (os : Os) (started : os.Started) (H : Type) (enc : TypeId × Value → H) :
    ReturnsInHanded {} Tryd.checked os 6 .any (fun w args => (Rows.levelChainSpec.pre enc Tryd.prog Tryd.f6 [] false w args ∧ laidMetH Tryd.prog Rows.levelChainRow.laid w) ∧ sizedMet enc Tryd.prog Tryd.f6 (OpenSpec.ofChange Rows.levelChainSpec) false w args)
      (Rows.levelChainSpec.post enc Tryd.prog Tryd.f6 false true false false) := by
  refine returnsInHanded_of_change_and (C := Tryd.checked) (X := fun w _ => laidMetH Tryd.prog Rows.levelChainRow.laid w) (fun _ _ _ hh h => h.of_heap hh) own started (by kernel_rfl) Tryd.func6
    (ChangeSpec.witness_shaped (enc := enc) (C := Tryd.checked) (os := os) (X := fun w _ => laidMetH Tryd.prog Rows.levelChainRow.laid w) false (World.doorLaid Tryd.prog 400 os) #[.agg #[.slice none 0 0, .slice none 0 0, .slice none 0 0, .slice none 0 0, .slice none 0 0], .int .i64 0, .int .i64 0, .int .i64 0, .int .i64 0] 8 rfl (World.shaped_of_RefB (by kernel_rfl) (by kernel_rfl)) (by kernel_rfl) (by kernel_rfl) (by kernel_rfl) (door_met os _)) ?_
  intro W base args ds gs before hval hW _ _ hL _
  exact law_contract' (X := CX) hX laidOut (ts := [28, 3, 3, 3, 3]) (tb := 4) (S := rdL) (by kernel_rfl) (by kernel_rfl) Tryd.underlying4 rdS_ok (by kernel_rfl) (by kernel_rfl) rfl
    (fun ds hds => by match ds, hds with | [d0, d1, d2, d3, d4], _ => rfl) law6 W (glob_rep hL) base args ds gs before hval hW

theorem levelChainSaid_holds : Rows.LevelChainSaid :=
  OpenClaim.holds_of_wide 6 Tryd.f6 rfl rfl rfl rfl rfl rfl rfl ⟨rfl, rfl, rfl, rfl, rfl⟩ rfl rfl rfl rfl rfl (by kernel_rfl) Tryd.func6 (by kernel_rfl)
    (of_decide_eq_true (by kernel_rfl)) (by unfold Func.isWrapper; first | (rw [if_pos (by decide +kernel)]; kernel_rfl) | (rw [if_neg (by decide +kernel)]; exact ⟨rfl, rfl⟩))
    (fun os started H enc _ => lifted6 os started H enc)

theorem levelChain_holds : Rows.LevelChainCardSaid :=
  Claim7.holds_tied_plain_at .later [] [.data] true (true, "35c39ec9600e20088838671d6c4fa4e0c5eb404779fbb072620c376af2f2eb37") false
    levelChainSaid_holds (fun _ h => by cases h) (by kernel_rfl) (fun _ h => by cases h) levelChain_row_tie rfl ⟨rfl, rfl⟩ (by kernel_rfl) rfl
    (fun f fn hf hfn => by
      obtain rfl : f = 6 := Option.some.inj ((show Tryd.prog.funcNamed "ceiling/ceilinglaw12.LevelChain" = some 6 by kernel_rfl).symm.trans hf) |>.symm
      obtain rfl : fn = Tryd.f6 := (Option.some.inj (Tryd.func6.symm.trans hfn)).symm
      exact ⟨by kernel_rfl, fun j t ht => by
        rw [Tryd.params6] at ht
        have hm : t ∈ [28, 3, 3, 3, 3] := by simpa using Array.mem_of_getElem? ht
        have hall : ([28, 3, 3, 3, 3].all fun u => !Tryd.prog.wantsStandIn u) = true := by kernel_rfl
        exact (show Tryd.prog.wantsStandIn t = false by simpa using List.all_eq_true.1 hall t hm)⟩)
    (by kernel_rfl)

#print axioms levelChain_holds
end Go.Proofs.YtdennlgnbecojaaDoor
