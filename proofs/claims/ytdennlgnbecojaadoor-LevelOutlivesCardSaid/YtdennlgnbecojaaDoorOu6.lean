/-
  Plain laws of chapter 12: the document's examples.
  Plain laws of chapter 12: levels and masters of regions, in both texts.
  Plain laws of chapter 12: masters of regions.
  Plain laws of chapter 12: tables that may be. Printed by mkSD.py.
  Plain laws of chapter 12: bases, roots, types that are alike, accesses and conversions, in both texts. Printed by mkSE.py.
  Plain laws of chapter 12: lifetimes.
  What is proved: ceilinglaw12.LevelOutlives returns true for every input, and leaves its arguments as they were. The table ceiling/level.adds stands as the program's text lays it (the card ties it).
-/
import Derived.Test.YtdennlgnbecojaaDoorOu4
import Derived.Test.YtdennlgnbecojaaDoorOu5
import Derived.Test.YtdennlgnbecojaaDoorRows
import Derived.Test.YtdennlgnbecojaaDoorTie
import Derived.Test.YtdennlgnbecojaaDoorCards
import Derived.Test.YtdennlgnbecojaaDoorOu3
import Derived.WalkKit
import Derived.ProofKit
import Derived.OpenShut
import Derived.LaidMore
import Derived.Stop.Joined
import Derived.SevenTiedAt
import Derived.MakeChecks
import Derived.Lib.LaidTab
set_option linter.all false
set_option linter.deprecated false
namespace Go.Proofs.YtdennlgnbecojaaDoor
open Go Go.Eng
theorem head_true : F9 300 = some (.r true) := by kernel_rfl
end Go.Proofs.YtdennlgnbecojaaDoor

namespace Go.Proofs.YtdennlgnbecojaaDoor
open Go Go.Eng

def inI (x : Int) : Prop := -9223372036854775808 ≤ x ∧ x ≤ 9223372036854775807
theorem wrap_id {n : Int} (h : inI n) : IntKind.wrap .i64 n = n := by
  obtain ⟨h0, h1⟩ := h
  simp [IntKind.wrap, IntKind.bits, IntKind.signed]
  split <;> omega
theorem beq_f {x k : Int} (h : x ≠ k) : (x == k) = false := by simpa using h
theorem beq_t {x k : Int} (h : x = k) : (x == k) = true := by simpa using h
/-- A cell of a row. -/
def cI (E : List Row) (i : Nat) (c : Nat) : Int := ((E.getD i []).getD c .top).toI
def cB (E : List Row) (i : Nat) (c : Nat) : Bool := ((E.getD i []).getD c .top).toB
def kd (E : List Row) (i : Nat) : Int := cI E i 0
def ow (E : List Row) (i : Nat) : Int := cI E i 2
def plain (k : Int) : Bool := k == 3 || k == 4 || k == 12 || k == 14 || k == 18 || k == 17
theorem F25_eq {N : Nat} (hN : 0 < N) (k : Int) : F25 N k = some (.r (plain k)) := by
  obtain ⟨N, rfl⟩ : ∃ m, N = m + 1 := ⟨N - 1, by omega⟩
  simp only [F25, plain]
  cases (k == 3) <;> cases (k == 4) <;> cases (k == 12) <;> cases (k == 14) <;> cases (k == 18) <;> rfl
def addS (k : Int) : Int := if k = 2 ∨ k = 13 then 1 else if plain k = true then 2 else 0
theorem adds_all : ((List.range 256).all fun k => (gl0.getD (0 + k * 1) .top).toI == addS (k : Int)) = true := by kernel_rfl
theorem adds_eq {k : Int} (h0 : 0 ≤ k) (h1 : k ≤ 255) : (gl0.getD (0 + k.toNat * 1) .top).toI = addS k := by
  have := List.all_eq_true.1 adds_all k.toNat (List.mem_range.2 (by omega))
  rw [show ((k.toNat : Nat) : Int) = k by omega] at this
  simpa using this

/-- The level of a region. -/
def reg (E : List Row) (r : Nat) : Int :=
  if r < E.length then
    if kd E r = 1 then 0
    else if h : 0 ≤ ow E r ∧ ow E r < (r : Int) then
      (if reg E (ow E r).toNat < 0 then -1 else if kd E r = 2 ∨ kd E r = 13 then reg E (ow E r).toNat else if plain (kd E r) = true then reg E (ow E r).toNat + 1 else -1)
    else -1
  else -1
termination_by r
decreasing_by all_goals omega
theorem reg_bd (E : List Row) : ∀ r : Nat, -1 ≤ reg E r ∧ reg E r ≤ r := by
  intro r
  induction r using Nat.strongRecOn with
  | _ r ih =>
    rw [reg]
    split
    · split
      · omega
      · split
        · rename_i h
          have := ih (ow E r).toNat (by omega)
          repeat' split
          all_goals omega
        · omega
    · omega
def regI (E : List Row) (x : Int) : Int := if 0 ≤ x then reg E x.toNat else -1
theorem regI_nat (E : List Row) (r : Nat) : regI E (r : Int) = reg E r := by unfold regI; rw [if_pos (by omega)]; rfl
theorem regI_big {E : List Row} {x : Int} (h : ¬ (0 ≤ x ∧ x < (E.length : Int))) : regI E x = -1 := by
  unfold regI
  split
  · rw [reg, if_neg (by omega)]
  · rfl
theorem F24_eq {N : Nat} (hN : 0 < N) (A B E C D : List Row) (x : Int) : F24 N A B E C D x = some (.r (decide (0 ≤ x) && decide (x < (E.length : Int)))) := by
  obtain ⟨N, rfl⟩ : ∃ m, N = m + 1 := ⟨N - 1, by omega⟩
  simp only [F24]
  cases decide (0 ≤ x) <;> rfl

theorem F11_eq (A B E C D : List Row) (hl : E.length ≤ 100000) : ∀ (r N : Nat), r + 2 ≤ N → F11 N A B E C D (r : Int) = some (.r (reg E r)) := by
  intro r
  induction r using Nat.strongRecOn with
  | _ r ih =>
    intro N hN
    obtain ⟨N, rfl⟩ : ∃ m, N = m + 1 := ⟨N - 1, by omega⟩
    have hp : 0 < N := by omega
    rw [reg]
    by_cases hr : r < E.length
    · have e1 : (decide ((0 : Int) ≤ (r : Int)) && decide ((r : Int) < (E.length : Int))) = true := by simp; omega
      have ek : ((((E.getD ((r : Int).toNat) [])).getD 0 .top).toI) = kd E r := rfl
      have eo : ((((E.getD ((r : Int).toNat) [])).getD 2 .top).toI) = ow E r := rfl
      simp only [F11, F24_eq hp, e1, Bool.not_true, tst, ek, eo, if_pos hr]
      by_cases hk : kd E r = 1
      · simp only [beq_t hk, if_pos hk]
      · simp only [beq_f hk, if_neg hk, J11a62]
        by_cases h1 : ow E r < 0
        · rw [decide_eq_true h1, dif_neg (by omega)]
        · rw [decide_eq_false h1]
          by_cases h2 : (r : Int) ≤ ow E r
          · rw [decide_eq_true h2, dif_neg (by omega)]
          · rw [decide_eq_false h2, dif_pos (by omega)]
            have := ih (ow E r).toNat (by omega) N (by omega)
            rw [show (((ow E r).toNat : Nat) : Int) = ow E r by omega] at this
            simp only [this]
            have hb := reg_bd E (ow E r).toNat
            by_cases h3 : reg E (ow E r).toNat < 0
            · simp only [h3, decide_true, if_true]
            · simp only [h3, decide_false, if_false, F25_eq hp]
              by_cases h4 : kd E r = 2
              · rw [if_pos (Or.inl h4)]
                simp only [beq_t h4]
              · by_cases h5 : kd E r = 13
                · rw [if_pos (Or.inr h5)]
                  simp only [beq_f h4, beq_t h5]
                · rw [if_neg (fun h => h.elim h4 h5)]
                  simp only [beq_f h4, beq_f h5]
                  cases plain (kd E r) with
                  | true =>
                    simp only [if_true]
                    rw [wrap_id (by unfold inI; omega)]
                  | false => simp only [Bool.false_eq_true, if_false]
    · have e1 : (decide ((0 : Int) ≤ (r : Int)) && decide ((r : Int) < (E.length : Int))) = false := by simp; omega
      simp only [F11, F24_eq hp, e1, Bool.not_false, if_neg hr]
theorem F11_eqI (A B E C D : List Row) (hl : E.length ≤ 200) (x : Int) (N : Nat) (hN : 202 ≤ N) : F11 N A B E C D x = some (.r (regI E x)) := by
  by_cases h : 0 ≤ x ∧ x < (E.length : Int)
  · obtain ⟨r, rfl⟩ := Int.eq_ofNat_of_zero_le h.1
    rw [F11_eq A B E C D (by omega) r N (by omega), regI_nat]
  · rw [regI_big h]
    obtain ⟨N, rfl⟩ : ∃ m, N = m + 1 := ⟨N - 1, by omega⟩
    have hp : 0 < N := by omega
    have e1 : (decide ((0 : Int) ≤ x) && decide (x < (E.length : Int))) = false := by
      rw [Bool.eq_false_iff]; intro hc; simp only [Bool.and_eq_true, decide_eq_true_eq] at hc; exact h hc
    simp only [F11, F24_eq hp, e1, Bool.not_false]

/-- The kinds are numbers of one byte. -/
def okE (E : List Row) : Prop := ∀ i, i < E.length → 0 ≤ kd E i ∧ kd E i ≤ 255
theorem addS_cases {k : Int} (h : k ≠ 1) : (addS k = 1 ∧ (k = 2 ∨ k = 13)) ∨ (addS k = 2 ∧ ¬ (k = 2 ∨ k = 13) ∧ plain k = true) ∨ (addS k = 0 ∧ ¬ (k = 2 ∨ k = 13) ∧ plain k = false) := by
  unfold addS
  by_cases h1 : k = 2 ∨ k = 13
  · left; rw [if_pos h1]; exact ⟨rfl, h1⟩
  · rw [if_neg h1]
    cases hp : plain k with
    | true => right; left; exact ⟨if_pos rfl, h1, rfl⟩
    | false => right; right; exact ⟨if_neg (by decide), h1, rfl⟩
theorem idx_ok {k : Int} (h0 : 0 ≤ k) (h1 : k ≤ 255) : (decide ((0 : Int) ≤ k) && decide (k < (256 : Int))) = true ∧ decide ((0 + k.toNat * 1) + 1 ≤ 256) = true := by
  constructor
  · simp; omega
  · simp; omega

def v10 : OL10v1i58f45a6 → Int
  | .ret _ _ _ _ _ v _ => v
  | _ => -1
theorem L10_out (A B E C D : List Row) {N n : Nat} {x last res acc : Int} (h : ¬ (0 ≤ x ∧ x < last)) : ∃ o, L10v1i58f45a6 N (n + 1) x last A B E C D res acc = some o ∧ v10 o = -1 := by
  refine ⟨.x0 A B E C D res acc, ?_, rfl⟩
  simp only [L10v1i58f45a6, J10v1i58f45a24]
  by_cases h1 : 0 ≤ x
  · rw [decide_eq_true h1, decide_eq_false (by omega)]
  · rw [decide_eq_false h1]
/-- The walk outwards. -/
theorem L10_eq (A B E C D : List Row) (hE : okE E) (hl : E.length ≤ 100000) : ∀ (r : Nat) (n N : Nat) (last acc res : Int), r + 1 < n → (r : Int) < last → last ≤ E.length → 0 ≤ acc → acc + r ≤ 100000 →
    ∃ o, L10v1i58f45a6 N n (r : Int) last A B E C D res acc = some o ∧ v10 o = if reg E r < 0 then -1 else acc + reg E r := by
  intro r
  induction r using Nat.strongRecOn with
  | _ r ih =>
    intro n N last acc res hn hlast hle ha hb
    obtain ⟨n, rfl⟩ : ∃ m, n = m + 1 := ⟨n - 1, by omega⟩
    have hr : r < E.length := by omega
    have ek : ((((E.getD ((r : Int).toNat) [])).getD 0 .top).toI) = kd E r := rfl
    have eo : ((((E.getD ((r : Int).toNat) [])).getD 2 .top).toI) = ow E r := rfl
    have e0 : decide ((0 : Int) ≤ (r : Int)) = true := by simp
    have e1 : decide ((r : Int) < last) = true := by simp; omega
    have e2 : decide ((r : Int) < (E.length : Int)) = true := by simp; omega
    obtain ⟨k0, k1⟩ := hE r hr
    obtain ⟨i1, i2⟩ := idx_ok k0 k1
    have hreg := reg.eq_1 E r
    rw [if_pos hr] at hreg
    simp only [L10v1i58f45a6, J10v1i58f45a24, J10v1i58f45a50, e0, e1, e2, Bool.and_self, tst, ek, eo, i1, i2, adds_eq k0 k1]
    by_cases hk : kd E r = 1
    · rw [if_pos hk] at hreg
      simp only [beq_t hk]
      exact ⟨_, rfl, by rw [hreg]; simp [v10]⟩
    · rw [if_neg hk] at hreg
      simp only [beq_f hk]
      rcases addS_cases hk with ⟨e3, h4⟩ | ⟨e3, h4, h5⟩ | ⟨e3, h4, h5⟩
      · rw [e3]
        simp only [beq_f (show (1 : Int) ≠ 0 by decide)]
        have ew : IntKind.wrap .i64 (acc + IntKind.wrap .i64 ((1 : Int) - 1)) = acc := by
          rw [show (1 : Int) - 1 = 0 by decide, wrap_id (n := 0) (by unfold inI; omega), wrap_id (by unfold inI; omega)]; omega
        rw [ew]
        simp only [e2, Bool.and_self, eo]
        by_cases ho : 0 ≤ ow E r ∧ ow E r < (r : Int)
        · rw [dif_pos ho] at hreg
          obtain ⟨o, h, h2⟩ := ih (ow E r).toNat (by omega) n N (r : Int) acc res (by omega) (by omega) (by omega) ha (by omega)
          rw [show (((ow E r).toNat : Nat) : Int) = ow E r by omega] at h
          refine ⟨o, h, ?_⟩
          rw [h2, hreg, if_pos h4]
          split <;> simp_all
        · rw [dif_neg ho] at hreg
          obtain ⟨n, rfl⟩ : ∃ m, n = m + 1 := ⟨n - 1, by omega⟩
          obtain ⟨o, h, h2⟩ := L10_out A B E C D (N := N) (n := n) (res := res) (acc := acc) ho
          refine ⟨o, h, ?_⟩
          rw [h2, hreg]; rfl
      · rw [e3]
        simp only [beq_f (show (2 : Int) ≠ 0 by decide)]
        have ew : IntKind.wrap .i64 (acc + IntKind.wrap .i64 ((2 : Int) - 1)) = acc + 1 := by
          rw [show (2 : Int) - 1 = 1 by decide, wrap_id (n := 1) (by unfold inI; omega), wrap_id (by unfold inI; omega)]
        rw [ew]
        simp only [e2, Bool.and_self, eo]
        by_cases ho : 0 ≤ ow E r ∧ ow E r < (r : Int)
        · rw [dif_pos ho] at hreg
          obtain ⟨o, h, h2⟩ := ih (ow E r).toNat (by omega) n N (r : Int) (acc + 1) res (by omega) (by omega) (by omega) (by omega) (by omega)
          rw [show (((ow E r).toNat : Nat) : Int) = ow E r by omega] at h
          refine ⟨o, h, ?_⟩
          have hb := reg_bd E (ow E r).toNat
          rw [h2, hreg, if_neg h4, if_pos h5]
          by_cases h6 : reg E (ow E r).toNat < 0
          · rw [if_pos h6, if_pos h6]; rfl
          · rw [if_neg h6, if_neg h6, if_neg (by omega)]; omega
        · rw [dif_neg ho] at hreg
          obtain ⟨n, rfl⟩ : ∃ m, n = m + 1 := ⟨n - 1, by omega⟩
          obtain ⟨o, h, h2⟩ := L10_out A B E C D (N := N) (n := n) (res := res) (acc := acc + 1) ho
          refine ⟨o, h, ?_⟩
          rw [h2, hreg]; rfl
      · simp only [e3, beq_self_eq_true]
        refine ⟨_, rfl, ?_⟩
        rw [if_neg h4, if_neg (show ¬ plain (kd E r) = true by rw [h5]; decide)] at hreg
        rw [if_pos (by rw [hreg]; repeat' split
                       all_goals omega)]
        rfl
theorem F10_eqI (A B E C D : List Row) (hE : okE E) (hl : E.length ≤ 200) (x : Int) (N : Nat) (hN : 210 ≤ N) : F10v1 N A B E C D x = some (.r (regI E x)) := by
  obtain ⟨N, rfl⟩ : ∃ m, N = m + 2 := ⟨N - 2, by omega⟩
  simp only [F10v1, F23v1]
  by_cases h : 0 ≤ x ∧ x < (E.length : Int)
  · obtain ⟨r, rfl⟩ := Int.eq_ofNat_of_zero_le h.1
    obtain ⟨o, h1, h2⟩ := L10_eq A B E C D hE (by omega) r (N + 1) (N + 1) E.length 0 0 (by omega) (by omega) (by omega) (by omega) (by omega)
    have e1 : L10v1i58f45a6 (N + 1) (N + 1) (r : Int) (E.length : Int) A B E C D 0 0 = some o := h1
    have e2 : v10 o = regI E (r : Int) := by
      rw [h2, regI_nat]
      have := reg_bd E r
      split <;> omega
    rw [e1, ← e2]
    cases o <;> rfl
  · obtain ⟨o, h1, h2⟩ := L10_out A B E C D (N := N + 1) (n := N) (x := x) (last := E.length) (res := 0) (acc := 0) h
    rw [regI_big h]
    rw [h1, ← h2]
    cases o <;> rfl
end Go.Proofs.YtdennlgnbecojaaDoor

namespace Go.Proofs.YtdennlgnbecojaaDoor
open Go Go.Eng
/-- The master of a region. -/
def mst (E : List Row) (r : Nat) : Int :=
  if reg E r < 0 then -1
  else if kd E r = 1 ∨ plain (kd E r) = true then r
  else if h : 0 ≤ ow E r ∧ ow E r < (r : Int) then mst E (ow E r).toNat else -1
termination_by r
decreasing_by omega
theorem reg_pos {E : List Row} {r : Nat} (h : 0 ≤ reg E r) (hk : kd E r ≠ 1) : r < E.length ∧ (0 ≤ ow E r ∧ ow E r < (r : Int)) ∧ 0 ≤ reg E (ow E r).toNat ∧ ((kd E r = 2 ∨ kd E r = 13) ∧ plain (kd E r) = false ∨ ¬ (kd E r = 2 ∨ kd E r = 13) ∧ plain (kd E r) = true) := by
  rw [reg] at h
  split at h
  · rename_i hr
    refine ⟨hr, ?_⟩
    split at h
    · rename_i ho
      refine ⟨ho, ?_⟩
      split at h
      · omega
      · rename_i h2
        refine ⟨by omega, ?_⟩
        split at h
        · rename_i h3
          left
          refine ⟨h3, ?_⟩
          rcases h3 with h3 | h3 <;> rw [h3] <;> rfl
        · rename_i h3
          split at h
          · rename_i h4; exact .inr ⟨h3, h4⟩
          · omega
    · omega
  · omega
theorem reg_lt {E : List Row} {r : Nat} (h : 0 ≤ reg E r) : r < E.length := by
  rw [reg] at h
  split at h
  · assumption
  · omega
theorem F13_eq (A B E C D : List Row) (hl : E.length ≤ 100000) : ∀ (r N : Nat), r + 4 ≤ N → F13 N A B E C D (r : Int) = some (.r (mst E r)) := by
  intro r
  induction r using Nat.strongRecOn with
  | _ r ih =>
    intro N hN
    obtain ⟨N, rfl⟩ : ∃ m, N = m + 1 := ⟨N - 1, by omega⟩
    have hp : 0 < N := by omega
    have ek : ((((E.getD ((r : Int).toNat) [])).getD 0 .top).toI) = kd E r := rfl
    have eo : ((((E.getD ((r : Int).toNat) [])).getD 2 .top).toI) = ow E r := rfl
    rw [mst]
    simp only [F13, F11_eq A B E C D hl r N (by omega)]
    by_cases h1 : reg E r < 0
    · rw [if_pos h1, decide_eq_true h1]
    · have hr := reg_lt (E := E) (r := r) (by omega)
      have e1 : (decide ((0 : Int) ≤ (r : Int)) && decide ((r : Int) < (E.length : Int))) = true := by simp; omega
      rw [if_neg h1, decide_eq_false h1]
      simp only [e1, tst, ek, eo]
      by_cases hk : kd E r = 1
      · rw [if_pos (Or.inl hk), beq_t hk]
      · obtain ⟨_, ho, h2, h3⟩ := reg_pos (by omega) hk
        simp only [beq_f hk, F25_eq hp]
        have := ih (ow E r).toNat (by omega) N (by omega)
        rw [show (((ow E r).toNat : Nat) : Int) = ow E r by omega] at this
        rcases h3 with ⟨h3, h4⟩ | ⟨h3, h4⟩
        · rw [h4, if_neg (by rintro (h | h); exact hk h; cases h), dif_pos ho]
          simp only [this]
        · rw [h4, if_pos (Or.inr rfl)]
def mstI (E : List Row) (x : Int) : Int := if 0 ≤ x then mst E x.toNat else -1
theorem mst_none {E : List Row} {x : Int} (h : regI E x < 0) : mstI E x = -1 := by
  unfold mstI
  unfold regI at h
  split
  · rw [if_pos (by assumption)] at h
    rw [mst, if_pos h]
  · rfl
theorem F13_eqI (A B E C D : List Row) (hl : E.length ≤ 200) (x : Int) (N : Nat) (hN : 210 ≤ N) : F13 N A B E C D x = some (.r (mstI E x)) := by
  by_cases h : 0 ≤ x ∧ x < (E.length : Int)
  · obtain ⟨r, rfl⟩ := Int.eq_ofNat_of_zero_le h.1
    rw [F13_eq A B E C D (by omega) r N (by omega)]
    unfold mstI
    rw [if_pos (by omega)]; rfl
  · have hx := regI_big h
    rw [mst_none (by omega)]
    obtain ⟨N, rfl⟩ : ∃ m, N = m + 1 := ⟨N - 1, by omega⟩
    simp only [F13, F11_eqI A B E C D hl x N (by omega), hx]
    rfl
def v12 : OL12v1i106f45a6 → Int
  | .ret _ _ _ _ _ v => v
  | _ => -1
/-- The walk to the master. -/
theorem L12_eq (A B E C D : List Row) (hE : okE E) (hl : E.length ≤ 100000) : ∀ (r : Nat) (n N : Nat) (last res : Int), r + 1 < n → (r : Int) < last → last ≤ E.length → 0 ≤ reg E r →
    ∃ o, L12v1i106f45a6 N n (r : Int) last A B E C D res = some o ∧ v12 o = mst E r := by
  intro r
  induction r using Nat.strongRecOn with
  | _ r ih =>
    intro n N last res hn hlast hle hreg
    obtain ⟨n, rfl⟩ : ∃ m, n = m + 1 := ⟨n - 1, by omega⟩
    have hr : r < E.length := by omega
    have ek : ((((E.getD ((r : Int).toNat) [])).getD 0 .top).toI) = kd E r := rfl
    have eo : ((((E.getD ((r : Int).toNat) [])).getD 2 .top).toI) = ow E r := rfl
    have e0 : decide ((0 : Int) ≤ (r : Int)) = true := by simp
    have e1 : decide ((r : Int) < last) = true := by simp; omega
    have e2 : decide ((r : Int) < (E.length : Int)) = true := by simp; omega
    obtain ⟨k0, k1⟩ := hE r hr
    obtain ⟨i1, i2⟩ := idx_ok k0 k1
    rw [mst, if_neg (by omega)]
    simp only [L12v1i106f45a6, J12v1i106f45a24, J12v1i106f45a50, e0, e1, e2, Bool.and_self, tst, ek, eo, i1, i2, adds_eq k0 k1]
    by_cases hk : kd E r = 1
    · rw [if_pos (Or.inl hk)]
      simp only [beq_t hk]
      exact ⟨_, rfl, rfl⟩
    · obtain ⟨_, ho, h2, h3⟩ := reg_pos hreg hk
      simp only [beq_f hk]
      rcases h3 with ⟨h3, h4⟩ | ⟨h3, h4⟩
      · have e3 : addS (kd E r) = 1 := by unfold addS; rw [if_pos h3]
        rw [h4, if_neg (by rintro (h | h); exact hk h; cases h), dif_pos ho, e3]
        simp only [beq_f (show (1 : Int) ≠ 0 by decide), beq_f (show (1 : Int) ≠ 2 by decide), e2, Bool.and_self]
        obtain ⟨o, h, h2⟩ := ih (ow E r).toNat (by omega) n N (r : Int) res (by omega) (by omega) (by omega) h2
        rw [show (((ow E r).toNat : Nat) : Int) = ow E r by omega] at h
        exact ⟨o, h, h2⟩
      · have e3 : addS (kd E r) = 2 := by unfold addS; rw [if_neg h3, if_pos h4]
        rw [h4, if_pos (Or.inr rfl), e3]
        simp only [beq_self_eq_true]
        exact ⟨_, rfl, rfl⟩
theorem F12_eqI (A B E C D : List Row) (hE : okE E) (hl : E.length ≤ 200) (x : Int) (N : Nat) (hN : 220 ≤ N) : F12v1 N A B E C D x = some (.r (mstI E x)) := by
  obtain ⟨N, rfl⟩ : ∃ m, N = m + 2 := ⟨N - 2, by omega⟩
  simp only [F12v1, F23v1, F10_eqI A B E C D hE hl x (N + 1) (by omega)]
  by_cases h : 0 ≤ regI E x
  · have hx : 0 ≤ x ∧ x < (E.length : Int) := by
      refine Classical.byContradiction fun hc => ?_
      rw [regI_big hc] at h; omega
    obtain ⟨r, rfl⟩ := Int.eq_ofNat_of_zero_le hx.1
    rw [regI_nat] at h
    obtain ⟨o, h1, h2⟩ := L12_eq A B E C D hE (by omega) r (N + 1) (N + 1) E.length 0 (by omega) (by omega) (by omega) h
    have e2 : v12 o = mstI E (r : Int) := by rw [h2]; unfold mstI; rw [if_pos (by omega)]; rfl
    have e1 : L12v1i106f45a6 (N + 1) (N + 1) (r : Int) (E.length : Int) A B E C D 0 = some o := h1
    rw [regI_nat, decide_eq_true h]
    simp only [e1, ← e2]
    cases o <;> rfl
  · rw [decide_eq_false h, mst_none (by omega)]
end Go.Proofs.YtdennlgnbecojaaDoor

namespace Go.Proofs.YtdennlgnbecojaaDoor
open Go Go.Eng
/-- The level that an entity must have. -/
def lvl (E : List Row) (i : Nat) : Int := if kd E i = 1 then 0 else if ow E i < (i : Int) then regI E (ow E i) else -1
def entOK (A E : List Row) (i : Nat) : Bool :=
  decide (0 ≤ lvl E i ∧ cI E i 9 = lvl E i) && (!(kd E i == 5 && !cB E i 8) || (decide (0 ≤ cI E i 4) && decide (cI E i 4 < (A.length : Int)) && (cI A (cI E i 4).toNat 17 == lvl E i)))
def mayB (A E : List Row) : Bool := (List.range' 0 E.length).all (entOK A E)
theorem lvl_ow (E : List Row) (i : Nat) (hk : ¬ kd E i = 1) (h : ¬ (0 ≤ ow E i ∧ ow E i < (i : Int))) : lvl E i = -1 := by
  unfold lvl regI
  rw [if_neg hk]
  split
  · rw [if_neg (by omega)]
  · rfl
theorem bne_t {x y : Int} (h : x ≠ y) : (x != y) = true := by simp [bne, h]
theorem bne_f {x y : Int} (h : x = y) : (x != y) = false := by simp [bne, h]
theorem lvl_nn {E : List Row} {i : Nat} (h0 : 0 ≤ ow E i) (h1 : ow E i < (i : Int)) (hk : ¬ kd E i = 1) : lvl E i = regI E (ow E i) := by
  unfold lvl
  rw [if_neg hk, if_pos h1]

theorem J15_cases (A B E C D : List Row) (hl : E.length ≤ 200) (i N : Nat) (hN : 210 ≤ N) (c0 : Int) (c1 : ByteArray) (c2 : Int) (c3 : Int) (c4 : Int) (c5 : Int) (c6 : List Row) (c7 : Int) (c8 : Bool) (c9 : Int) (c10 : Int) (c11 : Bool) (c12 : Bool) (c13 : Int) (c14 : Int) (c15 : Int) (c16 : Int) (c17 : Bool) (c18 : Bool) (c19 : Int) (c20 : Int) (c21 : Int) (h0 : c0 = kd E i) (h2 : c2 = ow E i) :
    (J15a1682 N (i : Int) A B E C D c0 c1 c2 c3 c4 c5 c6 c7 c8 c9 c10 c11 c12 c13 c14 c15 c16 c17 c18 c19 c20 c21 = some (.nx A B E C D c0 c1 c2 c3 c4 c5 c6 c7 c8 c9 c10 c11 c12 c13 c14 c15 c16 c17 c18 c19 c20 c21) ∧ 0 ≤ lvl E i ∧ c9 = lvl E i) ∨ (J15a1682 N (i : Int) A B E C D c0 c1 c2 c3 c4 c5 c6 c7 c8 c9 c10 c11 c12 c13 c14 c15 c16 c17 c18 c19 c20 c21 = some (.ret false A B E C D c0 c1 c2 c3 c4 c5 c6 c7 c8 c9 c10 c11 c12 c13 c14 c15 c16 c17 c18 c19 c20 c21) ∧ ¬ (0 ≤ lvl E i ∧ c9 = lvl E i)) := by
  subst h0
  subst h2
  simp only [J15a1682]
  by_cases hk : kd E i = 1
  · have hv : lvl E i = 0 := by unfold lvl; rw [if_pos hk]
    simp only [beq_t hk, hv]
    by_cases h : c9 = 0
    · left
      simp only [bne_f h]
      exact ⟨trivial, by omega, h⟩
    · right
      simp only [bne_t h]
      exact ⟨trivial, fun hc => h hc.2⟩
  · simp only [beq_f hk]
    by_cases o0 : ow E i < 0
    · right
      rw [decide_eq_true o0, lvl_ow E i hk (by omega)]
      exact ⟨rfl, by omega⟩
    · by_cases o1 : (i : Int) ≤ ow E i
      · right
        rw [decide_eq_false o0, decide_eq_true o1, lvl_ow E i hk (by omega)]
        exact ⟨rfl, by omega⟩
      · have hv := lvl_nn (E := E) (i := i) (by omega) (by omega) hk
        rw [decide_eq_false o0, decide_eq_false o1]
        simp only [F11_eqI A B E C D hl (ow E i) N (by omega), ← hv]
        by_cases h : lvl E i < 0
        · right
          rw [decide_eq_true h]
          exact ⟨rfl, by omega⟩
        · rw [decide_eq_false h]
          by_cases h9 : c9 = lvl E i
          · left
            simp only [bne_f h9]
            exact ⟨trivial, by omega, h9⟩
          · right
            simp only [bne_t h9]
            exact ⟨trivial, fun hc => h9 hc.2⟩

def w15 : OL15a26 → Bool
  | .ret b _ _ _ _ _ => b
  | _ => true
theorem L15_eq (A B E C D : List Row) (hl : E.length ≤ 200) : ∀ (k i n N : Nat), i + k = E.length → k < n → 210 ≤ N →
    ∃ o, L15a26 N n (i : Int) A B E C D = some o ∧ w15 o = (List.range' i k).all (entOK A E) := by
  intro k
  induction k with
  | zero =>
    intro i n N hi hn hN
    obtain ⟨n, rfl⟩ : ∃ m, n = m + 1 := ⟨n - 1, by omega⟩
    simp only [L15a26, decide_eq_false (show ¬ ((i : Int) < (E.length : Int)) by omega)]
    exact ⟨_, rfl, rfl⟩
  | succ k ih =>
    intro i n N hi hn hN
    obtain ⟨n, rfl⟩ : ∃ m, n = m + 1 := ⟨n - 1, by omega⟩
    obtain ⟨o, h1, h2⟩ := ih (i + 1) n N (by omega) (by omega) hN
    have e0 : decide ((i : Int) < (E.length : Int)) = true := by simp; omega
    have e1 : decide ((0 : Int) ≤ (i : Int)) = true := by simp
    have e2 : IntKind.wrap .i64 ((i : Int) + 1) = ((i + 1 : Nat) : Int) := by rw [wrap_id (by unfold inI; omega)]; omega
    have c0 : ((((E.getD ((i : Int).toNat) [])).getD 0 .top).toI) = kd E i := rfl
    have c4 : ((((E.getD ((i : Int).toNat) [])).getD 4 .top).toI) = cI E i 4 := rfl
    have c8 : ((((E.getD ((i : Int).toNat) [])).getD 8 .top).toB) = cB E i 8 := rfl
    have c9 : ((((E.getD ((i : Int).toNat) [])).getD 9 .top).toI) = cI E i 9 := rfl
    have ct : ((A.getD (cI E i 4).toNat []).getD 17 .top).toI = cI A (cI E i 4).toNat 17 := rfl
    rcases J15_cases A B E C D hl i N hN ((((E.getD ((i : Int).toNat) [])).getD 0 .top).toI) ((((E.getD ((i : Int).toNat) [])).getD 1 .top).toS) ((((E.getD ((i : Int).toNat) [])).getD 2 .top).toI) ((((E.getD ((i : Int).toNat) [])).getD 3 .top).toI) ((((E.getD ((i : Int).toNat) [])).getD 4 .top).toI) ((((E.getD ((i : Int).toNat) [])).getD 5 .top).toI) ((((E.getD ((i : Int).toNat) [])).getD 6 .top).rows) ((((E.getD ((i : Int).toNat) [])).getD 7 .top).toI) ((((E.getD ((i : Int).toNat) [])).getD 8 .top).toB) ((((E.getD ((i : Int).toNat) [])).getD 9 .top).toI) ((((E.getD ((i : Int).toNat) [])).getD 10 .top).toI) ((((E.getD ((i : Int).toNat) [])).getD 11 .top).toB) ((((E.getD ((i : Int).toNat) [])).getD 12 .top).toB) ((((E.getD ((i : Int).toNat) [])).getD 13 .top).toI) ((((E.getD ((i : Int).toNat) [])).getD 14 .top).toI) ((((E.getD ((i : Int).toNat) [])).getD 15 .top).toI) ((((E.getD ((i : Int).toNat) [])).getD 16 .top).toI) ((((E.getD ((i : Int).toNat) [])).getD 17 .top).toB) ((((E.getD ((i : Int).toNat) [])).getD 18 .top).toB) ((((E.getD ((i : Int).toNat) [])).getD 19 .top).toI) ((((E.getD ((i : Int).toNat) [])).getD 20 .top).toI) ((((E.getD ((i : Int).toNat) [])).getD 21 .top).toI) rfl rfl with ⟨hj, hv, h9⟩ | ⟨hj, hv⟩
    · simp only [L15a26, e0, e1, e2, Bool.and_self, tst, hj, h1]
      simp only [List.range'_succ, List.all_cons, Nat.mul_one, c0, c4, c8, ct]
      rw [c9] at h9
      have hen : entOK A E i = (!(kd E i == 5 && !cB E i 8) || (decide (0 ≤ cI E i 4) && decide (cI E i 4 < (A.length : Int)) && (cI A (cI E i 4).toNat 17 == lvl E i))) := by
        unfold entOK
        rw [decide_eq_true ⟨hv, h9⟩]; rfl
      rw [hen, ← h2, c9, h9]
      by_cases k5 : kd E i = 5
      · rw [beq_t k5]
        cases cB E i 8 with
        | true => exact ⟨o, rfl, rfl⟩
        | false =>
          by_cases t0 : cI E i 4 < 0
          · rw [decide_eq_true t0, decide_eq_false (show ¬ (0 ≤ cI E i 4) by omega)]
            exact ⟨_, rfl, rfl⟩
          · rw [decide_eq_false t0, decide_eq_true (show (0 ≤ cI E i 4) by omega)]
            by_cases t1 : (A.length : Int) ≤ cI E i 4
            · rw [decide_eq_true t1, decide_eq_false (show ¬ (cI E i 4 < (A.length : Int)) by omega)]
              exact ⟨_, rfl, rfl⟩
            · rw [decide_eq_false t1, decide_eq_true (show (cI E i 4 < (A.length : Int)) by omega)]
              by_cases t2 : cI A (cI E i 4).toNat 17 = lvl E i
              · rw [bne_f t2, beq_t t2]
                exact ⟨o, rfl, rfl⟩
              · rw [bne_t t2, beq_f t2]
                exact ⟨_, rfl, rfl⟩
      · rw [beq_f k5]
        exact ⟨o, rfl, rfl⟩
    · simp only [L15a26, e0, e1, e2, Bool.and_self, tst, hj, List.range'_succ, List.all_cons, Nat.mul_one]
      refine ⟨_, rfl, ?_⟩
      have hen : entOK A E i = false := by
        unfold entOK
        rw [c9] at hv
        rw [decide_eq_false hv]; rfl
      rw [hen]; rfl
theorem F15_eq (A B E C D : List Row) (hl : E.length ≤ 200) (N : Nat) (hN : 220 ≤ N) : F15 N A B E C D = some (.r (mayB A E)) := by
  obtain ⟨N, rfl⟩ : ∃ m, N = m + 1 := ⟨N - 1, by omega⟩
  obtain ⟨o, h1, h2⟩ := L15_eq A B E C D hl E.length 0 N N (by omega) (by omega) (by omega)
  have h1' : L15a26 N N 0 A B E C D = some o := h1
  simp only [F15, h1']
  unfold mayB
  rw [← h2]
  cases o <;> rfl

theorem Jg_cases (A B E C D : List Row) (hE : okE E) (hl : E.length ≤ 200) (i N : Nat) (hN : 210 ≤ N) (c0 : Int) (c1 : ByteArray) (c2 : Int) (c3 : Int) (c4 : Int) (c5 : Int) (c6 : List Row) (c7 : Int) (c8 : Bool) (c9 : Int) (c10 : Int) (c11 : Bool) (c12 : Bool) (c13 : Int) (c14 : Int) (c15 : Int) (c16 : Int) (c17 : Bool) (c18 : Bool) (c19 : Int) (c20 : Int) (c21 : Int) (h0 : c0 = kd E i) (h2 : c2 = ow E i) :
    J14v1a6758 N (i : Int) 0 A B E C D c0 c1 c2 c3 c4 c5 c6 c7 c8 c9 c10 c11 c12 c13 c14 c15 c16 c17 c18 c19 c20 c21 = some (.nx (lvl E i) A B E C D c0 c1 c2 c3 c4 c5 c6 c7 c8 c9 c10 c11 c12 c13 c14 c15 c16 c17 c18 c19 c20 c21) := by
  subst h0
  subst h2
  simp only [J14v1a6758]
  by_cases hk : kd E i = 1
  · have hv : lvl E i = 0 := by unfold lvl; rw [if_pos hk]
    rw [bne_f hk, hv]
  · rw [bne_t hk]
    have hv : lvl E i = if ow E i < (i : Int) then regI E (ow E i) else -1 := by unfold lvl; rw [if_neg hk]
    rw [hv]
    by_cases o1 : ow E i < (i : Int)
    · rw [decide_eq_true o1, if_pos o1]
      simp only [F10_eqI A B E C D hE hl (ow E i) N (by omega)]
    · rw [decide_eq_false o1, if_neg o1]
theorem Jh_cases (N : Nat) (v : Int) (c0 : Int) (c1 : ByteArray) (c2 : Int) (c3 : Int) (c4 : Int) (c5 : Int) (c6 : List Row) (c7 : Int) (c8 : Bool) (c9 : Int) (c10 : Int) (c11 : Bool) (c12 : Bool) (c13 : Int) (c14 : Int) (c15 : Int) (c16 : Int) (c17 : Bool) (c18 : Bool) (c19 : Int) (c20 : Int) (c21 : Int) : (J14v1a13518 N v c0 c1 c2 c3 c4 c5 c6 c7 c8 c9 c10 c11 c12 c13 c14 c15 c16 c17 c18 c19 c20 c21 = some (.nx c0 c1 c2 c3 c4 c5 c6 c7 c8 c9 c10 c11 c12 c13 c14 c15 c16 c17 c18 c19 c20 c21) ∧ 0 ≤ v ∧ c9 = v) ∨ (J14v1a13518 N v c0 c1 c2 c3 c4 c5 c6 c7 c8 c9 c10 c11 c12 c13 c14 c15 c16 c17 c18 c19 c20 c21 = some (.ret false c0 c1 c2 c3 c4 c5 c6 c7 c8 c9 c10 c11 c12 c13 c14 c15 c16 c17 c18 c19 c20 c21) ∧ ¬ (0 ≤ v ∧ c9 = v)) := by
  simp only [J14v1a13518]
  by_cases h : v < 0
  · right
    rw [decide_eq_true h]
    exact ⟨rfl, by omega⟩
  · rw [decide_eq_false h]
    by_cases h9 : c9 = v
    · left
      rw [bne_f h9]
      exact ⟨rfl, by omega, h9⟩
    · right
      rw [bne_t h9]
      exact ⟨rfl, fun hc => h9 hc.2⟩
def w14 : OL14v1a26 → Bool
  | .ret b _ _ _ _ _ => b
  | _ => true
theorem L14_eq (A B E C D : List Row) (hE : okE E) (hl : E.length ≤ 200) : ∀ (k i n N : Nat), i + k = E.length → k < n → 210 ≤ N →
    ∃ o, L14v1a26 N n E (E.length : Int) (i : Int) A B E C D = some o ∧ w14 o = (List.range' i k).all (entOK A E) := by
  intro k
  induction k with
  | zero =>
    intro i n N hi hn hN
    obtain ⟨n, rfl⟩ : ∃ m, n = m + 1 := ⟨n - 1, by omega⟩
    simp only [L14v1a26, decide_eq_false (show ¬ ((i : Int) < (E.length : Int)) by omega)]
    exact ⟨_, rfl, rfl⟩
  | succ k ih =>
    intro i n N hi hn hN
    obtain ⟨n, rfl⟩ : ∃ m, n = m + 1 := ⟨n - 1, by omega⟩
    obtain ⟨o, h1, h2⟩ := ih (i + 1) n N (by omega) (by omega) hN
    have e0 : decide ((i : Int) < (E.length : Int)) = true := by simp; omega
    have e1 : decide ((0 : Int) ≤ (i : Int)) = true := by simp
    have e2 : IntKind.wrap .i64 ((i : Int) + 1) = ((i + 1 : Nat) : Int) := by rw [wrap_id (by unfold inI; omega)]; omega
    have c0 : ((((E.getD ((i : Int).toNat) [])).getD 0 .top).toI) = kd E i := rfl
    have c4 : ((((E.getD ((i : Int).toNat) [])).getD 4 .top).toI) = cI E i 4 := rfl
    have c8 : ((((E.getD ((i : Int).toNat) [])).getD 8 .top).toB) = cB E i 8 := rfl
    have c9 : ((((E.getD ((i : Int).toNat) [])).getD 9 .top).toI) = cI E i 9 := rfl
    have ct : ((A.getD (cI E i 4).toNat []).getD 17 .top).toI = cI A (cI E i 4).toNat 17 := rfl
    have hg := Jg_cases A B E C D hE hl i N hN ((((E.getD ((i : Int).toNat) [])).getD 0 .top).toI) ((((E.getD ((i : Int).toNat) [])).getD 1 .top).toS) ((((E.getD ((i : Int).toNat) [])).getD 2 .top).toI) ((((E.getD ((i : Int).toNat) [])).getD 3 .top).toI) ((((E.getD ((i : Int).toNat) [])).getD 4 .top).toI) ((((E.getD ((i : Int).toNat) [])).getD 5 .top).toI) ((((E.getD ((i : Int).toNat) [])).getD 6 .top).rows) ((((E.getD ((i : Int).toNat) [])).getD 7 .top).toI) ((((E.getD ((i : Int).toNat) [])).getD 8 .top).toB) ((((E.getD ((i : Int).toNat) [])).getD 9 .top).toI) ((((E.getD ((i : Int).toNat) [])).getD 10 .top).toI) ((((E.getD ((i : Int).toNat) [])).getD 11 .top).toB) ((((E.getD ((i : Int).toNat) [])).getD 12 .top).toB) ((((E.getD ((i : Int).toNat) [])).getD 13 .top).toI) ((((E.getD ((i : Int).toNat) [])).getD 14 .top).toI) ((((E.getD ((i : Int).toNat) [])).getD 15 .top).toI) ((((E.getD ((i : Int).toNat) [])).getD 16 .top).toI) ((((E.getD ((i : Int).toNat) [])).getD 17 .top).toB) ((((E.getD ((i : Int).toNat) [])).getD 18 .top).toB) ((((E.getD ((i : Int).toNat) [])).getD 19 .top).toI) ((((E.getD ((i : Int).toNat) [])).getD 20 .top).toI) ((((E.getD ((i : Int).toNat) [])).getD 21 .top).toI) rfl rfl
    rcases Jh_cases N (lvl E i) ((((E.getD ((i : Int).toNat) [])).getD 0 .top).toI) ((((E.getD ((i : Int).toNat) [])).getD 1 .top).toS) ((((E.getD ((i : Int).toNat) [])).getD 2 .top).toI) ((((E.getD ((i : Int).toNat) [])).getD 3 .top).toI) ((((E.getD ((i : Int).toNat) [])).getD 4 .top).toI) ((((E.getD ((i : Int).toNat) [])).getD 5 .top).toI) ((((E.getD ((i : Int).toNat) [])).getD 6 .top).rows) ((((E.getD ((i : Int).toNat) [])).getD 7 .top).toI) ((((E.getD ((i : Int).toNat) [])).getD 8 .top).toB) ((((E.getD ((i : Int).toNat) [])).getD 9 .top).toI) ((((E.getD ((i : Int).toNat) [])).getD 10 .top).toI) ((((E.getD ((i : Int).toNat) [])).getD 11 .top).toB) ((((E.getD ((i : Int).toNat) [])).getD 12 .top).toB) ((((E.getD ((i : Int).toNat) [])).getD 13 .top).toI) ((((E.getD ((i : Int).toNat) [])).getD 14 .top).toI) ((((E.getD ((i : Int).toNat) [])).getD 15 .top).toI) ((((E.getD ((i : Int).toNat) [])).getD 16 .top).toI) ((((E.getD ((i : Int).toNat) [])).getD 17 .top).toB) ((((E.getD ((i : Int).toNat) [])).getD 18 .top).toB) ((((E.getD ((i : Int).toNat) [])).getD 19 .top).toI) ((((E.getD ((i : Int).toNat) [])).getD 20 .top).toI) ((((E.getD ((i : Int).toNat) [])).getD 21 .top).toI) with ⟨hj, hv, h9⟩ | ⟨hj, hv⟩
    · simp only [L14v1a26, e0, e1, e2, Bool.and_self, tst, hg, hj, h1]
      simp only [List.range'_succ, List.all_cons, Nat.mul_one, c0, c4, c8, ct]
      rw [c9] at h9
      have hen : entOK A E i = (!(kd E i == 5 && !cB E i 8) || (decide (0 ≤ cI E i 4) && decide (cI E i 4 < (A.length : Int)) && (cI A (cI E i 4).toNat 17 == lvl E i))) := by
        unfold entOK
        rw [decide_eq_true ⟨hv, h9⟩]; rfl
      rw [hen, ← h2]
      by_cases k5 : kd E i = 5
      · rw [beq_t k5]
        cases cB E i 8 with
        | true => exact ⟨o, rfl, rfl⟩
        | false =>
          by_cases t0 : cI E i 4 < 0
          · rw [decide_eq_true t0, decide_eq_false (show ¬ (0 ≤ cI E i 4) by omega)]
            exact ⟨_, rfl, rfl⟩
          · rw [decide_eq_false t0, decide_eq_true (show (0 ≤ cI E i 4) by omega)]
            by_cases t1 : (A.length : Int) ≤ cI E i 4
            · rw [decide_eq_true t1, decide_eq_false (show ¬ (cI E i 4 < (A.length : Int)) by omega)]
              exact ⟨_, rfl, rfl⟩
            · rw [decide_eq_false t1, decide_eq_true (show (cI E i 4 < (A.length : Int)) by omega)]
              by_cases t2 : cI A (cI E i 4).toNat 17 = lvl E i
              · rw [bne_f t2, beq_t t2]
                exact ⟨o, rfl, rfl⟩
              · rw [bne_t t2, beq_f t2]
                exact ⟨_, rfl, rfl⟩
      · rw [beq_f k5]
        exact ⟨o, rfl, rfl⟩
    · simp only [L14v1a26, e0, e1, e2, Bool.and_self, tst, hg, hj, List.range'_succ, List.all_cons, Nat.mul_one]
      refine ⟨_, rfl, ?_⟩
      have hen : entOK A E i = false := by
        unfold entOK
        rw [c9] at hv
        rw [decide_eq_false hv]; rfl
      rw [hen]; rfl
theorem F14_eq (A B E C D : List Row) (hE : okE E) (hl : E.length ≤ 200) (N : Nat) (hN : 220 ≤ N) : F14v1 N A B E C D = some (.r (mayB A E)) := by
  obtain ⟨N, rfl⟩ : ∃ m, N = m + 1 := ⟨N - 1, by omega⟩
  obtain ⟨o, h1, h2⟩ := L14_eq A B E C D hE hl E.length 0 N N (by omega) (by omega) (by omega)
  have h1' : L14v1a26 N N E (E.length : Int) 0 A B E C D = some o := h1
  simp only [F14v1, h1']
  unfold mayB
  rw [← h2]
  cases o <;> rfl
def greatB (A B E : List Row) : Bool := decide (200 < E.length) || decide (60 < A.length) || decide (100 < B.length)
theorem F8_eq (A B E C D : List Row) (N : Nat) (hN : 0 < N) : F8 N A B E C D = some (.r (greatB A B E)) := by
  obtain ⟨N, rfl⟩ : ∃ m, N = m + 1 := ⟨N - 1, by omega⟩
  simp only [F8]
  unfold greatB
  rw [show decide ((200 : Int) < (E.length : Int)) = decide (200 < E.length) by congr 1; simp; omega, show decide ((60 : Int) < (A.length : Int)) = decide (60 < A.length) by congr 1; simp; omega, show decide ((100 : Int) < (B.length : Int)) = decide (100 < B.length) by congr 1; simp; omega]
  cases decide (200 < E.length) <;> cases decide (60 < A.length) <;> rfl
theorem regions_true (A B E C D : List Row) (hE : okE E) (x : Int) : F3 301 A B E C D x = some (.r true) := by
  have hN : (300 : Nat) ≤ 300 := Nat.le_refl _
  simp only [F3, F8_eq A B E C D 300 (by omega), head_true]
  cases hg : greatB A B E with
  | true => rfl
  | false =>
    have hl : E.length ≤ 200 := by
      unfold greatB at hg
      simp only [Bool.or_eq_false_iff, decide_eq_false_iff_not] at hg
      omega
    simp only [F10_eqI A B E C D hE hl x 300 (by omega), F11_eqI A B E C D hl x 300 (by omega), F12_eqI A B E C D hE hl x 300 (by omega), F13_eqI A B E C D hl x 300 (by omega), F14_eq A B E C D hE hl 300 (by omega), F15_eq A B E C D hl 300 (by omega), beq_self_eq_true]
end Go.Proofs.YtdennlgnbecojaaDoor

namespace Go.Proofs.YtdennlgnbecojaaDoor
open Go Go.Eng
def inR (L : List Row) (x : Int) : Bool := decide (0 ≤ x) && decide (x < (L.length : Int))
theorem inR_t {L : List Row} {x : Int} (h : inR L x = true) : 0 ≤ x ∧ x < (L.length : Int) := by
  unfold inR at h; simpa using h
theorem inR_f {L : List Row} {x : Int} (h : inR L x = false) : x < 0 ∨ (L.length : Int) ≤ x := by
  unfold inR at h
  by_cases h1 : 0 ≤ x
  · right
    rw [decide_eq_true h1, Bool.true_and, decide_eq_false_iff_not] at h
    omega
  · left; omega
theorem F49_eq {N : Nat} (hN : 0 < N) (L : List Row) (x : Int) : F49 N x (L.length : Int) = some (.r (inR L x)) := by
  obtain ⟨N, rfl⟩ : ∃ m, N = m + 1 := ⟨N - 1, by omega⟩
  simp only [F49]
  unfold inR
  cases decide (0 ≤ x) <;> rfl
theorem F49_lt {N : Nat} (hN : 0 < N) (x y : Int) : F49 N x y = some (.r (decide (0 ≤ x) && decide (x < y))) := by
  obtain ⟨N, rfl⟩ : ∃ m, N = m + 1 := ⟨N - 1, by omega⟩
  simp only [F49]
  cases decide (0 ≤ x) <;> rfl
theorem F48_eq {N : Nat} (hN : 0 < N) (A B E C D : List Row) (x : Int) : F48 N A B E C D x = some (.r (inR E x)) := by
  obtain ⟨N, rfl⟩ : ∃ m, N = m + 1 := ⟨N - 1, by omega⟩
  simp only [F48]
  unfold inR
  cases decide (0 ≤ x) <;> rfl
theorem F29_eq {N : Nat} (hN : 0 < N) (A B E C D : List Row) (x : Int) : F29v1 N A B E C D x = some (.r (inR A x)) := by
  obtain ⟨N, rfl⟩ : ∃ m, N = m + 1 := ⟨N - 1, by omega⟩
  simp only [F29v1]
  unfold inR
  cases decide (0 ≤ x) <;> rfl

/-! ### Alike -/
def alk (B : List Row) (x y : Int) : Bool := inR B x && inR B y && ((cI B x.toNat 0 == cI B y.toNat 0) && ((cI B x.toNat 1 == cI B y.toNat 1) && ((cI B x.toNat 2 == cI B y.toNat 2) && true)))
theorem F47_t {N : Nat} (hN : 0 < N) {B : List Row} {x : Int} (h : inR B x = true) : F47v1 N B x = some (.r (cI B x.toNat 0) (cI B x.toNat 1) (cI B x.toNat 2) true) := by
  obtain ⟨N, rfl⟩ : ∃ m, N = m + 1 := ⟨N - 1, by omega⟩
  have h' := inR_t h
  unfold inR at h
  simp only [F47v1, h, tst, decide_eq_false (show ¬ x < 0 by omega), decide_eq_false (show ¬ (B.length : Int) ≤ x by omega)]
  rfl
theorem F47_f {N : Nat} (hN : 0 < N) {B : List Row} {x : Int} (h : inR B x = false) : F47v1 N B x = some (.r 0 0 0 false) := by
  obtain ⟨N, rfl⟩ : ∃ m, N = m + 1 := ⟨N - 1, by omega⟩
  have h' := inR_f h
  simp only [F47v1]
  by_cases h1 : x < 0
  · rw [decide_eq_true h1]
  · rw [decide_eq_false h1, decide_eq_true (show (B.length : Int) ≤ x by omega)]
theorem F31_eq {N : Nat} (hN : 1 < N) (A B E C D : List Row) (x y : Int) : F31v1 N A B E C D x y = some (.r (alk B x y)) := by
  obtain ⟨N, rfl⟩ : ∃ m, N = m + 1 := ⟨N - 1, by omega⟩
  have hp : 0 < N := by omega
  unfold alk
  cases h1 : inR B x with
  | true =>
    cases h2 : inR B y with
    | true => simp only [F31v1, F47_t hp h1, F47_t hp h2]; rfl
    | false => simp only [F31v1, F47_t hp h1, F47_f hp h2]; rfl
  | false =>
    cases h2 : inR B y with
    | true => simp only [F31v1, F47_f hp h1, F47_t hp h2]; rfl
    | false => simp only [F31v1, F47_f hp h1, F47_f hp h2]; rfl
theorem F36_eq {N : Nat} (hN : 1 < N) (A B E C D : List Row) (x y : Int) : F36 N A B E C D x y = some (.r (alk B x y)) := by
  obtain ⟨N, rfl⟩ : ∃ m, N = m + 1 := ⟨N - 1, by omega⟩
  have hp : 0 < N := by omega
  unfold alk
  simp only [F36, F49_eq hp]
  cases h1 : inR B x with
  | true =>
    cases h2 : inR B y with
    | true =>
      unfold inR at h1 h2
      simp only [h1, h2, tst]; rfl
    | false => rfl
  | false => rfl

/-! ### Bases -/
def bas (E : List Row) (r : Nat) : Nat :=
  if h : cB E r 8 = true ∧ 0 ≤ cI E r 7 ∧ cI E r 7 < (r : Int) then bas E (cI E r 7).toNat else r
termination_by r
decreasing_by omega
theorem bas_le (E : List Row) : ∀ r : Nat, bas E r ≤ r := by
  intro r
  induction r using Nat.strongRecOn with
  | _ r ih =>
    rw [bas]
    split
    · have := ih (cI E r 7).toNat (by omega); omega
    · omega
def basI (E : List Row) (x : Int) : Int := if inR E x = true then (bas E x.toNat : Int) else -1
def w26 : OL26v1a60 → Int
  | .x0 x _ _ _ _ _ _ _ _ _ _ _ _ _ _ _ _ _ _ _ _ _ _ _ _ _ _ _ => x
theorem L26_eq (A B E C D : List Row) : ∀ (r n N : Nat) (c0 : Int) (c1 : ByteArray) (c2 : Int) (c3 : Int) (c4 : Int) (c5 : Int) (c6 : List Row) (c7 : Int) (c8 : Bool) (c9 : Int) (c10 : Int) (c11 : Bool) (c12 : Bool) (c13 : Int) (c14 : Int) (c15 : Int) (c16 : Int) (c17 : Bool) (c18 : Bool) (c19 : Int) (c20 : Int) (c21 : Int), r < n → r < E.length → c7 = cI E r 7 → c8 = cB E r 8 → ∃ o, L26v1a60 N n (r : Int) A B E C D c0 c1 c2 c3 c4 c5 c6 c7 c8 c9 c10 c11 c12 c13 c14 c15 c16 c17 c18 c19 c20 c21 = some o ∧ w26 o = (bas E r : Int) := by
  intro r
  induction r using Nat.strongRecOn with
  | _ r ih =>
    intro n N c0 c1 c2 c3 c4 c5 c6 c7 c8 c9 c10 c11 c12 c13 c14 c15 c16 c17 c18 c19 c20 c21 hn hr h7 h8
    subst h7
    subst h8
    obtain ⟨n, rfl⟩ : ∃ m, n = m + 1 := ⟨n - 1, by omega⟩
    rw [bas]
    simp only [L26v1a60, J26v1a240]
    cases hb : cB E r 8 with
    | true =>
      by_cases h1 : 0 ≤ cI E r 7
      · by_cases h2 : cI E r 7 < (r : Int)
        · rw [dif_pos ⟨rfl, h1, h2⟩]
          have e1 : (decide (0 ≤ cI E r 7) && decide (cI E r 7 < (E.length : Int))) = true := by simp; omega
          obtain ⟨o, h3, h4⟩ := ih (cI E r 7).toNat (by omega) n N ((((E.getD (cI E r 7).toNat [])).getD 0 .top).toI) ((((E.getD (cI E r 7).toNat [])).getD 1 .top).toS) ((((E.getD (cI E r 7).toNat [])).getD 2 .top).toI) ((((E.getD (cI E r 7).toNat [])).getD 3 .top).toI) ((((E.getD (cI E r 7).toNat [])).getD 4 .top).toI) ((((E.getD (cI E r 7).toNat [])).getD 5 .top).toI) ((((E.getD (cI E r 7).toNat [])).getD 6 .top).rows) ((((E.getD (cI E r 7).toNat [])).getD 7 .top).toI) ((((E.getD (cI E r 7).toNat [])).getD 8 .top).toB) ((((E.getD (cI E r 7).toNat [])).getD 9 .top).toI) ((((E.getD (cI E r 7).toNat [])).getD 10 .top).toI) ((((E.getD (cI E r 7).toNat [])).getD 11 .top).toB) ((((E.getD (cI E r 7).toNat [])).getD 12 .top).toB) ((((E.getD (cI E r 7).toNat [])).getD 13 .top).toI) ((((E.getD (cI E r 7).toNat [])).getD 14 .top).toI) ((((E.getD (cI E r 7).toNat [])).getD 15 .top).toI) ((((E.getD (cI E r 7).toNat [])).getD 16 .top).toI) ((((E.getD (cI E r 7).toNat [])).getD 17 .top).toB) ((((E.getD (cI E r 7).toNat [])).getD 18 .top).toB) ((((E.getD (cI E r 7).toNat [])).getD 19 .top).toI) ((((E.getD (cI E r 7).toNat [])).getD 20 .top).toI) ((((E.getD (cI E r 7).toNat [])).getD 21 .top).toI) (by omega) (by omega) rfl rfl
          rw [show (((cI E r 7).toNat : Nat) : Int) = cI E r 7 by omega] at h3
          simp only [decide_eq_true h1, decide_eq_true h2, Bool.and_self, tst, decide_eq_true (show cI E r 7 < (E.length : Int) by omega)]
          exact ⟨o, h3, h4⟩
        · rw [dif_neg (fun h => h2 h.2.2), decide_eq_true h1, decide_eq_false h2]
          exact ⟨_, rfl, rfl⟩
      · rw [dif_neg (fun h => h1 h.2.1), decide_eq_false h1]
        exact ⟨_, rfl, rfl⟩
    | false =>
      rw [dif_neg (fun h => by cases h.1)]
      exact ⟨_, rfl, rfl⟩
theorem F46_t {N : Nat} (hN : 0 < N) (A B C D : List Row) {E : List Row} {x : Int} (h : inR E x = true) : F46v1 N A B E C D x = some (.r ((((E.getD x.toNat [])).getD 0 .top).toI) ((((E.getD x.toNat [])).getD 1 .top).toS) ((((E.getD x.toNat [])).getD 2 .top).toI) ((((E.getD x.toNat [])).getD 3 .top).toI) ((((E.getD x.toNat [])).getD 4 .top).toI) ((((E.getD x.toNat [])).getD 5 .top).toI) ((((E.getD x.toNat [])).getD 6 .top).rows) ((((E.getD x.toNat [])).getD 7 .top).toI) ((((E.getD x.toNat [])).getD 8 .top).toB) ((((E.getD x.toNat [])).getD 9 .top).toI) ((((E.getD x.toNat [])).getD 10 .top).toI) ((((E.getD x.toNat [])).getD 11 .top).toB) ((((E.getD x.toNat [])).getD 12 .top).toB) ((((E.getD x.toNat [])).getD 13 .top).toI) ((((E.getD x.toNat [])).getD 14 .top).toI) ((((E.getD x.toNat [])).getD 15 .top).toI) ((((E.getD x.toNat [])).getD 16 .top).toI) ((((E.getD x.toNat [])).getD 17 .top).toB) ((((E.getD x.toNat [])).getD 18 .top).toB) ((((E.getD x.toNat [])).getD 19 .top).toI) ((((E.getD x.toNat [])).getD 20 .top).toI) ((((E.getD x.toNat [])).getD 21 .top).toI) true) := by
  obtain ⟨N, rfl⟩ : ∃ m, N = m + 1 := ⟨N - 1, by omega⟩
  have h' := inR_t h
  unfold inR at h
  simp only [F46v1, h, tst, decide_eq_false (show ¬ x < 0 by omega), decide_eq_false (show ¬ (E.length : Int) ≤ x by omega)]
theorem F46_f {N : Nat} (hN : 0 < N) (A B C D : List Row) {E : List Row} {x : Int} (h : inR E x = false) : F46v1 N A B E C D x = some (.r 0 ByteArray.empty 0 0 0 0 ([]) 0 false 0 0 false false 0 0 0 0 false false 0 0 0 false) := by
  obtain ⟨N, rfl⟩ : ∃ m, N = m + 1 := ⟨N - 1, by omega⟩
  have h' := inR_f h
  simp only [F46v1]
  by_cases h1 : x < 0
  · rw [decide_eq_true h1]
  · rw [decide_eq_false h1, decide_eq_true (show (E.length : Int) ≤ x by omega)]
theorem F26_eq {N : Nat} (A B E C D : List Row) (hl : E.length ≤ 200) (hN : 210 ≤ N) (x : Int) : F26v1 N A B E C D x = some (.r (basI E x)) := by
  obtain ⟨N, rfl⟩ : ∃ m, N = m + 1 := ⟨N - 1, by omega⟩
  have hp : 0 < N := by omega
  unfold basI
  cases h : inR E x with
  | true =>
    have h' := inR_t h
    obtain ⟨r, rfl⟩ := Int.eq_ofNat_of_zero_le h'.1
    obtain ⟨o, h3, h4⟩ := L26_eq A B E C D r N N ((((E.getD (r : Int).toNat [])).getD 0 .top).toI) ((((E.getD (r : Int).toNat [])).getD 1 .top).toS) ((((E.getD (r : Int).toNat [])).getD 2 .top).toI) ((((E.getD (r : Int).toNat [])).getD 3 .top).toI) ((((E.getD (r : Int).toNat [])).getD 4 .top).toI) ((((E.getD (r : Int).toNat [])).getD 5 .top).toI) ((((E.getD (r : Int).toNat [])).getD 6 .top).rows) ((((E.getD (r : Int).toNat [])).getD 7 .top).toI) ((((E.getD (r : Int).toNat [])).getD 8 .top).toB) ((((E.getD (r : Int).toNat [])).getD 9 .top).toI) ((((E.getD (r : Int).toNat [])).getD 10 .top).toI) ((((E.getD (r : Int).toNat [])).getD 11 .top).toB) ((((E.getD (r : Int).toNat [])).getD 12 .top).toB) ((((E.getD (r : Int).toNat [])).getD 13 .top).toI) ((((E.getD (r : Int).toNat [])).getD 14 .top).toI) ((((E.getD (r : Int).toNat [])).getD 15 .top).toI) ((((E.getD (r : Int).toNat [])).getD 16 .top).toI) ((((E.getD (r : Int).toNat [])).getD 17 .top).toB) ((((E.getD (r : Int).toNat [])).getD 18 .top).toB) ((((E.getD (r : Int).toNat [])).getD 19 .top).toI) ((((E.getD (r : Int).toNat [])).getD 20 .top).toI) ((((E.getD (r : Int).toNat [])).getD 21 .top).toI) (by omega) (by omega) rfl rfl
    simp only [F26v1, F46_t hp A B C D h, Bool.not_true, h3, if_true]
    rw [show ((r : Int)).toNat = r from rfl, ← h4]
    cases o; rfl
  | false =>
    simp only [F26v1, F46_f hp A B C D h, Bool.not_false]
    rfl
def w35 : OL35a28 → Int
  | .x0 x _ _ _ _ _ => x
theorem L35_eq (A B E C D : List Row) : ∀ (r n N : Nat), r < n → r < E.length → ∃ o, L35a28 N n (r : Int) A B E C D = some o ∧ w35 o = (bas E r : Int) := by
  intro r
  induction r using Nat.strongRecOn with
  | _ r ih =>
    intro n N hn hr
    obtain ⟨n, rfl⟩ : ∃ m, n = m + 1 := ⟨n - 1, by omega⟩
    rw [bas]
    have e2 : (decide ((0 : Int) ≤ (r : Int)) && decide ((r : Int) < (E.length : Int))) = true := by simp; omega
    have c7 : ((((E.getD (r : Int).toNat [])).getD 7 .top).toI) = cI E r 7 := rfl
    have c8 : ((((E.getD (r : Int).toNat [])).getD 8 .top).toB) = cB E r 8 := rfl
    simp only [L35a28, J35a112, e2, tst, c7, c8]
    cases hb : cB E r 8 with
    | true =>
      by_cases h1 : 0 ≤ cI E r 7
      · by_cases h2 : cI E r 7 < (r : Int)
        · rw [dif_pos ⟨rfl, h1, h2⟩]
          obtain ⟨o, h3, h4⟩ := ih (cI E r 7).toNat (by omega) n N (by omega) (by omega)
          rw [show (((cI E r 7).toNat : Nat) : Int) = cI E r 7 by omega] at h3
          simp only [decide_eq_true h1, decide_eq_true h2, e2]
          exact ⟨o, h3, h4⟩
        · rw [dif_neg (fun h => h2 h.2.2), decide_eq_true h1, decide_eq_false h2]
          exact ⟨_, rfl, rfl⟩
      · rw [dif_neg (fun h => h1 h.2.1), decide_eq_false h1]
        exact ⟨_, rfl, rfl⟩
    | false =>
      rw [dif_neg (fun h => by cases h.1)]
      exact ⟨_, rfl, rfl⟩
theorem F35_eq {N : Nat} (A B E C D : List Row) (hl : E.length ≤ 200) (hN : 210 ≤ N) (x : Int) : F35 N A B E C D x = some (.r (basI E x)) := by
  obtain ⟨N, rfl⟩ : ∃ m, N = m + 1 := ⟨N - 1, by omega⟩
  have hp : 0 < N := by omega
  unfold basI
  simp only [F35, F48_eq hp]
  cases h : inR E x with
  | true =>
    have h' := inR_t h
    obtain ⟨r, rfl⟩ := Int.eq_ofNat_of_zero_le h'.1
    obtain ⟨o, h3, h4⟩ := L35_eq A B E C D r N N (by omega) (by omega)
    simp only [Bool.not_true, h3, if_true]
    rw [show ((r : Int)).toNat = r from rfl, ← h4]
    cases o; rfl
  | false => rfl
theorem bas_in {E : List Row} {x : Int} (h : inR E x = true) : inR E (basI E x) = true := by
  have h' := inR_t h
  have := bas_le E x.toNat
  unfold basI
  rw [if_pos h]
  unfold inR
  simp; omega
theorem bas_out {E : List Row} {x : Int} (h : inR E x = false) : inR E (basI E x) = false := by
  unfold basI
  rw [h]
  rfl

/-! ### Roots -/
def rt (A : List Row) (r : Nat) : Nat :=
  if h : 0 ≤ cI A r 2 ∧ cI A r 2 < (r : Int) then rt A (cI A r 2).toNat else r
termination_by r
decreasing_by omega
def rtI (A : List Row) (x : Int) : Int := if inR A x = true then (rt A x.toNat : Int) else -1
theorem F50_t {N : Nat} (hN : 0 < N) {A : List Row} {x : Int} (h : inR A x = true) : F50v1 N A x = some (.r ((((A.getD x.toNat [])).getD 0 .top).toI) ((((A.getD x.toNat [])).getD 1 .top).toS) ((((A.getD x.toNat [])).getD 2 .top).toI) ((((A.getD x.toNat [])).getD 3 .top).toI) ((((A.getD x.toNat [])).getD 4 .top).rows) ((((A.getD x.toNat [])).getD 5 .top).toI) ((((A.getD x.toNat [])).getD 6 .top).toI) ((((A.getD x.toNat [])).getD 7 .top).toI) ((((A.getD x.toNat [])).getD 8 .top).toS) ((((A.getD x.toNat [])).getD 9 .top).toB) ((((A.getD x.toNat [])).getD 10 .top).toI) ((((A.getD x.toNat [])).getD 11 .top).rows) ((((A.getD x.toNat [])).getD 12 .top).toI) ((((A.getD x.toNat [])).getD 13 .top).toI) ((((A.getD x.toNat [])).getD 14 .top).toB) ((((A.getD x.toNat [])).getD 15 .top).toI) ((((A.getD x.toNat [])).getD 16 .top).toI) ((((A.getD x.toNat [])).getD 17 .top).toI) true) := by
  obtain ⟨N, rfl⟩ : ∃ m, N = m + 1 := ⟨N - 1, by omega⟩
  have h' := inR_t h
  unfold inR at h
  simp only [F50v1, h, tst, decide_eq_false (show ¬ x < 0 by omega), decide_eq_false (show ¬ (A.length : Int) ≤ x by omega)]
theorem F50_f {N : Nat} (hN : 0 < N) {A : List Row} {x : Int} (h : inR A x = false) : F50v1 N A x = some (.r 0 ByteArray.empty 0 0 ([]) 0 0 0 ByteArray.empty false 0 ([]) 0 0 false 0 0 0 false) := by
  obtain ⟨N, rfl⟩ : ∃ m, N = m + 1 := ⟨N - 1, by omega⟩
  have h' := inR_f h
  simp only [F50v1]
  by_cases h1 : x < 0
  · rw [decide_eq_true h1]
  · rw [decide_eq_false h1, decide_eq_true (show (A.length : Int) ≤ x by omega)]
def w51 : OL51v1a58 → Int
  | .x0 x _ _ _ _ _ => x
theorem L51_eq (A B E C D : List Row) : ∀ (r n N : Nat), r < n → r < A.length → ∃ o, L51v1a58 N n (r : Int) (cI A r 2) A B E C D = some o ∧ w51 o = (rt A r : Int) := by
  intro r
  induction r using Nat.strongRecOn with
  | _ r ih =>
    intro n N hn hr
    obtain ⟨n, rfl⟩ : ∃ m, n = m + 1 := ⟨n - 1, by omega⟩
    rw [rt]
    simp only [L51v1a58]
    by_cases h1 : 0 ≤ cI A r 2
    · by_cases h2 : cI A r 2 < (r : Int)
      · rw [dif_pos ⟨h1, h2⟩]
        obtain ⟨o, h3, h4⟩ := ih (cI A r 2).toNat (by omega) n N (by omega) (by omega)
        rw [show (((cI A r 2).toNat : Nat) : Int) = cI A r 2 by omega] at h3
        simp only [decide_eq_true h1, decide_eq_true h2, decide_eq_true (show cI A r 2 < (A.length : Int) by omega), Bool.and_self, tst]
        exact ⟨o, h3, h4⟩
      · rw [dif_neg (fun h => h2 h.2), decide_eq_true h1, decide_eq_false h2]
        exact ⟨_, rfl, rfl⟩
    · rw [dif_neg (fun h => h1 h.1), decide_eq_false h1]
      exact ⟨_, rfl, rfl⟩
theorem F51_eq {N : Nat} (A B E C D : List Row) (hl : A.length ≤ 60) (hN : 210 ≤ N) (x : Int) : F51v1 N A B E C D x = some (.r (rtI A x)) := by
  obtain ⟨N, rfl⟩ : ∃ m, N = m + 1 := ⟨N - 1, by omega⟩
  have hp : 0 < N := by omega
  unfold rtI
  cases h : inR A x with
  | true =>
    have h' := inR_t h
    obtain ⟨r, rfl⟩ := Int.eq_ofNat_of_zero_le h'.1
    obtain ⟨o, h3, h4⟩ := L51_eq A B E C D r N N (by omega) (by omega)
    have e2 : (decide ((0 : Int) ≤ (r : Int)) && decide ((r : Int) < (A.length : Int))) = true := h
    have c2 : ((((A.getD (r : Int).toNat [])).getD 2 .top).toI) = cI A r 2 := rfl
    simp only [F51v1, F50_t hp h, Bool.not_true, if_true, e2, tst]
    rw [c2, h3, show ((r : Int)).toNat = r from rfl, ← h4]
    cases o; rfl
  | false =>
    simp only [F51v1, F50_f hp h, Bool.not_false]
    rfl
def w53 : OL53a28 → Int
  | .x0 x _ _ _ _ _ => x
theorem L53_eq (A B E C D : List Row) : ∀ (r n N : Nat), r < n → 0 < N → r < A.length → ∃ o, L53a28 N n (r : Int) A B E C D = some o ∧ w53 o = (rt A r : Int) := by
  intro r
  induction r using Nat.strongRecOn with
  | _ r ih =>
    intro n N hn hp hr
    obtain ⟨n, rfl⟩ : ∃ m, n = m + 1 := ⟨n - 1, by omega⟩
    rw [rt]
    have e2 : (decide ((0 : Int) ≤ (r : Int)) && decide ((r : Int) < (A.length : Int))) = true := by simp; omega
    have c2 : ((((A.getD (r : Int).toNat [])).getD 2 .top).toI) = cI A r 2 := rfl
    simp only [L53a28, e2, tst, c2, F49_lt hp]
    by_cases h1 : 0 ≤ cI A r 2 ∧ cI A r 2 < (r : Int)
    · rw [dif_pos h1]
      obtain ⟨o, h3, h4⟩ := ih (cI A r 2).toNat (by omega) n N (by omega) hp (by omega)
      rw [show (((cI A r 2).toNat : Nat) : Int) = cI A r 2 by omega] at h3
      simp only [decide_eq_true h1.1, decide_eq_true h1.2, Bool.and_self]
      exact ⟨o, h3, h4⟩
    · rw [dif_neg h1]
      have e3 : (decide (0 ≤ cI A r 2) && decide (cI A r 2 < (r : Int))) = false := by
        rw [Bool.eq_false_iff]; intro hc; simp only [Bool.and_eq_true, decide_eq_true_eq] at hc; exact h1 hc
      simp only [e3]
      exact ⟨_, rfl, rfl⟩
theorem F53_eq {N : Nat} (A B E C D : List Row) (hl : A.length ≤ 60) (hN : 210 ≤ N) (x : Int) : F53 N A B E C D x = some (.r (rtI A x)) := by
  obtain ⟨N, rfl⟩ : ∃ m, N = m + 1 := ⟨N - 1, by omega⟩
  have hp : 0 < N := by omega
  unfold rtI
  simp only [F53, F49_eq hp]
  cases h : inR A x with
  | true =>
    have h' := inR_t h
    obtain ⟨r, rfl⟩ := Int.eq_ofNat_of_zero_le h'.1
    obtain ⟨o, h3, h4⟩ := L53_eq A B E C D r N N (by omega) hp (by omega)
    simp only [Bool.not_true, h3, if_true]
    rw [show ((r : Int)).toNat = r from rfl, ← h4]
    cases o; rfl
  | false => rfl

/-! ### Conversions of types -/
def k12 (k : Int) : Bool := k == 1 || k == 2
def conv (A B : List Row) (x y : Int) : Bool :=
  inR A x && inR A y && ((x == y) || (k12 (cI A x.toNat 0) && k12 (cI A y.toNat 0)) || ((cI A x.toNat 0 == 3) && (cI A y.toNat 0 == 3) && (rtI A x == rtI A y)) || ((cI A x.toNat 0 == 6) && (cI A y.toNat 0 == 6) && alk B (cI A x.toNat 12) (cI A y.toNat 12)))
theorem F52_eq {N : Nat} (hN : 0 < N) (k : Int) : F52 N k = some (.r (k12 k)) := by
  obtain ⟨N, rfl⟩ : ∃ m, N = m + 1 := ⟨N - 1, by omega⟩
  simp only [F52, k12]
  cases (k == 1) <;> rfl
theorem k12_f {k : Int} (h : k = 3 ∨ k = 6) : k12 k = false := by rcases h with h | h <;> subst h <;> rfl
theorem F39_eq {N : Nat} (A B E C D : List Row) (hl : A.length ≤ 60) (hN : 220 ≤ N) (x y : Int) : F39v1 N A B E C D x y = some (.r (conv A B x y)) := by
  obtain ⟨N, rfl⟩ : ∃ m, N = m + 1 := ⟨N - 1, by omega⟩
  have hp : 0 < N := by omega
  unfold conv
  cases h1 : inR A x with
  | false =>
    cases h2 : inR A y with
    | false => simp only [F39v1, F50_f hp h1, F50_f hp h2, J39v1a30, J39v1a120, Bool.not_false]; rfl
    | true => simp only [F39v1, F50_f hp h1, F50_t hp h2, J39v1a30, J39v1a120, Bool.not_false]; rfl
  | true =>
    cases h2 : inR A y with
    | false => simp only [F39v1, F50_t hp h1, F50_f hp h2, J39v1a30, J39v1a120, Bool.not_false, Bool.not_true]; rfl
    | true =>
      have a0 : ((((A.getD x.toNat [])).getD 0 .top).toI) = cI A x.toNat 0 := rfl
      have b0 : ((((A.getD y.toNat [])).getD 0 .top).toI) = cI A y.toNat 0 := rfl
      have a12 : ((((A.getD x.toNat [])).getD 12 .top).toI) = cI A x.toNat 12 := rfl
      have b12 : ((((A.getD y.toNat [])).getD 12 .top).toI) = cI A y.toNat 12 := rfl
      simp only [F39v1, F50_t hp h1, F50_t hp h2, J39v1a30, J39v1a120, Bool.not_true, F51_eq A B E C D hl (show 210 ≤ N by omega), F31_eq (show 1 < N by omega), F52_eq hp, a0, b0, a12, b12]
      cases (x == y) with
      | true => rfl
      | false =>
        by_cases k1 : cI A x.toNat 0 = 3
        · by_cases k2 : cI A y.toNat 0 = 3
          · rw [k1, k2]
            cases (rtI A x == rtI A y) <;> rfl
          · rw [k1, beq_f k2]
            cases k12 (cI A y.toNat 0) <;> rfl
        · rw [beq_f k1]
          by_cases k3 : cI A x.toNat 0 = 6
          · by_cases k4 : cI A y.toNat 0 = 6
            · rw [k3, k4]
              cases alk B (cI A x.toNat 12) (cI A y.toNat 12) <;> rfl
            · rw [k3, beq_f k4]
              cases k12 (cI A y.toNat 0) <;> rfl
          · rw [beq_f k3]
            dsimp only
            cases k12 (cI A x.toNat 0) <;> cases k12 (cI A y.toNat 0) <;> rfl
theorem F41_eq {N : Nat} (A B E C D : List Row) (hl : A.length ≤ 60) (hN : 220 ≤ N) (x y : Int) : F41 N A B E C D x y = some (.r (conv A B x y)) := by
  obtain ⟨N, rfl⟩ : ∃ m, N = m + 1 := ⟨N - 1, by omega⟩
  have hp : 0 < N := by omega
  unfold conv
  cases h1 : inR A x with
  | false => simp only [F41, J41a6, F49_eq hp, h1, Bool.not_false]; rfl
  | true =>
    cases h2 : inR A y with
    | false => simp only [F41, J41a6, F49_eq hp, h1, h2, Bool.not_false, Bool.not_true]; rfl
    | true =>
      have e1 : (decide ((0 : Int) ≤ x) && decide (x < (A.length : Int))) = true := h1
      have e2 : (decide ((0 : Int) ≤ y) && decide (y < (A.length : Int))) = true := h2
      have a0 : ((((A.getD x.toNat [])).getD 0 .top).toI) = cI A x.toNat 0 := rfl
      have b0 : ((((A.getD y.toNat [])).getD 0 .top).toI) = cI A y.toNat 0 := rfl
      have a12 : ((((A.getD x.toNat [])).getD 12 .top).toI) = cI A x.toNat 12 := rfl
      have b12 : ((((A.getD y.toNat [])).getD 12 .top).toI) = cI A y.toNat 12 := rfl
      have g : ∀ {α : Type} (b : Bool) (f : Bool → α), (match b with | true => f true | false => f false) = f b := fun b f => by cases b <;> rfl
      simp only [F41, J41a6, F49_eq hp, h1, h2, Bool.not_true, e1, e2, tst]
      simp only [J41a62, J41a126, F53_eq A B E C D hl (show 210 ≤ N by omega), F36_eq (show 1 < N by omega), a0, b0, a12, b12]
      unfold k12
      by_cases k1 : cI A x.toNat 0 = 1
      · rw [k1]
        by_cases k2 : cI A y.toNat 0 = 1
        · rw [k2]
          cases (x == y) <;> rfl
        · rw [beq_f k2]
          cases (x == y) <;> cases (cI A y.toNat 0 == 2) <;> rfl
      · by_cases k2 : cI A x.toNat 0 = 2
        · rw [k2]
          by_cases k2 : cI A y.toNat 0 = 1
          · rw [k2]
            cases (x == y) <;> rfl
          · rw [beq_f k2]
            cases (x == y) <;> cases (cI A y.toNat 0 == 2) <;> rfl
        · rw [beq_f k1, beq_f k2]
          by_cases k3 : cI A x.toNat 0 = 3
          · rw [k3]
            by_cases k4 : cI A y.toNat 0 = 3
            · rw [k4]
              cases (x == y) <;> cases (rtI A x == rtI A y) <;> rfl
            · simp only [beq_f k4, beq_self_eq_true]
              cases (x == y) <;> rfl
          · rw [beq_f k3]
            by_cases k5 : cI A x.toNat 0 = 6
            · rw [k5]
              by_cases k6 : cI A y.toNat 0 = 6
              · rw [k6]
                dsimp only
                simp only [show ((6 : Int) == 1) = false from rfl, show ((6 : Int) == 2) = false from rfl, show ((6 : Int) == 3) = false from rfl, beq_self_eq_true]
                cases (x == y) <;> cases alk B (cI A x.toNat 12) (cI A y.toNat 12) <;> rfl
              · simp only [beq_f k6, beq_self_eq_true, show ((6 : Int) == 1) = false from rfl, show ((6 : Int) == 2) = false from rfl, show ((6 : Int) == 3) = false from rfl]
                cases (x == y) <;> rfl
            · simp only [beq_f k5, beq_f k3]
              cases (x == y) <;> rfl

/-! ### Accesses -/
def acc (A B E : List Row) (x t : Int) : Int :=
  if (inR E x && inR A t) = false then 2
  else if ((cI A t.toNat 0 == 6) && alk B (cI E (basI E x).toNat 5) (cI A t.toNat 12)) = false then 90
  else if ((cI E (basI E x).toNat 0 == 7) && cB E (basI E x).toNat 12) = false then 121
  else if cI E (basI E x).toNat 9 ≤ cI A t.toNat 17 then 0 else 120
theorem F16_eq {N : Nat} (A B E C D : List Row) (hE : E.length ≤ 200) (hN : 220 ≤ N) (x t : Int) : F16v1 N A B E C D x t = some (.r (acc A B E x t)) := by
  obtain ⟨N, rfl⟩ : ∃ m, N = m + 2 := ⟨N - 2, by omega⟩
  have hp : 0 < N := by omega
  unfold acc
  simp only [F16v1, F26_eq A B E C D hE (show 210 ≤ N + 1 by omega), F28v1, F29_eq hp]
  cases h1 : inR E x with
  | false =>
    have : basI E x = -1 := by unfold basI; rw [h1]; rfl
    rw [this]; rfl
  | true =>
    have hb := bas_in h1
    have hb' := inR_t hb
    rw [decide_eq_true hb'.1, decide_eq_true hb'.2]
    cases h2 : inR A t with
    | false => rfl
    | true =>
      have e1 : (decide ((0 : Int) ≤ basI E x) && decide (basI E x < (E.length : Int))) = true := hb
      have e2 : (decide ((0 : Int) ≤ t) && decide (t < (A.length : Int))) = true := h2
      have t0 : ((((A.getD t.toNat [])).getD 0 .top).toI) = cI A t.toNat 0 := rfl
      have t12 : ((((A.getD t.toNat [])).getD 12 .top).toI) = cI A t.toNat 12 := rfl
      have t17 : ((((A.getD t.toNat [])).getD 17 .top).toI) = cI A t.toNat 17 := rfl
      have s5 : ((((E.getD (basI E x).toNat [])).getD 5 .top).toI) = cI E (basI E x).toNat 5 := rfl
      have s0 : ((((E.getD (basI E x).toNat [])).getD 0 .top).toI) = cI E (basI E x).toNat 0 := rfl
      have s9 : ((((E.getD (basI E x).toNat [])).getD 9 .top).toI) = cI E (basI E x).toNat 9 := rfl
      have s12 : ((((E.getD (basI E x).toNat [])).getD 12 .top).toB) = cB E (basI E x).toNat 12 := rfl
      simp only [Bool.not_true, F30v1, F32v1, F33v1, e1, e2, tst, F31_eq (show 1 < N by omega), t0, t12, t17, s5, s0, s9, s12]
      cases (cI A t.toNat 0 == 6) with
      | false => rfl
      | true =>
        cases alk B (cI E (basI E x).toNat 5) (cI A t.toNat 12) with
        | false => rfl
        | true =>
          simp only [Bool.not_true, Bool.not_false, e1, e2, tst, F31_eq (show 1 < N by omega), t0, t12, t17, s5, s0, s9, s12, Bool.and_self]
          cases (cI E (basI E x).toNat 0 == 7) with
          | false => rfl
          | true =>
            cases cB E (basI E x).toNat 12 with
            | false => rfl
            | true =>
              simp only [Bool.not_true, Bool.not_false, e1, e2, tst, F31_eq (show 1 < N by omega), t0, t12, t17, s5, s0, s9, s12, Bool.and_self]
              by_cases h : cI E (basI E x).toNat 9 ≤ cI A t.toNat 17
              · simp [h]
              · simp [h]
theorem F34_eq {N : Nat} (hN : 0 < N) (A B E C D : List Row) (x : Int) : F34 N A B E C D x = some (.r (inR A x) (inR A x && (cI A x.toNat 0 == 6))) := by
  obtain ⟨N, rfl⟩ : ∃ m, N = m + 1 := ⟨N - 1, by omega⟩
  simp only [F34]
  cases h : inR A x with
  | true =>
    have h' := inR_t h
    unfold inR at h
    rw [decide_eq_false (show ¬ x < 0 by omega), decide_eq_false (show ¬ (A.length : Int) ≤ x by omega)]
    simp only [h, tst]
    rfl
  | false =>
    have h' := inR_f h
    by_cases h1 : x < 0
    · rw [decide_eq_true h1]; rfl
    · rw [decide_eq_false h1, decide_eq_true (show (A.length : Int) ≤ x by omega)]; rfl
theorem F17_eq {N : Nat} (A B E C D : List Row) (hE : E.length ≤ 200) (hN : 220 ≤ N) (x t : Int) : F17 N A B E C D x t = some (.r (acc A B E x t)) := by
  obtain ⟨N, rfl⟩ : ∃ m, N = m + 2 := ⟨N - 2, by omega⟩
  have hp : 0 < N + 1 := by omega
  have e0 : (decide ((0 : Int) ≤ x) && decide (x < (E.length : Int))) = inR E x := rfl
  unfold acc
  simp only [F17, F34_eq hp, J17a14, F24_eq hp, e0]
  cases h1 : inR E x with
  | false => rfl
  | true =>
    have hb := bas_in h1
    have e1 : (decide ((0 : Int) ≤ basI E x) && decide (basI E x < (E.length : Int))) = true := hb
    cases h2 : inR A t with
    | false => rfl
    | true =>
      have e2 : (decide ((0 : Int) ≤ t) && decide (t < (A.length : Int))) = true := h2
      have t12 : ((((A.getD t.toNat [])).getD 12 .top).toI) = cI A t.toNat 12 := rfl
      have t17 : ((((A.getD t.toNat [])).getD 17 .top).toI) = cI A t.toNat 17 := rfl
      have s5 : ((((E.getD (basI E x).toNat [])).getD 5 .top).toI) = cI E (basI E x).toNat 5 := rfl
      have s0 : ((((E.getD (basI E x).toNat [])).getD 0 .top).toI) = cI E (basI E x).toNat 0 := rfl
      have s9 : ((((E.getD (basI E x).toNat [])).getD 9 .top).toI) = cI E (basI E x).toNat 9 := rfl
      have s12 : ((((E.getD (basI E x).toNat [])).getD 12 .top).toB) = cB E (basI E x).toNat 12 := rfl
      simp only [Bool.not_true, Bool.true_and, F35_eq A B E C D hE (show 210 ≤ N + 1 by omega), e1, e2, tst, F36_eq (show 1 < N + 1 by omega), t12, t17, s5, s0, s9, s12]
      cases (cI A t.toNat 0 == 6) with
      | false => rfl
      | true =>
        cases alk B (cI E (basI E x).toNat 5) (cI A t.toNat 12) with
        | false => rfl
        | true =>
          by_cases h7 : cI E (basI E x).toNat 0 = 7
          · rw [bne_f h7, beq_t h7]
            cases cB E (basI E x).toNat 12 with
            | false => rfl
            | true =>
              by_cases h : cI E (basI E x).toNat 9 ≤ cI A t.toNat 17
              · rw [decide_eq_false (show ¬ cI A t.toNat 17 < cI E (basI E x).toNat 9 by omega), if_pos h]; rfl
              · rw [decide_eq_true (show cI A t.toNat 17 < cI E (basI E x).toNat 9 by omega), if_neg h]; rfl
          · rw [bne_t h7, beq_f h7]
            rfl
def cvt (A B : List Row) (x y : Int) : Int :=
  if (inR A x && inR A y) = false then 2
  else if ((cI A x.toNat 0 == 6) && (cI A y.toNat 0 == 6) && conv A B x y) = false then 90
  else if cI A x.toNat 17 ≤ cI A y.toNat 17 then 0 else 120
theorem F18_eq {N : Nat} (A B E C D : List Row) (hA : A.length ≤ 60) (hN : 230 ≤ N) (x y : Int) : F18v1 N A B E C D x y = some (.r (cvt A B x y)) := by
  obtain ⟨N, rfl⟩ : ∃ m, N = m + 2 := ⟨N - 2, by omega⟩
  have hp : 0 < N := by omega
  unfold cvt
  simp only [F18v1, F37v1, F29_eq hp]
  cases h1 : inR A x with
  | false => rfl
  | true =>
    cases h2 : inR A y with
    | false => rfl
    | true =>
      have e1 : (decide ((0 : Int) ≤ x) && decide (x < (A.length : Int))) = true := h1
      have e2 : (decide ((0 : Int) ≤ y) && decide (y < (A.length : Int))) = true := h2
      have a0 : ((((A.getD x.toNat [])).getD 0 .top).toI) = cI A x.toNat 0 := rfl
      have b0 : ((((A.getD y.toNat [])).getD 0 .top).toI) = cI A y.toNat 0 := rfl
      have a17 : ((((A.getD x.toNat [])).getD 17 .top).toI) = cI A x.toNat 17 := rfl
      have b17 : ((((A.getD y.toNat [])).getD 17 .top).toI) = cI A y.toNat 17 := rfl
      simp only [Bool.not_true, F38v1, F40v1, e1, e2, tst, F39_eq A B E C D hA (show 220 ≤ N by omega), a0, b0, a17, b17]
      cases (cI A x.toNat 0 == 6) with
      | false => rfl
      | true =>
        cases (cI A y.toNat 0 == 6) with
        | false => rfl
        | true =>
          cases conv A B x y with
          | false => rfl
          | true =>
            simp only [Bool.not_true, e1, e2, tst, a17, b17]
            by_cases h : cI A x.toNat 17 ≤ cI A y.toNat 17
            · simp [h]
            · simp [h]
theorem F19_eq {N : Nat} (A B E C D : List Row) (hA : A.length ≤ 60) (hN : 230 ≤ N) (x y : Int) : F19 N A B E C D x y = some (.r (cvt A B x y)) := by
  obtain ⟨N, rfl⟩ : ∃ m, N = m + 2 := ⟨N - 2, by omega⟩
  have hp : 0 < N + 1 := by omega
  unfold cvt
  simp only [F19, F34_eq hp, J19a30, J19a62]
  cases h1 : inR A x with
  | false => rfl
  | true =>
    cases h2 : inR A y with
    | false => rfl
    | true =>
      have e1 : (decide ((0 : Int) ≤ x) && decide (x < (A.length : Int))) = true := h1
      have e2 : (decide ((0 : Int) ≤ y) && decide (y < (A.length : Int))) = true := h2
      have a17 : ((((A.getD x.toNat [])).getD 17 .top).toI) = cI A x.toNat 17 := rfl
      have b17 : ((((A.getD y.toNat [])).getD 17 .top).toI) = cI A y.toNat 17 := rfl
      simp only [Bool.not_true, Bool.true_and, e1, e2, tst, F41_eq A B E C D hA (show 220 ≤ N + 1 by omega), a17, b17]
      cases (cI A x.toNat 0 == 6) with
      | false => rfl
      | true =>
        cases (cI A y.toNat 0 == 6) with
        | false => rfl
        | true =>
          cases conv A B x y with
          | false => rfl
          | true =>
            simp only [Bool.not_true, e1, e2, tst, a17, b17]
            by_cases h : cI A x.toNat 17 ≤ cI A y.toNat 17
            · rw [decide_eq_false (show ¬ cI A y.toNat 17 < cI A x.toNat 17 by omega), if_pos h]; rfl
            · rw [decide_eq_true (show cI A y.toNat 17 < cI A x.toNat 17 by omega), if_neg h]; rfl
theorem great_f {A B E : List Row} (h : greatB A B E = false) : E.length ≤ 200 ∧ A.length ≤ 60 ∧ B.length ≤ 100 := by
  unfold greatB at h
  simp only [Bool.or_eq_false_iff, decide_eq_false_iff_not] at h
  omega
theorem checks_true (A B E C D : List Row) (x y z : Int) : F4 301 A B E C D x y z = some (.r true) := by
  simp only [F4, F8_eq A B E C D 300 (by omega), head_true]
  cases hg : greatB A B E with
  | true => rfl
  | false =>
    obtain ⟨hE, hA, _⟩ := great_f hg
    simp only [F16_eq A B E C D hE (show 220 ≤ 300 by omega), F17_eq A B E C D hE (show 220 ≤ 300 by omega), F18_eq A B E C D hA (show 230 ≤ 300 by omega), F19_eq A B E C D hA (show 230 ≤ 300 by omega), beq_self_eq_true]
end Go.Proofs.YtdennlgnbecojaaDoor

namespace Go.Proofs.YtdennlgnbecojaaDoor
open Go Go.Eng
/-- A region and all around it. -/
def chain (E : List Row) (r : Nat) : List Nat :=
  r :: (if h : 0 ≤ ow E r ∧ ow E r < (r : Int) then chain E (ow E r).toNat else [])
termination_by r
decreasing_by omega
theorem chain_len (E : List Row) : ∀ r : Nat, (chain E r).length ≤ r + 1 := by
  intro r
  induction r using Nat.strongRecOn with
  | _ r ih =>
    rw [chain]
    split
    · have := ih (ow E r).toNat (by omega)
      simp only [List.length_cons]; omega
    · simp
theorem chain_self (E : List Row) (r : Nat) : r ∈ chain E r := by rw [chain]; exact List.mem_cons_self
theorem chain_mem {E : List Row} {r y : Nat} : y ∈ chain E r ↔ y = r ∨ ((0 ≤ ow E r ∧ ow E r < (r : Int)) ∧ y ∈ chain E (ow E r).toNat) := by
  rw [chain]
  simp only [List.mem_cons]
  by_cases h : 0 ≤ ow E r ∧ ow E r < (r : Int)
  · rw [dif_pos h]
    exact ⟨fun h1 => h1.elim .inl (fun h2 => .inr ⟨h, h2⟩), fun h1 => h1.elim .inl (fun h2 => .inr h2.2)⟩
  · rw [dif_neg h]
    exact ⟨fun h1 => h1.elim .inl (fun h2 => by cases h2), fun h1 => h1.elim .inl (fun h2 => absurd h2.1 h)⟩
theorem chain_trans {E : List Row} {x y z : Nat} (h1 : y ∈ chain E x) (h2 : z ∈ chain E y) : z ∈ chain E x := by
  induction x using Nat.strongRecOn with
  | _ x ih =>
    rcases chain_mem.1 h1 with rfl | ⟨ho, h3⟩
    · exact h2
    · exact chain_mem.2 (.inr ⟨ho, ih _ (by omega) h3⟩)
theorem chain_lin {E : List Row} {x y z : Nat} (h1 : y ∈ chain E x) (h2 : z ∈ chain E x) : z ∈ chain E y ∨ y ∈ chain E z := by
  induction x using Nat.strongRecOn with
  | _ x ih =>
    rcases chain_mem.1 h1 with rfl | ⟨ho, h3⟩
    · exact .inl h2
    · rcases chain_mem.1 h2 with rfl | ⟨_, h4⟩
      · exact .inr h1
      · exact ih _ (by omega) h3 h4

/-- No region but the first one is the standard's. -/
def noStd (E : List Row) : Prop := ∀ i, 1 ≤ i → i < E.length → kd E i ≠ 1
theorem std_zero {E : List Row} (h : noStd E) {r : Nat} (hr : r < E.length) (hk : kd E r = 1) : r = 0 := by
  refine Classical.byContradiction fun hc => h r (by omega) hr hk
theorem std_chain {E : List Row} (h : noStd E) {r : Nat} (hr : r < E.length) (hk : kd E r = 1) {y : Nat} (hy : y ∈ chain E r) : y = r := by
  have := std_zero h hr hk
  subst this
  rcases chain_mem.1 hy with rfl | ⟨ho, _⟩
  · rfl
  · omega
theorem reg_val {E : List Row} {r : Nat} (h : 0 ≤ reg E r) (hk : kd E r ≠ 1) : reg E r = if plain (kd E r) = true then reg E (ow E r).toNat + 1 else reg E (ow E r).toNat := by
  obtain ⟨hr, ho, h2, h3⟩ := reg_pos h hk
  rw [reg, if_pos hr, if_neg hk, dif_pos ho, if_neg (by omega)]
  rcases h3 with ⟨h3, h4⟩ | ⟨h3, h4⟩
  · rw [if_pos h3, h4]; rfl
  · rw [if_neg h3, h4]; rfl
/-- Levels do not grow outwards. -/
theorem reg_chain {E : List Row} (h : noStd E) : ∀ {r y : Nat}, 0 ≤ reg E r → y ∈ chain E r → 0 ≤ reg E y ∧ reg E y ≤ reg E r := by
  intro r
  induction r using Nat.strongRecOn with
  | _ r ih =>
    intro y hr hy
    rcases chain_mem.1 hy with rfl | ⟨ho, h3⟩
    · exact ⟨hr, Int.le_refl _⟩
    · by_cases hk : kd E r = 1
      · rw [std_chain h (reg_lt hr) hk hy]
        exact ⟨hr, Int.le_refl _⟩
      · obtain ⟨_, _, h2, _⟩ := reg_pos hr hk
        obtain ⟨h4, h5⟩ := ih _ (by omega) h2 h3
        have := reg_val hr hk
        refine ⟨h4, ?_⟩
        split at this <;> omega
/-- The master of a region. -/
theorem mst_spec {E : List Row} : ∀ {r : Nat}, 0 ≤ reg E r → ∃ m : Nat, mst E r = (m : Int) ∧ m ∈ chain E r ∧ reg E m = reg E r ∧ (kd E m = 1 ∨ plain (kd E m) = true) := by
  intro r
  induction r using Nat.strongRecOn with
  | _ r ih =>
    intro hr
    rw [mst, if_neg (by omega)]
    by_cases hk : kd E r = 1 ∨ plain (kd E r) = true
    · rw [if_pos hk]
      exact ⟨r, rfl, chain_self E r, rfl, hk⟩
    · rw [if_neg hk]
      have hk1 : kd E r ≠ 1 := fun h => hk (.inl h)
      obtain ⟨_, ho, h2, _⟩ := reg_pos hr hk1
      rw [dif_pos ho]
      obtain ⟨m, h3, h4, h5, h6⟩ := ih _ (by omega) h2
      refine ⟨m, h3, chain_mem.2 (.inr ⟨ho, h4⟩), ?_, h6⟩
      rw [h5, reg_val hr hk1, if_neg (fun h => hk (.inr h))]
/-- A master of the same level, farther out, is the same. -/
theorem mst_eq {E : List Row} (h : noStd E) {a b : Nat} (ha : 0 ≤ reg E a) (hk : kd E a = 1 ∨ plain (kd E a) = true) (hb : b ∈ chain E a) (hab : reg E a ≤ reg E b) : b = a := by
  rcases chain_mem.1 hb with rfl | ⟨ho, h3⟩
  · rfl
  · rcases hk with hk | hk
    · exact std_chain h (reg_lt ha) hk hb
    · have hk1 : kd E a ≠ 1 := by
        intro hc; rw [hc] at hk; cases hk
      obtain ⟨_, _, h2, _⟩ := reg_pos ha hk1
      have h4 := (reg_chain h h2 h3).2
      have := reg_val ha hk1
      rw [if_pos hk] at this
      omega

/-- Inside: the region y is x or around it. -/
def ins (E : List Row) (x y : Int) : Bool := inR E x && (chain E x.toNat).any fun i => ((i : Nat) : Int) == y
theorem ins_nat {E : List Row} {r : Nat} {y : Int} (hr : r < E.length) : ins E (r : Int) y = (chain E r).any fun i => ((i : Nat) : Int) == y := by
  unfold ins inR
  rw [decide_eq_true (show (0 : Int) ≤ (r : Int) by omega), decide_eq_true (show (r : Int) < (E.length : Int) by omega)]
  simp
theorem ins_mem {E : List Row} {r y : Nat} (hr : r < E.length) : ins E (r : Int) (y : Int) = true ↔ y ∈ chain E r := by
  rw [ins_nat hr, List.any_eq_true]
  constructor
  · rintro ⟨i, h1, h2⟩
    have : i = y := by have := eq_of_beq h2; omega
    exact this ▸ h1
  · intro h; exact ⟨y, h, by simp⟩

/-! ### The walks -/
theorem F20_eq (A B E C D : List Row) (hl : E.length ≤ 200) {N : Nat} (hN : 210 ≤ N) : ∃ b, F20 N A B E C D = some (.r b) ∧ (b = false → noStd E) := by
  have go : ∀ (k i n : Nat), i + k = E.length → k < n → ∃ o, L20a26 (N - 1) n (i : Int) A B E C D = some o ∧ ((∃ a1 a2 a3 a4 a5, o = .ret true a1 a2 a3 a4 a5) ∨ (o = .x0 A B E C D ∧ ∀ j, i ≤ j → j < E.length → kd E j ≠ 1)) := by
    intro k
    induction k with
    | zero =>
      intro i n hi hn
      obtain ⟨n, rfl⟩ : ∃ m, n = m + 1 := ⟨n - 1, by omega⟩
      simp only [L20a26, decide_eq_false (show ¬ ((i : Int) < (E.length : Int)) by omega)]
      exact ⟨_, rfl, .inr ⟨rfl, fun j h1 h2 => by omega⟩⟩
    | succ k ih =>
      intro i n hi hn
      obtain ⟨n, rfl⟩ : ∃ m, n = m + 1 := ⟨n - 1, by omega⟩
      have e0 : decide ((i : Int) < (E.length : Int)) = true := by simp; omega
      have e1 : decide ((0 : Int) ≤ (i : Int)) = true := by simp
      have e2 : IntKind.wrap .i64 ((i : Int) + 1) = ((i + 1 : Nat) : Int) := by rw [wrap_id (by unfold inI; omega)]; omega
      have c0 : ((((E.getD ((i : Int).toNat) [])).getD 0 .top).toI) = kd E i := rfl
      simp only [L20a26, e0, e1, e2, Bool.and_self, tst, c0]
      by_cases hk : kd E i = 1
      · rw [beq_t hk]
        exact ⟨_, rfl, .inl ⟨A, B, E, C, D, rfl⟩⟩
      · rw [beq_f hk]
        obtain ⟨o, h1, h2⟩ := ih (i + 1) n (by omega) (by omega)
        refine ⟨o, h1, ?_⟩
        rcases h2 with h2 | ⟨h2, h3⟩
        · exact .inl h2
        · refine .inr ⟨h2, fun j hj1 hj2 => ?_⟩
          by_cases hj : j = i
          · subst hj; exact hk
          · exact h3 j (by omega) hj2
  obtain ⟨N, rfl⟩ : ∃ m, N = m + 1 := ⟨N - 1, by omega⟩
  by_cases h0 : E.length = 0
  · obtain ⟨N, rfl⟩ : ∃ m, N = m + 1 := ⟨N - 1, by omega⟩
    refine ⟨false, ?_, fun _ i h1 h2 => by omega⟩
    simp only [F20, L20a26, decide_eq_false (show ¬ ((1 : Int) < (E.length : Int)) by omega)]
  · obtain ⟨o, h1, h2⟩ := go (E.length - 1) 1 N (by omega) (by omega)
    have h1' : L20a26 N N 1 A B E C D = some o := h1
    simp only [F20, h1']
    rcases h2 with ⟨a1, a2, a3, a4, a5, rfl⟩ | ⟨rfl, h3⟩
    · exact ⟨true, rfl, fun h => by cases h⟩
    · exact ⟨false, rfl, fun _ i h4 h5 => h3 i h4 h5⟩
def rowI (i : Nat) : Row := [.int .i64 (i : Int)]
def w43 : OL43a58 → List Row
  | .x0 _ _ _ _ _ b => b
theorem L43_out (A B E C D b : List Row) {N n : Nat} (hN : 0 < N) {x : Int} (h : inR E x = false) : ∃ o, L43a58 N (n + 1) x A B E C D b = some o ∧ w43 o = b := by
  simp only [L43a58, F48_eq hN, h]
  exact ⟨_, rfl, rfl⟩
theorem L43_eq (A B E C D : List Row) (hl : E.length ≤ 200) : ∀ (r n N : Nat) (b : List Row), r + 1 < n → 0 < N → r < E.length → b.length + r ≤ 1000 → ∃ o, L43a58 N n (r : Int) A B E C D b = some o ∧ w43 o = b ++ (chain E r).map rowI := by
  intro r
  induction r using Nat.strongRecOn with
  | _ r ih =>
    intro n N b hn hN hr hb
    obtain ⟨n, rfl⟩ : ∃ m, n = m + 1 := ⟨n - 1, by omega⟩
    rw [chain]
    have e0 : inR E (r : Int) = true := by unfold inR; simp; omega
    have e2 : (decide ((0 : Int) ≤ (r : Int)) && decide ((r : Int) < (E.length : Int))) = true := by simp; omega
    have e3 : decide (((b.length + 1) * 8) ≤ 140737488355328) = true := by simp; omega
    have c2 : ((((E.getD ((r : Int).toNat) [])).getD 2 .top).toI) = ow E r := rfl
    simp only [L43a58, F48_eq hN, e0, e2, e3, tst, c2]
    by_cases h1 : (r : Int) ≤ ow E r
    · rw [decide_eq_true h1, dif_neg (by omega)]
      exact ⟨_, rfl, rfl⟩
    · rw [decide_eq_false h1]
      by_cases h2 : 0 ≤ ow E r
      · rw [dif_pos ⟨h2, by omega⟩]
        obtain ⟨o, h3, h4⟩ := ih (ow E r).toNat (by omega) n N (b ++ [[.int .i64 (r : Int)]]) (by omega) hN (by omega) (by simp; omega)
        rw [show (((ow E r).toNat : Nat) : Int) = ow E r by omega] at h3
        refine ⟨o, h3, ?_⟩
        rw [h4]
        simp [rowI]
      · rw [dif_neg (by omega)]
        obtain ⟨n, rfl⟩ : ∃ m, n = m + 1 := ⟨n - 1, by omega⟩
        obtain ⟨o, h3, h4⟩ := L43_out A B E C D (b ++ [[.int .i64 (r : Int)]]) (n := n) hN (x := ow E r) (by
          unfold inR
          rw [decide_eq_false h2]; rfl)
        refine ⟨o, h3, ?_⟩
        rw [h4]; rfl
theorem F42_eq (T : List Row) (hl : T.length ≤ 300) {N : Nat} (hN : 302 ≤ N) (y : Int) : F42 N T y = some (.r (T.any fun row => (row.getD 0 .top).toI == y)) := by
  have go : ∀ (k i n : Nat), i + k = T.length → k < n → ∃ o, L42a26 (N - 1) n T y (i : Int) = some o ∧ o = (if ((T.drop i).any fun row => (row.getD 0 .top).toI == y) = true then .ret true else .x0) := by
    intro k
    induction k with
    | zero =>
      intro i n hi hn
      obtain ⟨n, rfl⟩ : ∃ m, n = m + 1 := ⟨n - 1, by omega⟩
      simp only [L42a26, decide_eq_false (show ¬ ((i : Int) < (T.length : Int)) by omega)]
      refine ⟨_, rfl, ?_⟩
      rw [List.drop_eq_nil_of_le (by omega)]; rfl
    | succ k ih =>
      intro i n hi hn
      obtain ⟨n, rfl⟩ : ∃ m, n = m + 1 := ⟨n - 1, by omega⟩
      have e0 : decide ((i : Int) < (T.length : Int)) = true := by simp; omega
      have e1 : decide ((0 : Int) ≤ (i : Int)) = true := by simp
      have e2 : IntKind.wrap .i64 ((i : Int) + 1) = ((i + 1 : Nat) : Int) := by rw [wrap_id (by unfold inI; omega)]; omega
      have hi' : i < T.length := by omega
      have c0 : ((((T.getD ((i : Int).toNat) [])).getD 0 .top).toI) = (T[i].getD 0 .top).toI := by
        rw [show ((i : Int)).toNat = i from rfl]
        simp [List.getD, hi']
      simp only [L42a26, e0, e1, e2, Bool.and_self, tst, c0]
      rw [List.drop_eq_getElem_cons hi', List.any_cons]
      by_cases hk : (T[i].getD 0 .top).toI = y
      · rw [beq_t hk]
        exact ⟨_, rfl, rfl⟩
      · rw [beq_f hk]
        obtain ⟨o, h1, h2⟩ := ih (i + 1) n (by omega) (by omega)
        exact ⟨o, h1, h2⟩
  obtain ⟨N, rfl⟩ : ∃ m, N = m + 1 := ⟨N - 1, by omega⟩
  obtain ⟨o, h1, h2⟩ := go T.length 0 N (by omega) (by omega)
  have h1' : L42a26 N N T y 0 = some o := h1
  simp only [F42, h1', h2, List.drop_zero]
  cases (T.any fun row => (row.getD 0 .top).toI == y) <;> rfl
theorem F21_eq (A B E C D : List Row) (hl : E.length ≤ 200) {N : Nat} (hN : 304 ≤ N) (x y : Int) : F21 N A B E C D x y = some (.r (ins E x y)) := by
  obtain ⟨N, rfl⟩ : ∃ m, N = m + 2 := ⟨N - 2, by omega⟩
  have hp : 0 < N := by omega
  unfold ins
  cases h : inR E x with
  | false =>
    obtain ⟨n, rfl⟩ : ∃ m, N = m + 1 := ⟨N - 1, by omega⟩
    obtain ⟨o, h1, h2⟩ := L43_out A B E C D [] (n := n) hp h
    simp only [F21, F43, h1]
    cases o
    simp only [w43] at h2
    subst h2
    simp only [F42_eq [] (by simp) (show 302 ≤ n + 1 + 1 by omega)]
    rfl
  | true =>
    have h' := inR_t h
    obtain ⟨r, rfl⟩ := Int.eq_ofNat_of_zero_le h'.1
    obtain ⟨o, h1, h2⟩ := L43_eq A B E C D hl r N N [] (by omega) hp (by omega) (by simp; omega)
    simp only [F21, F43, h1]
    cases o
    simp only [w43, List.nil_append] at h2
    subst h2
    have hc := chain_len E r
    simp only [F42_eq ((chain E r).map rowI) (by simp; omega) (show 302 ≤ N + 1 by omega), Bool.true_and]
    rw [List.any_map]
    rfl
theorem head_true4 : F9 400 = some (.r true) := by kernel_rfl
theorem J5b_neg (a b ma mb : Int) (ha : a < 0 → ma = -1) (hb : b < 0 → mb = -1) (h : a < 0 ∨ b < 0) : J5a62 400 a b ma mb = some (.ret true) := by
  simp only [J5a62, head_true4]
  by_cases h1 : a < 0
  · rw [decide_eq_true h1, decide_eq_false (show ¬ 0 ≤ a by omega), ha h1]
    by_cases h2 : 0 ≤ b
    · rw [decide_eq_true h2]; rfl
    · rw [decide_eq_false h2, hb (by omega)]; rfl
  · rw [decide_eq_false h1, decide_eq_true (show b < 0 by omega), decide_eq_true (show 0 ≤ a by omega), decide_eq_false (show ¬ 0 ≤ b by omega), hb (by omega)]; rfl
theorem J5b_pos {a b : Int} (ma mb : Int) (ha : 0 ≤ a) (hb : 0 ≤ b) : J5a62 400 a b ma mb = some .nx := by
  simp only [J5a62]
  rw [decide_eq_false (show ¬ a < 0 by omega), decide_eq_false (show ¬ b < 0 by omega)]
theorem outlives_true (A B E C D : List Row) (hE : okE E) (x y z : Int) : F5 401 A B E C D x y z = some (.r true) := by
  simp only [F5, J5a6, F8_eq A B E C D 400 (by omega), head_true4]
  cases hg : greatB A B E with
  | true => rfl
  | false =>
    obtain ⟨hl, _, _⟩ := great_f hg
    obtain ⟨b, hb, hs⟩ := F20_eq A B E C D hl (show 210 ≤ 400 by omega)
    simp only [hb]
    cases b with
    | true => rfl
    | false =>
      have hs := hs rfl
      simp only [F21_eq A B E C D hl (show 304 ≤ 400 by omega)]
      cases hy : ins E x y with
      | false => rfl
      | true =>
        cases hz : ins E x z with
        | false => rfl
        | true =>
          simp only [Bool.not_true, F10_eqI A B E C D hE hl y 400 (by omega), F10_eqI A B E C D hE hl z 400 (by omega), F12_eqI A B E C D hE hl y 400 (by omega), F12_eqI A B E C D hE hl z 400 (by omega)]
          by_cases hneg : regI E y < 0 ∨ regI E z < 0
          · simp only [J5b_neg (regI E y) (regI E z) (mstI E y) (mstI E z) mst_none mst_none hneg]
          · have hy0 : 0 ≤ regI E y := by omega
            have hz0 : 0 ≤ regI E z := by omega
            simp only [J5b_pos (mstI E y) (mstI E z) hy0 hz0]
            have nat : ∀ {q : Int}, 0 ≤ regI E q → ∃ n : Nat, q = (n : Int) ∧ n < E.length ∧ 0 ≤ reg E n := by
              intro q hq
              have h0 : 0 ≤ q := by
                unfold regI at hq
                split at hq
                · assumption
                · omega
              obtain ⟨n, rfl⟩ := Int.eq_ofNat_of_zero_le h0
              rw [regI_nat] at hq
              exact ⟨n, rfl, reg_lt hq, hq⟩
            obtain ⟨yn, rfl, yl, yr⟩ := nat hy0
            obtain ⟨zn, rfl, zl, zr⟩ := nat hz0
            have hxr : inR E x = true := by
              unfold ins at hy
              rw [Bool.and_eq_true] at hy
              exact hy.1
            obtain ⟨xn, rfl⟩ := Int.eq_ofNat_of_zero_le (inR_t hxr).1
            have xl : xn < E.length := by have := (inR_t hxr).2; omega
            have cy := (ins_mem xl).1 hy
            have cz := (ins_mem xl).1 hz
            obtain ⟨my, e1, e2, e3, e4⟩ := mst_spec yr
            obtain ⟨mz, f1, f2, f3, f4⟩ := mst_spec zr
            have eI : mstI E (yn : Int) = (my : Int) := by unfold mstI; rw [if_pos (by omega)]; exact e1
            have fI : mstI E (zn : Int) = (mz : Int) := by unfold mstI; rw [if_pos (by omega)]; exact f1
            have myl : my < E.length := reg_lt (by omega)
            have mzl : mz < E.length := reg_lt (by omega)
            have k1 : ins E (mz : Int) (my : Int) = decide (regI E (yn : Int) ≤ regI E (zn : Int)) := by
              rw [regI_nat, regI_nat]
              rw [Bool.eq_iff_iff, ins_mem mzl, decide_eq_true_iff]
              constructor
              · intro h
                have := (reg_chain hs (by omega) h).2
                omega
              · intro h
                rcases chain_lin (chain_trans cy e2) (chain_trans cz f2) with h1 | h1
                · have := mst_eq hs (a := my) (b := mz) (by omega) e4 h1 (by omega)
                  rw [this]
                  exact chain_self E my
                · exact h1
            have k2 : ins E (yn : Int) (my : Int) = true := (ins_mem yl).2 e2
            have k3 : regI E (my : Int) = regI E (yn : Int) := by rw [regI_nat, regI_nat, e3]
            simp only [eI, fI, F21_eq A B E C D hl (show 304 ≤ 400 by omega), k1, k2, F10_eqI A B E C D hE hl (my : Int) 400 (by omega), k3, beq_self_eq_true]
end Go.Proofs.YtdennlgnbecojaaDoor

namespace Go.Proofs.YtdennlgnbecojaaDoor
open Go Go.Eng Go.ChangeShapes Go.WideShapes Go.ChangeAt Go.RowKit

theorem own : ownKnob Tryd.prog.godebug = none := by kernel_rfl
theorem laidOut : laidOutB Tryd.prog = true := by kernel_rfl
theorem rdS_ok : rdS CX rdL = true := by kernel_rfl

theorem wf_i64 {v : Int} (h : (Lit.int .i64 v).wf = true) : inI v := by
  simp only [Lit.wf, IntKind.min, IntKind.max, IntKind.signed, IntKind.bits, Bool.and_eq_true, decide_eq_true_eq, if_true] at h
  unfold inI; omega
theorem wf_u8 {v : Int} (h : (Lit.int .u8 v).wf = true) : 0 ≤ v ∧ v ≤ 255 := by
  simp only [Lit.wf, IntKind.min, IntKind.max, IntKind.signed, IntKind.bits, Bool.and_eq_true, decide_eq_true_eq, Bool.false_eq_true, if_false] at h
  omega
theorem int_of_arg {k : IntKind} {t : TypeId} {x : AV} (ha : (CX.ti t).u.agg = false) (hk : (CX.ti t).ks = [.int k]) (h : ArgAV CX t x) : ∃ v, x = .int k v ∧ (Lit.int k v).wf = true := by
  rcases h with ⟨h1, _⟩ | ⟨_, h2, h3⟩
  · rw [ha] at h1; cases h1
  · rw [hk] at h2
    simp only [koks, Bool.and_true] at h2
    cases x <;> simp only [kok, Bool.false_eq_true] at h2
    have e := eq_of_beq h2
    subst e
    cases h3 with
    | int _ _ h => exact ⟨_, rfl, h⟩
theorem cell_of {ks : List Kind} {row : Row} (h2 : koks ks row = true) (h3 : WfL CX.K row) {j : Nat} {k : IntKind} (hk : ks[j]? = some (.int k)) : ∃ n, row.getD j .top = .int k n ∧ (Lit.int k n).wf = true := by
  have hl := koks_length h2
  have hj : j < row.length := by
    have := (List.getElem?_eq_some_iff.1 hk).1; omega
  have h4 := koks_get h2 hk (List.getElem?_eq_getElem hj)
  have h5 := h3 _ (List.getElem_mem hj)
  have h6 : row.getD j .top = row[j] := by simp [List.getD, hj]
  rw [h6]
  generalize row[j] = x at h4 h5
  cases x <;> simp only [kok, Bool.false_eq_true] at h4
  have e := eq_of_beq h4
  subst e
  cases h5 with
  | int _ _ h => exact ⟨_, rfl, h⟩
theorem list_of {t : TypeId} {x : AV} (h : kok (.slice t) x = true) (hw : Wf CX.K x) : ∃ T, x = .list t T ∧ T.length ≤ maxLen ∧ ∀ row ∈ T, koks (CX.K t) row = true ∧ WfL CX.K row := by
  cases x <;> simp only [kok, Bool.false_eq_true] at h
  have e := eq_of_beq h
  subst e
  cases hw with
  | list _ _ hl hk h => exact ⟨_, rfl, hl, fun row hr => ⟨hk row hr, fun x hx => h row hr x hx⟩⟩
theorem okE_of {E : List Row} (h : ∀ row ∈ E, koks (CX.K 45) row = true ∧ WfL CX.K row) (h0 : (CX.K 45)[0]? = some (.int .u8)) : okE E := by
  intro i hi
  obtain ⟨h1, h2⟩ := h _ (List.getElem_mem hi)
  obtain ⟨n, h3, h4⟩ := cell_of h1 h2 h0
  have e : kd E i = n := by
    unfold kd cI
    rw [show E.getD i [] = E[i] by simp [List.getD, hi], h3]
    rfl
  rw [e]
  exact wf_u8 h4
theorem tab_of_arg {x : AV} (ha : (CX.ti 28).u.agg = true) (hk : (CX.ti 28).ks = [.slice 58, .slice 74, .slice 45, .slice 113, .slice 117]) (h : ArgAV CX 28 x) : ∃ A B E C D, x = .agg [.list 58 A, .list 74 B, .list 45 E, .list 113 C, .list 117 D] ∧ okE E := by
  rcases h with ⟨_, row, rfl, h2, h3⟩ | ⟨h1, _⟩
  · rw [hk] at h2
    match row, h2, h3 with
    | [a, b, c, d, e], h2, h3 =>
      simp only [koks, Bool.and_eq_true] at h2
      obtain ⟨k1, k2, k3, k4, k5, _⟩ := h2
      obtain ⟨A, rfl, _⟩ := list_of k1 (h3 _ (by simp))
      obtain ⟨B, rfl, _⟩ := list_of k2 (h3 _ (by simp))
      obtain ⟨E, rfl, _, hE⟩ := list_of k3 (h3 _ (by simp))
      obtain ⟨C, rfl, _⟩ := list_of k4 (h3 _ (by simp))
      obtain ⟨D, rfl, _⟩ := list_of k5 (h3 _ (by simp))
      exact ⟨A, B, E, C, D, rfl, okE_of hE (by kernel_rfl)⟩
    | [], h2, _ => simp [koks] at h2
    | [_], h2, _ => simp [koks] at h2
    | [_, _], h2, _ => simp [koks] at h2
    | [_, _, _], h2, _ => simp [koks] at h2
    | [_, _, _, _], h2, _ => simp [koks] at h2
    | _ :: _ :: _ :: _ :: _ :: _ :: _, h2, _ => simp [koks] at h2
  · rw [ha] at h1; cases h1

theorem gAdds : Tryd.prog.globalNamed "ceiling/level.adds" = some 0 := by kernel_rfl
theorem tAdds : (Tryd.prog.globals[0]?).map (·.type) = some 51 := by kernel_rfl
theorem laid_eq : (Rows.laid_ceiling_level_adds : DataW Unit) = Lib.tabData .i64 (gl0.map AV.toI) := by kernel_rfl
theorem gl0_all : (gl0.all fun x => match x with | .int .i64 _ => true | _ => false) = true := by kernel_rfl
theorem plain_laid : (Rows.levelOutlivesRow.laid.all fun x => x.2.handleName?.isNone) = true := by kernel_rfl
/-- The pointer to the table, in a world where it is laid. -/
theorem glob_rep {W : World} (h : laidMetH Tryd.prog Rows.levelOutlivesRow.laid W) : ∀ g, Rep CX.K [] (there W) W (CX.glob g) (.pointer (some ⟨g, 0, none⟩)) := by
  intro g
  rw [MakeChecks.laidMetH_plain _ _ _ plain_laid] at h
  have h' : laidMet Tryd.prog (("ceiling/level.adds", Lib.tabData .i64 (gl0.map AV.toI)) :: []) W := by rw [← laid_eq]; exact h
  have hT := Lib.tabIs_of_head (k := .i64) (n := 256) (t := 51) (e := 3) gAdds tAdds (by kernel_rfl) (by kernel_rfl) (by kernel_rfl) (by kernel_rfl) h'
  match g with
  | 0 =>
    refine rep_table (X := CX) (t := 51) (row := gl0) (g := 0) (by kernel_rfl) (fun j x hx => ?_) ?_
    · have hj := (List.getElem?_eq_some_iff.1 hx).1
      have h1 := hT.cell gAdds j (by simpa using hj)
      have h2 := List.all_eq_true.1 gl0_all x (List.mem_of_getElem? hx)
      have h3 : (gl0.map AV.toI).getD j 0 = x.toI := by simp [List.getD, List.getElem?_map, hx]
      rw [h3] at h1
      cases x with
      | int k n =>
        cases k <;> first | exact ⟨_, _, rfl, h1⟩ | cases h2
      | _ => cases h2
    · exact World.block_lt_of_cell? W _ (hT.cell gAdds 0 (Nat.lt_of_lt_of_eq (by decide : 0 < 256) (by kernel_rfl)))
  | g + 1 => exact .top _
theorem door_met (os : Os) (args : Array Value) : laidMetH Tryd.prog Rows.levelOutlivesRow.laid ((World.doorLaid Tryd.prog 400 os).forCall (fun _ _ => 0) ⟨#[], args, []⟩).memory :=
  laidMetH_of_parts3 (fuel := 8) (laidMet_of_run' 8 (by kernel_rfl) (by kernel_rfl)) (by kernel_rfl) (by kernel_rfl)

theorem law5 (xs : List AV) (h : ArgsAV CX [28, 3, 3, 3] xs) : ∃ m M', FCalls CX 5 m xs [] (.bool true) M' := by
  match xs, h with
  | [x0, x1, x2, x3], ⟨hx0, hx1, hx2, hx3, _⟩ =>
    obtain ⟨A, B, E, C, D, rfl, tE⟩ := tab_of_arg (by kernel_rfl) (by kernel_rfl) hx0
    obtain ⟨v1, rfl, p1⟩ := int_of_arg (k := .i64) (by kernel_rfl) (by kernel_rfl) hx1
    obtain ⟨v2, rfl, p2⟩ := int_of_arg (k := .i64) (by kernel_rfl) (by kernel_rfl) hx2
    obtain ⟨v3, rfl, p3⟩ := int_of_arg (k := .i64) (by kernel_rfl) (by kernel_rfl) hx3
    exact ⟨_, _, soundF5 401 (fun i => match i with | 0 => .agg [.list 58 A, .list 74 B, .list 45 E, .list 113 C, .list 117 D] | 1 => .int .i64 v1 | 2 => .int .i64 v2 | _ => .int .i64 v3) [] (.r true) (outlives_true A B E C D tE _ _ _)⟩

set_option maxRecDepth 100000 in
theorem lifted5 (os : Os) (started : os.Started) (H : Type) (enc : TypeId × Value → H) :
    ReturnsInHanded {} Tryd.checked os 5 .any (fun w args => (Rows.levelOutlivesSpec.pre enc Tryd.prog Tryd.f5 [] false w args ∧ laidMetH Tryd.prog Rows.levelOutlivesRow.laid w) ∧ sizedMet enc Tryd.prog Tryd.f5 (OpenSpec.ofChange Rows.levelOutlivesSpec) false w args)
      (Rows.levelOutlivesSpec.post enc Tryd.prog Tryd.f5 false true false false) := by
  refine returnsInHanded_of_change_and (C := Tryd.checked) (X := fun w _ => laidMetH Tryd.prog Rows.levelOutlivesRow.laid w) (fun _ _ _ hh h => h.of_heap hh) own started (by kernel_rfl) Tryd.func5
    (ChangeSpec.witness_shaped (enc := enc) (C := Tryd.checked) (os := os) (X := fun w _ => laidMetH Tryd.prog Rows.levelOutlivesRow.laid w) false (World.doorLaid Tryd.prog 400 os) #[.agg #[.slice none 0 0, .slice none 0 0, .slice none 0 0, .slice none 0 0, .slice none 0 0], .int .i64 0, .int .i64 0, .int .i64 0] 8 rfl (World.shaped_of_RefB (by kernel_rfl) (by kernel_rfl)) (by kernel_rfl) (by kernel_rfl) (by kernel_rfl) (door_met os _)) ?_
  intro W base args ds gs before hval hW _ _ hL _
  exact law_contract' (X := CX) hX laidOut (ts := [28, 3, 3, 3]) (tb := 4) (S := rdL) (by kernel_rfl) (by kernel_rfl) Tryd.underlying4 rdS_ok (by kernel_rfl) (by kernel_rfl) rfl
    (fun ds hds => by match ds, hds with | [d0, d1, d2, d3], _ => rfl) law5 W (glob_rep hL) base args ds gs before hval hW

theorem levelOutlivesSaid_holds : Rows.LevelOutlivesSaid :=
  OpenClaim.holds_of_wide 5 Tryd.f5 rfl rfl rfl rfl rfl rfl rfl ⟨rfl, rfl, rfl, rfl, rfl⟩ rfl rfl rfl rfl rfl (by kernel_rfl) Tryd.func5 (by kernel_rfl)
    (of_decide_eq_true (by kernel_rfl)) (by unfold Func.isWrapper; first | (rw [if_pos (by decide +kernel)]; kernel_rfl) | (rw [if_neg (by decide +kernel)]; exact ⟨rfl, rfl⟩))
    (fun os started H enc _ => lifted5 os started H enc)

theorem levelOutlives_holds : Rows.LevelOutlivesCardSaid :=
  Claim7.holds_tied_plain_at .later [] [.data] true (true, "35c39ec9600e20088838671d6c4fa4e0c5eb404779fbb072620c376af2f2eb37") false
    levelOutlivesSaid_holds (fun _ h => by cases h) (by kernel_rfl) (fun _ h => by cases h) levelOutlives_row_tie rfl ⟨rfl, rfl⟩ (by kernel_rfl) rfl
    (fun f fn hf hfn => by
      obtain rfl : f = 5 := Option.some.inj ((show Tryd.prog.funcNamed "ceiling/ceilinglaw12.LevelOutlives" = some 5 by kernel_rfl).symm.trans hf) |>.symm
      obtain rfl : fn = Tryd.f5 := (Option.some.inj (Tryd.func5.symm.trans hfn)).symm
      exact ⟨by kernel_rfl, fun j t ht => by
        rw [Tryd.params5] at ht
        have hm : t ∈ [28, 3, 3, 3] := by simpa using Array.mem_of_getElem? ht
        have hall : ([28, 3, 3, 3].all fun u => !Tryd.prog.wantsStandIn u) = true := by kernel_rfl
        exact (show Tryd.prog.wantsStandIn t = false by simpa using List.all_eq_true.1 hall t hm)⟩)
    (by kernel_rfl)

#print axioms levelOutlives_holds
end Go.Proofs.YtdennlgnbecojaaDoor
