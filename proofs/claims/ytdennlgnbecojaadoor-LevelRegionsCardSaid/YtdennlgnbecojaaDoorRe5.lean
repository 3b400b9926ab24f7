/-
  Plain laws of chapter 12: levels and masters of regions, in both texts.
  Plain laws of chapter 12: masters of regions.
  Plain laws of chapter 12: tables that may be. Printed by mkSD.py.
  What is proved: ceilinglaw12.LevelRegions returns true for every input, and leaves its arguments as they were. The table ceiling/level.adds stands as the program's text lays it (the card ties it).
-/
import Derived.Test.YtdennlgnbecojaaDoorRe4
import Derived.Test.YtdennlgnbecojaaDoorRows
import Derived.Test.YtdennlgnbecojaaDoorTie
import Derived.Test.YtdennlgnbecojaaDoorCards
import Derived.Test.YtdennlgnbecojaaDoorRe3
import Derived.WalkKit
import Derived.ProofKit
import Derived.OpenShut
import Derived.LaidMore
import Derived.Stop.Joined
import Derived.SevenTiedAt
import Derived.MakeChecks
import Derived.Lib.LaidTab
set_option linter.all false
set_option linter.deprecated false
namespace Go.Proofs.YtdennlgnbecojaaDoor
open Go Go.Eng

def inI (x : Int) : Prop := -9223372036854775808 ≤ x ∧ x ≤ 9223372036854775807
theorem wrap_id {n : Int} (h : inI n) : IntKind.wrap .i64 n = n := by
  obtain ⟨h0, h1⟩ := h
  simp [IntKind.wrap, IntKind.bits, IntKind.signed]
  split <;> omega
theorem beq_f {x k : Int} (h : x ≠ k) : (x == k) = false := by simpa using h
theorem beq_t {x k : Int} (h : x = k) : (x == k) = true := by simpa using h
/-- A cell of a row. -/
def cI (E : List Row) (i : Nat) (c : Nat) : Int := ((E.getD i []).getD c .top).toI
def cB (E : List Row) (i : Nat) (c : Nat) : Bool := ((E.getD i []).getD c .top).toB
def kd (E : List Row) (i : Nat) : Int := cI E i 0
def ow (E : List Row) (i : Nat) : Int := cI E i 2
def plain (k : Int) : Bool := k == 3 || k == 4 || k == 12 || k == 14 || k == 18 || k == 17
theorem F25_eq {N : Nat} (hN : 0 < N) (k : Int) : F25 N k = some (.r (plain k)) := by
  obtain ⟨N, rfl⟩ : ∃ m, N = m + 1 := ⟨N - 1, by omega⟩
  simp only [F25, plain]
  cases (k == 3) <;> cases (k == 4) <;> cases (k == 12) <;> cases (k == 14) <;> cases (k == 18) <;> rfl
def addS (k : Int) : Int := if k = 2 ∨ k = 13 then 1 else if plain k = true then 2 else 0
theorem adds_all : ((List.range 256).all fun k => (gl0.getD (0 + k * 1) .top).toI == addS (k : Int)) = true := by kernel_rfl
theorem adds_eq {k : Int} (h0 : 0 ≤ k) (h1 : k ≤ 255) : (gl0.getD (0 + k.toNat * 1) .top).toI = addS k := by
  have := List.all_eq_true.1 adds_all k.toNat (List.mem_range.2 (by omega))
  rw [show ((k.toNat : Nat) : Int) = k by omega] at this
  simpa using this

/-- The level of a region. -/
def reg (E : List Row) (r : Nat) : Int :=
  if r < E.length then
    if kd E r = 1 then 0
    else if h : 0 ≤ ow E r ∧ ow E r < (r : Int) then
      (if reg E (ow E r).toNat < 0 then -1 else if kd E r = 2 ∨ kd E r = 13 then reg E (ow E r).toNat else if plain (kd E r) = true then reg E (ow E r).toNat + 1 else -1)
    else -1
  else -1
termination_by r
decreasing_by all_goals omega
theorem reg_bd (E : List Row) : ∀ r : Nat, -1 ≤ reg E r ∧ reg E r ≤ r := by
  intro r
  induction r using Nat.strongRecOn with
  | _ r ih =>
    rw [reg]
    split
    · split
      · omega
      · split
        · rename_i h
          have := ih (ow E r).toNat (by omega)
          repeat' split
          all_goals omega
        · omega
    · omega
def regI (E : List Row) (x : Int) : Int := if 0 ≤ x then reg E x.toNat else -1
theorem regI_nat (E : List Row) (r : Nat) : regI E (r : Int) = reg E r := by unfold regI; rw [if_pos (by omega)]; rfl
theorem regI_big {E : List Row} {x : Int} (h : ¬ (0 ≤ x ∧ x < (E.length : Int))) : regI E x = -1 := by
  unfold regI
  split
  · rw [reg, if_neg (by omega)]
  · rfl
theorem F24_eq {N : Nat} (hN : 0 < N) (A B E C D : List Row) (x : Int) : F24 N A B E C D x = some (.r (decide (0 ≤ x) && decide (x < (E.length : Int)))) := by
  obtain ⟨N, rfl⟩ : ∃ m, N = m + 1 := ⟨N - 1, by omega⟩
  simp only [F24]
  cases decide (0 ≤ x) <;> rfl

theorem F11_eq (A B E C D : List Row) (hl : E.length ≤ 100000) : ∀ (r N : Nat), r + 2 ≤ N → F11 N A B E C D (r : Int) = some (.r (reg E r)) := by
  intro r
  induction r using Nat.strongRecOn with
  | _ r ih =>
    intro N hN
    obtain ⟨N, rfl⟩ : ∃ m, N = m + 1 := ⟨N - 1, by omega⟩
    have hp : 0 < N := by omega
    rw [reg]
    by_cases hr : r < E.length
    · have e1 : (decide ((0 : Int) ≤ (r : Int)) && decide ((r : Int) < (E.length : Int))) = true := by simp; omega
      have ek : ((((E.getD ((r : Int).toNat) [])).getD 0 .top).toI) = kd E r := rfl
      have eo : ((((E.getD ((r : Int).toNat) [])).getD 2 .top).toI) = ow E r := rfl
      simp only [F11, F24_eq hp, e1, Bool.not_true, tst, ek, eo, if_pos hr]
      by_cases hk : kd E r = 1
      · simp only [beq_t hk, if_pos hk]
      · simp only [beq_f hk, if_neg hk, J11a62]
        by_cases h1 : ow E r < 0
        · rw [decide_eq_true h1, dif_neg (by omega)]
        · rw [decide_eq_false h1]
          by_cases h2 : (r : Int) ≤ ow E r
          · rw [decide_eq_true h2, dif_neg (by omega)]
          · rw [decide_eq_false h2, dif_pos (by omega)]
            have := ih (ow E r).toNat (by omega) N (by omega)
            rw [show (((ow E r).toNat : Nat) : Int) = ow E r by omega] at this
            simp only [this]
            have hb := reg_bd E (ow E r).toNat
            by_cases h3 : reg E (ow E r).toNat < 0
            · simp only [h3, decide_true, if_true]
            · simp only [h3, decide_false, if_false, F25_eq hp]
              by_cases h4 : kd E r = 2
              · rw [if_pos (Or.inl h4)]
                simp only [beq_t h4]
              · by_cases h5 : kd E r = 13
                · rw [if_pos (Or.inr h5)]
                  simp only [beq_f h4, beq_t h5]
                · rw [if_neg (fun h => h.elim h4 h5)]
                  simp only [beq_f h4, beq_f h5]
                  cases plain (kd E r) with
                  | true =>
                    simp only [if_true]
                    rw [wrap_id (by unfold inI; omega)]
                  | false => simp only [Bool.false_eq_true, if_false]
    · have e1 : (decide ((0 : Int) ≤ (r : Int)) && decide ((r : Int) < (E.length : Int))) = false := by simp; omega
      simp only [F11, F24_eq hp, e1, Bool.not_false, if_neg hr]
theorem F11_eqI (A B E C D : List Row) (hl : E.length ≤ 200) (x : Int) (N : Nat) (hN : 202 ≤ N) : F11 N A B E C D x = some (.r (regI E x)) := by
  by_cases h : 0 ≤ x ∧ x < (E.length : Int)
  · obtain ⟨r, rfl⟩ := Int.eq_ofNat_of_zero_le h.1
    rw [F11_eq A B E C D (by omega) r N (by omega), regI_nat]
  · rw [regI_big h]
    obtain ⟨N, rfl⟩ : ∃ m, N = m + 1 := ⟨N - 1, by omega⟩
    have hp : 0 < N := by omega
    have e1 : (decide ((0 : Int) ≤ x) && decide (x < (E.length : Int))) = false := by
      rw [Bool.eq_false_iff]; intro hc; simp only [Bool.and_eq_true, decide_eq_true_eq] at hc; exact h hc
    simp only [F11, F24_eq hp, e1, Bool.not_false]

/-- The kinds are numbers of one byte. -/
def okE (E : List Row) : Prop := ∀ i, i < E.length → 0 ≤ kd E i ∧ kd E i ≤ 255
theorem addS_cases {k : Int} (h : k ≠ 1) : (addS k = 1 ∧ (k = 2 ∨ k = 13)) ∨ (addS k = 2 ∧ ¬ (k = 2 ∨ k = 13) ∧ plain k = true) ∨ (addS k = 0 ∧ ¬ (k = 2 ∨ k = 13) ∧ plain k = false) := by
  unfold addS
  by_cases h1 : k = 2 ∨ k = 13
  · left; rw [if_pos h1]; exact ⟨rfl, h1⟩
  · rw [if_neg h1]
    cases hp : plain k with
    | true => right; left; exact ⟨if_pos rfl, h1, rfl⟩
    | false => right; right; exact ⟨if_neg (by decide), h1, rfl⟩
theorem idx_ok {k : Int} (h0 : 0 ≤ k) (h1 : k ≤ 255) : (decide ((0 : Int) ≤ k) && decide (k < (256 : Int))) = true ∧ decide ((0 + k.toNat * 1) + 1 ≤ 256) = true := by
  constructor
  · simp; omega
  · simp; omega

def v10 : OL10v1i58f45a6 → Int
  | .ret _ _ _ _ _ v _ => v
  | _ => -1
theorem L10_out (A B E C D : List Row) {N n : Nat} {x last res acc : Int} (h : ¬ (0 ≤ x ∧ x < last)) : ∃ o, L10v1i58f45a6 N (n + 1) x last A B E C D res acc = some o ∧ v10 o = -1 := by
  refine ⟨.x0 A B E C D res acc, ?_, rfl⟩
  simp only [L10v1i58f45a6, J10v1i58f45a24]
  by_cases h1 : 0 ≤ x
  · rw [decide_eq_true h1, decide_eq_false (by omega)]
  · rw [decide_eq_false h1]
/-- The walk outwards. -/
theorem L10_eq (A B E C D : List Row) (hE : okE E) (hl : E.length ≤ 100000) : ∀ (r : Nat) (n N : Nat) (last acc res : Int), r + 1 < n → (r : Int) < last → last ≤ E.length → 0 ≤ acc → acc + r ≤ 100000 →
    ∃ o, L10v1i58f45a6 N n (r : Int) last A B E C D res acc = some o ∧ v10 o = if reg E r < 0 then -1 else acc + reg E r := by
  intro r
  induction r using Nat.strongRecOn with
  | _ r ih =>
    intro n N last acc res hn hlast hle ha hb
    obtain ⟨n, rfl⟩ : ∃ m, n = m + 1 := ⟨n - 1, by omega⟩
    have hr : r < E.length := by omega
    have ek : ((((E.getD ((r : Int).toNat) [])).getD 0 .top).toI) = kd E r := rfl
    have eo : ((((E.getD ((r : Int).toNat) [])).getD 2 .top).toI) = ow E r := rfl
    have e0 : decide ((0 : Int) ≤ (r : Int)) = true := by simp
    have e1 : decide ((r : Int) < last) = true := by simp; omega
    have e2 : decide ((r : Int) < (E.length : Int)) = true := by simp; omega
    obtain ⟨k0, k1⟩ := hE r hr
    obtain ⟨i1, i2⟩ := idx_ok k0 k1
    have hreg := reg.eq_1 E r
    rw [if_pos hr] at hreg
    simp only [L10v1i58f45a6, J10v1i58f45a24, J10v1i58f45a50, e0, e1, e2, Bool.and_self, tst, ek, eo, i1, i2, adds_eq k0 k1]
    by_cases hk : kd E r = 1
    · rw [if_pos hk] at hreg
      simp only [beq_t hk]
      exact ⟨_, rfl, by rw [hreg]; simp [v10]⟩
    · rw [if_neg hk] at hreg
      simp only [beq_f hk]
      rcases addS_cases hk with ⟨e3, h4⟩ | ⟨e3, h4, h5⟩ | ⟨e3, h4, h5⟩
      · rw [e3]
        simp only [beq_f (show (1 : Int) ≠ 0 by decide)]
        have ew : IntKind.wrap .i64 (acc + IntKind.wrap .i64 ((1 : Int) - 1)) = acc := by
          rw [show (1 : Int) - 1 = 0 by decide, wrap_id (n := 0) (by unfold inI; omega), wrap_id (by unfold inI; omega)]; omega
        rw [ew]
        simp only [e2, Bool.and_self, eo]
        by_cases ho : 0 ≤ ow E r ∧ ow E r < (r : Int)
        · rw [dif_pos ho] at hreg
          obtain ⟨o, h, h2⟩ := ih (ow E r).toNat (by omega) n N (r : Int) acc res (by omega) (by omega) (by omega) ha (by omega)
          rw [show (((ow E r).toNat : Nat) : Int) = ow E r by omega] at h
          refine ⟨o, h, ?_⟩
          rw [h2, hreg, if_pos h4]
          split <;> simp_all
        · rw [dif_neg ho] at hreg
          obtain ⟨n, rfl⟩ : ∃ m, n = m + 1 := ⟨n - 1, by omega⟩
          obtain ⟨o, h, h2⟩ := L10_out A B E C D (N := N) (n := n) (res := res) (acc := acc) ho
          refine ⟨o, h, ?_⟩
          rw [h2, hreg]; rfl
      · rw [e3]
        simp only [beq_f (show (2 : Int) ≠ 0 by decide)]
        have ew : IntKind.wrap .i64 (acc + IntKind.wrap .i64 ((2 : Int) - 1)) = acc + 1 := by
          rw [show (2 : Int) - 1 = 1 by decide, wrap_id (n := 1) (by unfold inI; omega), wrap_id (by unfold inI; omega)]
        rw [ew]
        simp only [e2, Bool.and_self, eo]
        by_cases ho : 0 ≤ ow E r ∧ ow E r < (r : Int)
        · rw [dif_pos ho] at hreg
          obtain ⟨o, h, h2⟩ := ih (ow E r).toNat (by omega) n N (r : Int) (acc + 1) res (by omega) (by omega) (by omega) (by omega) (by omega)
          rw [show (((ow E r).toNat : Nat) : Int) = ow E r by omega] at h
          refine ⟨o, h, ?_⟩
          have hb := reg_bd E (ow E r).toNat
          rw [h2, hreg, if_neg h4, if_pos h5]
          by_cases h6 : reg E (ow E r).toNat < 0
          · rw [if_pos h6, if_pos h6]; rfl
          · rw [if_neg h6, if_neg h6, if_neg (by omega)]; omega
        · rw [dif_neg ho] at hreg
          obtain ⟨n, rfl⟩ : ∃ m, n = m + 1 := ⟨n - 1, by omega⟩
          obtain ⟨o, h, h2⟩ := L10_out A B E C D (N := N) (n := n) (res := res) (acc := acc + 1) ho
          refine ⟨o, h, ?_⟩
          rw [h2, hreg]; rfl
      · simp only [e3, beq_self_eq_true]
        refine ⟨_, rfl, ?_⟩
        rw [if_neg h4, if_neg (show ¬ plain (kd E r) = true by rw [h5]; decide)] at hreg
        rw [if_pos (by rw [hreg]; repeat' split
                       all_goals omega)]
        rfl
theorem F10_eqI (A B E C D : List Row) (hE : okE E) (hl : E.length ≤ 200) (x : Int) (N : Nat) (hN : 210 ≤ N) : F10v1 N A B E C D x = some (.r (regI E x)) := by
  obtain ⟨N, rfl⟩ : ∃ m, N = m + 2 := ⟨N - 2, by omega⟩
  simp only [F10v1, F23v1]
  by_cases h : 0 ≤ x ∧ x < (E.length : Int)
  · obtain ⟨r, rfl⟩ := Int.eq_ofNat_of_zero_le h.1
    obtain ⟨o, h1, h2⟩ := L10_eq A B E C D hE (by omega) r (N + 1) (N + 1) E.length 0 0 (by omega) (by omega) (by omega) (by omega) (by omega)
    have e1 : L10v1i58f45a6 (N + 1) (N + 1) (r : Int) (E.length : Int) A B E C D 0 0 = some o := h1
    have e2 : v10 o = regI E (r : Int) := by
      rw [h2, regI_nat]
      have := reg_bd E r
      split <;> omega
    rw [e1, ← e2]
    cases o <;> rfl
  · obtain ⟨o, h1, h2⟩ := L10_out A B E C D (N := N + 1) (n := N) (x := x) (last := E.length) (res := 0) (acc := 0) h
    rw [regI_big h]
    rw [h1, ← h2]
    cases o <;> rfl
end Go.Proofs.YtdennlgnbecojaaDoor

namespace Go.Proofs.YtdennlgnbecojaaDoor
open Go Go.Eng
/-- The master of a region. -/
def mst (E : List Row) (r : Nat) : Int :=
  if reg E r < 0 then -1
  else if kd E r = 1 ∨ plain (kd E r) = true then r
  else if h : 0 ≤ ow E r ∧ ow E r < (r : Int) then mst E (ow E r).toNat else -1
termination_by r
decreasing_by omega
theorem reg_pos {E : List Row} {r : Nat} (h : 0 ≤ reg E r) (hk : kd E r ≠ 1) : r < E.length ∧ (0 ≤ ow E r ∧ ow E r < (r : Int)) ∧ 0 ≤ reg E (ow E r).toNat ∧ ((kd E r = 2 ∨ kd E r = 13) ∧ plain (kd E r) = false ∨ ¬ (kd E r = 2 ∨ kd E r = 13) ∧ plain (kd E r) = true) := by
  rw [reg] at h
  split at h
  · rename_i hr
    refine ⟨hr, ?_⟩
    split at h
    · rename_i ho
      refine ⟨ho, ?_⟩
      split at h
      · omega
      · rename_i h2
        refine ⟨by omega, ?_⟩
        split at h
        · rename_i h3
          left
          refine ⟨h3, ?_⟩
          rcases h3 with h3 | h3 <;> rw [h3] <;> rfl
        · rename_i h3
          split at h
          · rename_i h4; exact .inr ⟨h3, h4⟩
          · omega
    · omega
  · omega
theorem reg_lt {E : List Row} {r : Nat} (h : 0 ≤ reg E r) : r < E.length := by
  rw [reg] at h
  split at h
  · assumption
  · omega
theorem F13_eq (A B E C D : List Row) (hl : E.length ≤ 100000) : ∀ (r N : Nat), r + 4 ≤ N → F13 N A B E C D (r : Int) = some (.r (mst E r)) := by
  intro r
  induction r using Nat.strongRecOn with
  | _ r ih =>
    intro N hN
    obtain ⟨N, rfl⟩ : ∃ m, N = m + 1 := ⟨N - 1, by omega⟩
    have hp : 0 < N := by omega
    have ek : ((((E.getD ((r : Int).toNat) [])).getD 0 .top).toI) = kd E r := rfl
    have eo : ((((E.getD ((r : Int).toNat) [])).getD 2 .top).toI) = ow E r := rfl
    rw [mst]
    simp only [F13, F11_eq A B E C D hl r N (by omega)]
    by_cases h1 : reg E r < 0
    · rw [if_pos h1, decide_eq_true h1]
    · have hr := reg_lt (E := E) (r := r) (by omega)
      have e1 : (decide ((0 : Int) ≤ (r : Int)) && decide ((r : Int) < (E.length : Int))) = true := by simp; omega
      rw [if_neg h1, decide_eq_false h1]
      simp only [e1, tst, ek, eo]
      by_cases hk : kd E r = 1
      · rw [if_pos (Or.inl hk), beq_t hk]
      · obtain ⟨_, ho, h2, h3⟩ := reg_pos (by omega) hk
        simp only [beq_f hk, F25_eq hp]
        have := ih (ow E r).toNat (by omega) N (by omega)
        rw [show (((ow E r).toNat : Nat) : Int) = ow E r by omega] at this
        rcases h3 with ⟨h3, h4⟩ | ⟨h3, h4⟩
        · rw [h4, if_neg (by rintro (h | h); exact hk h; cases h), dif_pos ho]
          simp only [this]
        · rw [h4, if_pos (Or.inr rfl)]
def mstI (E : List Row) (x : Int) : Int := if 0 ≤ x then mst E x.toNat else -1
theorem mst_none {E : List Row} {x : Int} (h : regI E x < 0) : mstI E x = -1 := by
  unfold mstI
  unfold regI at h
  split
  · rw [if_pos (by assumption)] at h
    rw [mst, if_pos h]
  · rfl
theorem F13_eqI (A B E C D : List Row) (hl : E.length ≤ 200) (x : Int) (N : Nat) (hN : 210 ≤ N) : F13 N A B E C D x = some (.r (mstI E x)) := by
  by_cases h : 0 ≤ x ∧ x < (E.length : Int)
  · obtain ⟨r, rfl⟩ := Int.eq_ofNat_of_zero_le h.1
    rw [F13_eq A B E C D (by omega) r N (by omega)]
    unfold mstI
    rw [if_pos (by omega)]; rfl
  · have hx := regI_big h
    rw [mst_none (by omega)]
    obtain ⟨N, rfl⟩ : ∃ m, N = m + 1 := ⟨N - 1, by omega⟩
    simp only [F13, F11_eqI A B E C D hl x N (by omega), hx]
    rfl
def v12 : OL12v1i106f45a6 → Int
  | .ret _ _ _ _ _ v => v
  | _ => -1
/-- The walk to the master. -/
theorem L12_eq (A B E C D : List Row) (hE : okE E) (hl : E.length ≤ 100000) : ∀ (r : Nat) (n N : Nat) (last res : Int), r + 1 < n → (r : Int) < last → last ≤ E.length → 0 ≤ reg E r →
    ∃ o, L12v1i106f45a6 N n (r : Int) last A B E C D res = some o ∧ v12 o = mst E r := by
  intro r
  induction r using Nat.strongRecOn with
  | _ r ih =>
    intro n N last res hn hlast hle hreg
    obtain ⟨n, rfl⟩ : ∃ m, n = m + 1 := ⟨n - 1, by omega⟩
    have hr : r < E.length := by omega
    have ek : ((((E.getD ((r : Int).toNat) [])).getD 0 .top).toI) = kd E r := rfl
    have eo : ((((E.getD ((r : Int).toNat) [])).getD 2 .top).toI) = ow E r := rfl
    have e0 : decide ((0 : Int) ≤ (r : Int)) = true := by simp
    have e1 : decide ((r : Int) < last) = true := by simp; omega
    have e2 : decide ((r : Int) < (E.length : Int)) = true := by simp; omega
    obtain ⟨k0, k1⟩ := hE r hr
    obtain ⟨i1, i2⟩ := idx_ok k0 k1
    rw [mst, if_neg (by omega)]
    simp only [L12v1i106f45a6, J12v1i106f45a24, J12v1i106f45a50, e0, e1, e2, Bool.and_self, tst, ek, eo, i1, i2, adds_eq k0 k1]
    by_cases hk : kd E r = 1
    · rw [if_pos (Or.inl hk)]
      simp only [beq_t hk]
      exact ⟨_, rfl, rfl⟩
    · obtain ⟨_, ho, h2, h3⟩ := reg_pos hreg hk
      simp only [beq_f hk]
      rcases h3 with ⟨h3, h4⟩ | ⟨h3, h4⟩
      · have e3 : addS (kd E r) = 1 := by unfold addS; rw [if_pos h3]
        rw [h4, if_neg (by rintro (h | h); exact hk h; cases h), dif_pos ho, e3]
        simp only [beq_f (show (1 : Int) ≠ 0 by decide), beq_f (show (1 : Int) ≠ 2 by decide), e2, Bool.and_self]
        obtain ⟨o, h, h2⟩ := ih (ow E r).toNat (by omega) n N (r : Int) res (by omega) (by omega) (by omega) h2
        rw [show (((ow E r).toNat : Nat) : Int) = ow E r by omega] at h
        exact ⟨o, h, h2⟩
      · have e3 : addS (kd E r) = 2 := by unfold addS; rw [if_neg h3, if_pos h4]
        rw [h4, if_pos (Or.inr rfl), e3]
        simp only [beq_self_eq_true]
        exact ⟨_, rfl, rfl⟩
theorem F12_eqI (A B E C D : List Row) (hE : okE E) (hl : E.length ≤ 200) (x : Int) (N : Nat) (hN : 220 ≤ N) : F12v1 N A B E C D x = some (.r (mstI E x)) := by
  obtain ⟨N, rfl⟩ : ∃ m, N = m + 2 := ⟨N - 2, by omega⟩
  simp only [F12v1, F23v1, F10_eqI A B E C D hE hl x (N + 1) (by omega)]
  by_cases h : 0 ≤ regI E x
  · have hx : 0 ≤ x ∧ x < (E.length : Int) := by
      refine Classical.byContradiction fun hc => ?_
      rw [regI_big hc] at h; omega
    obtain ⟨r, rfl⟩ := Int.eq_ofNat_of_zero_le hx.1
    rw [regI_nat] at h
    obtain ⟨o, h1, h2⟩ := L12_eq A B E C D hE (by omega) r (N + 1) (N + 1) E.length 0 (by omega) (by omega) (by omega) h
    have e2 : v12 o = mstI E (r : Int) := by rw [h2]; unfold mstI; rw [if_pos (by omega)]; rfl
    have e1 : L12v1i106f45a6 (N + 1) (N + 1) (r : Int) (E.length : Int) A B E C D 0 = some o := h1
    rw [regI_nat, decide_eq_true h]
    simp only [e1, ← e2]
    cases o <;> rfl
  · rw [decide_eq_false h, mst_none (by omega)]
end Go.Proofs.YtdennlgnbecojaaDoor

namespace Go.Proofs.YtdennlgnbecojaaDoor
open Go Go.Eng
/-- The level that an entity must have. -/
def lvl (E : List Row) (i : Nat) : Int := if kd E i = 1 then 0 else if ow E i < (i : Int) then regI E (ow E i) else -1
def entOK (A E : List Row) (i : Nat) : Bool :=
  decide (0 ≤ lvl E i ∧ cI E i 9 = lvl E i) && (!(kd E i == 5 && !cB E i 8) || (decide (0 ≤ cI E i 4) && decide (cI E i 4 < (A.length : Int)) && (cI A (cI E i 4).toNat 17 == lvl E i)))
def mayB (A E : List Row) : Bool := (List.range' 0 E.length).all (entOK A E)
theorem lvl_ow (E : List Row) (i : Nat) (hk : ¬ kd E i = 1) (h : ¬ (0 ≤ ow E i ∧ ow E i < (i : Int))) : lvl E i = -1 := by
  unfold lvl regI
  rw [if_neg hk]
  split
  · rw [if_neg (by omega)]
  · rfl
theorem bne_t {x y : Int} (h : x ≠ y) : (x != y) = true := by simp [bne, h]
theorem bne_f {x y : Int} (h : x = y) : (x != y) = false := by simp [bne, h]
theorem lvl_nn {E : List Row} {i : Nat} (h0 : 0 ≤ ow E i) (h1 : ow E i < (i : Int)) (hk : ¬ kd E i = 1) : lvl E i = regI E (ow E i) := by
  unfold lvl
  rw [if_neg hk, if_pos h1]

theorem J15_cases (A B E C D : List Row) (hl : E.length ≤ 200) (i N : Nat) (hN : 210 ≤ N) (c0 : Int) (c1 : ByteArray) (c2 : Int) (c3 : Int) (c4 : Int) (c5 : Int) (c6 : List Row) (c7 : Int) (c8 : Bool) (c9 : Int) (c10 : Int) (c11 : Bool) (c12 : Bool) (c13 : Int) (c14 : Int) (c15 : Int) (c16 : Int) (c17 : Bool) (c18 : Bool) (c19 : Int) (c20 : Int) (c21 : Int) (h0 : c0 = kd E i) (h2 : c2 = ow E i) :
    (J15a1682 N (i : Int) A B E C D c0 c1 c2 c3 c4 c5 c6 c7 c8 c9 c10 c11 c12 c13 c14 c15 c16 c17 c18 c19 c20 c21 = some (.nx A B E C D c0 c1 c2 c3 c4 c5 c6 c7 c8 c9 c10 c11 c12 c13 c14 c15 c16 c17 c18 c19 c20 c21) ∧ 0 ≤ lvl E i ∧ c9 = lvl E i) ∨ (J15a1682 N (i : Int) A B E C D c0 c1 c2 c3 c4 c5 c6 c7 c8 c9 c10 c11 c12 c13 c14 c15 c16 c17 c18 c19 c20 c21 = some (.ret false A B E C D c0 c1 c2 c3 c4 c5 c6 c7 c8 c9 c10 c11 c12 c13 c14 c15 c16 c17 c18 c19 c20 c21) ∧ ¬ (0 ≤ lvl E i ∧ c9 = lvl E i)) := by
  subst h0
  subst h2
  simp only [J15a1682]
  by_cases hk : kd E i = 1
  · have hv : lvl E i = 0 := by unfold lvl; rw [if_pos hk]
    simp only [beq_t hk, hv]
    by_cases h : c9 = 0
    · left
      simp only [bne_f h]
      exact ⟨trivial, by omega, h⟩
    · right
      simp only [bne_t h]
      exact ⟨trivial, fun hc => h hc.2⟩
  · simp only [beq_f hk]
    by_cases o0 : ow E i < 0
    · right
      rw [decide_eq_true o0, lvl_ow E i hk (by omega)]
      exact ⟨rfl, by omega⟩
    · by_cases o1 : (i : Int) ≤ ow E i
      · right
        rw [decide_eq_false o0, decide_eq_true o1, lvl_ow E i hk (by omega)]
        exact ⟨rfl, by omega⟩
      · have hv := lvl_nn (E := E) (i := i) (by omega) (by omega) hk
        rw [decide_eq_false o0, decide_eq_false o1]
        simp only [F11_eqI A B E C D hl (ow E i) N (by omega), ← hv]
        by_cases h : lvl E i < 0
        · right
          rw [decide_eq_true h]
          exact ⟨rfl, by omega⟩
        · rw [decide_eq_false h]
          by_cases h9 : c9 = lvl E i
          · left
            simp only [bne_f h9]
            exact ⟨trivial, by omega, h9⟩
          · right
            simp only [bne_t h9]
            exact ⟨trivial, fun hc => h9 hc.2⟩

def w15 : OL15a26 → Bool
  | .ret b _ _ _ _ _ => b
  | _ => true
theorem L15_eq (A B E C D : List Row) (hl : E.length ≤ 200) : ∀ (k i n N : Nat), i + k = E.length → k < n → 210 ≤ N →
    ∃ o, L15a26 N n (i : Int) A B E C D = some o ∧ w15 o = (List.range' i k).all (entOK A E) := by
  intro k
  induction k with
  | zero =>
    intro i n N hi hn hN
    obtain ⟨n, rfl⟩ : ∃ m, n = m + 1 := ⟨n - 1, by omega⟩
    simp only [L15a26, decide_eq_false (show ¬ ((i : Int) < (E.length : Int)) by omega)]
    exact ⟨_, rfl, rfl⟩
  | succ k ih =>
    intro i n N hi hn hN
    obtain ⟨n, rfl⟩ : ∃ m, n = m + 1 := ⟨n - 1, by omega⟩
    obtain ⟨o, h1, h2⟩ := ih (i + 1) n N (by omega) (by omega) hN
    have e0 : decide ((i : Int) < (E.length : Int)) = true := by simp; omega
    have e1 : decide ((0 : Int) ≤ (i : Int)) = true := by simp
    have e2 : IntKind.wrap .i64 ((i : Int) + 1) = ((i + 1 : Nat) : Int) := by rw [wrap_id (by unfold inI; omega)]; omega
    have c0 : ((((E.getD ((i : Int).toNat) [])).getD 0 .top).toI) = kd E i := rfl
    have c4 : ((((E.getD ((i : Int).toNat) [])).getD 4 .top).toI) = cI E i 4 := rfl
    have c8 : ((((E.getD ((i : Int).toNat) [])).getD 8 .top).toB) = cB E i 8 := rfl
    have c9 : ((((E.getD ((i : Int).toNat) [])).getD 9 .top).toI) = cI E i 9 := rfl
    have ct : ((A.getD (cI E i 4).toNat []).getD 17 .top).toI = cI A (cI E i 4).toNat 17 := rfl
    rcases J15_cases A B E C D hl i N hN ((((E.getD ((i : Int).toNat) [])).getD 0 .top).toI) ((((E.getD ((i : Int).toNat) [])).getD 1 .top).toS) ((((E.getD ((i : Int).toNat) [])).getD 2 .top).toI) ((((E.getD ((i : Int).toNat) [])).getD 3 .top).toI) ((((E.getD ((i : Int).toNat) [])).getD 4 .top).toI) ((((E.getD ((i : Int).toNat) [])).getD 5 .top).toI) ((((E.getD ((i : Int).toNat) [])).getD 6 .top).rows) ((((E.getD ((i : Int).toNat) [])).getD 7 .top).toI) ((((E.getD ((i : Int).toNat) [])).getD 8 .top).toB) ((((E.getD ((i : Int).toNat) [])).getD 9 .top).toI) ((((E.getD ((i : Int).toNat) [])).getD 10 .top).toI) ((((E.getD ((i : Int).toNat) [])).getD 11 .top).toB) ((((E.getD ((i : Int).toNat) [])).getD 12 .top).toB) ((((E.getD ((i : Int).toNat) [])).getD 13 .top).toI) ((((E.getD ((i : Int).toNat) [])).getD 14 .top).toI) ((((E.getD ((i : Int).toNat) [])).getD 15 .top).toI) ((((E.getD ((i : Int).toNat) [])).getD 16 .top).toI) ((((E.getD ((i : Int).toNat) [])).getD 17 .top).toB) ((((E.getD ((i : Int).toNat) [])).getD 18 .top).toB) ((((E.getD ((i : Int).toNat) [])).getD 19 .top).toI) ((((E.getD ((i : Int).toNat) [])).getD 20 .top).toI) ((((E.getD ((i : Int).toNat) [])).getD 21 .top).toI) rfl rfl with ⟨hj, hv, h9⟩ | ⟨hj, hv⟩
    · simp only [L15a26, e0, e1, e2, Bool.and_self, tst, hj, h1]
      simp only [List.range'_succ, List.all_cons, Nat.mul_one, c0, c4, c8, ct]
      rw [c9] at h9
      have hen : entOK A E i = (!(kd E i == 5 && !cB E i 8) || (decide (0 ≤ cI E i 4) && decide (cI E i 4 < (A.length : Int)) && (cI A (cI E i 4).toNat 17 == lvl E i))) := by
        unfold entOK
        rw [decide_eq_true ⟨hv, h9⟩]; rfl
      rw [hen, ← h2, c9, h9]
      by_cases k5 : kd E i = 5
      · rw [beq_t k5]
        cases cB E i 8 with
        | true => exact ⟨o, rfl, rfl⟩
        | false =>
          by_cases t0 : cI E i 4 < 0
          · rw [decide_eq_true t0, decide_eq_false (show ¬ (0 ≤ cI E i 4) by omega)]
            exact ⟨_, rfl, rfl⟩
          · rw [decide_eq_false t0, decide_eq_true (show (0 ≤ cI E i 4) by omega)]
            by_cases t1 : (A.length : Int) ≤ cI E i 4
            · rw [decide_eq_true t1, decide_eq_false (show ¬ (cI E i 4 < (A.length : Int)) by omega)]
              exact ⟨_, rfl, rfl⟩
            · rw [decide_eq_false t1, decide_eq_true (show (cI E i 4 < (A.length : Int)) by omega)]
              by_cases t2 : cI A (cI E i 4).toNat 17 = lvl E i
              · rw [bne_f t2, beq_t t2]
                exact ⟨o, rfl, rfl⟩
              · rw [bne_t t2, beq_f t2]
                exact ⟨_, rfl, rfl⟩
      · rw [beq_f k5]
        exact ⟨o, rfl, rfl⟩
    · simp only [L15a26, e0, e1, e2, Bool.and_self, tst, hj, List.range'_succ, List.all_cons, Nat.mul_one]
      refine ⟨_, rfl, ?_⟩
      have hen : entOK A E i = false := by
        unfold entOK
        rw [c9] at hv
        rw [decide_eq_false hv]; rfl
      rw [hen]; rfl
theorem F15_eq (A B E C D : List Row) (hl : E.length ≤ 200) (N : Nat) (hN : 220 ≤ N) : F15 N A B E C D = some (.r (mayB A E)) := by
  obtain ⟨N, rfl⟩ : ∃ m, N = m + 1 := ⟨N - 1, by omega⟩
  obtain ⟨o, h1, h2⟩ := L15_eq A B E C D hl E.length 0 N N (by omega) (by omega) (by omega)
  have h1' : L15a26 N N 0 A B E C D = some o := h1
  simp only [F15, h1']
  unfold mayB
  rw [← h2]
  cases o <;> rfl

theorem Jg_cases (A B E C D : List Row) (hE : okE E) (hl : E.length ≤ 200) (i N : Nat) (hN : 210 ≤ N) (c0 : Int) (c1 : ByteArray) (c2 : Int) (c3 : Int) (c4 : Int) (c5 : Int) (c6 : List Row) (c7 : Int) (c8 : Bool) (c9 : Int) (c10 : Int) (c11 : Bool) (c12 : Bool) (c13 : Int) (c14 : Int) (c15 : Int) (c16 : Int) (c17 : Bool) (c18 : Bool) (c19 : Int) (c20 : Int) (c21 : Int) (h0 : c0 = kd E i) (h2 : c2 = ow E i) :
    J14v1a6758 N (i : Int) 0 A B E C D c0 c1 c2 c3 c4 c5 c6 c7 c8 c9 c10 c11 c12 c13 c14 c15 c16 c17 c18 c19 c20 c21 = some (.nx (lvl E i) A B E C D c0 c1 c2 c3 c4 c5 c6 c7 c8 c9 c10 c11 c12 c13 c14 c15 c16 c17 c18 c19 c20 c21) := by
  subst h0
  subst h2
  simp only [J14v1a6758]
  by_cases hk : kd E i = 1
  · have hv : lvl E i = 0 := by unfold lvl; rw [if_pos hk]
    rw [bne_f hk, hv]
  · rw [bne_t hk]
    have hv : lvl E i = if ow E i < (i : Int) then regI E (ow E i) else -1 := by unfold lvl; rw [if_neg hk]
    rw [hv]
    by_cases o1 : ow E i < (i : Int)
    · rw [decide_eq_true o1, if_pos o1]
      simp only [F10_eqI A B E C D hE hl (ow E i) N (by omega)]
    · rw [decide_eq_false o1, if_neg o1]
theorem Jh_cases (N : Nat) (v : Int) (c0 : Int) (c1 : ByteArray) (c2 : Int) (c3 : Int) (c4 : Int) (c5 : Int) (c6 : List Row) (c7 : Int) (c8 : Bool) (c9 : Int) (c10 : Int) (c11 : Bool) (c12 : Bool) (c13 : Int) (c14 : Int) (c15 : Int) (c16 : Int) (c17 : Bool) (c18 : Bool) (c19 : Int) (c20 : Int) (c21 : Int) : (J14v1a13518 N v c0 c1 c2 c3 c4 c5 c6 c7 c8 c9 c10 c11 c12 c13 c14 c15 c16 c17 c18 c19 c20 c21 = some (.nx c0 c1 c2 c3 c4 c5 c6 c7 c8 c9 c10 c11 c12 c13 c14 c15 c16 c17 c18 c19 c20 c21) ∧ 0 ≤ v ∧ c9 = v) ∨ (J14v1a13518 N v c0 c1 c2 c3 c4 c5 c6 c7 c8 c9 c10 c11 c12 c13 c14 c15 c16 c17 c18 c19 c20 c21 = some (.ret false c0 c1 c2 c3 c4 c5 c6 c7 c8 c9 c10 c11 c12 c13 c14 c15 c16 c17 c18 c19 c20 c21) ∧ ¬ (0 ≤ v ∧ c9 = v)) := by
  simp only [J14v1a13518]
  by_cases h : v < 0
  · right
    rw [decide_eq_true h]
    exact ⟨rfl, by omega⟩
  · rw [decide_eq_false h]
    by_cases h9 : c9 = v
    · left
      rw [bne_f h9]
      exact ⟨rfl, by omega, h9⟩
    · right
      rw [bne_t h9]
      exact ⟨rfl, fun hc => h9 hc.2⟩
def w14 : OL14v1a26 → Bool
  | .ret b _ _ _ _ _ => b
  | _ => true
theorem L14_eq (A B E C D : List Row) (hE : okE E) (hl : E.length ≤ 200) : ∀ (k i n N : Nat), i + k = E.length → k < n → 210 ≤ N →
    ∃ o, L14v1a26 N n E (E.length : Int) (i : Int) A B E C D = some o ∧ w14 o = (List.range' i k).all (entOK A E) := by
  intro k
  induction k with
  | zero =>
    intro i n N hi hn hN
    obtain ⟨n, rfl⟩ : ∃ m, n = m + 1 := ⟨n - 1, by omega⟩
    simp only [L14v1a26, decide_eq_false (show ¬ ((i : Int) < (E.length : Int)) by omega)]
    exact ⟨_, rfl, rfl⟩
  | succ k ih =>
    intro i n N hi hn hN
    obtain ⟨n, rfl⟩ : ∃ m, n = m + 1 := ⟨n - 1, by omega⟩
    obtain ⟨o, h1, h2⟩ := ih (i + 1) n N (by omega) (by omega) hN
    have e0 : decide ((i : Int) < (E.length : Int)) = true := by simp; omega
    have e1 : decide ((0 : Int) ≤ (i : Int)) = true := by simp
    have e2 : IntKind.wrap .i64 ((i : Int) + 1) = ((i + 1 : Nat) : Int) := by rw [wrap_id (by unfold inI; omega)]; omega
    have c0 : ((((E.getD ((i : Int).toNat) [])).getD 0 .top).toI) = kd E i := rfl
    have c4 : ((((E.getD ((i : Int).toNat) [])).getD 4 .top).toI) = cI E i 4 := rfl
    have c8 : ((((E.getD ((i : Int).toNat) [])).getD 8 .top).toB) = cB E i 8 := rfl
    have c9 : ((((E.getD ((i : Int).toNat) [])).getD 9 .top).toI) = cI E i 9 := rfl
    have ct : ((A.getD (cI E i 4).toNat []).getD 17 .top).toI = cI A (cI E i 4).toNat 17 := rfl
    have hg := Jg_cases A B E C D hE hl i N hN ((((E.getD ((i : Int).toNat) [])).getD 0 .top).toI) ((((E.getD ((i : Int).toNat) [])).getD 1 .top).toS) ((((E.getD ((i : Int).toNat) [])).getD 2 .top).toI) ((((E.getD ((i : Int).toNat) [])).getD 3 .top).toI) ((((E.getD ((i : Int).toNat) [])).getD 4 .top).toI) ((((E.getD ((i : Int).toNat) [])).getD 5 .top).toI) ((((E.getD ((i : Int).toNat) [])).getD 6 .top).rows) ((((E.getD ((i : Int).toNat) [])).getD 7 .top).toI) ((((E.getD ((i : Int).toNat) [])).getD 8 .top).toB) ((((E.getD ((i : Int).toNat) [])).getD 9 .top).toI) ((((E.getD ((i : Int).toNat) [])).getD 10 .top).toI) ((((E.getD ((i : Int).toNat) [])).getD 11 .top).toB) ((((E.getD ((i : Int).toNat) [])).getD 12 .top).toB) ((((E.getD ((i : Int).toNat) [])).getD 13 .top).toI) ((((E.getD ((i : Int).toNat) [])).getD 14 .top).toI) ((((E.getD ((i : Int).toNat) [])).getD 15 .top).toI) ((((E.getD ((i : Int).toNat) [])).getD 16 .top).toI) ((((E.getD ((i : Int).toNat) [])).getD 17 .top).toB) ((((E.getD ((i : Int).toNat) [])).getD 18 .top).toB) ((((E.getD ((i : Int).toNat) [])).getD 19 .top).toI) ((((E.getD ((i : Int).toNat) [])).getD 20 .top).toI) ((((E.getD ((i : Int).toNat) [])).getD 21 .top).toI) rfl rfl
    rcases Jh_cases N (lvl E i) ((((E.getD ((i : Int).toNat) [])).getD 0 .top).toI) ((((E.getD ((i : Int).toNat) [])).getD 1 .top).toS) ((((E.getD ((i : Int).toNat) [])).getD 2 .top).toI) ((((E.getD ((i : Int).toNat) [])).getD 3 .top).toI) ((((E.getD ((i : Int).toNat) [])).getD 4 .top).toI) ((((E.getD ((i : Int).toNat) [])).getD 5 .top).toI) ((((E.getD ((i : Int).toNat) [])).getD 6 .top).rows) ((((E.getD ((i : Int).toNat) [])).getD 7 .top).toI) ((((E.getD ((i : Int).toNat) [])).getD 8 .top).toB) ((((E.getD ((i : Int).toNat) [])).getD 9 .top).toI) ((((E.getD ((i : Int).toNat) [])).getD 10 .top).toI) ((((E.getD ((i : Int).toNat) [])).getD 11 .top).toB) ((((E.getD ((i : Int).toNat) [])).getD 12 .top).toB) ((((E.getD ((i : Int).toNat) [])).getD 13 .top).toI) ((((E.getD ((i : Int).toNat) [])).getD 14 .top).toI) ((((E.getD ((i : Int).toNat) [])).getD 15 .top).toI) ((((E.getD ((i : Int).toNat) [])).getD 16 .top).toI) ((((E.getD ((i : Int).toNat) [])).getD 17 .top).toB) ((((E.getD ((i : Int).toNat) [])).getD 18 .top).toB) ((((E.getD ((i : Int).toNat) [])).getD 19 .top).toI) ((((E.getD ((i : Int).toNat) [])).getD 20 .top).toI) ((((E.getD ((i : Int).toNat) [])).getD 21 .top).toI) with ⟨hj, hv, h9⟩ | ⟨hj, hv⟩
    · simp only [L14v1a26, e0, e1, e2, Bool.and_self, tst, hg, hj, h1]
      simp only [List.range'_succ, List.all_cons, Nat.mul_one, c0, c4, c8, ct]
      rw [c9] at h9
      have hen : entOK A E i = (!(kd E i == 5 && !cB E i 8) || (decide (0 ≤ cI E i 4) && decide (cI E i 4 < (A.length : Int)) && (cI A (cI E i 4).toNat 17 == lvl E i))) := by
        unfold entOK
        rw [decide_eq_true ⟨hv, h9⟩]; rfl
      rw [hen, ← h2]
      by_cases k5 : kd E i = 5
      · rw [beq_t k5]
        cases cB E i 8 with
        | true => exact ⟨o, rfl, rfl⟩
        | false =>
          by_cases t0 : cI E i 4 < 0
          · rw [decide_eq_true t0, decide_eq_false (show ¬ (0 ≤ cI E i 4) by omega)]
            exact ⟨_, rfl, rfl⟩
          · rw [decide_eq_false t0, decide_eq_true (show (0 ≤ cI E i 4) by omega)]
            by_cases t1 : (A.length : Int) ≤ cI E i 4
            · rw [decide_eq_true t1, decide_eq_false (show ¬ (cI E i 4 < (A.length : Int)) by omega)]
              exact ⟨_, rfl, rfl⟩
            · rw [decide_eq_false t1, decide_eq_true (show (cI E i 4 < (A.length : Int)) by omega)]
              by_cases t2 : cI A (cI E i 4).toNat 17 = lvl E i
              · rw [bne_f t2, beq_t t2]
                exact ⟨o, rfl, rfl⟩
              · rw [bne_t t2, beq_f t2]
                exact ⟨_, rfl, rfl⟩
      · rw [beq_f k5]
        exact ⟨o, rfl, rfl⟩
    · simp only [L14v1a26, e0, e1, e2, Bool.and_self, tst, hg, hj, List.range'_succ, List.all_cons, Nat.mul_one]
      refine ⟨_, rfl, ?_⟩
      have hen : entOK A E i = false := by
        unfold entOK
        rw [c9] at hv
        rw [decide_eq_false hv]; rfl
      rw [hen]; rfl
theorem F14_eq (A B E C D : List Row) (hE : okE E) (hl : E.length ≤ 200) (N : Nat) (hN : 220 ≤ N) : F14v1 N A B E C D = some (.r (mayB A E)) := by
  obtain ⟨N, rfl⟩ : ∃ m, N = m + 1 := ⟨N - 1, by omega⟩
  obtain ⟨o, h1, h2⟩ := L14_eq A B E C D hE hl E.length 0 N N (by omega) (by omega) (by omega)
  have h1' : L14v1a26 N N E (E.length : Int) 0 A B E C D = some o := h1
  simp only [F14v1, h1']
  unfold mayB
  rw [← h2]
  cases o <;> rfl
def greatB (A B E : List Row) : Bool := decide (200 < E.length) || decide (60 < A.length) || decide (100 < B.length)
theorem F8_eq (A B E C D : List Row) (N : Nat) (hN : 0 < N) : F8 N A B E C D = some (.r (greatB A B E)) := by
  obtain ⟨N, rfl⟩ : ∃ m, N = m + 1 := ⟨N - 1, by omega⟩
  simp only [F8]
  unfold greatB
  rw [show decide ((200 : Int) < (E.length : Int)) = decide (200 < E.length) by congr 1; simp; omega, show decide ((60 : Int) < (A.length : Int)) = decide (60 < A.length) by congr 1; simp; omega, show decide ((100 : Int) < (B.length : Int)) = decide (100 < B.length) by congr 1; simp; omega]
  cases decide (200 < E.length) <;> cases decide (60 < A.length) <;> rfl
theorem regions_true (A B E C D : List Row) (hE : okE E) (x : Int) : F3 301 A B E C D x = some (.r true) := by
  have hN : (300 : Nat) ≤ 300 := Nat.le_refl _
  simp only [F3, F8_eq A B E C D 300 (by omega), head_true]
  cases hg : greatB A B E with
  | true => rfl
  | false =>
    have hl : E.length ≤ 200 := by
      unfold greatB at hg
      simp only [Bool.or_eq_false_iff, decide_eq_false_iff_not] at hg
      omega
    simp only [F10_eqI A B E C D hE hl x 300 (by omega), F11_eqI A B E C D hl x 300 (by omega), F12_eqI A B E C D hE hl x 300 (by omega), F13_eqI A B E C D hl x 300 (by omega), F14_eq A B E C D hE hl 300 (by omega), F15_eq A B E C D hl 300 (by omega), beq_self_eq_true]
end Go.Proofs.YtdennlgnbecojaaDoor

namespace Go.Proofs.YtdennlgnbecojaaDoor
open Go Go.Eng Go.ChangeShapes Go.WideShapes Go.ChangeAt Go.RowKit

theorem own : ownKnob Tryd.prog.godebug = none := by kernel_rfl
theorem laidOut : laidOutB Tryd.prog = true := by kernel_rfl
theorem rdS_ok : rdS CX rdL = true := by kernel_rfl

theorem wf_i64 {v : Int} (h : (Lit.int .i64 v).wf = true) : inI v := by
  simp only [Lit.wf, IntKind.min, IntKind.max, IntKind.signed, IntKind.bits, Bool.and_eq_true, decide_eq_true_eq, if_true] at h
  unfold inI; omega
theorem wf_u8 {v : Int} (h : (Lit.int .u8 v).wf = true) : 0 ≤ v ∧ v ≤ 255 := by
  simp only [Lit.wf, IntKind.min, IntKind.max, IntKind.signed, IntKind.bits, Bool.and_eq_true, decide_eq_true_eq, Bool.false_eq_true, if_false] at h
  omega
theorem int_of_arg {k : IntKind} {t : TypeId} {x : AV} (ha : (CX.ti t).u.agg = false) (hk : (CX.ti t).ks = [.int k]) (h : ArgAV CX t x) : ∃ v, x = .int k v ∧ (Lit.int k v).wf = true := by
  rcases h with ⟨h1, _⟩ | ⟨_, h2, h3⟩
  · rw [ha] at h1; cases h1
  · rw [hk] at h2
    simp only [koks, Bool.and_true] at h2
    cases x <;> simp only [kok, Bool.false_eq_true] at h2
    have e := eq_of_beq h2
    subst e
    cases h3 with
    | int _ _ h => exact ⟨_, rfl, h⟩
theorem cell_of {ks : List Kind} {row : Row} (h2 : koks ks row = true) (h3 : WfL CX.K row) {j : Nat} {k : IntKind} (hk : ks[j]? = some (.int k)) : ∃ n, row.getD j .top = .int k n ∧ (Lit.int k n).wf = true := by
  have hl := koks_length h2
  have hj : j < row.length := by
    have := (List.getElem?_eq_some_iff.1 hk).1; omega
  have h4 := koks_get h2 hk (List.getElem?_eq_getElem hj)
  have h5 := h3 _ (List.getElem_mem hj)
  have h6 : row.getD j .top = row[j] := by simp [List.getD, hj]
  rw [h6]
  generalize row[j] = x at h4 h5
  cases x <;> simp only [kok, Bool.false_eq_true] at h4
  have e := eq_of_beq h4
  subst e
  cases h5 with
  | int _ _ h => exact ⟨_, rfl, h⟩
theorem list_of {t : TypeId} {x : AV} (h : kok (.slice t) x = true) (hw : Wf CX.K x) : ∃ T, x = .list t T ∧ T.length ≤ maxLen ∧ ∀ row ∈ T, koks (CX.K t) row = true ∧ WfL CX.K row := by
  cases x <;> simp only [kok, Bool.false_eq_true] at h
  have e := eq_of_beq h
  subst e
  cases hw with
  | list _ _ hl hk h => exact ⟨_, rfl, hl, fun row hr => ⟨hk row hr, fun x hx => h row hr x hx⟩⟩
theorem okE_of {E : List Row} (h : ∀ row ∈ E, koks (CX.K 45) row = true ∧ WfL CX.K row) (h0 : (CX.K 45)[0]? = some (.int .u8)) : okE E := by
  intro i hi
  obtain ⟨h1, h2⟩ := h _ (List.getElem_mem hi)
  obtain ⟨n, h3, h4⟩ := cell_of h1 h2 h0
  have e : kd E i = n := by
    unfold kd cI
    rw [show E.getD i [] = E[i] by simp [List.getD, hi], h3]
    rfl
  rw [e]
  exact wf_u8 h4
theorem tab_of_arg {x : AV} (ha : (CX.ti 28).u.agg = true) (hk : (CX.ti 28).ks = [.slice 58, .slice 74, .slice 45, .slice 113, .slice 117]) (h : ArgAV CX 28 x) : ∃ A B E C D, x = .agg [.list 58 A, .list 74 B, .list 45 E, .list 113 C, .list 117 D] ∧ okE E := by
  rcases h with ⟨_, row, rfl, h2, h3⟩ | ⟨h1, _⟩
  · rw [hk] at h2
    match row, h2, h3 with
    | [a, b, c, d, e], h2, h3 =>
      simp only [koks, Bool.and_eq_true] at h2
      obtain ⟨k1, k2, k3, k4, k5, _⟩ := h2
      obtain ⟨A, rfl, _⟩ := list_of k1 (h3 _ (by simp))
      obtain ⟨B, rfl, _⟩ := list_of k2 (h3 _ (by simp))
      obtain ⟨E, rfl, _, hE⟩ := list_of k3 (h3 _ (by simp))
      obtain ⟨C, rfl, _⟩ := list_of k4 (h3 _ (by simp))
      obtain ⟨D, rfl, _⟩ := list_of k5 (h3 _ (by simp))
      exact ⟨A, B, E, C, D, rfl, okE_of hE (by kernel_rfl)⟩
    | [], h2, _ => simp [koks] at h2
    | [_], h2, _ => simp [koks] at h2
    | [_, _], h2, _ => simp [koks] at h2
    | [_, _, _], h2, _ => simp [koks] at h2
    | [_, _, _, _], h2, _ => simp [koks] at h2
    | _ :: _ :: _ :: _ :: _ :: _ :: _, h2, _ => simp [koks] at h2
  · rw [ha] at h1; cases h1

theorem gAdds : Tryd.prog.globalNamed "ceiling/level.adds" = some 0 := by kernel_rfl
theorem tAdds : (Tryd.prog.globals[0]?).map (·.type) = some 51 := by kernel_rfl
theorem laid_eq : (Rows.laid_ceiling_level_adds : DataW Unit) = Lib.tabData .i64 (gl0.map AV.toI) := by kernel_rfl
theorem gl0_all : (gl0.all fun x => match x with | .int .i64 _ => true | _ => false) = true := by kernel_rfl
theorem plain_laid : (Rows.levelRegionsRow.laid.all fun x => x.2.handleName?.isNone) = true := by kernel_rfl
/-- The pointer to the table, in a world where it is laid. -/
theorem glob_rep {W : World} (h : laidMetH Tryd.prog Rows.levelRegionsRow.laid W) : ∀ g, Rep CX.K [] (there W) W (CX.glob g) (.pointer (some ⟨g, 0, none⟩)) := by
  intro g
  rw [MakeChecks.laidMetH_plain _ _ _ plain_laid] at h
  have h' : laidMet Tryd.prog (("ceiling/level.adds", Lib.tabData .i64 (gl0.map AV.toI)) :: []) W := by rw [← laid_eq]; exact h
  have hT := Lib.tabIs_of_head (k := .i64) (n := 256) (t := 51) (e := 3) gAdds tAdds (by kernel_rfl) (by kernel_rfl) (by kernel_rfl) (by kernel_rfl) h'
  match g with
  | 0 =>
    refine rep_table (X := CX) (t := 51) (row := gl0) (g := 0) (by kernel_rfl) (fun j x hx => ?_) ?_
    · have hj := (List.getElem?_eq_some_iff.1 hx).1
      have h1 := hT.cell gAdds j (by simpa using hj)
      have h2 := List.all_eq_true.1 gl0_all x (List.mem_of_getElem? hx)
      have h3 : (gl0.map AV.toI).getD j 0 = x.toI := by simp [List.getD, List.getElem?_map, hx]
      rw [h3] at h1
      cases x with
      | int k n =>
        cases k <;> first | exact ⟨_, _, rfl, h1⟩ | cases h2
      | _ => cases h2
    · exact World.block_lt_of_cell? W _ (hT.cell gAdds 0 (Nat.lt_of_lt_of_eq (by decide : 0 < 256) (by kernel_rfl)))
  | g + 1 => exact .top _
theorem door_met (os : Os) (args : Array Value) : laidMetH Tryd.prog Rows.levelRegionsRow.laid ((World.doorLaid Tryd.prog 400 os).forCall (fun _ _ => 0) ⟨#[], args, []⟩).memory :=
  laidMetH_of_parts3 (fuel := 8) (laidMet_of_run' 8 (by kernel_rfl) (by kernel_rfl)) (by kernel_rfl) (by kernel_rfl)

theorem law3 (xs : List AV) (h : ArgsAV CX [28, 3] xs) : ∃ m M', FCalls CX 3 m xs [] (.bool true) M' := by
  match xs, h with
  | [x0, x1], ⟨hx0, hx1, _⟩ =>
    obtain ⟨A, B, E, C, D, rfl, tE⟩ := tab_of_arg (by kernel_rfl) (by kernel_rfl) hx0
    obtain ⟨v1, rfl, p1⟩ := int_of_arg (k := .i64) (by kernel_rfl) (by kernel_rfl) hx1
    exact ⟨_, _, soundF3 301 (fun i => match i with | 0 => .agg [.list 58 A, .list 74 B, .list 45 E, .list 113 C, .list 117 D] | _ => .int .i64 v1) [] (.r true) (regions_true A B E C D tE _)⟩

set_option maxRecDepth 100000 in
theorem lifted3 (os : Os) (started : os.Started) (H : Type) (enc : TypeId × Value → H) :
    ReturnsInHanded {} Tryd.checked os 3 .any (fun w args => (Rows.levelRegionsSpec.pre enc Tryd.prog Tryd.f3 [] false w args ∧ laidMetH Tryd.prog Rows.levelRegionsRow.laid w) ∧ sizedMet enc Tryd.prog Tryd.f3 (OpenSpec.ofChange Rows.levelRegionsSpec) false w args)
      (Rows.levelRegionsSpec.post enc Tryd.prog Tryd.f3 false true false false) := by
  refine returnsInHanded_of_change_and (C := Tryd.checked) (X := fun w _ => laidMetH Tryd.prog Rows.levelRegionsRow.laid w) (fun _ _ _ hh h => h.of_heap hh) own started (by kernel_rfl) Tryd.func3
    (ChangeSpec.witness_shaped (enc := enc) (C := Tryd.checked) (os := os) (X := fun w _ => laidMetH Tryd.prog Rows.levelRegionsRow.laid w) false (World.doorLaid Tryd.prog 400 os) #[.agg #[.slice none 0 0, .slice none 0 0, .slice none 0 0, .slice none 0 0, .slice none 0 0], .int .i64 0] 8 rfl (World.shaped_of_RefB (by kernel_rfl) (by kernel_rfl)) (by kernel_rfl) (by kernel_rfl) (by kernel_rfl) (door_met os _)) ?_
  intro W base args ds gs before hval hW _ _ hL _
  exact law_contract' (X := CX) hX laidOut (ts := [28, 3]) (tb := 4) (S := rdL) (by kernel_rfl) (by kernel_rfl) Tryd.underlying4 rdS_ok (by kernel_rfl) (by kernel_rfl) rfl
    (fun ds hds => by match ds, hds with | [d0, d1], _ => rfl) law3 W (glob_rep hL) base args ds gs before hval hW

theorem levelRegionsSaid_holds : Rows.LevelRegionsSaid :=
  OpenClaim.holds_of_wide 3 Tryd.f3 rfl rfl rfl rfl rfl rfl rfl ⟨rfl, rfl, rfl, rfl, rfl⟩ rfl rfl rfl rfl rfl (by kernel_rfl) Tryd.func3 (by kernel_rfl)
    (of_decide_eq_true (by kernel_rfl)) (by unfold Func.isWrapper; first | (rw [if_pos (by decide +kernel)]; kernel_rfl) | (rw [if_neg (by decide +kernel)]; exact ⟨rfl, rfl⟩))
    (fun os started H enc _ => lifted3 os started H enc)

theorem levelRegions_holds : Rows.LevelRegionsCardSaid :=
  Claim7.holds_tied_plain_at .later [] [.data] true (true, "35c39ec9600e20088838671d6c4fa4e0c5eb404779fbb072620c376af2f2eb37") false
    levelRegionsSaid_holds (fun _ h => by cases h) (by kernel_rfl) (fun _ h => by cases h) levelRegions_row_tie rfl ⟨rfl, rfl⟩ (by kernel_rfl) rfl
    (fun f fn hf hfn => by
      obtain rfl : f = 3 := Option.some.inj ((show Tryd.prog.funcNamed "ceiling/ceilinglaw12.LevelRegions" = some 3 by kernel_rfl).symm.trans hf) |>.symm
      obtain rfl : fn = Tryd.f3 := (Option.some.inj (Tryd.func3.symm.trans hfn)).symm
      exact ⟨by kernel_rfl, fun j t ht => by
        rw [Tryd.params3] at ht
        have hm : t ∈ [28, 3] := by simpa using Array.mem_of_getElem? ht
        have hall : ([28, 3].all fun u => !Tryd.prog.wantsStandIn u) = true := by kernel_rfl
        exact (show Tryd.prog.wantsStandIn t = false by simpa using List.all_eq_true.1 hall t hm)⟩)
    (by kernel_rfl)

#print axioms levelRegions_holds
end Go.Proofs.YtdennlgnbecojaaDoor
