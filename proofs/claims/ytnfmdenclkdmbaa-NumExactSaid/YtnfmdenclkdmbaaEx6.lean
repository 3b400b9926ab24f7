/-
  Plain laws of chapter 01: the interval of an operator, in both texts; NumRange.
  Plain laws of chapter 01: hulls; corners contain the values between.
  Plain laws of chapter 01: intervals contain the values, and grow (NumSound).
  Plain laws of chapter 01: the least intervals (NumExact).
  What is proved: ceilinglaw01.NumExact returns true for every input, and leaves its arguments as they were. No condition.
-/
import Derived.Test.YtnfmdenclkdmbaaEx5
import Derived.Test.YtnfmdenclkdmbaaRows
import Derived.Test.YtnfmdenclkdmbaaEx2
import Derived.WalkKit
import Derived.ProofKit
import Derived.OpenShut
set_option linter.all false
set_option linter.deprecated false
namespace Go.Proofs.Ytnfmdenclkdmbaa
open Go Go.Eng

theorem F92_eq (N : Nat) (op : Int) {x y : Int} (hy : inI y) : F92 (N + 5) x y op = some (.r (apS op x y).1 (apS op x y).2 op) := by
  simp only [F92, F17_eq N hy]
theorem liesS_bit {a b : Int} (h : a ≤ b) : liesS a b 0 1 = decide (0 ≤ a ∧ b ≤ 1) := by
  apply bool_eq; unfold liesS; simp; omega
theorem F52_eq (N : Nat) {op a b c d : Int} (hab : a ≤ b) (hcd : c ≤ d) (hc : inI c) (hd : inI d) : F52 (N + 9) op a b c d = some (.r (lgcS op a b c d).1 (lgcS op a b c d).2) := by
  have h43 : F43v4 (N + 8) [[.int .i64 a], [.int .i64 b]] [[.int .i64 c], [.int .i64 d]] op = _ := F43v4_eq N op (apS op) [a, b] [c, d] (by simp) (by simp) (fun x _ y hy => F92_eq (N + 2) op (by
    simp only [List.mem_cons, List.not_mem_nil, or_false] at hy
    rcases hy with rfl | rfl
    · exact hc
    · exact hd))
  simp only [F52, F24_eq, F65, liesS_bit hab, liesS_bit hcd, h43, lgcS]
  by_cases h1 : 0 ≤ a ∧ b ≤ 1
  · by_cases h2 : 0 ≤ c ∧ d ≤ 1
    · simp only [h1, h2, and_self, decide_true, Bool.not_true, if_true]
    · simp only [h1, h2, and_self, and_false, decide_true, decide_false, Bool.not_true, Bool.not_false, if_false]
  · simp only [h1, false_and, decide_false, Bool.not_false, if_false]

theorem F62_fin {op a b c d : Int} (hab : a ≤ b) (hcd : c ≤ d) (h : (0 ≤ a ∧ b ≤ 1) ∧ (0 ≤ c ∧ d ≤ 1)) (ho : op = 13 ∨ op = 14 ∨ op = 15) : F62 39 op a b c d = some (.r (cornS (apS op) [a, b] [c, d]).1 (cornS (apS op) [a, b] [c, d]).2) := by
  have h1 : (a = 0 ∧ b = 0) ∨ (a = 0 ∧ b = 1) ∨ (a = 1 ∧ b = 1) := by omega
  have h2 : (c = 0 ∧ d = 0) ∨ (c = 0 ∧ d = 1) ∨ (c = 1 ∧ d = 1) := by omega
  clear h hab hcd
  rcases ho with rfl | rfl | rfl <;> rcases h1 with ⟨rfl, rfl⟩ | ⟨rfl, rfl⟩ | ⟨rfl, rfl⟩ <;> rcases h2 with ⟨rfl, rfl⟩ | ⟨rfl, rfl⟩ | ⟨rfl, rfl⟩ <;> (show F62 39 _ _ _ _ _ = some _; kernel_rfl)
theorem F62_eq {op a b c d : Int} (hab : a ≤ b) (hcd : c ≤ d) (ho : op = 13 ∨ op = 14 ∨ op = 15) : F62 39 op a b c d = some (.r (lgcS op a b c d).1 (lgcS op a b c d).2) := by
  by_cases h : (0 ≤ a ∧ b ≤ 1) ∧ (0 ≤ c ∧ d ≤ 1)
  · rw [F62_fin hab hcd h ho]; unfold lgcS; rw [if_pos h]
  · have hJ : J62a6 38 a b c d 0 0 = some (.ret a b c d (-9223372036854775808) 9223372036854775807) := by
      simp only [J62a6, F63]
      by_cases h1 : a < 0
      · simp only [h1, decide_true]
      · by_cases h2 : 1 < b
        · simp only [h1, h2, decide_true, decide_false]
        · by_cases h3 : c < 0
          · simp only [h1, h2, h3, decide_true, decide_false]
          · have h4 : 1 < d := by omega
            simp only [h1, h2, h3, h4, decide_true, decide_false]
    show F62 (38 + 1) op a b c d = _
    simp only [F62, hJ, lgcS, if_neg h]

theorem corn_add1 {p q : Int} (hp : inI p) (hq : inI q) : cornS (exS 1) [p, q] [0] = (min p q, max p q) := by
  have ep : w p = p := wrap_id hp
  have eq : w q = q := wrap_id hq
  simp only [cornS, outer, inner, exS, if_true, Int.add_zero, inIb_iff.2 hp, inIb_iff.2 hq, ep, eq, joinS]
  rw [if_pos (show (0 : Int) < 1 by decide), if_neg (show ¬ p < p by omega), if_neg (show ¬ p < p by omega), if_neg (show ¬ q < q by omega)]
theorem corn_add2 {p q : Int} (hp : inI p) (hq : inI q) : cornS (exS 1) [p, q, 0] [0] = (min (min p q) 0, max (max p q) 0) := by
  have ep : w p = p := wrap_id hp
  have eq : w q = q := wrap_id hq
  have e0 : w 0 = 0 := by decide
  have i0 : inIb 0 = true := by decide
  simp only [cornS, outer, inner, exS, if_true, Int.add_zero, inIb_iff.2 hp, inIb_iff.2 hq, ep, eq, joinS, e0, i0]
  rw [if_pos (show (0 : Int) < 1 by decide), if_neg (show ¬ p < p by omega), if_neg (show ¬ p < p by omega), if_neg (show ¬ q < q by omega)]
  simp only
  rw [if_neg (show ¬ max p q < min p q by omega), if_neg (show ¬ (0 : Int) < 0 by decide)]
theorem ab_w {x : Int} (hx : inI x) (h : x ≠ -9223372036854775808) : imax x (IntKind.wrap .i64 (0 - x)) = (x.natAbs : Int) := by
  obtain ⟨x0, x1⟩ := hx
  rw [wrap_id (by unfold inI; omega), imax_eq]; omega
theorem F53_eq (N : Nat) {a b : Int} (hab : a ≤ b) (ha : inI a) (hb : inI b) : F53 (N + 7) a b = some (.r (absS a b).1 (absS a b).2) := by
  simp only [F53, absS, F65]
  by_cases h0 : a = -9223372036854775808
  · simp only [beq_t h0, if_pos h0]
  · have hb0 : b ≠ -9223372036854775808 := by obtain ⟨a0, a1⟩ := ha; omega
    simp only [beq_f h0, if_neg h0, ab_w ha h0, ab_w hb hb0]
    have hw : IntKind.wrap .i64 (0 - a) = -a := by
      obtain ⟨a0, a1⟩ := ha
      rw [wrap_id (by unfold inI; omega)]; omega
    have e1 : F64 (N + 6) 0 [[.int .i64 (-a)], [.int .i64 b]] = some (.r (min (min 0 (-a)) b) (max (max 0 (-a)) b)) := F64_eq N 0 [-a, b] (by simp)
    have e2 : F64 (N + 6) (a.natAbs : Int) [[.int .i64 (b.natAbs : Int)]] = some (.r (min (a.natAbs : Int) (b.natAbs : Int)) (max (a.natAbs : Int) (b.natAbs : Int))) := F64_eq N (a.natAbs : Int) [(b.natAbs : Int)] (by simp)
    simp only [hw, e1, e2]
    by_cases h1 : a ≤ 0
    · by_cases h2 : 0 ≤ b
      · simp only [h1, h2, decide_true, and_self, if_true]
        congr 2 <;> omega
      · simp only [h1, h2, decide_true, decide_false, and_false, if_false]
    · simp only [h1, decide_false, false_and, if_false]

/-- The interval of an operator. -/
def rangeS (op a b c d : Int) : Int × Int :=
  if b < a ∨ (d < c ∧ unS op = false) then (1, 0) else
  if op = 1 then cornS (exS 1) [a, b] [c, d] else
  if op = 2 then cornS (exS 2) [a, b] [c, d] else
  if op = 3 then cornS (exS 3) [a, b] [c, d] else
  if op = 4 then cornS (exS 4) [a, b] (divS c d) else
  if op = 5 then (if c = 0 ∧ d = 0 then (1, 0) else restS a b c d) else
  if op = 6 then (if c = 0 ∧ d = 0 then (1, 0) else resS a b c d) else
  if 7 ≤ op ∧ op ≤ 12 then relS op a b c d else
  if op = 13 ∨ op = 14 ∨ op = 15 then lgcS op a b c d else
  if op = 16 then cornS (exS 2) [0] [a, b] else
  if op = 18 then cornS (exS 2) [1] [a, b] else
  if op = 17 then absS a b else (1, 0)
theorem J19a62974_eq (N : Nat) (op : Int) : J19a62974 N op = some (.nx (decide (op = 5 ∨ op = 6))) := by
  simp only [J19a62974]
  by_cases h5 : op = 5
  · simp [h5]
  simp only [beq_f h5, h5, false_or]
  by_cases h6 : op = 6
  · simp [h6]
  · simp only [beq_f h6, h6, decide_false]
theorem J19a251902_eq (N : Nat) (op : Int) : J19a251902 N op = some (.nx (decide (op = 7 ∨ op = 8 ∨ op = 9 ∨ op = 10 ∨ op = 11 ∨ op = 12))) := by
  simp only [J19a251902]
  by_cases h7 : op = 7
  · simp [h7]
  by_cases h8 : op = 8
  · simp [h8]
  by_cases h9 : op = 9
  · simp [h9]
  by_cases h10 : op = 10
  · simp [h10]
  by_cases h11 : op = 11
  · simp [h11]
  simp only [beq_f h7, h7, beq_f h8, h8, beq_f h9, h9, beq_f h10, h10, beq_f h11, h11, false_or]
  by_cases h12 : op = 12
  · simp [h12]
  · simp only [beq_f h12, h12, decide_false]
theorem J19a1007614_eq (N : Nat) (op : Int) : J19a1007614 N op = some (.nx (decide (op = 13 ∨ op = 14 ∨ op = 15))) := by
  simp only [J19a1007614]
  by_cases h13 : op = 13
  · simp [h13]
  by_cases h14 : op = 14
  · simp [h14]
  simp only [beq_f h13, h13, beq_f h14, h14, false_or]
  by_cases h15 : op = 15
  · simp [h15]
  · simp only [beq_f h15, h15, decide_false]
theorem J20a244_eq (N : Nat) (op : Int) : J20a244 N op = some (.nx (decide (op = 1 ∨ op = 2 ∨ op = 3))) := by
  simp only [J20a244]
  by_cases h1 : op = 1
  · simp [h1]
  by_cases h2 : op = 2
  · simp [h2]
  simp only [beq_f h1, h1, beq_f h2, h2, false_or]
  by_cases h3 : op = 3
  · simp [h3]
  · simp only [beq_f h3, h3, decide_false]
theorem J20a62974_eq (N : Nat) (op : Int) : J20a62974 N op = some (.nx (decide (op = 7 ∨ op = 8 ∨ op = 9 ∨ op = 10 ∨ op = 11 ∨ op = 12))) := by
  simp only [J20a62974]
  by_cases h7 : op = 7
  · simp [h7]
  by_cases h8 : op = 8
  · simp [h8]
  by_cases h9 : op = 9
  · simp [h9]
  by_cases h10 : op = 10
  · simp [h10]
  by_cases h11 : op = 11
  · simp [h11]
  simp only [beq_f h7, h7, beq_f h8, h8, beq_f h9, h9, beq_f h10, h10, beq_f h11, h11, false_or]
  by_cases h12 : op = 12
  · simp [h12]
  · simp only [beq_f h12, h12, decide_false]
theorem J20a251902_eq (N : Nat) (op : Int) : J20a251902 N op = some (.nx (decide (op = 13 ∨ op = 14 ∨ op = 15))) := by
  simp only [J20a251902]
  by_cases h13 : op = 13
  · simp [h13]
  by_cases h14 : op = 14
  · simp [h14]
  simp only [beq_f h13, h13, beq_f h14, h14, false_or]
  by_cases h15 : op = 15
  · simp [h15]
  · simp only [beq_f h15, h15, decide_false]

theorem mem2 {P : Int → Prop} {a b : Int} (ha : P a) (hb : P b) : ∀ x ∈ [a, b], P x := by
  intro x hx
  simp only [List.mem_cons, List.not_mem_nil, or_false] at hx
  rcases hx with rfl | rfl
  · exact ha
  · exact hb
theorem mem1 {P : Int → Prop} {a : Int} (ha : P a) : ∀ x ∈ [a], P x := by
  intro x hx
  simp only [List.mem_cons, List.not_mem_nil, or_false] at hx
  subst hx; exact ha
theorem in0 : inI 0 := by unfold inI; omega
theorem in1 : inI 1 := by unfold inI; omega
theorem divS_in {c d y : Int} (hc : inI c) (hd : inI d) (h : y ∈ divS c d) : inI y ∧ y ≠ 0 := by
  obtain ⟨h1, h2, h3⟩ := divS_mem h
  obtain ⟨c0, c1⟩ := hc
  obtain ⟨d0, d1⟩ := hd
  exact ⟨⟨by omega, by omega⟩, h1⟩

theorem F19_eq (N : Nat) {op a b c d : Int} (ha : inI a) (hb : inI b) (hc : inI c) (hd : inI d) : F19 (N + 10) op a b c d = some (.r (rangeS op a b c d).1 (rangeS op a b c d).2) := by
  by_cases he : b < a ∨ (d < c ∧ unS op = false)
  · have hJ : J19a6 (N + 9) op a b c d 0 0 = some (.ret a b c d 1 0) := by
      simp only [J19a6, F41_eq, F42, F33_eq]
      by_cases h1 : b < a
      · simp only [h1, decide_true]
      · obtain ⟨h2, h3⟩ : d < c ∧ unS op = false := he.resolve_left h1
        simp only [h1, h2, h3, decide_true, decide_false, Bool.not_false]
    simp only [F19, hJ, rangeS, if_pos he]
  have hJ : J19a6 (N + 9) op a b c d 0 0 = some (.nx a b c d 0 0) := by
    simp only [J19a6, F41_eq, F42, F33_eq]
    have h1 : ¬ b < a := fun h => he (.inl h)
    by_cases h2 : d < c
    · have h3 : unS op = true := by
        cases h : unS op with
        | true => rfl
        | false => exact absurd (.inr ⟨h2, h⟩) he
      simp only [h1, h2, h3, decide_true, decide_false, Bool.not_true]
    · simp only [h1, h2, decide_false]
  have hab : a ≤ b := by have : ¬ b < a := fun h => he (.inl h); omega
  have g1 : F43 (N + 9) [[.int .i64 a], [.int .i64 b]] [[.int .i64 c], [.int .i64 d]] = some (.r (cornS (exS 1) [a, b] [c, d]).1 (cornS (exS 1) [a, b] [c, d]).2) :=
    F43_eq (N + 1) (exS 1) [a, b] [c, d] (by simp) (by simp) (fun x hx y hy => F44_eq _ (mem2 ha hb x hx) (mem2 hc hd y hy))
  have g2 : F43v1 (N + 9) [[.int .i64 a], [.int .i64 b]] [[.int .i64 c], [.int .i64 d]] = some (.r (cornS (exS 2) [a, b] [c, d]).1 (cornS (exS 2) [a, b] [c, d]).2) :=
    F43v1_eq (N + 1) (exS 2) [a, b] [c, d] (by simp) (by simp) (fun x hx y hy => F45_eq _ (mem2 ha hb x hx) (mem2 hc hd y hy))
  have g3 : F43v2 (N + 9) [[.int .i64 a], [.int .i64 b]] [[.int .i64 c], [.int .i64 d]] = some (.r (cornS (exS 3) [a, b] [c, d]).1 (cornS (exS 3) [a, b] [c, d]).2) :=
    F43v2_eq (N + 1) (exS 3) [a, b] [c, d] (by simp) (by simp) (fun x hx y hy => F46_eq _ (mem2 ha hb x hx) (mem2 hc hd y hy))
  have g4 : F43v3 (N + 9) [[.int .i64 a], [.int .i64 b]] (rowsI (divS c d)) = some (.r (cornS (exS 4) [a, b] (divS c d)).1 (cornS (exS 4) [a, b] (divS c d)).2) :=
    F43v3_eq (N + 1) (exS 4) [a, b] (divS c d) (by simp) (divS_len c d) (fun x hx y hy => F47_eq _ (mem2 ha hb x hx) (divS_in hc hd hy).2)
  have g16 : F43v1 (N + 9) [[.int .i64 0]] [[.int .i64 a], [.int .i64 b]] = some (.r (cornS (exS 2) [0] [a, b]).1 (cornS (exS 2) [0] [a, b]).2) :=
    F43v1_eq (N + 1) (exS 2) [0] [a, b] (by simp) (by simp) (fun x hx y hy => F45_eq _ (mem1 in0 x hx) (mem2 ha hb y hy))
  have g18 : F43v1 (N + 9) [[.int .i64 1]] [[.int .i64 a], [.int .i64 b]] = some (.r (cornS (exS 2) [1] [a, b]).1 (cornS (exS 2) [1] [a, b]).2) :=
    F43v1_eq (N + 1) (exS 2) [1] [a, b] (by simp) (by simp) (fun x hx y hy => F45_eq _ (mem1 in1 x hx) (mem2 ha hb y hy))
  simp only [F19, hJ, J19a62974_eq, J19a251902_eq, J19a1007614_eq, F48_eq, F42, rangeS, if_neg he]
  have hcd : unS op = false → c ≤ d := fun h => by
    have : ¬ d < c := fun h2 => he (.inr ⟨h2, h⟩)
    omega
  by_cases h1 : op = 1
  · simp only [beq_t h1, if_pos h1, g1]
  by_cases h2 : op = 2
  · simp only [beq_f h1, if_neg h1, beq_t h2, if_pos h2, g2]
  by_cases h3 : op = 3
  · simp only [beq_f h1, if_neg h1, beq_f h2, if_neg h2, beq_t h3, if_pos h3, g3]
  by_cases h4 : op = 4
  · simp only [beq_f h1, if_neg h1, beq_f h2, if_neg h2, beq_f h3, if_neg h3, beq_t h4, if_pos h4, g4]
  simp only [beq_f h1, if_neg h1, beq_f h2, if_neg h2, beq_f h3, if_neg h3, beq_f h4, if_neg h4]
  have hz : ((c == 0) && ((d == 0) && true)) = decide (c = 0 ∧ d = 0) := by apply bool_eq; simp
  by_cases h5 : op = 5
  · subst h5
    rw [decide_eq_true (show (5 : Int) = 5 ∨ (5 : Int) = 6 from .inl rfl)]
    simp only [hz, if_true]
    by_cases h0 : c = 0 ∧ d = 0
    · simp only [h0, and_self, decide_true, if_true]
    · simp only [h0, decide_false, if_false, F49_eq _ hc hd h0, beq_self_eq_true]
  by_cases h6 : op = 6
  · subst h6
    rw [decide_eq_true (show (6 : Int) = 5 ∨ (6 : Int) = 6 from .inr rfl), if_neg (show ¬ (6 : Int) = 5 by decide)]
    simp only [hz, if_true]
    by_cases h0 : c = 0 ∧ d = 0
    · simp only [h0, and_self, decide_true, if_true]
    · simp only [h0, decide_false, if_false, F50_eq _ hc hd]
      rfl
  rw [decide_eq_false (show ¬ (op = 5 ∨ op = 6) by omega), if_neg h5, if_neg h6]
  by_cases h7 : 7 ≤ op ∧ op ≤ 12
  · rw [decide_eq_true (show op = 7 ∨ op = 8 ∨ op = 9 ∨ op = 10 ∨ op = 11 ∨ op = 12 by omega), if_pos h7]
    simp only [F51_eq _ hab (hcd (by unfold unS; rw [decide_eq_false_iff_not]; omega)) h7]
  rw [decide_eq_false (show ¬ (op = 7 ∨ op = 8 ∨ op = 9 ∨ op = 10 ∨ op = 11 ∨ op = 12) by omega), if_neg h7]
  by_cases h13 : op = 13 ∨ op = 14 ∨ op = 15
  · rw [decide_eq_true h13, if_pos h13]
    simp only [F52_eq _ hab (hcd (by unfold unS; rw [decide_eq_false_iff_not]; omega)) hc hd]
  rw [decide_eq_false h13, if_neg h13]
  by_cases h16 : op = 16
  · simp only [beq_t h16, if_pos h16, g16]
  by_cases h18 : op = 18
  · simp only [beq_f h16, if_neg h16, beq_t h18, if_pos h18, g18]
  by_cases h17 : op = 17
  · simp only [beq_f h16, if_neg h16, beq_f h18, if_neg h18, beq_t h17, if_pos h17, F53_eq _ hab ha hb]
  simp only [beq_f h16, if_neg h16, beq_f h18, if_neg h18, beq_f h17, if_neg h17]

theorem F20_eq {op a b c d : Int} (ha : inI a) (hb : inI b) (hc : inI c) (hd : inI d) : F20 40 op a b c d = some (.r (rangeS op a b c d).1 (rangeS op a b c d).2) := by
  show F20 (39 + 1) op a b c d = _
  by_cases he : b < a ∨ (d < c ∧ unS op = false)
  · have hJ : J20a6 39 op a b c d 0 0 = some (.ret a b c d 1 0) := by
      simp only [J20a6, F54_eq 38, F55, F34_eq 38]
      by_cases h1 : b < a
      · simp only [h1, decide_true]
      · obtain ⟨h2, h3⟩ : d < c ∧ unS op = false := he.resolve_left h1
        simp only [h1, h2, h3, decide_true, decide_false, Bool.not_false]
    simp only [F20, hJ, rangeS, if_pos he]
  have hJ : J20a6 39 op a b c d 0 0 = some (.nx a b c d 0 0) := by
    simp only [J20a6, F54_eq 38, F55, F34_eq 38]
    have h1 : ¬ b < a := fun h => he (.inl h)
    by_cases h2 : d < c
    · have h3 : unS op = true := by
        cases h : unS op with
        | true => rfl
        | false => exact absurd (.inr ⟨h2, h⟩) he
      simp only [h1, h2, h3, decide_true, decide_false, Bool.not_true]
    · simp only [h1, h2, decide_false, Bool.not_false]
      cases unS op <;> rfl
  have hab : a ≤ b := by have : ¬ b < a := fun h => he (.inl h); omega
  have hz : J20a14 39 c d = some (.nx (decide (c = 0 ∧ d = 0)) c d) := by
    simp only [J20a14]
    by_cases h0 : c = 0
    · by_cases h1 : d = 0
      · simp [h0, h1]
      · subst h0; simp only [beq_f h1, h1, and_false, decide_false, beq_self_eq_true]
    · simp only [beq_f h0, h0, false_and, decide_false]
  have g : ∀ (o : Int) (l m : List Int), (o = 1 ∨ o = 2 ∨ o = 3 ∨ o = 4) → l.length ≤ 5 → m.length ≤ 5 → (∀ x ∈ l, inI x) → (∀ y ∈ m, inI y ∧ (o = 4 → y ≠ 0)) → F56 39 o (rowsI l) (rowsI m) = some (.r (cornS (exS o) l m).1 (cornS (exS o) l m).2) :=
    fun o l m ho hl hm h1 h2 => F56_eq 31 o (exS o) l m hl hm (fun x hx y hy => F93_eq _ ho (h1 x hx) (h2 y hy).1 (h2 y hy).2)
  have g123 : ∀ o, (o = 1 ∨ o = 2 ∨ o = 3) → F56 39 o [[.int .i64 a], [.int .i64 b]] [[.int .i64 c], [.int .i64 d]] = some (.r (cornS (exS o) [a, b] [c, d]).1 (cornS (exS o) [a, b] [c, d]).2) :=
    fun o ho => g o [a, b] [c, d] (by omega) (by simp) (by simp) (mem2 ha hb) (mem2 (P := fun y => inI y ∧ (o = 4 → y ≠ 0)) ⟨hc, by omega⟩ ⟨hd, by omega⟩)
  have g4 : F56 39 4 [[.int .i64 a], [.int .i64 b]] (rowsI (divS c d)) = some (.r (cornS (exS 4) [a, b] (divS c d)).1 (cornS (exS 4) [a, b] (divS c d)).2) :=
    g 4 [a, b] (divS c d) (by simp) (by simp) (divS_len c d) (mem2 ha hb) (fun y hy => ⟨(divS_in hc hd hy).1, fun _ => (divS_in hc hd hy).2⟩)
  have g16 : F56 39 2 [[.int .i64 0]] [[.int .i64 a], [.int .i64 b]] = some (.r (cornS (exS 2) [0] [a, b]).1 (cornS (exS 2) [0] [a, b]).2) :=
    g 2 [0] [a, b] (by simp) (by simp) (by simp) (mem1 in0) (mem2 (P := fun y => inI y ∧ ((2 : Int) = 4 → y ≠ 0)) ⟨ha, by omega⟩ ⟨hb, by omega⟩)
  have g18 : F56 39 2 [[.int .i64 1]] [[.int .i64 a], [.int .i64 b]] = some (.r (cornS (exS 2) [1] [a, b]).1 (cornS (exS 2) [1] [a, b]).2) :=
    g 2 [1] [a, b] (by simp) (by simp) (by simp) (mem1 in1) (mem2 (P := fun y => inI y ∧ ((2 : Int) = 4 → y ≠ 0)) ⟨ha, by omega⟩ ⟨hb, by omega⟩)
  simp only [F20, hJ, hz, J20a244_eq, J20a62974_eq, J20a251902_eq, F57_eq 33, F55, rangeS, if_neg he]
  have hcd : unS op = false → c ≤ d := fun h => by
    have : ¬ d < c := fun h2 => he (.inr ⟨h2, h⟩)
    omega
  by_cases h1 : op = 1
  · subst h1
    rw [decide_eq_true (show (1 : Int) = 1 ∨ (1 : Int) = 2 ∨ (1 : Int) = 3 by decide)]
    simp only [g123 1 (by omega), if_true]
  by_cases h2 : op = 2
  · subst h2
    rw [decide_eq_true (show (2 : Int) = 1 ∨ (2 : Int) = 2 ∨ (2 : Int) = 3 by decide), if_neg h1]
    simp only [g123 2 (by omega), if_true]
  by_cases h3 : op = 3
  · subst h3
    rw [decide_eq_true (show (3 : Int) = 1 ∨ (3 : Int) = 2 ∨ (3 : Int) = 3 by decide), if_neg h1, if_neg h2]
    simp only [g123 3 (by omega), if_true]
  rw [decide_eq_false (show ¬ (op = 1 ∨ op = 2 ∨ op = 3) by omega), if_neg h1, if_neg h2, if_neg h3]
  by_cases h4 : op = 4
  · subst h4
    simp only [beq_self_eq_true, g4, if_true]
  simp only [beq_f h4, if_neg h4]
  by_cases h5 : op = 5
  · subst h5
    simp only [beq_self_eq_true, if_true]
    by_cases h0 : c = 0 ∧ d = 0
    · simp only [h0, and_self, decide_true, if_true]
    · simp only [h0, decide_false, if_false, F58_eq 38 hc hd (hcd (by decide)) h0]
  simp only [beq_f h5, if_neg h5]
  by_cases h6 : op = 6
  · subst h6
    simp only [beq_self_eq_true, if_true]
    by_cases h0 : c = 0 ∧ d = 0
    · simp only [h0, and_self, decide_true, if_true]
    · simp only [h0, decide_false, if_false, F59_eq 38 hc hd (hcd (by decide))]
  simp only [beq_f h6, if_neg h6]
  by_cases h7 : 7 ≤ op ∧ op ≤ 12
  · rw [decide_eq_true (show op = 7 ∨ op = 8 ∨ op = 9 ∨ op = 10 ∨ op = 11 ∨ op = 12 by omega), if_pos h7]
    have hcd' := hcd (by unfold unS; rw [decide_eq_false_iff_not]; omega)
    simp only [F61_eq 38, F60_eq 35 hab hcd', F40_eq 38, ← rel_can h7]
  rw [decide_eq_false (show ¬ (op = 7 ∨ op = 8 ∨ op = 9 ∨ op = 10 ∨ op = 11 ∨ op = 12) by omega), if_neg h7]
  by_cases h13 : op = 13 ∨ op = 14 ∨ op = 15
  · rw [decide_eq_true h13, if_pos h13]
    simp only [F62_eq hab (hcd (by unfold unS; rw [decide_eq_false_iff_not]; omega)) h13]
  rw [decide_eq_false h13, if_neg h13]
  by_cases h16 : op = 16
  · simp only [beq_t h16, if_pos h16, g16]
  by_cases h18 : op = 18
  · simp only [beq_f h16, if_neg h16, beq_t h18, if_pos h18, g18]
  by_cases h17 : op = 17
  · simp only [beq_f h16, if_neg h16, beq_f h18, if_neg h18, beq_t h17, if_pos h17, absS, F63]
    by_cases h0 : a = -9223372036854775808
    · simp only [beq_t h0, if_pos h0]
    · have hb0 : b ≠ -9223372036854775808 := by obtain ⟨a0, a1⟩ := ha; omega
      have ia : inI (a.natAbs : Int) := by obtain ⟨a0, a1⟩ := ha; unfold inI; omega
      have ib : inI (b.natAbs : Int) := by obtain ⟨b0, b1⟩ := hb; unfold inI; omega
      simp only [beq_f h0, if_neg h0, F27_eq 38, ab_w ha h0, ab_w hb hb0]
      have k1 : F56 39 1 [[.int .i64 (a.natAbs : Int)], [.int .i64 (b.natAbs : Int)], [.int .i64 0]] [[.int .i64 0]] = some (.r _ _) :=
        g 1 [(a.natAbs : Int), (b.natAbs : Int), 0] [0] (by simp) (by simp) (by simp) (by
          intro x hx
          simp only [List.mem_cons, List.not_mem_nil, or_false] at hx
          rcases hx with rfl | rfl | rfl
          · exact ia
          · exact ib
          · exact in0) (mem1 (P := fun y => inI y ∧ ((1 : Int) = 4 → y ≠ 0)) ⟨in0, by omega⟩)
      have k2 : F56 39 1 [[.int .i64 (a.natAbs : Int)], [.int .i64 (b.natAbs : Int)]] [[.int .i64 0]] = some (.r _ _) :=
        g 1 [(a.natAbs : Int), (b.natAbs : Int)] [0] (by simp) (by simp) (by simp) (mem2 ia ib) (mem1 (P := fun y => inI y ∧ ((1 : Int) = 4 → y ≠ 0)) ⟨in0, by omega⟩)
      rw [corn_add2 ia ib] at k1
      rw [corn_add1 ia ib] at k2
      simp only [k1, k2]
      have hh : hasS a b 0 = decide (a ≤ 0 ∧ 0 ≤ b) := by apply bool_eq; simp [hasS]
      rw [hh]
      by_cases h2 : a ≤ 0 ∧ 0 ≤ b
      · rw [decide_eq_true h2, if_pos h2]
        simp only
        congr 2 <;> omega
      · rw [decide_eq_false h2, if_neg h2]
  simp only [beq_f h16, if_neg h16, beq_f h18, if_neg h18, beq_f h17, if_neg h17]

/-- NumRange. -/
theorem numRange_true {op a b c d : Int} (_ : 0 ≤ op ∧ op ≤ 255) (ha : inI a) (hb : inI b) (hc : inI c) (hd : inI d) : F5 41 op a b c d = some (.r true) := by
  have e1 : F19 40 op a b c d = _ := F19_eq 30 ha hb hc hd
  have e2 : F20 40 op a b c d = _ := F20_eq ha hb hc hd
  show F5 (40 + 1) op a b c d = _
  simp only [F5, e1, e2, beq_self_eq_true, Bool.and_self, head_true]
end Go.Proofs.Ytnfmdenclkdmbaa

namespace Go.Proofs.Ytnfmdenclkdmbaa
open Go Go.Eng

def isHull (Q : Int → Prop) (h : Int × Int) : Prop := ((∀ v, ¬ Q v) ∧ h = (1, 0)) ∨ (Q h.1 ∧ Q h.2 ∧ ∀ v, Q v → h.1 ≤ v ∧ v ≤ h.2)

theorem isHull_none : isHull (fun _ => False) (1, 0) := .inl ⟨fun _ h => h, rfl⟩
theorem isHull_congr {Q Q' : Int → Prop} {h : Int × Int} (e : ∀ v, Q v ↔ Q' v) (hh : isHull Q h) : isHull Q' h := by
  rcases hh with ⟨h1, h2⟩ | ⟨h1, h2, h3⟩
  · exact .inl ⟨fun v hv => h1 v ((e v).2 hv), h2⟩
  · exact .inr ⟨(e _).1 h1, (e _).1 h2, fun v hv => h3 v ((e v).2 hv)⟩
theorem isHull_unique {Q : Int → Prop} {h g : Int × Int} (hh : isHull Q h) (hg : isHull Q g) : h = g := by
  rcases hh with ⟨h1, h2⟩ | ⟨h1, h2, h3⟩
  · rcases hg with ⟨g1, g2⟩ | ⟨g1, g2, g3⟩
    · rw [h2, g2]
    · exact absurd g1 (h1 _)
  · rcases hg with ⟨g1, g2⟩ | ⟨g1, g2, g3⟩
    · exact absurd h1 (g1 _)
    · have a1 := h3 _ g1
      have a2 := h3 _ g2
      have b1 := g3 _ h1
      have b2 := g3 _ h2
      obtain ⟨p, q⟩ := h
      obtain ⟨r, s⟩ := g
      simp only at *
      rw [Prod.mk.injEq]
      omega
theorem isHull_join {Q : Int → Prop} {a b v : Int} (hh : isHull Q (a, b)) : isHull (fun u => Q u ∨ u = v) (joinS a b v v) := by
  unfold joinS
  rcases hh with ⟨h1, h2⟩ | ⟨h1, h2, h3⟩
  · rw [Prod.mk.injEq] at h2
    obtain ⟨rfl, rfl⟩ := h2
    rw [if_pos (show (0 : Int) < 1 by decide), if_neg (by omega)]
    exact .inr ⟨.inr rfl, .inr rfl, fun u hu => by rcases hu with hu | rfl; exact absurd hu (h1 u); exact ⟨Int.le_refl _, Int.le_refl _⟩⟩
  · have hab := h3 _ h1
    rw [if_neg (by simp only at hab; omega), if_neg (by omega)]
    simp only at *
    refine .inr ⟨?_, ?_, fun u hu => ?_⟩
    · simp only
      by_cases e : a ≤ v
      · rw [Int.min_eq_left e]; exact .inl h1
      · rw [Int.min_eq_right (by omega)]; exact .inr rfl
    · simp only
      by_cases e : b ≤ v
      · rw [Int.max_eq_right e]; exact .inr rfl
      · rw [Int.max_eq_left (by omega)]; exact .inl h2
    · rcases hu with hu | rfl
      · have := h3 u hu; omega
      · omega

theorem inner_spec (f : Int → Int → Int × Bool) (x : Int) : ∀ (m : List Int) (o : Int × Int) (Q : Int → Prop), isHull Q o →
    (inner f x m o = none ∧ ∃ y ∈ m, (f x y).2 = false) ∨ ∃ o', inner f x m o = some o' ∧ (∀ y ∈ m, (f x y).2 = true) ∧ isHull (fun v => Q v ∨ ∃ y ∈ m, v = (f x y).1) o'
  | [], o, Q, h => .inr ⟨o, rfl, (fun y hy => by cases hy), isHull_congr (fun v => ⟨.inl, fun h => by rcases h with h | ⟨y, hy, _⟩; exact h; cases hy⟩) h⟩
  | y :: m, o, Q, h => by
    simp only [inner]
    cases hok : (f x y).2 with
    | false => exact .inl ⟨rfl, y, List.mem_cons_self, hok⟩
    | true =>
      rcases inner_spec f x m _ _ (isHull_join (v := (f x y).1) h) with ⟨h1, z, hz, h2⟩ | ⟨o', h1, h2, h3⟩
      · exact .inl ⟨h1, z, List.mem_cons_of_mem _ hz, h2⟩
      · refine .inr ⟨o', h1, fun z hz => ?_, isHull_congr (fun v => ?_) h3⟩
        · rcases List.mem_cons.1 hz with rfl | hz
          · exact hok
          · exact h2 z hz
        · constructor
          · rintro ((hq | rfl) | ⟨z, hz, rfl⟩)
            · exact .inl hq
            · exact .inr ⟨y, List.mem_cons_self, rfl⟩
            · exact .inr ⟨z, List.mem_cons_of_mem _ hz, rfl⟩
          · rintro (hq | ⟨z, hz, rfl⟩)
            · exact .inl (.inl hq)
            · rcases List.mem_cons.1 hz with rfl | hz
              · exact .inl (.inr rfl)
              · exact .inr ⟨z, hz, rfl⟩
theorem outer_spec (f : Int → Int → Int × Bool) (m : List Int) : ∀ (l : List Int) (o : Int × Int) (Q : Int → Prop), isHull Q o →
    (outer f m l o = none ∧ ∃ x ∈ l, ∃ y ∈ m, (f x y).2 = false) ∨ ∃ o', outer f m l o = some o' ∧ (∀ x ∈ l, ∀ y ∈ m, (f x y).2 = true) ∧ isHull (fun v => Q v ∨ ∃ x ∈ l, ∃ y ∈ m, v = (f x y).1) o'
  | [], o, Q, h => .inr ⟨o, rfl, (fun y hy => by cases hy), isHull_congr (fun v => ⟨.inl, fun h => by rcases h with h | ⟨y, hy, _⟩; exact h; cases hy⟩) h⟩
  | x :: l, o, Q, h => by
    simp only [outer]
    rcases inner_spec f x m o Q h with ⟨h1, y, hy, h2⟩ | ⟨o1, h1, h2, h3⟩
    · rw [h1]
      exact .inl ⟨rfl, x, List.mem_cons_self, y, hy, h2⟩
    · rw [h1]
      rcases outer_spec f m l o1 _ h3 with ⟨h4, x', hx, y, hy, h5⟩ | ⟨o', h4, h5, h6⟩
      · exact .inl ⟨h4, x', List.mem_cons_of_mem _ hx, y, hy, h5⟩
      · refine .inr ⟨o', h4, fun z hz => ?_, isHull_congr (fun v => ?_) h6⟩
        · rcases List.mem_cons.1 hz with rfl | hz
          · exact h2
          · exact h5 z hz
        · constructor
          · rintro ((hq | ⟨y, hy, rfl⟩) | ⟨z, hz, y, hy, rfl⟩)
            · exact .inl hq
            · exact .inr ⟨x, List.mem_cons_self, y, hy, rfl⟩
            · exact .inr ⟨z, List.mem_cons_of_mem _ hz, y, hy, rfl⟩
          · rintro (hq | ⟨z, hz, y, hy, rfl⟩)
            · exact .inl (.inl hq)
            · rcases List.mem_cons.1 hz with rfl | hz
              · exact .inl (.inr ⟨y, hy, rfl⟩)
              · exact .inr ⟨z, hz, y, hy, rfl⟩
def fullI : Int × Int := (-9223372036854775808, 9223372036854775807)
theorem corn_spec (f : Int → Int → Int × Bool) (l m : List Int) :
    (cornS f l m = fullI ∧ ∃ x ∈ l, ∃ y ∈ m, (f x y).2 = false) ∨ ((∀ x ∈ l, ∀ y ∈ m, (f x y).2 = true) ∧ isHull (fun v => ∃ x ∈ l, ∃ y ∈ m, v = (f x y).1) (cornS f l m)) := by
  unfold cornS
  rcases outer_spec f m l (1, 0) _ isHull_none with ⟨h1, h2⟩ | ⟨o, h1, h2, h3⟩
  · rw [h1]; exact .inl ⟨rfl, h2⟩
  · rw [h1]; exact .inr ⟨h2, isHull_congr (fun v => ⟨fun h => h.resolve_left id, .inr⟩) h3⟩

/-! ### The exact values -/
def exI (op x y : Int) : Int := if op = 1 then x + y else if op = 2 then x - y else if op = 3 then x * y else Int.tdiv x y
theorem exS_exI (op x y : Int) : exS op x y = (w (exI op x y), inIb (exI op x y)) := by
  unfold exS exI
  repeat' split
  all_goals rfl

theorem mul_mono {a b y : Int} (h : a ≤ b) (hy : 0 ≤ y) : a * y ≤ b * y := Int.mul_le_mul_of_nonneg_right h hy
theorem mul_anti {a b y : Int} (h : a ≤ b) (hy : y ≤ 0) : b * y ≤ a * y := Int.mul_le_mul_of_nonpos_right h hy
/-- Between: for one operand between two, the value is between. -/
theorem mul_btw {a b x y : Int} (h1 : a ≤ x) (h2 : x ≤ b) : (a * y ≤ x * y ∨ b * y ≤ x * y) ∧ (x * y ≤ a * y ∨ x * y ≤ b * y) := by
  by_cases hy : 0 ≤ y
  · exact ⟨.inl (mul_mono h1 hy), .inr (mul_mono h2 hy)⟩
  · exact ⟨.inr (mul_anti h2 (by omega)), .inl (mul_anti h1 (by omega))⟩
theorem tdiv_pos_mono {a b y : Int} (h : a ≤ b) (hy : 0 < y) : Int.tdiv a y ≤ Int.tdiv b y := Int.tdiv_le_tdiv hy h
theorem tdiv_btw {a b x y : Int} (h1 : a ≤ x) (h2 : x ≤ b) : (Int.tdiv a y ≤ Int.tdiv x y ∨ Int.tdiv b y ≤ Int.tdiv x y) ∧ (Int.tdiv x y ≤ Int.tdiv a y ∨ Int.tdiv x y ≤ Int.tdiv b y) := by
  rcases Int.lt_trichotomy y 0 with hy | hy | hy
  · obtain ⟨z, rfl⟩ : ∃ z, y = -z := ⟨-y, by omega⟩
    have g1 := tdiv_pos_mono h1 (show 0 < z by omega)
    have g2 := tdiv_pos_mono h2 (show 0 < z by omega)
    simp only [Int.tdiv_neg]
    exact ⟨.inr (by omega), .inl (by omega)⟩
  · subst hy
    simp only [Int.tdiv_zero]
    exact ⟨.inl (Int.le_refl _), .inl (Int.le_refl _)⟩
  · exact ⟨.inl (tdiv_pos_mono h1 hy), .inr (tdiv_pos_mono h2 hy)⟩
theorem tdiv_den {x y z : Int} (h0 : 0 < y) (h : y ≤ z) : (0 ≤ x → Int.tdiv x z ≤ Int.tdiv x y ∧ 0 ≤ Int.tdiv x z) ∧ (x ≤ 0 → Int.tdiv x y ≤ Int.tdiv x z ∧ Int.tdiv x z ≤ 0) := by
  have key : ∀ {x : Int}, 0 ≤ x → Int.tdiv x z ≤ Int.tdiv x y ∧ 0 ≤ Int.tdiv x z := by
    intro x hx
    obtain ⟨n, rfl⟩ := Int.eq_ofNat_of_zero_le hx
    obtain ⟨p, rfl⟩ := Int.eq_ofNat_of_zero_le (show 0 ≤ y by omega)
    obtain ⟨q, rfl⟩ := Int.eq_ofNat_of_zero_le (show 0 ≤ z by omega)
    rw [← Int.ofNat_tdiv, ← Int.ofNat_tdiv]
    have : n / q ≤ n / p := Nat.div_le_div_left (by omega) (by omega)
    exact ⟨Int.ofNat_le.2 this, Int.natCast_nonneg _⟩
  refine ⟨key, fun hx => ?_⟩
  have := key (x := -x) (by omega)
  rw [Int.neg_tdiv, Int.neg_tdiv] at this
  omega
/-- For positive divisors between two. -/
theorem tdiv_den_btw {x p y q : Int} (h0 : 0 < p) (h1 : p ≤ y) (h2 : y ≤ q) : (Int.tdiv x p ≤ Int.tdiv x y ∨ Int.tdiv x q ≤ Int.tdiv x y) ∧ (Int.tdiv x y ≤ Int.tdiv x p ∨ Int.tdiv x y ≤ Int.tdiv x q) := by
  by_cases hx : 0 ≤ x
  · have g1 := (tdiv_den (x := x) h0 h1).1 hx
    have g2 := (tdiv_den (x := x) (show 0 < y by omega) h2).1 hx
    exact ⟨.inr g2.1, .inl g1.1⟩
  · have g1 := (tdiv_den (x := x) h0 h1).2 (by omega)
    have g2 := (tdiv_den (x := x) (show 0 < y by omega) h2).2 (by omega)
    exact ⟨.inl g1.1, .inr g2.1⟩
theorem tdiv_den_btw' {x p y q : Int} (h0 : q < 0) (h1 : p ≤ y) (h2 : y ≤ q) : (Int.tdiv x p ≤ Int.tdiv x y ∨ Int.tdiv x q ≤ Int.tdiv x y) ∧ (Int.tdiv x y ≤ Int.tdiv x p ∨ Int.tdiv x y ≤ Int.tdiv x q) := by
  have := tdiv_den_btw (x := x) (p := -q) (y := -y) (q := -p) (by omega) (by omega) (by omega)
  simp only [Int.tdiv_neg] at this
  omega
theorem divS_has {c d y : Int} (hy : y = c ∨ y = -1 ∨ y = 1 ∨ y = d) (h0 : y ≠ 0) (h1 : c ≤ y) (h2 : y ≤ d) : y ∈ divS c d := by
  unfold divS
  rw [List.mem_filter]
  refine ⟨by simp only [List.mem_cons, List.not_mem_nil, or_false]; exact hy, ?_⟩
  simp only [hasS, Bool.and_eq_true, Bool.not_eq_true', decide_eq_true_eq]
  exact ⟨beq_f h0, h1, h2⟩
/-- The divisors that bound. -/
theorem div_ends {c d y : Int} (h0 : y ≠ 0) (h1 : c ≤ y) (h2 : y ≤ d) : ∃ p q, p ∈ divS c d ∧ q ∈ divS c d ∧ p ≤ y ∧ y ≤ q ∧ (0 < p ∨ q < 0) := by
  by_cases hy : 0 < y
  · by_cases hc : 0 < c
    · exact ⟨c, d, divS_has (.inl rfl) (by omega) (by omega) (by omega), divS_has (.inr (.inr (.inr rfl))) (by omega) (by omega) (by omega), h1, h2, .inl hc⟩
    · exact ⟨1, d, divS_has (.inr (.inr (.inl rfl))) (by omega) (by omega) (by omega), divS_has (.inr (.inr (.inr rfl))) (by omega) (by omega) (by omega), by omega, h2, .inl (by omega)⟩
  · by_cases hd : d < 0
    · exact ⟨c, d, divS_has (.inl rfl) (by omega) (by omega) (by omega), divS_has (.inr (.inr (.inr rfl))) (by omega) (by omega) (by omega), h1, h2, .inr hd⟩
    · exact ⟨c, -1, divS_has (.inl rfl) (by omega) (by omega) (by omega), divS_has (.inr (.inl rfl)) (by omega) (by omega) (by omega), h1, by omega, .inr (by omega)⟩

/-- The operands on the right that matter. -/
def rgt (op c d : Int) : List Int := if op = 4 then divS c d else [c, d]
theorem btw2 {g : Int → Int → Int} {l m : List Int} {x y : Int} {a b p q : Int} (ha : a ∈ l) (hb : b ∈ l) (hp : p ∈ m) (hq : q ∈ m)
    (h1 : (g a y ≤ g x y ∨ g b y ≤ g x y) ∧ (g x y ≤ g a y ∨ g x y ≤ g b y))
    (h2 : ∀ x, (g x p ≤ g x y ∨ g x q ≤ g x y) ∧ (g x y ≤ g x p ∨ g x y ≤ g x q)) :
    (∃ x1 ∈ l, ∃ y1 ∈ m, g x1 y1 ≤ g x y) ∧ (∃ x1 ∈ l, ∃ y1 ∈ m, g x y ≤ g x1 y1) := by
  constructor
  · rcases h1.1 with h | h
    · rcases (h2 a).1 with k | k
      · exact ⟨a, ha, p, hp, by omega⟩
      · exact ⟨a, ha, q, hq, by omega⟩
    · rcases (h2 b).1 with k | k
      · exact ⟨b, hb, p, hp, by omega⟩
      · exact ⟨b, hb, q, hq, by omega⟩
  · rcases h1.2 with h | h
    · rcases (h2 a).2 with k | k
      · exact ⟨a, ha, p, hp, by omega⟩
      · exact ⟨a, ha, q, hq, by omega⟩
    · rcases (h2 b).2 with k | k
      · exact ⟨b, hb, p, hp, by omega⟩
      · exact ⟨b, hb, q, hq, by omega⟩
theorem bnd {op a b c d x y : Int} (ho : op = 1 ∨ op = 2 ∨ op = 3 ∨ op = 4) (h1 : a ≤ x) (h2 : x ≤ b) (h3 : c ≤ y) (h4 : y ≤ d) (h0 : op = 4 → y ≠ 0) :
    (∃ x1 ∈ [a, b], ∃ y1 ∈ rgt op c d, exI op x1 y1 ≤ exI op x y) ∧ (∃ x1 ∈ [a, b], ∃ y1 ∈ rgt op c d, exI op x y ≤ exI op x1 y1) := by
  have ma : a ∈ [a, b] := List.mem_cons_self
  have mb : b ∈ [a, b] := List.mem_cons_of_mem _ List.mem_cons_self
  have mc : c ∈ [c, d] := List.mem_cons_self
  have md : d ∈ [c, d] := List.mem_cons_of_mem _ List.mem_cons_self
  rcases ho with rfl | rfl | rfl | rfl
  · exact btw2 (g := exI 1) ma mb mc md (by simp only [exI, if_true]; omega) (fun x => by simp only [exI, if_true]; omega)
  · have e : ∀ x y, exI 2 x y = x - y := fun x y => rfl
    exact btw2 (g := exI 2) ma mb mc md (by simp only [e]; omega) (fun x => by simp only [e]; omega)
  · have e : ∀ x y, exI 3 x y = x * y := fun x y => rfl
    exact btw2 (g := exI 3) ma mb mc md (by simp only [e]; exact mul_btw h1 h2) (fun x => by simp only [e, Int.mul_comm x]; exact mul_btw h3 h4)
  · have e : ∀ x y, exI 4 x y = Int.tdiv x y := fun x y => rfl
    obtain ⟨p, q, hp, hq, h5, h6, h7⟩ := div_ends (h0 rfl) h3 h4
    exact btw2 (g := exI 4) ma mb hp hq (by simp only [e]; exact tdiv_btw h1 h2) (fun x => by
      simp only [e]
      rcases h7 with h7 | h7
      · exact tdiv_den_btw h7 h5 h6
      · exact tdiv_den_btw' h7 h5 h6)

/-- Corners contain the exact value of what is between, or are the full interval. -/
theorem corn_sound {op : Int} {l m : List Int} {v : Int} (h1 : ∃ x ∈ l, ∃ y ∈ m, exI op x y ≤ v) (h2 : ∃ x ∈ l, ∃ y ∈ m, v ≤ exI op x y) :
    cornS (exS op) l m = fullI ∨ (inI v ∧ (cornS (exS op) l m).1 ≤ v ∧ v ≤ (cornS (exS op) l m).2) := by
  rcases corn_spec (exS op) l m with ⟨h, _⟩ | ⟨hok, hh⟩
  · exact .inl h
  · right
    obtain ⟨x1, hx1, y1, hy1, k1⟩ := h1
    obtain ⟨x2, hx2, y2, hy2, k2⟩ := h2
    have i1 := hok x1 hx1 y1 hy1
    have i2 := hok x2 hx2 y2 hy2
    rw [exS_exI] at i1 i2
    rw [inIb_iff] at i1 i2
    have e1 : (exS op x1 y1).1 = exI op x1 y1 := by rw [exS_exI]; exact wrap_id i1
    have e2 : (exS op x2 y2).1 = exI op x2 y2 := by rw [exS_exI]; exact wrap_id i2
    rcases hh with ⟨hn, _⟩ | ⟨_, _, hall⟩
    · exact absurd ⟨x1, hx1, y1, hy1, rfl⟩ (hn _)
    · have a1 := hall _ ⟨x1, hx1, y1, hy1, rfl⟩
      have a2 := hall _ ⟨x2, hx2, y2, hy2, rfl⟩
      rw [e1] at a1
      rw [e2] at a2
      obtain ⟨i3, i4⟩ := i1
      obtain ⟨i5, i6⟩ := i2
      exact ⟨⟨by omega, by omega⟩, by omega, by omega⟩
end Go.Proofs.Ytnfmdenclkdmbaa

namespace Go.Proofs.Ytnfmdenclkdmbaa
open Go Go.Eng

def Within (r : Int × Int) (v : Int) : Prop := r.1 ≤ v ∧ v ≤ r.2
def Inside (s r : Int × Int) : Prop := s.1 ≤ s.2 → r.1 ≤ s.1 ∧ s.2 ≤ r.2
theorem within_full {v : Int} (h : inI v) : Within fullI v := h
theorem inside_full {s : Int × Int} (h1 : inI s.1) (h2 : inI s.2) : Inside s fullI := fun _ => ⟨h1.1, h2.2⟩
theorem hull_in {Q : Int → Prop} {h : Int × Int} (hh : isHull Q h) (hq : ∀ v, Q v → inI v) : inI h.1 ∧ inI h.2 := by
  rcases hh with ⟨_, rfl⟩ | ⟨h1, h2, _⟩
  · exact ⟨in1, in0⟩
  · exact ⟨hq _ h1, hq _ h2⟩
theorem corn_in (op : Int) (l m : List Int) : inI (cornS (exS op) l m).1 ∧ inI (cornS (exS op) l m).2 := by
  rcases corn_spec (exS op) l m with ⟨h, _⟩ | ⟨_, hh⟩
  · rw [h]; unfold fullI inI; omega
  · refine hull_in hh ?_
    rintro v ⟨x, _, y, _, rfl⟩
    rw [exS_exI]
    exact wrap_in _
theorem corn_both {op : Int} {l m l' m' : List Int} {e : Int} (h1 : ∃ x ∈ l, ∃ y ∈ m, exI op x y ≤ e) (h2 : ∃ x ∈ l, ∃ y ∈ m, e ≤ exI op x y) (h3 : ∀ x ∈ l', ∀ y ∈ m', exI op x y = e) :
    Within (cornS (exS op) l m) (w e) ∧ Inside (cornS (exS op) l' m') (cornS (exS op) l m) := by
  rcases corn_sound h1 h2 with h | ⟨hi, k1, k2⟩
  · rw [h]
    exact ⟨within_full (wrap_in _), inside_full (corn_in op l' m').1 (corn_in op l' m').2⟩
  · have ew : w e = e := wrap_id hi
    rw [ew]
    refine ⟨⟨k1, k2⟩, fun hs => ?_⟩
    rcases corn_spec (exS op) l' m' with ⟨_, x, hx, y, hy, hb⟩ | ⟨_, hh⟩
    · rw [exS_exI, h3 x hx y hy] at hb
      rw [inIb_iff.2 hi] at hb
      cases hb
    · have hq : ∀ v, (∃ x ∈ l', ∃ y ∈ m', v = (exS op x y).1) → v = e := by
        rintro v ⟨x, hx, y, hy, rfl⟩
        rw [exS_exI, h3 x hx y hy]
        exact ew
      rcases hh with ⟨_, h4⟩ | ⟨h4, h5, _⟩
      · rw [h4] at hs
        exact absurd hs (by decide)
      · rw [hq _ h4, hq _ h5]
        exact ⟨k1, k2⟩

theorem rng_ar {op a b c d : Int} (ho : op = 1 ∨ op = 2 ∨ op = 3 ∨ op = 4) (hab : a ≤ b) (hcd : c ≤ d) : rangeS op a b c d = cornS (exS op) [a, b] (rgt op c d) := by
  have he : ¬ (b < a ∨ (d < c ∧ unS op = false)) := by omega
  unfold rangeS
  rw [if_neg he]
  rcases ho with rfl | rfl | rfl | rfl <;> rfl
theorem rgt_one {op y y1 : Int} (h : y1 ∈ rgt op y y) : y1 = y := by
  unfold rgt at h
  split at h
  · obtain ⟨_, h1, h2⟩ := divS_mem h; omega
  · simp only [List.mem_cons, List.not_mem_nil, or_false, or_self] at h; exact h
theorem one2 {x x1 : Int} (h : x1 ∈ [x, x]) : x1 = x := by
  simp only [List.mem_cons, List.not_mem_nil, or_false, or_self] at h; exact h

theorem snd_ar {op a b c d x y : Int} (ho : op = 1 ∨ op = 2 ∨ op = 3 ∨ op = 4) (h1 : a ≤ x) (h2 : x ≤ b) (h3 : c ≤ y) (h4 : y ≤ d) (hok : (apS op x y).2 = true) :
    Within (rangeS op a b c d) (apS op x y).1 ∧ Inside (rangeS op x x y y) (rangeS op a b c d) := by
  have h0 : op = 4 → y ≠ 0 := by
    rintro rfl rfl
    exact absurd hok (by show ¬ (false = true); decide)
  have hv : (apS op x y).1 = w (exI op x y) := by
    rcases ho with rfl | rfl | rfl | rfl
    · rfl
    · rfl
    · rfl
    · show (divQ y (w (Int.tdiv x y))).1 = _
      unfold divQ
      rw [if_neg (h0 rfl)]
      rfl
  obtain ⟨k1, k2⟩ := bnd ho h1 h2 h3 h4 h0
  rw [rng_ar ho (by omega) (by omega), rng_ar ho (Int.le_refl x) (Int.le_refl y), hv]
  exact corn_both k1 k2 fun x1 hx1 y1 hy1 => by rw [one2 hx1, rgt_one hy1]

theorem rng16 {a b c d : Int} (hab : a ≤ b) : rangeS 16 a b c d = cornS (exS 2) [0] [a, b] := by
  have he : ¬ (b < a ∨ (d < c ∧ unS 16 = false)) := by
    rintro (h | ⟨_, h⟩)
    · omega
    · exact absurd h (by decide)
  unfold rangeS
  rw [if_neg he]; rfl
theorem rng18 {a b c d : Int} (hab : a ≤ b) : rangeS 18 a b c d = cornS (exS 2) [1] [a, b] := by
  have he : ¬ (b < a ∨ (d < c ∧ unS 18 = false)) := by
    rintro (h | ⟨_, h⟩)
    · omega
    · exact absurd h (by decide)
  unfold rangeS
  rw [if_neg he]; rfl
theorem rng17 {a b c d : Int} (hab : a ≤ b) : rangeS 17 a b c d = absS a b := by
  have he : ¬ (b < a ∨ (d < c ∧ unS 17 = false)) := by
    rintro (h | ⟨_, h⟩)
    · omega
    · exact absurd h (by decide)
  unfold rangeS
  rw [if_neg he]; rfl
theorem snd_sub {k a b x : Int} (h1 : a ≤ x) (h2 : x ≤ b) : Within (cornS (exS 2) [k] [a, b]) (w (k - x)) ∧ Inside (cornS (exS 2) [k] [x, x]) (cornS (exS 2) [k] [a, b]) := by
  have e : ∀ x y, exI 2 x y = x - y := fun x y => rfl
  refine corn_both (e := k - x) ⟨k, List.mem_cons_self, b, List.mem_cons_of_mem _ List.mem_cons_self, by rw [e]; omega⟩ ⟨k, List.mem_cons_self, a, List.mem_cons_self, by rw [e]; omega⟩ fun x1 hx1 y1 hy1 => ?_
  rw [e, one2 hy1]
  simp only [List.mem_cons, List.not_mem_nil, or_false] at hx1
  rw [hx1]
theorem snd17 {a b x : Int} (ha : inI a) (hb : inI b) (h1 : a ≤ x) (h2 : x ≤ b) : Within (absS a b) (imax x (w (0 - x))) ∧ Inside (absS x x) (absS a b) := by
  have hx : inI x := ⟨by have := ha.1; omega, by have := hb.2; omega⟩
  have hin : inI (imax x (w (0 - x))) := by unfold imax; split; exact wrap_in _; exact hx
  have hs : inI (absS x x).1 ∧ inI (absS x x).2 := by
    unfold absS
    obtain ⟨x0, x1⟩ := hx
    split
    · unfold inI; omega
    · split <;> unfold inI <;> simp only <;> omega
  by_cases h0 : a = -9223372036854775808
  · have e : absS a b = fullI := by unfold absS; rw [if_pos h0]; rfl
    rw [e]
    exact ⟨within_full hin, inside_full hs.1 hs.2⟩
  · have hx0 : x ≠ -9223372036854775808 := by have := ha.1; omega
    have ev : imax x (w (0 - x)) = (x.natAbs : Int) := ab_w hx hx0
    rw [ev]
    unfold absS Within Inside
    rw [if_neg h0, if_neg hx0]
    obtain ⟨x0, x1⟩ := hx
    constructor
    · split <;> simp only <;> omega
    · intro _
      split <;> split <;> simp only <;> omega
theorem rng5 {a b c d : Int} (hab : a ≤ b) (hcd : c ≤ d) (h0 : ¬ (c = 0 ∧ d = 0)) : rangeS 5 a b c d = restS a b c d := by
  have he : ¬ (b < a ∨ (d < c ∧ unS 5 = false)) := by omega
  unfold rangeS
  rw [if_neg he]
  show (if c = 0 ∧ d = 0 then _ else _) = _
  rw [if_neg h0]
theorem rng6 {a b c d : Int} (hab : a ≤ b) (hcd : c ≤ d) (h0 : ¬ (c = 0 ∧ d = 0)) : rangeS 6 a b c d = resS a b c d := by
  have he : ¬ (b < a ∨ (d < c ∧ unS 6 = false)) := by omega
  unfold rangeS
  rw [if_neg he]
  show (if c = 0 ∧ d = 0 then _ else _) = _
  rw [if_neg h0]
theorem tmod_facts {x y : Int} (h0 : y ≠ 0) : (Int.tmod x y).natAbs ≤ x.natAbs ∧ (Int.tmod x y).natAbs < y.natAbs ∧ (0 ≤ x → 0 ≤ Int.tmod x y) ∧ (x ≤ 0 → Int.tmod x y ≤ 0) := by
  have h : (Int.tmod x y).natAbs = x.natAbs % y.natAbs := Int.natAbs_tmod x y
  refine ⟨by rw [h]; exact Nat.mod_le _ _, by rw [h]; exact Nat.mod_lt _ (by omega), fun hx => Int.tmod_nonneg y hx, fun hx => ?_⟩
  have := Int.tmod_nonneg (a := -x) y (by omega)
  rw [Int.neg_tmod] at this
  omega
theorem snd5 {a b c d x y : Int} (h1 : a ≤ x) (h2 : x ≤ b) (h3 : c ≤ y) (h4 : y ≤ d) (h0 : y ≠ 0) : Within (restS a b c d) (Int.tmod x y) ∧ Inside (restS x x y y) (restS a b c d) := by
  obtain ⟨t1, t2, t3, t4⟩ := tmod_facts (x := x) h0
  unfold restS mgS Within Inside
  generalize Int.tmod x y = v at *
  simp only
  omega
theorem modS_facts {x y : Int} (hy : inI y) (h0 : y ≠ 0) : (0 < y → 0 ≤ modS x y ∧ modS x y < y ∧ (0 ≤ x → modS x y ≤ x)) ∧ (y < 0 → y < modS x y ∧ modS x y ≤ 0 ∧ (x ≤ 0 → x ≤ modS x y)) := by
  obtain ⟨t1, t2, t3, t4⟩ := tmod_facts (x := x) h0
  obtain ⟨y0, y1⟩ := hy
  unfold modS
  generalize Int.tmod x y = v at *
  by_cases hv : v = 0
  · rw [if_pos hv]; omega
  · rw [if_neg hv]
    by_cases hs : (v < 0) ↔ (y < 0)
    · rw [if_pos (by rw [beq_iff_eq, decide_eq_decide]; exact hs)]
      omega
    · rw [if_neg (by rw [beq_iff_eq, decide_eq_decide]; exact hs)]
      have : w (v + y) = v + y := wrap_id (by unfold inI; omega)
      rw [this]
      omega
theorem snd6 {a b c d x y : Int} (hy : inI y) (h1 : a ≤ x) (h2 : x ≤ b) (h3 : c ≤ y) (h4 : y ≤ d) (h0 : y ≠ 0) : Within (resS a b c d) (modS x y) ∧ Inside (resS x x y y) (resS a b c d) := by
  obtain ⟨t1, t2⟩ := modS_facts (x := x) hy h0
  unfold resS Within Inside
  generalize modS x y = v at *
  simp only
  refine ⟨?_, fun _ => ?_⟩
  · repeat' split
    all_goals omega
  · repeat' split
    all_goals omega
theorem tr01 (p : Bool) : 0 ≤ tr p ∧ tr p ≤ 1 := by cases p <;> decide
theorem tr_pos {p : Bool} (h : p = true) : tr p = 1 := by rw [h]; rfl
theorem tr_neg {p : Bool} (h : p = false) : tr p = 0 := by rw [h]; rfl
/-- A relation's interval from: may it hold, may it fail. -/
theorem rel_within {yes no : Bool} {v : Bool} (h1 : v = true → yes = true) (h2 : v = false → no = true) : Within (tr (!no), tr yes) (tr v) := by
  unfold Within
  cases v with
  | true => rw [h1 rfl]; have := tr01 (!no); exact ⟨this.2, Int.le_refl _⟩
  | false => rw [h2 rfl]; have := tr01 yes; exact ⟨Int.le_refl _, this.1⟩
theorem rel_inside {yes no yes' no' : Bool} (h1 : yes' = true → yes = true) (h2 : no' = true → no = true) : Inside (tr (!no'), tr yes') (tr (!no), tr yes) := by
  unfold Inside
  intro _
  cases yes' <;> cases no' <;> cases yes <;> cases no <;> simp at h1 h2 <;> decide
theorem rng7 {op a b c d : Int} (hab : a ≤ b) (hcd : c ≤ d) (ho : 7 ≤ op ∧ op ≤ 12) : rangeS op a b c d = relS op a b c d := by
  have he : ¬ (b < a ∨ (d < c ∧ unS op = false)) := by omega
  unfold rangeS
  rw [if_neg he, if_neg (by omega), if_neg (by omega), if_neg (by omega), if_neg (by omega), if_neg (by omega), if_neg (by omega), if_pos ho]
theorem snd7 {op a b c d x y : Int} (ho : 7 ≤ op ∧ op ≤ 12) (h1 : a ≤ x) (h2 : x ≤ b) (h3 : c ≤ y) (h4 : y ≤ d) : Within (relS op a b c d) (apS op x y).1 ∧ Inside (relS op x x y y) (relS op a b c d) := by
  have : op = 7 ∨ op = 8 ∨ op = 9 ∨ op = 10 ∨ op = 11 ∨ op = 12 := by omega
  rcases this with rfl | rfl | rfl | rfl | rfl | rfl
  · exact ⟨rel_within (v := x == y) (by simp; omega) (by simp; omega), rel_inside (by simp; omega) (by simp; omega)⟩
  · exact ⟨rel_within (v := x != y) (by simp; omega) (by simp; omega), rel_inside (by simp; omega) (by simp; omega)⟩
  · exact ⟨rel_within (v := decide (x < y)) (by simp; omega) (by simp; omega), rel_inside (by simp; omega) (by simp; omega)⟩
  · exact ⟨rel_within (v := decide (x ≤ y)) (by simp; omega) (by simp; omega), rel_inside (by simp; omega) (by simp; omega)⟩
  · exact ⟨rel_within (v := decide (y < x)) (by simp; omega) (by simp; omega), rel_inside (by simp; omega) (by simp; omega)⟩
  · exact ⟨rel_within (v := decide (y ≤ x)) (by simp; omega) (by simp; omega), rel_inside (by simp; omega) (by simp; omega)⟩
theorem rng13 {op a b c d : Int} (hab : a ≤ b) (hcd : c ≤ d) (ho : op = 13 ∨ op = 14 ∨ op = 15) : rangeS op a b c d = lgcS op a b c d := by
  have he : ¬ (b < a ∨ (d < c ∧ unS op = false)) := by omega
  unfold rangeS
  rw [if_neg he, if_neg (by omega), if_neg (by omega), if_neg (by omega), if_neg (by omega), if_neg (by omega), if_neg (by omega), if_neg (by omega), if_pos ho]
theorem lgc_val {op : Int} (ho : op = 13 ∨ op = 14 ∨ op = 15) (x y : Int) : (apS op x y).2 = true ∧ inI (apS op x y).1 := by
  rcases ho with rfl | rfl | rfl <;> exact ⟨rfl, wrap_in _⟩
theorem snd13 {op a b c d x y : Int} (ho : op = 13 ∨ op = 14 ∨ op = 15) (h1 : a ≤ x) (h2 : x ≤ b) (h3 : c ≤ y) (h4 : y ≤ d) : Within (lgcS op a b c d) (apS op x y).1 ∧ Inside (lgcS op x x y y) (lgcS op a b c d) := by
  have good : ∀ l m, isHull (fun v => ∃ x ∈ l, ∃ y ∈ m, v = (apS op x y).1) (cornS (apS op) l m) := by
    intro l m
    rcases corn_spec (apS op) l m with ⟨_, x, _, y, _, hb⟩ | ⟨_, hh⟩
    · rw [(lgc_val ho x y).1] at hb; cases hb
    · exact hh
  by_cases hb : (0 ≤ a ∧ b ≤ 1) ∧ (0 ≤ c ∧ d ≤ 1)
  · have hb' : (0 ≤ x ∧ x ≤ 1) ∧ (0 ≤ y ∧ y ≤ 1) := by omega
    have e1 : lgcS op a b c d = cornS (apS op) [a, b] [c, d] := by unfold lgcS; rw [if_pos hb]
    have e2 : lgcS op x x y y = cornS (apS op) [x, x] [y, y] := by unfold lgcS; rw [if_pos hb']
    rw [e1, e2]
    have mx : x ∈ [a, b] := by simp only [List.mem_cons, List.not_mem_nil, or_false]; omega
    have my : y ∈ [c, d] := by simp only [List.mem_cons, List.not_mem_nil, or_false]; omega
    have hw : Within (cornS (apS op) [a, b] [c, d]) (apS op x y).1 := by
      rcases good [a, b] [c, d] with ⟨hn, _⟩ | ⟨_, _, hall⟩
      · exact absurd ⟨x, mx, y, my, rfl⟩ (hn _)
      · exact hall _ ⟨x, mx, y, my, rfl⟩
    refine ⟨hw, fun hs => ?_⟩
    rcases good [x, x] [y, y] with ⟨_, h4⟩ | ⟨⟨x1, hx1, y1, hy1, e3⟩, ⟨x2, hx2, y2, hy2, e4⟩, _⟩
    · rw [h4] at hs; exact absurd hs (by decide)
    · rw [e3, e4, one2 hx1, one2 hy1, one2 hx2, one2 hy2]; exact hw
  · have e1 : lgcS op a b c d = fullI := by unfold lgcS; rw [if_neg hb]; rfl
    rw [e1]
    refine ⟨within_full (lgc_val ho x y).2, ?_⟩
    unfold lgcS
    split
    · have := hull_in (good [x, x] [y, y]) (by rintro v ⟨x, _, y, _, rfl⟩; exact (lgc_val ho x y).2)
      exact inside_full this.1 this.2
    · exact inside_full (by unfold inI; omega) (by unfold inI; omega)

/-- Soundness. -/
theorem snd {op a b c d x y : Int} (ha : inI a) (hb : inI b) (hc : inI c) (hd : inI d) (h1 : a ≤ x) (h2 : x ≤ b) (h3 : c ≤ y) (h4 : y ≤ d) (hok : (apS op x y).2 = true) :
    Within (rangeS op a b c d) (apS op x y).1 ∧ Inside (rangeS op x x y y) (rangeS op a b c d) := by
  have hab : a ≤ b := by omega
  have hcd : c ≤ d := by omega
  have hy : inI y := ⟨by have := hc.1; omega, by have := hd.2; omega⟩
  by_cases k1 : op = 1 ∨ op = 2 ∨ op = 3 ∨ op = 4
  · exact snd_ar k1 h1 h2 h3 h4 hok
  by_cases k5 : op = 5
  · subst k5
    have h0 : y ≠ 0 := by rintro rfl; exact absurd hok (by show ¬ (false = true); decide)
    rw [rng5 hab hcd (by omega), rng5 (Int.le_refl x) (Int.le_refl y) (by omega)]
    have : (apS 5 x y).1 = Int.tmod x y := by
      show (divQ y (Int.tmod x y)).1 = _
      unfold divQ; rw [if_neg h0]
    rw [this]
    exact snd5 h1 h2 h3 h4 h0
  by_cases k6 : op = 6
  · subst k6
    have h0 : y ≠ 0 := by rintro rfl; exact absurd hok (by show ¬ (false = true); decide)
    rw [rng6 hab hcd (by omega), rng6 (Int.le_refl x) (Int.le_refl y) (by omega)]
    have : (apS 6 x y).1 = modS x y := by
      show (divQ y (modS x y)).1 = _
      unfold divQ; rw [if_neg h0]
    rw [this]
    exact snd6 hy h1 h2 h3 h4 h0
  by_cases k7 : 7 ≤ op ∧ op ≤ 12
  · rw [rng7 hab hcd k7, rng7 (Int.le_refl x) (Int.le_refl y) k7]
    exact snd7 k7 h1 h2 h3 h4
  by_cases k13 : op = 13 ∨ op = 14 ∨ op = 15
  · rw [rng13 hab hcd k13, rng13 (Int.le_refl x) (Int.le_refl y) k13]
    exact snd13 k13 h1 h2 h3 h4
  by_cases k16 : op = 16
  · subst k16
    rw [rng16 hab, rng16 (Int.le_refl x)]
    exact snd_sub h1 h2
  by_cases k17 : op = 17
  · subst k17
    rw [rng17 hab, rng17 (Int.le_refl x)]
    exact snd17 ha hb h1 h2
  by_cases k18 : op = 18
  · subst k18
    rw [rng18 hab, rng18 (Int.le_refl x)]
    exact snd_sub h1 h2
  exfalso
  have : (apS op x y).2 = false := by
    unfold apS
    rw [if_neg (by omega), if_neg (by omega), if_neg (by omega), if_neg (by omega), if_neg (by omega), if_neg (by omega), if_neg (by omega), if_neg (by omega), if_neg (by omega), if_neg (by omega), if_neg (by omega), if_neg (by omega), if_neg (by omega), if_neg (by omega), if_neg (by omega), if_neg (by omega), if_neg (by omega), if_neg (by omega)]
  rw [this] at hok
  cases hok

theorem liesS_join (a b c d : Int) : liesS c d (joinS a b c d).1 (joinS a b c d).2 = true := by
  unfold liesS joinS
  by_cases h1 : b < a
  · by_cases h2 : d < c
    · simp [h2]
    · simp [h1, h2]
  · by_cases h2 : d < c
    · simp [h2]
    · rw [if_neg h1, if_neg h2]
      simp only [Bool.or_eq_true, Bool.and_eq_true, decide_eq_true_eq]
      omega
theorem liesS_inside {s r : Int × Int} (h : Inside s r) : liesS s.1 s.2 r.1 r.2 = true := by
  unfold Inside at h
  unfold liesS
  by_cases h1 : s.2 < s.1
  · simp [h1]
  · have := h (by omega)
    simp [this.1, this.2]
/-- NumSound. -/
theorem numSound_true {op a b c d x y : Int} (_ : 0 ≤ op ∧ op ≤ 255) (ha : inI a) (hb : inI b) (hc : inI c) (hd : inI d) (_ : inI x) (_ : inI y) : F7 41 op a b c d x y = some (.r true) := by
  have e1 : F19 40 op a b c d = _ := F19_eq 30 ha hb hc hd
  have j3 : J7a116 40 op = some (.nx (unS op)) := by
    simp only [J7a116, unS]
    by_cases h1 : op = 16
    · simp [h1]
    · by_cases h2 : op = 17
      · simp [h2]
      · simp only [beq_f h1, beq_f h2, h1, h2, false_or]
        by_cases h3 : op = 18
        · simp [h3]
        · simp only [beq_f h3, h3, decide_false]
  show F7 (40 + 1) op a b c d x y = _
  by_cases he : b < a ∨ d < c
  · have j1 : J7a28 40 a b c d = some (.nx true a b c d) := by
      simp only [J7a28]
      by_cases h1 : b < a
      · rw [decide_eq_true h1]
      · rw [decide_eq_false h1]
        simp only [decide_eq_true (he.resolve_left h1)]
    have hr : ¬ (a ≤ b ∧ unS op = true) → rangeS op a b c d = (1, 0) := by
      intro h
      unfold rangeS
      rw [if_pos]
      by_cases h1 : b < a
      · exact .inl h1
      · refine .inr ⟨he.resolve_left h1, ?_⟩
        cases hu : unS op with
        | false => rfl
        | true => exact absurd ⟨by omega, hu⟩ h
    have j2 : J7a14 40 op a b c d (rangeS op a b c d).1 (rangeS op a b c d).2 = some (.ret true a b c d (rangeS op a b c d).1 (rangeS op a b c d).2) := by
      simp only [J7a14, j1, j3, head_true]
      by_cases h1 : a ≤ b
      · cases hu : unS op with
        | true => simp only [decide_eq_true h1]
        | false =>
          rw [hr (by rw [hu]; simp)]
          simp only [decide_eq_true h1]
          rfl
      · rw [hr (by omega)]
        simp only [decide_eq_false h1]
        rfl
    simp only [F7, e1, j2]
  · have hab : a ≤ b := by omega
    have hcd : c ≤ d := by omega
    have j1 : J7a28 40 a b c d = some (.nx false a b c d) := by
      simp only [J7a28]
      rw [decide_eq_false (by omega), decide_eq_false (show ¬ d < c by omega)]
    have j2 : J7a14 40 op a b c d (rangeS op a b c d).1 (rangeS op a b c d).2 = some (.nx a b c d (rangeS op a b c d).1 (rangeS op a b c d).2) := by
      simp only [J7a14, j1]
    have e2 : ∀ p q v, F21 40 p q v = some (.r (max p (min q v))) := by
      intro p q v
      show some (R21.r (imax p (imin q v))) = _
      rw [imin_eq, imax_eq]
    have e3 : ∀ p q, F22 40 p q = some (.r p q) := fun p q => rfl
    have hx1 : a ≤ max a (min b x) ∧ max a (min b x) ≤ b := by omega
    have hy1 : c ≤ max c (min d y) ∧ max c (min d y) ≤ d := by omega
    simp only [F7, e1, j2, e2, e3]
    generalize max a (min b x) = X at *
    generalize max c (min d y) = Y at *
    have iX : inI X := ⟨by have := ha.1; omega, by have := hb.2; omega⟩
    have iY : inI Y := ⟨by have := hc.1; omega, by have := hd.2; omega⟩
    have e4 : F17 40 op X Y = _ := F17_eq 36 iY
    have e5 : F19 40 op X X Y Y = _ := F19_eq 30 iX iX iY iY
    have e6 : ∀ p q r s, F25 40 p q r s = _ := fun p q r s => F25_eq 33 p q r s
    have e7 : ∀ p q r s, F24 40 p q r s = _ := fun p q r s => F24_eq 38 p q r s
    have e8 : ∀ p q v, F23 40 p q v = _ := fun p q v => F23_eq 39 p q v
    simp only [e4, e5, e6, e7, e8, head_true, liesS_join]
    cases hok : (apS op X Y).2 with
    | false =>
      simp only [Bool.not_false]
      cases liesS (rangeS op X X Y Y).1 (rangeS op X X Y Y).2 (rangeS op a b c d).1 (rangeS op a b c d).2 <;> rfl
    | true =>
      obtain ⟨s1, s2⟩ := snd ha hb hc hd hx1.1 hx1.2 hy1.1 hy1.2 hok
      have hh : hasS (rangeS op a b c d).1 (rangeS op a b c d).2 (apS op X Y).1 = true := by
        unfold hasS; rw [decide_eq_true s1.1, decide_eq_true s1.2]; rfl
      simp only [Bool.not_true, hh, liesS_inside s2]
end Go.Proofs.Ytnfmdenclkdmbaa

namespace Go.Proofs.Ytnfmdenclkdmbaa
open Go Go.Eng

/-- The values of an operator for the integers of two intervals. -/
def G (op a b c d v : Int) : Prop := ∃ x y, a ≤ x ∧ x ≤ b ∧ c ≤ y ∧ y ≤ d ∧ (apS op x y).2 = true ∧ v = (apS op x y).1
def sm (a b : Int) : Prop := -20 ≤ a ∧ a ≤ b ∧ b ≤ 27

theorem mul_small {x y : Int} (hx : -27 ≤ x ∧ x ≤ 27) (hy : -27 ≤ y ∧ y ≤ 27) : -729 ≤ x * y ∧ x * y ≤ 729 := by
  have h : (x * y).natAbs = x.natAbs * y.natAbs := Int.natAbs_mul x y
  have : x.natAbs * y.natAbs ≤ 27 * 27 := Nat.mul_le_mul (by omega) (by omega)
  omega
theorem exI_small {op x y : Int} (ho : op = 1 ∨ op = 2 ∨ op = 3 ∨ op = 4) (hx : -27 ≤ x ∧ x ≤ 27) (hy : -27 ≤ y ∧ y ≤ 27) : inI (exI op x y) := by
  rcases ho with rfl | rfl | rfl | rfl
  · show inI (x + y); unfold inI; omega
  · show inI (x - y); unfold inI; omega
  · show inI (x * y); have := mul_small hx hy; unfold inI; omega
  · show inI (Int.tdiv x y)
    exact tdiv_in ⟨by omega, by omega⟩ (by omega)
theorem ap_ar {op x y : Int} (ho : op = 1 ∨ op = 2 ∨ op = 3 ∨ op = 4) (h0 : op = 4 → y ≠ 0) : (apS op x y).2 = true ∧ (apS op x y).1 = w (exI op x y) := by
  rcases ho with rfl | rfl | rfl | rfl
  · exact ⟨rfl, rfl⟩
  · exact ⟨rfl, rfl⟩
  · exact ⟨rfl, rfl⟩
  · show (divQ y (w (Int.tdiv x y))).2 = true ∧ (divQ y (w (Int.tdiv x y))).1 = _
    unfold divQ
    rw [if_neg (h0 rfl)]
    exact ⟨rfl, rfl⟩
/-- From a hull of corners to the hull of all. -/
theorem hull_all {op : Int} {l m : List Int} {Q : Int → Prop} (hsm : ∀ x ∈ l, ∀ y ∈ m, inI (exI op x y)) (h1 : ∀ x ∈ l, ∀ y ∈ m, Q (exI op x y))
    (h2 : ∀ v, Q v → (∃ x ∈ l, ∃ y ∈ m, exI op x y ≤ v) ∧ (∃ x ∈ l, ∃ y ∈ m, v ≤ exI op x y)) : isHull Q (cornS (exS op) l m) := by
  have ev : ∀ x ∈ l, ∀ y ∈ m, (exS op x y).1 = exI op x y := fun x hx y hy => by rw [exS_exI]; exact wrap_id (hsm x hx y hy)
  rcases corn_spec (exS op) l m with ⟨_, x, hx, y, hy, hb⟩ | ⟨_, hh⟩
  · rw [exS_exI, inIb_iff.2 (hsm x hx y hy)] at hb; cases hb
  · rcases hh with ⟨hn, he⟩ | ⟨⟨x1, hx1, y1, hy1, e1⟩, ⟨x2, hx2, y2, hy2, e2⟩, hall⟩
    · refine .inl ⟨fun v hv => ?_, he⟩
      obtain ⟨⟨x, hx, y, hy, _⟩, _⟩ := h2 v hv
      exact hn _ ⟨x, hx, y, hy, rfl⟩
    · rw [ev x1 hx1 y1 hy1] at e1
      rw [ev x2 hx2 y2 hy2] at e2
      refine .inr ⟨by rw [e1]; exact h1 x1 hx1 y1 hy1, by rw [e2]; exact h1 x2 hx2 y2 hy2, fun v hv => ?_⟩
      obtain ⟨⟨x, hx, y, hy, k1⟩, ⟨x', hx', y', hy', k2⟩⟩ := h2 v hv
      have a1 := hall _ ⟨x, hx, y, hy, rfl⟩
      have a2 := hall _ ⟨x', hx', y', hy', rfl⟩
      rw [ev x hx y hy] at a1
      rw [ev x' hx' y' hy'] at a2
      omega
theorem ex_ar {op a b c d : Int} (ho : op = 1 ∨ op = 2 ∨ op = 3 ∨ op = 4) (h1 : sm a b) (h2 : sm c d) : isHull (G op a b c d) (rangeS op a b c d) := by
  obtain ⟨a0, hab, b0⟩ := h1
  obtain ⟨c0, hcd, d0⟩ := h2
  rw [rng_ar ho hab hcd]
  have hl : ∀ x ∈ [a, b], a ≤ x ∧ x ≤ b := mem2 (P := fun x => a ≤ x ∧ x ≤ b) ⟨Int.le_refl _, hab⟩ ⟨hab, Int.le_refl _⟩
  have hm : ∀ y ∈ rgt op c d, c ≤ y ∧ y ≤ d ∧ (op = 4 → y ≠ 0) := by
    intro y hy
    unfold rgt at hy
    split at hy
    · obtain ⟨k1, k2, k3⟩ := divS_mem hy; exact ⟨k2, k3, fun _ => k1⟩
    · rename_i h4
      exact mem2 (P := fun y => c ≤ y ∧ y ≤ d ∧ (op = 4 → y ≠ 0)) ⟨Int.le_refl _, hcd, fun h => absurd h h4⟩ ⟨hcd, Int.le_refl _, fun h => absurd h h4⟩ y hy
  have hs : ∀ x y, a ≤ x → x ≤ b → c ≤ y → y ≤ d → inI (exI op x y) := fun x y k1 k2 k3 k4 => exI_small ho (by omega) (by omega)
  refine hull_all (fun x hx y hy => hs x y (hl x hx).1 (hl x hx).2 (hm y hy).1 (hm y hy).2.1) (fun x hx y hy => ?_) (fun v hv => ?_)
  · obtain ⟨k1, k2⟩ := hl x hx
    obtain ⟨k3, k4, k5⟩ := hm y hy
    obtain ⟨e1, e2⟩ := ap_ar (x := x) ho k5
    exact ⟨x, y, k1, k2, k3, k4, e1, by rw [e2]; exact (wrap_id (hs x y k1 k2 k3 k4)).symm⟩
  · obtain ⟨x, y, k1, k2, k3, k4, k5, rfl⟩ := hv
    have h0 : op = 4 → y ≠ 0 := by
      rintro rfl rfl
      exact absurd k5 (by show ¬ (false = true); decide)
    have e2 := (ap_ar (x := x) ho h0).2
    have : w (exI op x y) = exI op x y := wrap_id (hs x y k1 k2 k3 k4)
    rw [e2, this]
    exact bnd ho k1 k2 k3 k4 h0
theorem ex_sub {k op a b c d : Int} (hk : 0 ≤ k ∧ k ≤ 1) (h1 : sm a b) (h2 : sm c d) (hap : ∀ x y, apS op x y = (w (k - x), true)) : isHull (G op a b c d) (cornS (exS 2) [k] [a, b]) := by
  obtain ⟨a0, hab, b0⟩ := h1
  obtain ⟨c0, hcd, d0⟩ := h2
  have e : ∀ x y, exI 2 x y = x - y := fun x y => rfl
  have hl : ∀ x ∈ [a, b], a ≤ x ∧ x ≤ b := mem2 (P := fun x => a ≤ x ∧ x ≤ b) ⟨Int.le_refl _, hab⟩ ⟨hab, Int.le_refl _⟩
  have hw : ∀ x, a ≤ x → x ≤ b → w (k - x) = k - x := fun x k1 k2 => wrap_id (by unfold inI; omega)
  have hone : ∀ x ∈ [k], x = k := mem1 rfl
  refine hull_all (fun x hx y hy => ?_) (fun x hx y hy => ?_) (fun v hv => ?_)
  · have := hl y hy; rw [hone x hx, e]; unfold inI; omega
  · have := hl y hy
    rw [hone x hx, e]
    exact ⟨y, c, this.1, this.2, Int.le_refl _, hcd, by rw [hap], by rw [hap]; exact (hw y this.1 this.2).symm⟩
  · obtain ⟨x, y, k1, k2, _, _, _, rfl⟩ := hv
    rw [hap]
    simp only
    rw [hw x k1 k2]
    exact ⟨⟨k, List.mem_cons_self, b, List.mem_cons_of_mem _ List.mem_cons_self, by rw [e]; omega⟩, ⟨k, List.mem_cons_self, a, List.mem_cons_self, by rw [e]; omega⟩⟩
theorem ex_abs {a b c d : Int} (h1 : sm a b) (h2 : sm c d) : isHull (G 17 a b c d) (absS a b) := by
  obtain ⟨a0, hab, b0⟩ := h1
  obtain ⟨c0, hcd, d0⟩ := h2
  have hv : ∀ x y, a ≤ x → x ≤ b → (apS 17 x y).1 = (x.natAbs : Int) := fun x y k1 k2 => ab_w ⟨by omega, by omega⟩ (by omega)
  have mk : ∀ x, a ≤ x → x ≤ b → G 17 a b c d (x.natAbs : Int) := fun x k1 k2 => ⟨x, c, k1, k2, Int.le_refl _, hcd, rfl, (hv x c k1 k2).symm⟩
  unfold absS
  rw [if_neg (by omega)]
  by_cases h : a ≤ 0 ∧ 0 ≤ b
  · rw [if_pos h]
    refine .inr ⟨mk 0 h.1 h.2, ?_, fun v hv' => ?_⟩
    · simp only
      by_cases g : -a ≤ b
      · have := mk b hab (Int.le_refl _)
        rw [show (b.natAbs : Int) = max (-a) b by omega] at this
        exact this
      · have := mk a (Int.le_refl _) hab
        rw [show (a.natAbs : Int) = max (-a) b by omega] at this
        exact this
    · obtain ⟨x, y, k1, k2, _, _, _, rfl⟩ := hv'
      rw [hv x y k1 k2]
      simp only
      omega
  · rw [if_neg h]
    have ma := mk a (Int.le_refl _) hab
    have mb := mk b hab (Int.le_refl _)
    refine .inr ⟨?_, ?_, fun v hv' => ?_⟩
    · simp only
      by_cases g : (a.natAbs : Int) ≤ (b.natAbs : Int)
      · rw [Int.min_eq_left g]; exact ma
      · rw [Int.min_eq_right (by omega)]; exact mb
    · simp only
      by_cases g : (a.natAbs : Int) ≤ (b.natAbs : Int)
      · rw [Int.max_eq_right g]; exact mb
      · rw [Int.max_eq_left (by omega)]; exact ma
    · obtain ⟨x, y, k1, k2, _, _, _, rfl⟩ := hv'
      rw [hv x y k1 k2]
      simp only
      omega
theorem rel_hull {Q : Int → Prop} {yes no : Bool} (h : ∀ v, Q v → v = 0 ∨ v = 1) (h1 : Q 1 ↔ yes = true) (h0 : Q 0 ↔ no = true) (hn : yes = true ∨ no = true) : isHull Q (tr (!no), tr yes) := by
  cases yes with
  | true =>
    cases no with
    | true => exact .inr ⟨h0.2 rfl, h1.2 rfl, fun v hv => by rcases h v hv with rfl | rfl <;> decide⟩
    | false => exact .inr ⟨h1.2 rfl, h1.2 rfl, fun v hv => by
        rcases h v hv with rfl | rfl
        · exact absurd (h0.1 hv) (by decide)
        · decide⟩
  | false =>
    cases no with
    | true => exact .inr ⟨h0.2 rfl, h0.2 rfl, fun v hv => by
        rcases h v hv with rfl | rfl
        · decide
        · exact absurd (h1.1 hv) (by decide)⟩
    | false => rcases hn with h | h <;> cases h
/-- A relation's hull: the pairs for which it holds and fails. -/
theorem ex_rel1 {op a b c d : Int} (r : Int → Int → Bool) (hap : ∀ x y, apS op x y = (tr (r x y), true)) {yes no : Bool}
    (hy1 : ∀ x y, a ≤ x → x ≤ b → c ≤ y → y ≤ d → r x y = true → yes = true) (hy2 : yes = true → ∃ x y, a ≤ x ∧ x ≤ b ∧ c ≤ y ∧ y ≤ d ∧ r x y = true)
    (hn1 : ∀ x y, a ≤ x → x ≤ b → c ≤ y → y ≤ d → r x y = false → no = true) (hn2 : no = true → ∃ x y, a ≤ x ∧ x ≤ b ∧ c ≤ y ∧ y ≤ d ∧ r x y = false) (hab : a ≤ b) (hcd : c ≤ d) : isHull (G op a b c d) (tr (!no), tr yes) := by
  refine rel_hull ?_ ⟨?_, ?_⟩ ⟨?_, ?_⟩ ?_
  · rintro v ⟨x, y, _, _, _, _, _, rfl⟩
    rw [hap]
    cases r x y
    · exact .inl rfl
    · exact .inr rfl
  · rintro ⟨x, y, k1, k2, k3, k4, _, k5⟩
    rw [hap] at k5
    refine hy1 x y k1 k2 k3 k4 ?_
    cases h : r x y with
    | true => rfl
    | false => rw [h] at k5; exact absurd k5 (by decide)
  · intro h
    obtain ⟨x, y, k1, k2, k3, k4, k5⟩ := hy2 h
    exact ⟨x, y, k1, k2, k3, k4, by rw [hap], by rw [hap, k5]; rfl⟩
  · rintro ⟨x, y, k1, k2, k3, k4, _, k5⟩
    rw [hap] at k5
    refine hn1 x y k1 k2 k3 k4 ?_
    cases h : r x y with
    | false => rfl
    | true => rw [h] at k5; exact absurd k5 (by decide)
  · intro h
    obtain ⟨x, y, k1, k2, k3, k4, k5⟩ := hn2 h
    exact ⟨x, y, k1, k2, k3, k4, by rw [hap], by rw [hap, k5]; rfl⟩
  · cases h : r a c with
    | true => exact .inl (hy1 a c (Int.le_refl _) hab (Int.le_refl _) hcd h)
    | false => exact .inr (hn1 a c (Int.le_refl _) hab (Int.le_refl _) hcd h)
theorem ex_rel {op a b c d : Int} (ho : 7 ≤ op ∧ op ≤ 12) (hab : a ≤ b) (hcd : c ≤ d) : isHull (G op a b c d) (relS op a b c d) := by
  have : op = 7 ∨ op = 8 ∨ op = 9 ∨ op = 10 ∨ op = 11 ∨ op = 12 := by omega
  rcases this with rfl | rfl | rfl | rfl | rfl | rfl
  · refine ex_rel1 (fun x y => x == y) (fun x y => rfl) (by simp; omega) (fun h => ?_) (by simp; omega) (fun h => ?_) hab hcd
    · rw [decide_eq_true_eq] at h
      exact ⟨max a c, max a c, by omega, by omega, by omega, by omega, by simp⟩
    · rw [decide_eq_true_eq] at h
      by_cases g : a < d
      · exact ⟨a, d, by omega, by omega, by omega, by omega, beq_f (by omega)⟩
      · exact ⟨b, c, by omega, by omega, by omega, by omega, beq_f (by omega)⟩
  · refine ex_rel1 (fun x y => x != y) (fun x y => rfl) (by simp; omega) (fun h => ?_) (by simp; omega) (fun h => ?_) hab hcd
    · rw [decide_eq_true_eq] at h
      by_cases g : a < d
      · exact ⟨a, d, by omega, by omega, by omega, by omega, by simp; omega⟩
      · exact ⟨b, c, by omega, by omega, by omega, by omega, by simp; omega⟩
    · rw [decide_eq_true_eq] at h
      exact ⟨max a c, max a c, by omega, by omega, by omega, by omega, by simp⟩
  · refine ex_rel1 (fun x y => decide (x < y)) (fun x y => rfl) (by simp; omega) (fun h => ?_) (by simp; omega) (fun h => ?_) hab hcd
    · rw [decide_eq_true_eq] at h
      exact ⟨a, d, by omega, by omega, by omega, by omega, by simp; omega⟩
    · rw [decide_eq_true_eq] at h
      exact ⟨b, c, by omega, by omega, by omega, by omega, by simp; omega⟩
  · refine ex_rel1 (fun x y => decide (x ≤ y)) (fun x y => rfl) (by simp; omega) (fun h => ?_) (by simp; omega) (fun h => ?_) hab hcd
    · rw [decide_eq_true_eq] at h
      exact ⟨a, d, by omega, by omega, by omega, by omega, by simp; omega⟩
    · rw [decide_eq_true_eq] at h
      exact ⟨b, c, by omega, by omega, by omega, by omega, by simp; omega⟩
  · refine ex_rel1 (fun x y => decide (y < x)) (fun x y => rfl) (by simp; omega) (fun h => ?_) (by simp; omega) (fun h => ?_) hab hcd
    · rw [decide_eq_true_eq] at h
      exact ⟨b, c, by omega, by omega, by omega, by omega, by simp; omega⟩
    · rw [decide_eq_true_eq] at h
      exact ⟨a, d, by omega, by omega, by omega, by omega, by simp; omega⟩
  · refine ex_rel1 (fun x y => decide (y ≤ x)) (fun x y => rfl) (by simp; omega) (fun h => ?_) (by simp; omega) (fun h => ?_) hab hcd
    · rw [decide_eq_true_eq] at h
      exact ⟨b, c, by omega, by omega, by omega, by omega, by simp; omega⟩
    · rw [decide_eq_true_eq] at h
      exact ⟨a, d, by omega, by omega, by omega, by omega, by simp; omega⟩
theorem ap_none {op x y : Int} (h : ¬ (1 ≤ op ∧ op ≤ 18)) : apS op x y = (0, false) := by
  unfold apS
  rw [if_neg (by omega), if_neg (by omega), if_neg (by omega), if_neg (by omega), if_neg (by omega), if_neg (by omega), if_neg (by omega), if_neg (by omega), if_neg (by omega), if_neg (by omega), if_neg (by omega), if_neg (by omega), if_neg (by omega), if_neg (by omega), if_neg (by omega), if_neg (by omega), if_neg (by omega), if_neg (by omega)]
theorem ex {op a b c d : Int} (h5 : ¬ (op = 5 ∨ op = 6 ∨ op = 13 ∨ op = 14 ∨ op = 15)) (h1 : sm a b) (h2 : sm c d) : isHull (G op a b c d) (rangeS op a b c d) := by
  by_cases k1 : op = 1 ∨ op = 2 ∨ op = 3 ∨ op = 4
  · exact ex_ar k1 h1 h2
  by_cases k7 : 7 ≤ op ∧ op ≤ 12
  · rw [rng7 h1.2.1 h2.2.1 k7]
    exact ex_rel k7 h1.2.1 h2.2.1
  by_cases k16 : op = 16
  · subst k16
    rw [rng16 h1.2.1]
    exact ex_sub (k := 0) (by omega) h1 h2 (fun x y => rfl)
  by_cases k17 : op = 17
  · subst k17
    rw [rng17 h1.2.1]
    exact ex_abs h1 h2
  by_cases k18 : op = 18
  · subst k18
    rw [rng18 h1.2.1]
    exact ex_sub (k := 1) (by omega) h1 h2 (fun x y => rfl)
  have hn : ¬ (1 ≤ op ∧ op ≤ 18) := by omega
  refine .inl ⟨?_, ?_⟩
  · rintro v ⟨x, y, _, _, _, _, k, _⟩
    rw [ap_none hn] at k
    cases k
  · unfold rangeS
    split
    · rfl
    · repeat' (first | rfl | rw [if_neg (by omega)])

/-! ### The loops -/
theorem L9i_eq (N : Nat) (op x : Int) {c d : Int} (hcd : -20 ≤ c ∧ d ≤ 27) : ∀ (k n : Nat) (y : Int) (h : Int × Int) (Q : Int → Prop), c ≤ y → y + k = d + 1 → k < n → isHull Q h →
    ∃ h', L9a32402 (N + 8) n op x y c d h.1 h.2 = some (.x2 c d h'.1 h'.2) ∧ isHull (fun v => Q v ∨ ∃ y', y ≤ y' ∧ y' ≤ d ∧ (apS op x y').2 = true ∧ v = (apS op x y').1) h'
  | 0, n + 1, y, h, Q, hy, hk, _, hh => by
    simp only [L9a32402]
    rw [decide_eq_false (by omega)]
    exact ⟨h, rfl, isHull_congr (fun v => ⟨.inl, fun g => by
      rcases g with g | ⟨y', _, _, _⟩
      · exact g
      · omega⟩) hh⟩
  | k + 1, n + 1, y, h, Q, hy, hk, hn, hh => by
    simp only [L9a32402]
    have iy : inI y := ⟨by omega, by omega⟩
    have hw : IntKind.wrap .i64 (y + 1) = y + 1 := wrap_id (by unfold inI; omega)
    rw [decide_eq_true (show y ≤ d by omega)]
    have e1 : F17 (N + 8) op x y = _ := F17_eq (N + 4) iy
    have e2 : ∀ p q, F22 (N + 8) p q = some (.r p q) := fun p q => rfl
    have e3 : ∀ p q r s, F25 (N + 8) p q r s = _ := fun p q r s => F25_eq (N + 1) p q r s
    simp only [e1, e2, e3, hw]
    cases hok : (apS op x y).2 with
    | true =>
      have hj := isHull_join (v := (apS op x y).1) (a := h.1) (b := h.2) hh
      obtain ⟨h', g1, g2⟩ := L9i_eq N op x hcd k n (y + 1) _ _ (by omega) (by omega) (by omega) hj
      refine ⟨h', g1, isHull_congr (fun v => ?_) g2⟩
      constructor
      · rintro ((q | rfl) | ⟨y', k1, k2, k3, k4⟩)
        · exact .inl q
        · exact .inr ⟨y, Int.le_refl _, by omega, hok, rfl⟩
        · exact .inr ⟨y', by omega, k2, k3, k4⟩
      · rintro (q | ⟨y', k1, k2, k3, k4⟩)
        · exact .inl (.inl q)
        · by_cases e : y' = y
          · subst e; exact .inl (.inr k4)
          · exact .inr ⟨y', by omega, k2, k3, k4⟩
    | false =>
      obtain ⟨h', g1, g2⟩ := L9i_eq N op x hcd k n (y + 1) h Q (by omega) (by omega) (by omega) hh
      refine ⟨h', g1, isHull_congr (fun v => ?_) g2⟩
      constructor
      · rintro (q | ⟨y', k1, k2, k3, k4⟩)
        · exact .inl q
        · exact .inr ⟨y', by omega, k2, k3, k4⟩
      · rintro (q | ⟨y', k1, k2, k3, k4⟩)
        · exact .inl q
        · by_cases e : y' = y
          · subst e; rw [hok] at k3; cases k3
          · exact .inr ⟨y', by omega, k2, k3, k4⟩
theorem L9_eq (N : Nat) (op : Int) {a b c d : Int} (hab : -20 ≤ a ∧ b ≤ 27) (hcd : -20 ≤ c ∧ c ≤ d ∧ d ≤ 27 ∧ d ≤ c + 7) : ∀ (k n : Nat) (x : Int) (h : Int × Int) (Q : Int → Prop), a ≤ x → x + k = b + 1 → k < n → isHull Q h →
    ∃ h', L9a506 (N + 12) n op x a b c d h.1 h.2 = some (.x0 a b c d h'.1 h'.2) ∧ isHull (fun v => Q v ∨ ∃ x' y', x ≤ x' ∧ x' ≤ b ∧ c ≤ y' ∧ y' ≤ d ∧ (apS op x' y').2 = true ∧ v = (apS op x' y').1) h'
  | 0, n + 1, x, h, Q, hx, hk, _, hh => by
    simp only [L9a506]
    rw [decide_eq_false (by omega)]
    exact ⟨h, rfl, isHull_congr (fun v => ⟨.inl, fun g => by
      rcases g with g | ⟨x', y', _, _, _⟩
      · exact g
      · omega⟩) hh⟩
  | k + 1, n + 1, x, h, Q, hx, hk, hn, hh => by
    simp only [L9a506]
    have hw : IntKind.wrap .i64 (x + 1) = x + 1 := wrap_id (by unfold inI; omega)
    rw [decide_eq_true (show x ≤ b by omega)]
    obtain ⟨h1, e1, g1⟩ := L9i_eq (N + 4) op x (c := c) (d := d) ⟨hcd.1, hcd.2.2.1⟩ (d + 1 - c).toNat (N + 12) c h Q (Int.le_refl _) (by omega) (by omega) hh
    have e1 : L9a32402 (N + 12) (N + 12) op x c c d h.1 h.2 = _ := e1
    simp only [e1, hw]
    obtain ⟨h', e2, g2⟩ := L9_eq N op hab hcd k n (x + 1) h1 _ (by omega) (by omega) (by omega) g1
    refine ⟨h', e2, isHull_congr (fun v => ?_) g2⟩
    constructor
    · rintro ((q | ⟨y', k1, k2, k3, k4⟩) | ⟨x', y', k1, k2, k3⟩)
      · exact .inl q
      · exact .inr ⟨x, y', Int.le_refl _, by omega, k1, k2, k3, k4⟩
      · exact .inr ⟨x', y', by omega, k2, k3⟩
    · rintro (q | ⟨x', y', k1, k2, k3, k4, k5, k6⟩)
      · exact .inl (.inl q)
      · by_cases e : x' = x
        · subst e; exact .inl (.inr ⟨y', k3, k4, k5, k6⟩)
        · exact .inr ⟨x', y', by omega, k2, k3, k4, k5, k6⟩

theorem width {m : Int} : 0 ≤ ((BitVec.ofInt 64 m &&& BitVec.ofInt 64 (7 : Int)).toNat : Int) ∧ ((BitVec.ofInt 64 m &&& BitVec.ofInt 64 (7 : Int)).toNat : Int) ≤ 7 := by
  have e : BitVec.ofInt 64 (7 : Int) = 7#64 := rfl
  rw [e, BitVec.toNat_and]
  have h1 : (7#64).toNat = 2 ^ 3 - 1 := rfl
  rw [h1, Nat.and_two_pow_sub_one_eq_mod]
  omega
theorem lows {p m : Int} (hp : -128 ≤ p ∧ p ≤ 127) : ∃ a b, a = Int.tmod (IntKind.wrap .i64 p) 21 ∧ b = IntKind.wrap .i64 (Int.tmod (IntKind.wrap .i64 p) 21 + IntKind.wrap .i64 ((BitVec.ofInt 64 (IntKind.wrap .i64 m) &&& BitVec.ofInt 64 (7 : Int)).toNat : Int)) ∧ -20 ≤ a ∧ a ≤ 20 ∧ a ≤ b ∧ b ≤ a + 7 := by
  refine ⟨_, _, rfl, rfl, ?_⟩
  have hw : IntKind.wrap .i64 p = p := wrap_id (by unfold inI; omega)
  rw [hw]
  have t := tmod_facts (x := p) (y := 21) (by decide)
  have k := width (m := IntKind.wrap .i64 m)
  generalize ((BitVec.ofInt 64 (IntKind.wrap .i64 m) &&& BitVec.ofInt 64 (7 : Int)).toNat : Int) = e at *
  have hw2 : IntKind.wrap .i64 e = e := wrap_id (by unfold inI; omega)
  rw [hw2]
  generalize Int.tmod p 21 = q at *
  have hw3 : IntKind.wrap .i64 (q + e) = q + e := wrap_id (by unfold inI; omega)
  rw [hw3]
  omega
/-- NumExact. -/
theorem numExact_true {op p q m n : Int} (_ : 0 ≤ op ∧ op ≤ 255) (hp : -128 ≤ p ∧ p ≤ 127) (hq : -128 ≤ q ∧ q ≤ 127) (_ : -128 ≤ m ∧ m ≤ 127) (_ : -128 ≤ n ∧ n ≤ 127) : F9 41 op p q m n = some (.r true) := by
  show F9 (40 + 1) op p q m n = _
  obtain ⟨a, b, ea, eb, h1⟩ := lows (m := m) hp
  obtain ⟨c, d, ec, ed, h2⟩ := lows (m := n) hq
  have e3 : ∀ p q, F22 40 p q = some (.r p q) := fun p q => rfl
  simp only [F9, e3, ← ea, ← ec, head_true]
  rw [← ea] at eb
  rw [← ec] at ed
  rw [← eb, ← ed]
  by_cases h5 : op = 5 ∨ op = 6 ∨ op = 13 ∨ op = 14 ∨ op = 15
  · have hj : J9a30 40 op = some (.ret true) := by
      simp only [J9a30, head_true]
      rcases h5 with rfl | rfl | rfl | rfl | rfl <;> rfl
    simp only [hj]
  · have hj : J9a30 40 op = some .nx := by
      simp only [J9a30, head_true]
      simp only [beq_f (show op ≠ 5 by omega), beq_f (show op ≠ 6 by omega), beq_f (show op ≠ 13 by omega), beq_f (show op ≠ 14 by omega), beq_f (show op ≠ 15 by omega)]
    obtain ⟨h', e4, g⟩ := L9_eq 28 op (a := a) (b := b) (c := c) (d := d) (by omega) (by omega) (b + 1 - a).toNat 40 a (1, 0) _ (Int.le_refl _) (by omega) (by omega) isHull_none
    have e4 : L9a506 40 40 op a a b c d 1 0 = _ := e4
    have e5 : F19 40 op a b c d = _ := F19_eq 30 ⟨by omega, by omega⟩ ⟨by omega, by omega⟩ ⟨by omega, by omega⟩ ⟨by omega, by omega⟩
    have hG : isHull (G op a b c d) h' := isHull_congr (fun v => ⟨fun k => k.resolve_left id, .inr⟩) g
    have he : rangeS op a b c d = h' := isHull_unique (ex h5 ⟨by omega, by omega, by omega⟩ ⟨by omega, by omega, by omega⟩) hG
    simp only [hj, e4, e5, he, beq_self_eq_true, Bool.and_self]
end Go.Proofs.Ytnfmdenclkdmbaa

namespace Go.Proofs.Ytnfmdenclkdmbaa
open Go Go.Eng Go.ChangeShapes Go.WideShapes Go.ChangeAt Go.RowKit

theorem own : ownKnob Try.prog.godebug = none := by kernel_rfl
theorem laidOut : laidOutB Try.prog = true := by kernel_rfl

theorem wf_i64 {v : Int} (h : (Lit.int .i64 v).wf = true) : inI v := by
  simp only [Lit.wf, IntKind.min, IntKind.max, IntKind.signed, IntKind.bits, Bool.and_eq_true, decide_eq_true_eq, if_true] at h
  unfold inI; omega
theorem wf_u8 {v : Int} (h : (Lit.int .u8 v).wf = true) : 0 ≤ v ∧ v ≤ 255 := by
  simp only [Lit.wf, IntKind.min, IntKind.max, IntKind.signed, IntKind.bits, Bool.and_eq_true, decide_eq_true_eq, Bool.false_eq_true, if_false] at h
  omega
theorem wf_i8 {v : Int} (h : (Lit.int .i8 v).wf = true) : -128 ≤ v ∧ v ≤ 127 := by
  simp only [Lit.wf, IntKind.min, IntKind.max, IntKind.signed, IntKind.bits, Bool.and_eq_true, decide_eq_true_eq, if_true] at h
  omega
theorem int_of_arg {k : IntKind} {t : TypeId} {x : AV} (ha : (CX.ti t).u.agg = false) (hk : (CX.ti t).ks = [.int k]) (h : ArgAV CX t x) : ∃ v, x = .int k v ∧ (Lit.int k v).wf = true := by
  rcases h with ⟨h1, _⟩ | ⟨_, h2, h3⟩
  · rw [ha] at h1; cases h1
  · rw [hk] at h2
    simp only [koks, Bool.and_true] at h2
    cases x <;> simp only [kok, Bool.false_eq_true] at h2
    have e := eq_of_beq h2
    subst e
    cases h3 with
    | int _ _ h => exact ⟨_, rfl, h⟩
theorem ival_row {row : Row} (h2 : koks [.int .i64, .int .i64] row = true) (h3 : WfL CX.K row) : ∃ lo hi, row = [.int .i64 lo, .int .i64 hi] ∧ inI lo ∧ inI hi := by
  match row, h2, h3 with
  | [], h2, _ => simp [koks] at h2
  | [_], h2, _ => simp [koks] at h2
  | a :: b :: c :: r, h2, _ => simp [koks] at h2
  | [a, b], h2, h3 =>
    simp only [koks, Bool.and_eq_true] at h2
    obtain ⟨k1, k2, _⟩ := h2
    cases a <;> simp only [kok, Bool.false_eq_true] at k1
    cases b <;> simp only [kok, Bool.false_eq_true] at k2
    have e1 := eq_of_beq k1
    have e2 := eq_of_beq k2
    subst e1 e2
    have ha := h3 _ (List.mem_cons_self)
    have hb := h3 _ (List.mem_cons_of_mem _ (List.mem_cons_self))
    cases ha with
    | int _ _ ha => cases hb with
      | int _ _ hb => exact ⟨_, _, rfl, wf_i64 ha, wf_i64 hb⟩
theorem ival_of_arg {x : AV} (ha : (CX.ti 29).u.agg = true) (hk : (CX.ti 29).ks = [.int .i64, .int .i64]) (h : ArgAV CX 29 x) : ∃ lo hi, x = .agg [.int .i64 lo, .int .i64 hi] ∧ inI lo ∧ inI hi := by
  rcases h with ⟨_, row, rfl, h2, h3⟩ | ⟨h1, _⟩
  · rw [hk] at h2
    obtain ⟨lo, hi, rfl, h4, h5⟩ := ival_row h2 h3
    exact ⟨lo, hi, rfl, h4, h5⟩
  · rw [ha] at h1; cases h1
theorem ivals_of_arg {x : AV} (ha : (CX.ti 38).u.agg = false) (hk : (CX.ti 38).ks = [.slice 29]) (hk2 : CX.K 29 = [.int .i64, .int .i64]) (h : ArgAV CX 38 x) : ∃ T, x = .list 29 T ∧ T.length ≤ maxLen ∧ ∀ row ∈ T, ∃ lo hi, row = [.int .i64 lo, .int .i64 hi] ∧ inI lo ∧ inI hi := by
  rcases h with ⟨h1, _⟩ | ⟨_, h2, h3⟩
  · rw [ha] at h1; cases h1
  · rw [hk] at h2
    simp only [koks, Bool.and_true] at h2
    cases x <;> simp only [kok, Bool.false_eq_true] at h2
    have e := eq_of_beq h2
    subst e
    cases h3 with
    | list _ _ hl hk' h => exact ⟨_, rfl, hl, fun row hr => ival_row (by rw [← hk2]; exact hk' row hr) (fun x hx => h row hr x hx)⟩

theorem law9 (xs : List AV) (h : ArgsAV CX [22, 41, 41, 41, 41] xs) : ∃ m M', FCalls CX 9 m xs [] (.bool true) M' := by
  match xs, h with
  | [x0, x1, x2, x3, x4], ⟨hx0, hx1, hx2, hx3, hx4, _⟩ =>
    obtain ⟨v0, rfl, p0⟩ := int_of_arg (k := .u8) (by kernel_rfl) (by kernel_rfl) hx0
    obtain ⟨v1, rfl, p1⟩ := int_of_arg (k := .i8) (by kernel_rfl) (by kernel_rfl) hx1
    obtain ⟨v2, rfl, p2⟩ := int_of_arg (k := .i8) (by kernel_rfl) (by kernel_rfl) hx2
    obtain ⟨v3, rfl, p3⟩ := int_of_arg (k := .i8) (by kernel_rfl) (by kernel_rfl) hx3
    obtain ⟨v4, rfl, p4⟩ := int_of_arg (k := .i8) (by kernel_rfl) (by kernel_rfl) hx4
    exact ⟨_, _, soundF9 41 (fun i => match i with | 0 => .int .u8 v0 | 1 => .int .i8 v1 | 2 => .int .i8 v2 | 3 => .int .i8 v3 | _ => .int .i8 v4) [] (.r true) (numExact_true (wf_u8 p0) (wf_i8 p1) (wf_i8 p2) (wf_i8 p3) (wf_i8 p4))⟩

set_option maxRecDepth 100000 in
theorem lifted9 (os : Os) (started : os.Started) (H : Type) (enc : TypeId × Value → H) :
    ReturnsInHanded {} Try.checked os 9 .any (Rows.numExactSpec.pre6 enc Try.prog Try.f9 Rows.numExactRow.domain false) (Rows.numExactSpec.post enc Try.prog Try.f9 false true false false) := by
  refine returnsInHanded_of_change (C := Try.checked) own started (by kernel_rfl) Try.func9
    (ChangeSpec.witness6 (enc := enc) (C := Try.checked) false { blocks := #[], args := #[.int .u8 0, .int .i8 0, .int .i8 0, .int .i8 0, .int .i8 0], vars := [] } 8 (by kernel_rfl) (by kernel_rfl) (by kernel_rfl) (by kernel_rfl)) ?_
  intro W base args ds gs before hval hW _ _
  exact law_contract (X := CX) hX (fun _ => rfl) laidOut (ts := [22, 41, 41, 41, 41]) (tb := 4) (n := 8) (by kernel_rfl) (by kernel_rfl) Try.underlying4 (by kernel_rfl) (by kernel_rfl) rfl
    (fun ds hds => by match ds, hds with | [d0, d1, d2, d3, d4], _ => rfl) law9 W base args ds gs before hval hW

theorem numExact_holds : Rows.NumExactSaid :=
  OpenClaim.holds_of_wide 9 Try.f9 rfl rfl rfl rfl rfl rfl rfl ⟨rfl, rfl, rfl, rfl, rfl⟩ rfl rfl rfl rfl rfl (by kernel_rfl) Try.func9 (by kernel_rfl)
    (of_decide_eq_true (by kernel_rfl)) (by unfold Func.isWrapper; first | (rw [if_pos (by decide +kernel)]; kernel_rfl) | (rw [if_neg (by decide +kernel)]; exact ⟨rfl, rfl⟩))
    (fun os started H enc _ => lifted9 os started H enc)

#print axioms numExact_holds
end Go.Proofs.Ytnfmdenclkdmbaa
