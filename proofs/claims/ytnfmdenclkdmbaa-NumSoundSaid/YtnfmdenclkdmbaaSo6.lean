/-
  Plain laws of chapter 01: hulls; corners contain the values between.
  Plain laws of chapter 01: intervals contain the values, and grow (NumSound).
  What is proved: ceilinglaw01.NumSound returns true for every input, and leaves its arguments as they were. No condition.
-/
import Derived.Test.YtnfmdenclkdmbaaSo5
import Derived.Test.YtnfmdenclkdmbaaRows
import Derived.Test.YtnfmdenclkdmbaaSo2
import Derived.WalkKit
import Derived.ProofKit
import Derived.OpenShut
set_option linter.all false
set_option linter.deprecated false
namespace Go.Proofs.Ytnfmdenclkdmbaa
open Go Go.Eng

def isHull (Q : Int → Prop) (h : Int × Int) : Prop := ((∀ v, ¬ Q v) ∧ h = (1, 0)) ∨ (Q h.1 ∧ Q h.2 ∧ ∀ v, Q v → h.1 ≤ v ∧ v ≤ h.2)

theorem isHull_none : isHull (fun _ => False) (1, 0) := .inl ⟨fun _ h => h, rfl⟩
theorem isHull_congr {Q Q' : Int → Prop} {h : Int × Int} (e : ∀ v, Q v ↔ Q' v) (hh : isHull Q h) : isHull Q' h := by
  rcases hh with ⟨h1, h2⟩ | ⟨h1, h2, h3⟩
  · exact .inl ⟨fun v hv => h1 v ((e v).2 hv), h2⟩
  · exact .inr ⟨(e _).1 h1, (e _).1 h2, fun v hv => h3 v ((e v).2 hv)⟩
theorem isHull_unique {Q : Int → Prop} {h g : Int × Int} (hh : isHull Q h) (hg : isHull Q g) : h = g := by
  rcases hh with ⟨h1, h2⟩ | ⟨h1, h2, h3⟩
  · rcases hg with ⟨g1, g2⟩ | ⟨g1, g2, g3⟩
    · rw [h2, g2]
    · exact absurd g1 (h1 _)
  · rcases hg with ⟨g1, g2⟩ | ⟨g1, g2, g3⟩
    · exact absurd h1 (g1 _)
    · have a1 := h3 _ g1
      have a2 := h3 _ g2
      have b1 := g3 _ h1
      have b2 := g3 _ h2
      obtain ⟨p, q⟩ := h
      obtain ⟨r, s⟩ := g
      simp only at *
      rw [Prod.mk.injEq]
      omega
theorem isHull_join {Q : Int → Prop} {a b v : Int} (hh : isHull Q (a, b)) : isHull (fun u => Q u ∨ u = v) (joinS a b v v) := by
  unfold joinS
  rcases hh with ⟨h1, h2⟩ | ⟨h1, h2, h3⟩
  · rw [Prod.mk.injEq] at h2
    obtain ⟨rfl, rfl⟩ := h2
    rw [if_pos (show (0 : Int) < 1 by decide), if_neg (by omega)]
    exact .inr ⟨.inr rfl, .inr rfl, fun u hu => by rcases hu with hu | rfl; exact absurd hu (h1 u); exact ⟨Int.le_refl _, Int.le_refl _⟩⟩
  · have hab := h3 _ h1
    rw [if_neg (by simp only at hab; omega), if_neg (by omega)]
    simp only at *
    refine .inr ⟨?_, ?_, fun u hu => ?_⟩
    · simp only
      by_cases e : a ≤ v
      · rw [Int.min_eq_left e]; exact .inl h1
      · rw [Int.min_eq_right (by omega)]; exact .inr rfl
    · simp only
      by_cases e : b ≤ v
      · rw [Int.max_eq_right e]; exact .inr rfl
      · rw [Int.max_eq_left (by omega)]; exact .inl h2
    · rcases hu with hu | rfl
      · have := h3 u hu; omega
      · omega

theorem inner_spec (f : Int → Int → Int × Bool) (x : Int) : ∀ (m : List Int) (o : Int × Int) (Q : Int → Prop), isHull Q o →
    (inner f x m o = none ∧ ∃ y ∈ m, (f x y).2 = false) ∨ ∃ o', inner f x m o = some o' ∧ (∀ y ∈ m, (f x y).2 = true) ∧ isHull (fun v => Q v ∨ ∃ y ∈ m, v = (f x y).1) o'
  | [], o, Q, h => .inr ⟨o, rfl, (fun y hy => by cases hy), isHull_congr (fun v => ⟨.inl, fun h => by rcases h with h | ⟨y, hy, _⟩; exact h; cases hy⟩) h⟩
  | y :: m, o, Q, h => by
    simp only [inner]
    cases hok : (f x y).2 with
    | false => exact .inl ⟨rfl, y, List.mem_cons_self, hok⟩
    | true =>
      rcases inner_spec f x m _ _ (isHull_join (v := (f x y).1) h) with ⟨h1, z, hz, h2⟩ | ⟨o', h1, h2, h3⟩
      · exact .inl ⟨h1, z, List.mem_cons_of_mem _ hz, h2⟩
      · refine .inr ⟨o', h1, fun z hz => ?_, isHull_congr (fun v => ?_) h3⟩
        · rcases List.mem_cons.1 hz with rfl | hz
          · exact hok
          · exact h2 z hz
        · constructor
          · rintro ((hq | rfl) | ⟨z, hz, rfl⟩)
            · exact .inl hq
            · exact .inr ⟨y, List.mem_cons_self, rfl⟩
            · exact .inr ⟨z, List.mem_cons_of_mem _ hz, rfl⟩
          · rintro (hq | ⟨z, hz, rfl⟩)
            · exact .inl (.inl hq)
            · rcases List.mem_cons.1 hz with rfl | hz
              · exact .inl (.inr rfl)
              · exact .inr ⟨z, hz, rfl⟩
theorem outer_spec (f : Int → Int → Int × Bool) (m : List Int) : ∀ (l : List Int) (o : Int × Int) (Q : Int → Prop), isHull Q o →
    (outer f m l o = none ∧ ∃ x ∈ l, ∃ y ∈ m, (f x y).2 = false) ∨ ∃ o', outer f m l o = some o' ∧ (∀ x ∈ l, ∀ y ∈ m, (f x y).2 = true) ∧ isHull (fun v => Q v ∨ ∃ x ∈ l, ∃ y ∈ m, v = (f x y).1) o'
  | [], o, Q, h => .inr ⟨o, rfl, (fun y hy => by cases hy), isHull_congr (fun v => ⟨.inl, fun h => by rcases h with h | ⟨y, hy, _⟩; exact h; cases hy⟩) h⟩
  | x :: l, o, Q, h => by
    simp only [outer]
    rcases inner_spec f x m o Q h with ⟨h1, y, hy, h2⟩ | ⟨o1, h1, h2, h3⟩
    · rw [h1]
      exact .inl ⟨rfl, x, List.mem_cons_self, y, hy, h2⟩
    · rw [h1]
      rcases outer_spec f m l o1 _ h3 with ⟨h4, x', hx, y, hy, h5⟩ | ⟨o', h4, h5, h6⟩
      · exact .inl ⟨h4, x', List.mem_cons_of_mem _ hx, y, hy, h5⟩
      · refine .inr ⟨o', h4, fun z hz => ?_, isHull_congr (fun v => ?_) h6⟩
        · rcases List.mem_cons.1 hz with rfl | hz
          · exact h2
          · exact h5 z hz
        · constructor
          · rintro ((hq | ⟨y, hy, rfl⟩) | ⟨z, hz, y, hy, rfl⟩)
            · exact .inl hq
            · exact .inr ⟨x, List.mem_cons_self, y, hy, rfl⟩
            · exact .inr ⟨z, List.mem_cons_of_mem _ hz, y, hy, rfl⟩
          · rintro (hq | ⟨z, hz, y, hy, rfl⟩)
            · exact .inl (.inl hq)
            · rcases List.mem_cons.1 hz with rfl | hz
              · exact .inl (.inr ⟨y, hy, rfl⟩)
              · exact .inr ⟨z, hz, y, hy, rfl⟩
def fullI : Int × Int := (-9223372036854775808, 9223372036854775807)
theorem corn_spec (f : Int → Int → Int × Bool) (l m : List Int) :
    (cornS f l m = fullI ∧ ∃ x ∈ l, ∃ y ∈ m, (f x y).2 = false) ∨ ((∀ x ∈ l, ∀ y ∈ m, (f x y).2 = true) ∧ isHull (fun v => ∃ x ∈ l, ∃ y ∈ m, v = (f x y).1) (cornS f l m)) := by
  unfold cornS
  rcases outer_spec f m l (1, 0) _ isHull_none with ⟨h1, h2⟩ | ⟨o, h1, h2, h3⟩
  · rw [h1]; exact .inl ⟨rfl, h2⟩
  · rw [h1]; exact .inr ⟨h2, isHull_congr (fun v => ⟨fun h => h.resolve_left id, .inr⟩) h3⟩

/-! ### The exact values -/
def exI (op x y : Int) : Int := if op = 1 then x + y else if op = 2 then x - y else if op = 3 then x * y else Int.tdiv x y
theorem exS_exI (op x y : Int) : exS op x y = (w (exI op x y), inIb (exI op x y)) := by
  unfold exS exI
  repeat' split
  all_goals rfl

theorem mul_mono {a b y : Int} (h : a ≤ b) (hy : 0 ≤ y) : a * y ≤ b * y := Int.mul_le_mul_of_nonneg_right h hy
theorem mul_anti {a b y : Int} (h : a ≤ b) (hy : y ≤ 0) : b * y ≤ a * y := Int.mul_le_mul_of_nonpos_right h hy
/-- Between: for one operand between two, the value is between. -/
theorem mul_btw {a b x y : Int} (h1 : a ≤ x) (h2 : x ≤ b) : (a * y ≤ x * y ∨ b * y ≤ x * y) ∧ (x * y ≤ a * y ∨ x * y ≤ b * y) := by
  by_cases hy : 0 ≤ y
  · exact ⟨.inl (mul_mono h1 hy), .inr (mul_mono h2 hy)⟩
  · exact ⟨.inr (mul_anti h2 (by omega)), .inl (mul_anti h1 (by omega))⟩
theorem tdiv_pos_mono {a b y : Int} (h : a ≤ b) (hy : 0 < y) : Int.tdiv a y ≤ Int.tdiv b y := Int.tdiv_le_tdiv hy h
theorem tdiv_btw {a b x y : Int} (h1 : a ≤ x) (h2 : x ≤ b) : (Int.tdiv a y ≤ Int.tdiv x y ∨ Int.tdiv b y ≤ Int.tdiv x y) ∧ (Int.tdiv x y ≤ Int.tdiv a y ∨ Int.tdiv x y ≤ Int.tdiv b y) := by
  rcases Int.lt_trichotomy y 0 with hy | hy | hy
  · obtain ⟨z, rfl⟩ : ∃ z, y = -z := ⟨-y, by omega⟩
    have g1 := tdiv_pos_mono h1 (show 0 < z by omega)
    have g2 := tdiv_pos_mono h2 (show 0 < z by omega)
    simp only [Int.tdiv_neg]
    exact ⟨.inr (by omega), .inl (by omega)⟩
  · subst hy
    simp only [Int.tdiv_zero]
    exact ⟨.inl (Int.le_refl _), .inl (Int.le_refl _)⟩
  · exact ⟨.inl (tdiv_pos_mono h1 hy), .inr (tdiv_pos_mono h2 hy)⟩
theorem tdiv_den {x y z : Int} (h0 : 0 < y) (h : y ≤ z) : (0 ≤ x → Int.tdiv x z ≤ Int.tdiv x y ∧ 0 ≤ Int.tdiv x z) ∧ (x ≤ 0 → Int.tdiv x y ≤ Int.tdiv x z ∧ Int.tdiv x z ≤ 0) := by
  have key : ∀ {x : Int}, 0 ≤ x → Int.tdiv x z ≤ Int.tdiv x y ∧ 0 ≤ Int.tdiv x z := by
    intro x hx
    obtain ⟨n, rfl⟩ := Int.eq_ofNat_of_zero_le hx
    obtain ⟨p, rfl⟩ := Int.eq_ofNat_of_zero_le (show 0 ≤ y by omega)
    obtain ⟨q, rfl⟩ := Int.eq_ofNat_of_zero_le (show 0 ≤ z by omega)
    rw [← Int.ofNat_tdiv, ← Int.ofNat_tdiv]
    have : n / q ≤ n / p := Nat.div_le_div_left (by omega) (by omega)
    exact ⟨Int.ofNat_le.2 this, Int.natCast_nonneg _⟩
  refine ⟨key, fun hx => ?_⟩
  have := key (x := -x) (by omega)
  rw [Int.neg_tdiv, Int.neg_tdiv] at this
  omega
/-- For positive divisors between two. -/
theorem tdiv_den_btw {x p y q : Int} (h0 : 0 < p) (h1 : p ≤ y) (h2 : y ≤ q) : (Int.tdiv x p ≤ Int.tdiv x y ∨ Int.tdiv x q ≤ Int.tdiv x y) ∧ (Int.tdiv x y ≤ Int.tdiv x p ∨ Int.tdiv x y ≤ Int.tdiv x q) := by
  by_cases hx : 0 ≤ x
  · have g1 := (tdiv_den (x := x) h0 h1).1 hx
    have g2 := (tdiv_den (x := x) (show 0 < y by omega) h2).1 hx
    exact ⟨.inr g2.1, .inl g1.1⟩
  · have g1 := (tdiv_den (x := x) h0 h1).2 (by omega)
    have g2 := (tdiv_den (x := x) (show 0 < y by omega) h2).2 (by omega)
    exact ⟨.inl g1.1, .inr g2.1⟩
theorem tdiv_den_btw' {x p y q : Int} (h0 : q < 0) (h1 : p ≤ y) (h2 : y ≤ q) : (Int.tdiv x p ≤ Int.tdiv x y ∨ Int.tdiv x q ≤ Int.tdiv x y) ∧ (Int.tdiv x y ≤ Int.tdiv x p ∨ Int.tdiv x y ≤ Int.tdiv x q) := by
  have := tdiv_den_btw (x := x) (p := -q) (y := -y) (q := -p) (by omega) (by omega) (by omega)
  simp only [Int.tdiv_neg] at this
  omega
theorem divS_has {c d y : Int} (hy : y = c ∨ y = -1 ∨ y = 1 ∨ y = d) (h0 : y ≠ 0) (h1 : c ≤ y) (h2 : y ≤ d) : y ∈ divS c d := by
  unfold divS
  rw [List.mem_filter]
  refine ⟨by simp only [List.mem_cons, List.not_mem_nil, or_false]; exact hy, ?_⟩
  simp only [hasS, Bool.and_eq_true, Bool.not_eq_true', decide_eq_true_eq]
  exact ⟨beq_f h0, h1, h2⟩
/-- The divisors that bound. -/
theorem div_ends {c d y : Int} (h0 : y ≠ 0) (h1 : c ≤ y) (h2 : y ≤ d) : ∃ p q, p ∈ divS c d ∧ q ∈ divS c d ∧ p ≤ y ∧ y ≤ q ∧ (0 < p ∨ q < 0) := by
  by_cases hy : 0 < y
  · by_cases hc : 0 < c
    · exact ⟨c, d, divS_has (.inl rfl) (by omega) (by omega) (by omega), divS_has (.inr (.inr (.inr rfl))) (by omega) (by omega) (by omega), h1, h2, .inl hc⟩
    · exact ⟨1, d, divS_has (.inr (.inr (.inl rfl))) (by omega) (by omega) (by omega), divS_has (.inr (.inr (.inr rfl))) (by omega) (by omega) (by omega), by omega, h2, .inl (by omega)⟩
  · by_cases hd : d < 0
    · exact ⟨c, d, divS_has (.inl rfl) (by omega) (by omega) (by omega), divS_has (.inr (.inr (.inr rfl))) (by omega) (by omega) (by omega), h1, h2, .inr hd⟩
    · exact ⟨c, -1, divS_has (.inl rfl) (by omega) (by omega) (by omega), divS_has (.inr (.inl rfl)) (by omega) (by omega) (by omega), h1, by omega, .inr (by omega)⟩

/-- The operands on the right that matter. -/
def rgt (op c d : Int) : List Int := if op = 4 then divS c d else [c, d]
theorem btw2 {g : Int → Int → Int} {l m : List Int} {x y : Int} {a b p q : Int} (ha : a ∈ l) (hb : b ∈ l) (hp : p ∈ m) (hq : q ∈ m)
    (h1 : (g a y ≤ g x y ∨ g b y ≤ g x y) ∧ (g x y ≤ g a y ∨ g x y ≤ g b y))
    (h2 : ∀ x, (g x p ≤ g x y ∨ g x q ≤ g x y) ∧ (g x y ≤ g x p ∨ g x y ≤ g x q)) :
    (∃ x1 ∈ l, ∃ y1 ∈ m, g x1 y1 ≤ g x y) ∧ (∃ x1 ∈ l, ∃ y1 ∈ m, g x y ≤ g x1 y1) := by
  constructor
  · rcases h1.1 with h | h
    · rcases (h2 a).1 with k | k
      · exact ⟨a, ha, p, hp, by omega⟩
      · exact ⟨a, ha, q, hq, by omega⟩
    · rcases (h2 b).1 with k | k
      · exact ⟨b, hb, p, hp, by omega⟩
      · exact ⟨b, hb, q, hq, by omega⟩
  · rcases h1.2 with h | h
    · rcases (h2 a).2 with k | k
      · exact ⟨a, ha, p, hp, by omega⟩
      · exact ⟨a, ha, q, hq, by omega⟩
    · rcases (h2 b).2 with k | k
      · exact ⟨b, hb, p, hp, by omega⟩
      · exact ⟨b, hb, q, hq, by omega⟩
theorem bnd {op a b c d x y : Int} (ho : op = 1 ∨ op = 2 ∨ op = 3 ∨ op = 4) (h1 : a ≤ x) (h2 : x ≤ b) (h3 : c ≤ y) (h4 : y ≤ d) (h0 : op = 4 → y ≠ 0) :
    (∃ x1 ∈ [a, b], ∃ y1 ∈ rgt op c d, exI op x1 y1 ≤ exI op x y) ∧ (∃ x1 ∈ [a, b], ∃ y1 ∈ rgt op c d, exI op x y ≤ exI op x1 y1) := by
  have ma : a ∈ [a, b] := List.mem_cons_self
  have mb : b ∈ [a, b] := List.mem_cons_of_mem _ List.mem_cons_self
  have mc : c ∈ [c, d] := List.mem_cons_self
  have md : d ∈ [c, d] := List.mem_cons_of_mem _ List.mem_cons_self
  rcases ho with rfl | rfl | rfl | rfl
  · exact btw2 (g := exI 1) ma mb mc md (by simp only [exI, if_true]; omega) (fun x => by simp only [exI, if_true]; omega)
  · have e : ∀ x y, exI 2 x y = x - y := fun x y => rfl
    exact btw2 (g := exI 2) ma mb mc md (by simp only [e]; omega) (fun x => by simp only [e]; omega)
  · have e : ∀ x y, exI 3 x y = x * y := fun x y => rfl
    exact btw2 (g := exI 3) ma mb mc md (by simp only [e]; exact mul_btw h1 h2) (fun x => by simp only [e, Int.mul_comm x]; exact mul_btw h3 h4)
  · have e : ∀ x y, exI 4 x y = Int.tdiv x y := fun x y => rfl
    obtain ⟨p, q, hp, hq, h5, h6, h7⟩ := div_ends (h0 rfl) h3 h4
    exact btw2 (g := exI 4) ma mb hp hq (by simp only [e]; exact tdiv_btw h1 h2) (fun x => by
      simp only [e]
      rcases h7 with h7 | h7
      · exact tdiv_den_btw h7 h5 h6
      · exact tdiv_den_btw' h7 h5 h6)

/-- Corners contain the exact value of what is between, or are the full interval. -/
theorem corn_sound {op : Int} {l m : List Int} {v : Int} (h1 : ∃ x ∈ l, ∃ y ∈ m, exI op x y ≤ v) (h2 : ∃ x ∈ l, ∃ y ∈ m, v ≤ exI op x y) :
    cornS (exS op) l m = fullI ∨ (inI v ∧ (cornS (exS op) l m).1 ≤ v ∧ v ≤ (cornS (exS op) l m).2) := by
  rcases corn_spec (exS op) l m with ⟨h, _⟩ | ⟨hok, hh⟩
  · exact .inl h
  · right
    obtain ⟨x1, hx1, y1, hy1, k1⟩ := h1
    obtain ⟨x2, hx2, y2, hy2, k2⟩ := h2
    have i1 := hok x1 hx1 y1 hy1
    have i2 := hok x2 hx2 y2 hy2
    rw [exS_exI] at i1 i2
    rw [inIb_iff] at i1 i2
    have e1 : (exS op x1 y1).1 = exI op x1 y1 := by rw [exS_exI]; exact wrap_id i1
    have e2 : (exS op x2 y2).1 = exI op x2 y2 := by rw [exS_exI]; exact wrap_id i2
    rcases hh with ⟨hn, _⟩ | ⟨_, _, hall⟩
    · exact absurd ⟨x1, hx1, y1, hy1, rfl⟩ (hn _)
    · have a1 := hall _ ⟨x1, hx1, y1, hy1, rfl⟩
      have a2 := hall _ ⟨x2, hx2, y2, hy2, rfl⟩
      rw [e1] at a1
      rw [e2] at a2
      obtain ⟨i3, i4⟩ := i1
      obtain ⟨i5, i6⟩ := i2
      exact ⟨⟨by omega, by omega⟩, by omega, by omega⟩
end Go.Proofs.Ytnfmdenclkdmbaa

namespace Go.Proofs.Ytnfmdenclkdmbaa
open Go Go.Eng

def Within (r : Int × Int) (v : Int) : Prop := r.1 ≤ v ∧ v ≤ r.2
def Inside (s r : Int × Int) : Prop := s.1 ≤ s.2 → r.1 ≤ s.1 ∧ s.2 ≤ r.2
theorem within_full {v : Int} (h : inI v) : Within fullI v := h
theorem inside_full {s : Int × Int} (h1 : inI s.1) (h2 : inI s.2) : Inside s fullI := fun _ => ⟨h1.1, h2.2⟩
theorem hull_in {Q : Int → Prop} {h : Int × Int} (hh : isHull Q h) (hq : ∀ v, Q v → inI v) : inI h.1 ∧ inI h.2 := by
  rcases hh with ⟨_, rfl⟩ | ⟨h1, h2, _⟩
  · exact ⟨in1, in0⟩
  · exact ⟨hq _ h1, hq _ h2⟩
theorem corn_in (op : Int) (l m : List Int) : inI (cornS (exS op) l m).1 ∧ inI (cornS (exS op) l m).2 := by
  rcases corn_spec (exS op) l m with ⟨h, _⟩ | ⟨_, hh⟩
  · rw [h]; unfold fullI inI; omega
  · refine hull_in hh ?_
    rintro v ⟨x, _, y, _, rfl⟩
    rw [exS_exI]
    exact wrap_in _
theorem corn_both {op : Int} {l m l' m' : List Int} {e : Int} (h1 : ∃ x ∈ l, ∃ y ∈ m, exI op x y ≤ e) (h2 : ∃ x ∈ l, ∃ y ∈ m, e ≤ exI op x y) (h3 : ∀ x ∈ l', ∀ y ∈ m', exI op x y = e) :
    Within (cornS (exS op) l m) (w e) ∧ Inside (cornS (exS op) l' m') (cornS (exS op) l m) := by
  rcases corn_sound h1 h2 with h | ⟨hi, k1, k2⟩
  · rw [h]
    exact ⟨within_full (wrap_in _), inside_full (corn_in op l' m').1 (corn_in op l' m').2⟩
  · have ew : w e = e := wrap_id hi
    rw [ew]
    refine ⟨⟨k1, k2⟩, fun hs => ?_⟩
    rcases corn_spec (exS op) l' m' with ⟨_, x, hx, y, hy, hb⟩ | ⟨_, hh⟩
    · rw [exS_exI, h3 x hx y hy] at hb
      rw [inIb_iff.2 hi] at hb
      cases hb
    · have hq : ∀ v, (∃ x ∈ l', ∃ y ∈ m', v = (exS op x y).1) → v = e := by
        rintro v ⟨x, hx, y, hy, rfl⟩
        rw [exS_exI, h3 x hx y hy]
        exact ew
      rcases hh with ⟨_, h4⟩ | ⟨h4, h5, _⟩
      · rw [h4] at hs
        exact absurd hs (by decide)
      · rw [hq _ h4, hq _ h5]
        exact ⟨k1, k2⟩

theorem rng_ar {op a b c d : Int} (ho : op = 1 ∨ op = 2 ∨ op = 3 ∨ op = 4) (hab : a ≤ b) (hcd : c ≤ d) : rangeS op a b c d = cornS (exS op) [a, b] (rgt op c d) := by
  have he : ¬ (b < a ∨ (d < c ∧ unS op = false)) := by omega
  unfold rangeS
  rw [if_neg he]
  rcases ho with rfl | rfl | rfl | rfl <;> rfl
theorem rgt_one {op y y1 : Int} (h : y1 ∈ rgt op y y) : y1 = y := by
  unfold rgt at h
  split at h
  · obtain ⟨_, h1, h2⟩ := divS_mem h; omega
  · simp only [List.mem_cons, List.not_mem_nil, or_false, or_self] at h; exact h
theorem one2 {x x1 : Int} (h : x1 ∈ [x, x]) : x1 = x := by
  simp only [List.mem_cons, List.not_mem_nil, or_false, or_self] at h; exact h

theorem snd_ar {op a b c d x y : Int} (ho : op = 1 ∨ op = 2 ∨ op = 3 ∨ op = 4) (h1 : a ≤ x) (h2 : x ≤ b) (h3 : c ≤ y) (h4 : y ≤ d) (hok : (apS op x y).2 = true) :
    Within (rangeS op a b c d) (apS op x y).1 ∧ Inside (rangeS op x x y y) (rangeS op a b c d) := by
  have h0 : op = 4 → y ≠ 0 := by
    rintro rfl rfl
    exact absurd hok (by show ¬ (false = true); decide)
  have hv : (apS op x y).1 = w (exI op x y) := by
    rcases ho with rfl | rfl | rfl | rfl
    · rfl
    · rfl
    · rfl
    · show (divQ y (w (Int.tdiv x y))).1 = _
      unfold divQ
      rw [if_neg (h0 rfl)]
      rfl
  obtain ⟨k1, k2⟩ := bnd ho h1 h2 h3 h4 h0
  rw [rng_ar ho (by omega) (by omega), rng_ar ho (Int.le_refl x) (Int.le_refl y), hv]
  exact corn_both k1 k2 fun x1 hx1 y1 hy1 => by rw [one2 hx1, rgt_one hy1]

theorem rng16 {a b c d : Int} (hab : a ≤ b) : rangeS 16 a b c d = cornS (exS 2) [0] [a, b] := by
  have he : ¬ (b < a ∨ (d < c ∧ unS 16 = false)) := by
    rintro (h | ⟨_, h⟩)
    · omega
    · exact absurd h (by decide)
  unfold rangeS
  rw [if_neg he]; rfl
theorem rng18 {a b c d : Int} (hab : a ≤ b) : rangeS 18 a b c d = cornS (exS 2) [1] [a, b] := by
  have he : ¬ (b < a ∨ (d < c ∧ unS 18 = false)) := by
    rintro (h | ⟨_, h⟩)
    · omega
    · exact absurd h (by decide)
  unfold rangeS
  rw [if_neg he]; rfl
theorem rng17 {a b c d : Int} (hab : a ≤ b) : rangeS 17 a b c d = absS a b := by
  have he : ¬ (b < a ∨ (d < c ∧ unS 17 = false)) := by
    rintro (h | ⟨_, h⟩)
    · omega
    · exact absurd h (by decide)
  unfold rangeS
  rw [if_neg he]; rfl
theorem snd_sub {k a b x : Int} (h1 : a ≤ x) (h2 : x ≤ b) : Within (cornS (exS 2) [k] [a, b]) (w (k - x)) ∧ Inside (cornS (exS 2) [k] [x, x]) (cornS (exS 2) [k] [a, b]) := by
  have e : ∀ x y, exI 2 x y = x - y := fun x y => rfl
  refine corn_both (e := k - x) ⟨k, List.mem_cons_self, b, List.mem_cons_of_mem _ List.mem_cons_self, by rw [e]; omega⟩ ⟨k, List.mem_cons_self, a, List.mem_cons_self, by rw [e]; omega⟩ fun x1 hx1 y1 hy1 => ?_
  rw [e, one2 hy1]
  simp only [List.mem_cons, List.not_mem_nil, or_false] at hx1
  rw [hx1]
theorem snd17 {a b x : Int} (ha : inI a) (hb : inI b) (h1 : a ≤ x) (h2 : x ≤ b) : Within (absS a b) (imax x (w (0 - x))) ∧ Inside (absS x x) (absS a b) := by
  have hx : inI x := ⟨by have := ha.1; omega, by have := hb.2; omega⟩
  have hin : inI (imax x (w (0 - x))) := by unfold imax; split; exact wrap_in _; exact hx
  have hs : inI (absS x x).1 ∧ inI (absS x x).2 := by
    unfold absS
    obtain ⟨x0, x1⟩ := hx
    split
    · unfold inI; omega
    · split <;> unfold inI <;> simp only <;> omega
  by_cases h0 : a = -9223372036854775808
  · have e : absS a b = fullI := by unfold absS; rw [if_pos h0]; rfl
    rw [e]
    exact ⟨within_full hin, inside_full hs.1 hs.2⟩
  · have hx0 : x ≠ -9223372036854775808 := by have := ha.1; omega
    have ev : imax x (w (0 - x)) = (x.natAbs : Int) := ab_w hx hx0
    rw [ev]
    unfold absS Within Inside
    rw [if_neg h0, if_neg hx0]
    obtain ⟨x0, x1⟩ := hx
    constructor
    · split <;> simp only <;> omega
    · intro _
      split <;> split <;> simp only <;> omega
theorem rng5 {a b c d : Int} (hab : a ≤ b) (hcd : c ≤ d) (h0 : ¬ (c = 0 ∧ d = 0)) : rangeS 5 a b c d = restS a b c d := by
  have he : ¬ (b < a ∨ (d < c ∧ unS 5 = false)) := by omega
  unfold rangeS
  rw [if_neg he]
  show (if c = 0 ∧ d = 0 then _ else _) = _
  rw [if_neg h0]
theorem rng6 {a b c d : Int} (hab : a ≤ b) (hcd : c ≤ d) (h0 : ¬ (c = 0 ∧ d = 0)) : rangeS 6 a b c d = resS a b c d := by
  have he : ¬ (b < a ∨ (d < c ∧ unS 6 = false)) := by omega
  unfold rangeS
  rw [if_neg he]
  show (if c = 0 ∧ d = 0 then _ else _) = _
  rw [if_neg h0]
theorem tmod_facts {x y : Int} (h0 : y ≠ 0) : (Int.tmod x y).natAbs ≤ x.natAbs ∧ (Int.tmod x y).natAbs < y.natAbs ∧ (0 ≤ x → 0 ≤ Int.tmod x y) ∧ (x ≤ 0 → Int.tmod x y ≤ 0) := by
  have h : (Int.tmod x y).natAbs = x.natAbs % y.natAbs := Int.natAbs_tmod x y
  refine ⟨by rw [h]; exact Nat.mod_le _ _, by rw [h]; exact Nat.mod_lt _ (by omega), fun hx => Int.tmod_nonneg y hx, fun hx => ?_⟩
  have := Int.tmod_nonneg (a := -x) y (by omega)
  rw [Int.neg_tmod] at this
  omega
theorem snd5 {a b c d x y : Int} (h1 : a ≤ x) (h2 : x ≤ b) (h3 : c ≤ y) (h4 : y ≤ d) (h0 : y ≠ 0) : Within (restS a b c d) (Int.tmod x y) ∧ Inside (restS x x y y) (restS a b c d) := by
  obtain ⟨t1, t2, t3, t4⟩ := tmod_facts (x := x) h0
  unfold restS mgS Within Inside
  generalize Int.tmod x y = v at *
  simp only
  omega
theorem modS_facts {x y : Int} (hy : inI y) (h0 : y ≠ 0) : (0 < y → 0 ≤ modS x y ∧ modS x y < y ∧ (0 ≤ x → modS x y ≤ x)) ∧ (y < 0 → y < modS x y ∧ modS x y ≤ 0 ∧ (x ≤ 0 → x ≤ modS x y)) := by
  obtain ⟨t1, t2, t3, t4⟩ := tmod_facts (x := x) h0
  obtain ⟨y0, y1⟩ := hy
  unfold modS
  generalize Int.tmod x y = v at *
  by_cases hv : v = 0
  · rw [if_pos hv]; omega
  · rw [if_neg hv]
    by_cases hs : (v < 0) ↔ (y < 0)
    · rw [if_pos (by rw [beq_iff_eq, decide_eq_decide]; exact hs)]
      omega
    · rw [if_neg (by rw [beq_iff_eq, decide_eq_decide]; exact hs)]
      have : w (v + y) = v + y := wrap_id (by unfold inI; omega)
      rw [this]
      omega
theorem snd6 {a b c d x y : Int} (hy : inI y) (h1 : a ≤ x) (h2 : x ≤ b) (h3 : c ≤ y) (h4 : y ≤ d) (h0 : y ≠ 0) : Within (resS a b c d) (modS x y) ∧ Inside (resS x x y y) (resS a b c d) := by
  obtain ⟨t1, t2⟩ := modS_facts (x := x) hy h0
  unfold resS Within Inside
  generalize modS x y = v at *
  simp only
  refine ⟨?_, fun _ => ?_⟩
  · repeat' split
    all_goals omega
  · repeat' split
    all_goals omega
theorem tr01 (p : Bool) : 0 ≤ tr p ∧ tr p ≤ 1 := by cases p <;> decide
theorem tr_pos {p : Bool} (h : p = true) : tr p = 1 := by rw [h]; rfl
theorem tr_neg {p : Bool} (h : p = false) : tr p = 0 := by rw [h]; rfl
/-- A relation's interval from: may it hold, may it fail. -/
theorem rel_within {yes no : Bool} {v : Bool} (h1 : v = true → yes = true) (h2 : v = false → no = true) : Within (tr (!no), tr yes) (tr v) := by
  unfold Within
  cases v with
  | true => rw [h1 rfl]; have := tr01 (!no); exact ⟨this.2, Int.le_refl _⟩
  | false => rw [h2 rfl]; have := tr01 yes; exact ⟨Int.le_refl _, this.1⟩
theorem rel_inside {yes no yes' no' : Bool} (h1 : yes' = true → yes = true) (h2 : no' = true → no = true) : Inside (tr (!no'), tr yes') (tr (!no), tr yes) := by
  unfold Inside
  intro _
  cases yes' <;> cases no' <;> cases yes <;> cases no <;> simp at h1 h2 <;> decide
theorem rng7 {op a b c d : Int} (hab : a ≤ b) (hcd : c ≤ d) (ho : 7 ≤ op ∧ op ≤ 12) : rangeS op a b c d = relS op a b c d := by
  have he : ¬ (b < a ∨ (d < c ∧ unS op = false)) := by omega
  unfold rangeS
  rw [if_neg he, if_neg (by omega), if_neg (by omega), if_neg (by omega), if_neg (by omega), if_neg (by omega), if_neg (by omega), if_pos ho]
theorem snd7 {op a b c d x y : Int} (ho : 7 ≤ op ∧ op ≤ 12) (h1 : a ≤ x) (h2 : x ≤ b) (h3 : c ≤ y) (h4 : y ≤ d) : Within (relS op a b c d) (apS op x y).1 ∧ Inside (relS op x x y y) (relS op a b c d) := by
  have : op = 7 ∨ op = 8 ∨ op = 9 ∨ op = 10 ∨ op = 11 ∨ op = 12 := by omega
  rcases this with rfl | rfl | rfl | rfl | rfl | rfl
  · exact ⟨rel_within (v := x == y) (by simp; omega) (by simp; omega), rel_inside (by simp; omega) (by simp; omega)⟩
  · exact ⟨rel_within (v := x != y) (by simp; omega) (by simp; omega), rel_inside (by simp; omega) (by simp; omega)⟩
  · exact ⟨rel_within (v := decide (x < y)) (by simp; omega) (by simp; omega), rel_inside (by simp; omega) (by simp; omega)⟩
  · exact ⟨rel_within (v := decide (x ≤ y)) (by simp; omega) (by simp; omega), rel_inside (by simp; omega) (by simp; omega)⟩
  · exact ⟨rel_within (v := decide (y < x)) (by simp; omega) (by simp; omega), rel_inside (by simp; omega) (by simp; omega)⟩
  · exact ⟨rel_within (v := decide (y ≤ x)) (by simp; omega) (by simp; omega), rel_inside (by simp; omega) (by simp; omega)⟩
theorem rng13 {op a b c d : Int} (hab : a ≤ b) (hcd : c ≤ d) (ho : op = 13 ∨ op = 14 ∨ op = 15) : rangeS op a b c d = lgcS op a b c d := by
  have he : ¬ (b < a ∨ (d < c ∧ unS op = false)) := by omega
  unfold rangeS
  rw [if_neg he, if_neg (by omega), if_neg (by omega), if_neg (by omega), if_neg (by omega), if_neg (by omega), if_neg (by omega), if_neg (by omega), if_pos ho]
theorem lgc_val {op : Int} (ho : op = 13 ∨ op = 14 ∨ op = 15) (x y : Int) : (apS op x y).2 = true ∧ inI (apS op x y).1 := by
  rcases ho with rfl | rfl | rfl <;> exact ⟨rfl, wrap_in _⟩
theorem snd13 {op a b c d x y : Int} (ho : op = 13 ∨ op = 14 ∨ op = 15) (h1 : a ≤ x) (h2 : x ≤ b) (h3 : c ≤ y) (h4 : y ≤ d) : Within (lgcS op a b c d) (apS op x y).1 ∧ Inside (lgcS op x x y y) (lgcS op a b c d) := by
  have good : ∀ l m, isHull (fun v => ∃ x ∈ l, ∃ y ∈ m, v = (apS op x y).1) (cornS (apS op) l m) := by
    intro l m
    rcases corn_spec (apS op) l m with ⟨_, x, _, y, _, hb⟩ | ⟨_, hh⟩
    · rw [(lgc_val ho x y).1] at hb; cases hb
    · exact hh
  by_cases hb : (0 ≤ a ∧ b ≤ 1) ∧ (0 ≤ c ∧ d ≤ 1)
  · have hb' : (0 ≤ x ∧ x ≤ 1) ∧ (0 ≤ y ∧ y ≤ 1) := by omega
    have e1 : lgcS op a b c d = cornS (apS op) [a, b] [c, d] := by unfold lgcS; rw [if_pos hb]
    have e2 : lgcS op x x y y = cornS (apS op) [x, x] [y, y] := by unfold lgcS; rw [if_pos hb']
    rw [e1, e2]
    have mx : x ∈ [a, b] := by simp only [List.mem_cons, List.not_mem_nil, or_false]; omega
    have my : y ∈ [c, d] := by simp only [List.mem_cons, List.not_mem_nil, or_false]; omega
    have hw : Within (cornS (apS op) [a, b] [c, d]) (apS op x y).1 := by
      rcases good [a, b] [c, d] with ⟨hn, _⟩ | ⟨_, _, hall⟩
      · exact absurd ⟨x, mx, y, my, rfl⟩ (hn _)
      · exact hall _ ⟨x, mx, y, my, rfl⟩
    refine ⟨hw, fun hs => ?_⟩
    rcases good [x, x] [y, y] with ⟨_, h4⟩ | ⟨⟨x1, hx1, y1, hy1, e3⟩, ⟨x2, hx2, y2, hy2, e4⟩, _⟩
    · rw [h4] at hs; exact absurd hs (by decide)
    · rw [e3, e4, one2 hx1, one2 hy1, one2 hx2, one2 hy2]; exact hw
  · have e1 : lgcS op a b c d = fullI := by unfold lgcS; rw [if_neg hb]; rfl
    rw [e1]
    refine ⟨within_full (lgc_val ho x y).2, ?_⟩
    unfold lgcS
    split
    · have := hull_in (good [x, x] [y, y]) (by rintro v ⟨x, _, y, _, rfl⟩; exact (lgc_val ho x y).2)
      exact inside_full this.1 this.2
    · exact inside_full (by unfold inI; omega) (by unfold inI; omega)

/-- Soundness. -/
theorem snd {op a b c d x y : Int} (ha : inI a) (hb : inI b) (hc : inI c) (hd : inI d) (h1 : a ≤ x) (h2 : x ≤ b) (h3 : c ≤ y) (h4 : y ≤ d) (hok : (apS op x y).2 = true) :
    Within (rangeS op a b c d) (apS op x y).1 ∧ Inside (rangeS op x x y y) (rangeS op a b c d) := by
  have hab : a ≤ b := by omega
  have hcd : c ≤ d := by omega
  have hy : inI y := ⟨by have := hc.1; omega, by have := hd.2; omega⟩
  by_cases k1 : op = 1 ∨ op = 2 ∨ op = 3 ∨ op = 4
  · exact snd_ar k1 h1 h2 h3 h4 hok
  by_cases k5 : op = 5
  · subst k5
    have h0 : y ≠ 0 := by rintro rfl; exact absurd hok (by show ¬ (false = true); decide)
    rw [rng5 hab hcd (by omega), rng5 (Int.le_refl x) (Int.le_refl y) (by omega)]
    have : (apS 5 x y).1 = Int.tmod x y := by
      show (divQ y (Int.tmod x y)).1 = _
      unfold divQ; rw [if_neg h0]
    rw [this]
    exact snd5 h1 h2 h3 h4 h0
  by_cases k6 : op = 6
  · subst k6
    have h0 : y ≠ 0 := by rintro rfl; exact absurd hok (by show ¬ (false = true); decide)
    rw [rng6 hab hcd (by omega), rng6 (Int.le_refl x) (Int.le_refl y) (by omega)]
    have : (apS 6 x y).1 = modS x y := by
      show (divQ y (modS x y)).1 = _
      unfold divQ; rw [if_neg h0]
    rw [this]
    exact snd6 hy h1 h2 h3 h4 h0
  by_cases k7 : 7 ≤ op ∧ op ≤ 12
  · rw [rng7 hab hcd k7, rng7 (Int.le_refl x) (Int.le_refl y) k7]
    exact snd7 k7 h1 h2 h3 h4
  by_cases k13 : op = 13 ∨ op = 14 ∨ op = 15
  · rw [rng13 hab hcd k13, rng13 (Int.le_refl x) (Int.le_refl y) k13]
    exact snd13 k13 h1 h2 h3 h4
  by_cases k16 : op = 16
  · subst k16
    rw [rng16 hab, rng16 (Int.le_refl x)]
    exact snd_sub h1 h2
  by_cases k17 : op = 17
  · subst k17
    rw [rng17 hab, rng17 (Int.le_refl x)]
    exact snd17 ha hb h1 h2
  by_cases k18 : op = 18
  · subst k18
    rw [rng18 hab, rng18 (Int.le_refl x)]
    exact snd_sub h1 h2
  exfalso
  have : (apS op x y).2 = false := by
    unfold apS
    rw [if_neg (by omega), if_neg (by omega), if_neg (by omega), if_neg (by omega), if_neg (by omega), if_neg (by omega), if_neg (by omega), if_neg (by omega), if_neg (by omega), if_neg (by omega), if_neg (by omega), if_neg (by omega), if_neg (by omega), if_neg (by omega), if_neg (by omega), if_neg (by omega), if_neg (by omega), if_neg (by omega)]
  rw [this] at hok
  cases hok

theorem liesS_join (a b c d : Int) : liesS c d (joinS a b c d).1 (joinS a b c d).2 = true := by
  unfold liesS joinS
  by_cases h1 : b < a
  · by_cases h2 : d < c
    · simp [h2]
    · simp [h1, h2]
  · by_cases h2 : d < c
    · simp [h2]
    · rw [if_neg h1, if_neg h2]
      simp only [Bool.or_eq_true, Bool.and_eq_true, decide_eq_true_eq]
      omega
theorem liesS_inside {s r : Int × Int} (h : Inside s r) : liesS s.1 s.2 r.1 r.2 = true := by
  unfold Inside at h
  unfold liesS
  by_cases h1 : s.2 < s.1
  · simp [h1]
  · have := h (by omega)
    simp [this.1, this.2]
/-- NumSound. -/
theorem numSound_true {op a b c d x y : Int} (_ : 0 ≤ op ∧ op ≤ 255) (ha : inI a) (hb : inI b) (hc : inI c) (hd : inI d) (_ : inI x) (_ : inI y) : F7 41 op a b c d x y = some (.r true) := by
  have e1 : F19 40 op a b c d = _ := F19_eq 30 ha hb hc hd
  have j3 : J7a116 40 op = some (.nx (unS op)) := by
    simp only [J7a116, unS]
    by_cases h1 : op = 16
    · simp [h1]
    · by_cases h2 : op = 17
      · simp [h2]
      · simp only [beq_f h1, beq_f h2, h1, h2, false_or]
        by_cases h3 : op = 18
        · simp [h3]
        · simp only [beq_f h3, h3, decide_false]
  show F7 (40 + 1) op a b c d x y = _
  by_cases he : b < a ∨ d < c
  · have j1 : J7a28 40 a b c d = some (.nx true a b c d) := by
      simp only [J7a28]
      by_cases h1 : b < a
      · rw [decide_eq_true h1]
      · rw [decide_eq_false h1]
        simp only [decide_eq_true (he.resolve_left h1)]
    have hr : ¬ (a ≤ b ∧ unS op = true) → rangeS op a b c d = (1, 0) := by
      intro h
      unfold rangeS
      rw [if_pos]
      by_cases h1 : b < a
      · exact .inl h1
      · refine .inr ⟨he.resolve_left h1, ?_⟩
        cases hu : unS op with
        | false => rfl
        | true => exact absurd ⟨by omega, hu⟩ h
    have j2 : J7a14 40 op a b c d (rangeS op a b c d).1 (rangeS op a b c d).2 = some (.ret true a b c d (rangeS op a b c d).1 (rangeS op a b c d).2) := by
      simp only [J7a14, j1, j3, head_true]
      by_cases h1 : a ≤ b
      · cases hu : unS op with
        | true => simp only [decide_eq_true h1]
        | false =>
          rw [hr (by rw [hu]; simp)]
          simp only [decide_eq_true h1]
          rfl
      · rw [hr (by omega)]
        simp only [decide_eq_false h1]
        rfl
    simp only [F7, e1, j2]
  · have hab : a ≤ b := by omega
    have hcd : c ≤ d := by omega
    have j1 : J7a28 40 a b c d = some (.nx false a b c d) := by
      simp only [J7a28]
      rw [decide_eq_false (by omega), decide_eq_false (show ¬ d < c by omega)]
    have j2 : J7a14 40 op a b c d (rangeS op a b c d).1 (rangeS op a b c d).2 = some (.nx a b c d (rangeS op a b c d).1 (rangeS op a b c d).2) := by
      simp only [J7a14, j1]
    have e2 : ∀ p q v, F21 40 p q v = some (.r (max p (min q v))) := by
      intro p q v
      show some (R21.r (imax p (imin q v))) = _
      rw [imin_eq, imax_eq]
    have e3 : ∀ p q, F22 40 p q = some (.r p q) := fun p q => rfl
    have hx1 : a ≤ max a (min b x) ∧ max a (min b x) ≤ b := by omega
    have hy1 : c ≤ max c (min d y) ∧ max c (min d y) ≤ d := by omega
    simp only [F7, e1, j2, e2, e3]
    generalize max a (min b x) = X at *
    generalize max c (min d y) = Y at *
    have iX : inI X := ⟨by have := ha.1; omega, by have := hb.2; omega⟩
    have iY : inI Y := ⟨by have := hc.1; omega, by have := hd.2; omega⟩
    have e4 : F17 40 op X Y = _ := F17_eq 36 iY
    have e5 : F19 40 op X X Y Y = _ := F19_eq 30 iX iX iY iY
    have e6 : ∀ p q r s, F25 40 p q r s = _ := fun p q r s => F25_eq 33 p q r s
    have e7 : ∀ p q r s, F24 40 p q r s = _ := fun p q r s => F24_eq 38 p q r s
    have e8 : ∀ p q v, F23 40 p q v = _ := fun p q v => F23_eq 39 p q v
    simp only [e4, e5, e6, e7, e8, head_true, liesS_join]
    cases hok : (apS op X Y).2 with
    | false =>
      simp only [Bool.not_false]
      cases liesS (rangeS op X X Y Y).1 (rangeS op X X Y Y).2 (rangeS op a b c d).1 (rangeS op a b c d).2 <;> rfl
    | true =>
      obtain ⟨s1, s2⟩ := snd ha hb hc hd hx1.1 hx1.2 hy1.1 hy1.2 hok
      have hh : hasS (rangeS op a b c d).1 (rangeS op a b c d).2 (apS op X Y).1 = true := by
        unfold hasS; rw [decide_eq_true s1.1, decide_eq_true s1.2]; rfl
      simp only [Bool.not_true, hh, liesS_inside s2]
end Go.Proofs.Ytnfmdenclkdmbaa

namespace Go.Proofs.Ytnfmdenclkdmbaa
open Go Go.Eng Go.ChangeShapes Go.WideShapes Go.ChangeAt Go.RowKit

theorem own : ownKnob Try.prog.godebug = none := by kernel_rfl
theorem laidOut : laidOutB Try.prog = true := by kernel_rfl

theorem wf_i64 {v : Int} (h : (Lit.int .i64 v).wf = true) : inI v := by
  simp only [Lit.wf, IntKind.min, IntKind.max, IntKind.signed, IntKind.bits, Bool.and_eq_true, decide_eq_true_eq, if_true] at h
  unfold inI; omega
theorem wf_u8 {v : Int} (h : (Lit.int .u8 v).wf = true) : 0 ≤ v ∧ v ≤ 255 := by
  simp only [Lit.wf, IntKind.min, IntKind.max, IntKind.signed, IntKind.bits, Bool.and_eq_true, decide_eq_true_eq, Bool.false_eq_true, if_false] at h
  omega
theorem wf_i8 {v : Int} (h : (Lit.int .i8 v).wf = true) : -128 ≤ v ∧ v ≤ 127 := by
  simp only [Lit.wf, IntKind.min, IntKind.max, IntKind.signed, IntKind.bits, Bool.and_eq_true, decide_eq_true_eq, if_true] at h
  omega
theorem int_of_arg {k : IntKind} {t : TypeId} {x : AV} (ha : (CX.ti t).u.agg = false) (hk : (CX.ti t).ks = [.int k]) (h : ArgAV CX t x) : ∃ v, x = .int k v ∧ (Lit.int k v).wf = true := by
  rcases h with ⟨h1, _⟩ | ⟨_, h2, h3⟩
  · rw [ha] at h1; cases h1
  · rw [hk] at h2
    simp only [koks, Bool.and_true] at h2
    cases x <;> simp only [kok, Bool.false_eq_true] at h2
    have e := eq_of_beq h2
    subst e
    cases h3 with
    | int _ _ h => exact ⟨_, rfl, h⟩
theorem ival_row {row : Row} (h2 : koks [.int .i64, .int .i64] row = true) (h3 : WfL CX.K row) : ∃ lo hi, row = [.int .i64 lo, .int .i64 hi] ∧ inI lo ∧ inI hi := by
  match row, h2, h3 with
  | [], h2, _ => simp [koks] at h2
  | [_], h2, _ => simp [koks] at h2
  | a :: b :: c :: r, h2, _ => simp [koks] at h2
  | [a, b], h2, h3 =>
    simp only [koks, Bool.and_eq_true] at h2
    obtain ⟨k1, k2, _⟩ := h2
    cases a <;> simp only [kok, Bool.false_eq_true] at k1
    cases b <;> simp only [kok, Bool.false_eq_true] at k2
    have e1 := eq_of_beq k1
    have e2 := eq_of_beq k2
    subst e1 e2
    have ha := h3 _ (List.mem_cons_self)
    have hb := h3 _ (List.mem_cons_of_mem _ (List.mem_cons_self))
    cases ha with
    | int _ _ ha => cases hb with
      | int _ _ hb => exact ⟨_, _, rfl, wf_i64 ha, wf_i64 hb⟩
theorem ival_of_arg {x : AV} (ha : (CX.ti 29).u.agg = true) (hk : (CX.ti 29).ks = [.int .i64, .int .i64]) (h : ArgAV CX 29 x) : ∃ lo hi, x = .agg [.int .i64 lo, .int .i64 hi] ∧ inI lo ∧ inI hi := by
  rcases h with ⟨_, row, rfl, h2, h3⟩ | ⟨h1, _⟩
  · rw [hk] at h2
    obtain ⟨lo, hi, rfl, h4, h5⟩ := ival_row h2 h3
    exact ⟨lo, hi, rfl, h4, h5⟩
  · rw [ha] at h1; cases h1
theorem ivals_of_arg {x : AV} (ha : (CX.ti 38).u.agg = false) (hk : (CX.ti 38).ks = [.slice 29]) (hk2 : CX.K 29 = [.int .i64, .int .i64]) (h : ArgAV CX 38 x) : ∃ T, x = .list 29 T ∧ T.length ≤ maxLen ∧ ∀ row ∈ T, ∃ lo hi, row = [.int .i64 lo, .int .i64 hi] ∧ inI lo ∧ inI hi := by
  rcases h with ⟨h1, _⟩ | ⟨_, h2, h3⟩
  · rw [ha] at h1; cases h1
  · rw [hk] at h2
    simp only [koks, Bool.and_true] at h2
    cases x <;> simp only [kok, Bool.false_eq_true] at h2
    have e := eq_of_beq h2
    subst e
    cases h3 with
    | list _ _ hl hk' h => exact ⟨_, rfl, hl, fun row hr => ival_row (by rw [← hk2]; exact hk' row hr) (fun x hx => h row hr x hx)⟩

theorem law7 (xs : List AV) (h : ArgsAV CX [22, 29, 29, 2, 2] xs) : ∃ m M', FCalls CX 7 m xs [] (.bool true) M' := by
  match xs, h with
  | [x0, x1, x2, x3, x4], ⟨hx0, hx1, hx2, hx3, hx4, _⟩ =>
    obtain ⟨v0, rfl, p0⟩ := int_of_arg (k := .u8) (by kernel_rfl) (by kernel_rfl) hx0
    obtain ⟨l1, u1, rfl, p1, q1⟩ := ival_of_arg (by kernel_rfl) (by kernel_rfl) hx1
    obtain ⟨l2, u2, rfl, p2, q2⟩ := ival_of_arg (by kernel_rfl) (by kernel_rfl) hx2
    obtain ⟨v3, rfl, p3⟩ := int_of_arg (k := .i64) (by kernel_rfl) (by kernel_rfl) hx3
    obtain ⟨v4, rfl, p4⟩ := int_of_arg (k := .i64) (by kernel_rfl) (by kernel_rfl) hx4
    exact ⟨_, _, soundF7 41 (fun i => match i with | 0 => .int .u8 v0 | 1 => .agg [.int .i64 l1, .int .i64 u1] | 2 => .agg [.int .i64 l2, .int .i64 u2] | 3 => .int .i64 v3 | _ => .int .i64 v4) [] (.r true) (numSound_true (wf_u8 p0) p1 q1 p2 q2 (wf_i64 p3) (wf_i64 p4))⟩

set_option maxRecDepth 100000 in
theorem lifted7 (os : Os) (started : os.Started) (H : Type) (enc : TypeId × Value → H) :
    ReturnsInHanded {} Try.checked os 7 .any (Rows.numSoundSpec.pre6 enc Try.prog Try.f7 Rows.numSoundRow.domain false) (Rows.numSoundSpec.post enc Try.prog Try.f7 false true false false) := by
  refine returnsInHanded_of_change (C := Try.checked) own started (by kernel_rfl) Try.func7
    (ChangeSpec.witness6 (enc := enc) (C := Try.checked) false { blocks := #[], args := #[.int .u8 0, .agg #[.int .i64 0, .int .i64 0], .agg #[.int .i64 0, .int .i64 0], .int .i64 0, .int .i64 0], vars := [] } 8 (by kernel_rfl) (by kernel_rfl) (by kernel_rfl) (by kernel_rfl)) ?_
  intro W base args ds gs before hval hW _ _
  exact law_contract (X := CX) hX (fun _ => rfl) laidOut (ts := [22, 29, 29, 2, 2]) (tb := 4) (n := 8) (by kernel_rfl) (by kernel_rfl) Try.underlying4 (by kernel_rfl) (by kernel_rfl) rfl
    (fun ds hds => by match ds, hds with | [d0, d1, d2, d3, d4], _ => rfl) law7 W base args ds gs before hval hW

theorem numSound_holds : Rows.NumSoundSaid :=
  OpenClaim.holds_of_wide 7 Try.f7 rfl rfl rfl rfl rfl rfl rfl ⟨rfl, rfl, rfl, rfl, rfl⟩ rfl rfl rfl rfl rfl (by kernel_rfl) Try.func7 (by kernel_rfl)
    (of_decide_eq_true (by kernel_rfl)) (by unfold Func.isWrapper; first | (rw [if_pos (by decide +kernel)]; kernel_rfl) | (rw [if_neg (by decide +kernel)]; exact ⟨rfl, rfl⟩))
    (fun os started H enc _ => lifted7 os started H enc)

#print axioms numSound_holds
end Go.Proofs.Ytnfmdenclkdmbaa
