/-
  What is proved: ceilinglaw01.NumAgrees returns true for every input, and leaves its arguments as they were. No condition.
-/
import Derived.Test.YtnfmdenclkdmbaaRows
import Derived.Test.YtnfmdenclkdmbaaAg2
import Derived.Test.YtnfmdenclkdmbaaAg4
import Derived.WalkKit
import Derived.ProofKit
import Derived.OpenShut
set_option linter.all false
set_option linter.deprecated false
namespace Go.Proofs.Ytnfmdenclkdmbaa
open Go Go.Eng Go.ChangeShapes Go.WideShapes Go.ChangeAt Go.RowKit

theorem own : ownKnob Try.prog.godebug = none := by kernel_rfl
theorem laidOut : laidOutB Try.prog = true := by kernel_rfl

theorem wf_i64 {v : Int} (h : (Lit.int .i64 v).wf = true) : inI v := by
  simp only [Lit.wf, IntKind.min, IntKind.max, IntKind.signed, IntKind.bits, Bool.and_eq_true, decide_eq_true_eq, if_true] at h
  unfold inI; omega
theorem wf_u8 {v : Int} (h : (Lit.int .u8 v).wf = true) : 0 ≤ v ∧ v ≤ 255 := by
  simp only [Lit.wf, IntKind.min, IntKind.max, IntKind.signed, IntKind.bits, Bool.and_eq_true, decide_eq_true_eq, Bool.false_eq_true, if_false] at h
  omega
theorem wf_i8 {v : Int} (h : (Lit.int .i8 v).wf = true) : -128 ≤ v ∧ v ≤ 127 := by
  simp only [Lit.wf, IntKind.min, IntKind.max, IntKind.signed, IntKind.bits, Bool.and_eq_true, decide_eq_true_eq, if_true] at h
  omega
theorem int_of_arg {k : IntKind} {t : TypeId} {x : AV} (ha : (CX.ti t).u.agg = false) (hk : (CX.ti t).ks = [.int k]) (h : ArgAV CX t x) : ∃ v, x = .int k v ∧ (Lit.int k v).wf = true := by
  rcases h with ⟨h1, _⟩ | ⟨_, h2, h3⟩
  · rw [ha] at h1; cases h1
  · rw [hk] at h2
    simp only [koks, Bool.and_true] at h2
    cases x <;> simp only [kok, Bool.false_eq_true] at h2
    have e := eq_of_beq h2
    subst e
    cases h3 with
    | int _ _ h => exact ⟨_, rfl, h⟩
theorem ival_row {row : Row} (h2 : koks [.int .i64, .int .i64] row = true) (h3 : WfL CX.K row) : ∃ lo hi, row = [.int .i64 lo, .int .i64 hi] ∧ inI lo ∧ inI hi := by
  match row, h2, h3 with
  | [], h2, _ => simp [koks] at h2
  | [_], h2, _ => simp [koks] at h2
  | a :: b :: c :: r, h2, _ => simp [koks] at h2
  | [a, b], h2, h3 =>
    simp only [koks, Bool.and_eq_true] at h2
    obtain ⟨k1, k2, _⟩ := h2
    cases a <;> simp only [kok, Bool.false_eq_true] at k1
    cases b <;> simp only [kok, Bool.false_eq_true] at k2
    have e1 := eq_of_beq k1
    have e2 := eq_of_beq k2
    subst e1 e2
    have ha := h3 _ (List.mem_cons_self)
    have hb := h3 _ (List.mem_cons_of_mem _ (List.mem_cons_self))
    cases ha with
    | int _ _ ha => cases hb with
      | int _ _ hb => exact ⟨_, _, rfl, wf_i64 ha, wf_i64 hb⟩
theorem ival_of_arg {x : AV} (ha : (CX.ti 29).u.agg = true) (hk : (CX.ti 29).ks = [.int .i64, .int .i64]) (h : ArgAV CX 29 x) : ∃ lo hi, x = .agg [.int .i64 lo, .int .i64 hi] ∧ inI lo ∧ inI hi := by
  rcases h with ⟨_, row, rfl, h2, h3⟩ | ⟨h1, _⟩
  · rw [hk] at h2
    obtain ⟨lo, hi, rfl, h4, h5⟩ := ival_row h2 h3
    exact ⟨lo, hi, rfl, h4, h5⟩
  · rw [ha] at h1; cases h1
theorem ivals_of_arg {x : AV} (ha : (CX.ti 38).u.agg = false) (hk : (CX.ti 38).ks = [.slice 29]) (hk2 : CX.K 29 = [.int .i64, .int .i64]) (h : ArgAV CX 38 x) : ∃ T, x = .list 29 T ∧ T.length ≤ maxLen ∧ ∀ row ∈ T, ∃ lo hi, row = [.int .i64 lo, .int .i64 hi] ∧ inI lo ∧ inI hi := by
  rcases h with ⟨h1, _⟩ | ⟨_, h2, h3⟩
  · rw [ha] at h1; cases h1
  · rw [hk] at h2
    simp only [koks, Bool.and_true] at h2
    cases x <;> simp only [kok, Bool.false_eq_true] at h2
    have e := eq_of_beq h2
    subst e
    cases h3 with
    | list _ _ hl hk' h => exact ⟨_, rfl, hl, fun row hr => ival_row (by rw [← hk2]; exact hk' row hr) (fun x hx => h row hr x hx)⟩

theorem law6 (xs : List AV) (h : ArgsAV CX [22, 2, 2] xs) : ∃ m M', FCalls CX 6 m xs [] (.bool true) M' := by
  match xs, h with
  | [x0, x1, x2], ⟨hx0, hx1, hx2, _⟩ =>
    obtain ⟨v0, rfl, p0⟩ := int_of_arg (k := .u8) (by kernel_rfl) (by kernel_rfl) hx0
    obtain ⟨v1, rfl, p1⟩ := int_of_arg (k := .i64) (by kernel_rfl) (by kernel_rfl) hx1
    obtain ⟨v2, rfl, p2⟩ := int_of_arg (k := .i64) (by kernel_rfl) (by kernel_rfl) hx2
    exact ⟨_, _, soundF6 41 (fun i => match i with | 0 => .int .u8 v0 | 1 => .int .i64 v1 | _ => .int .i64 v2) [] (.r true) (numAgrees_true (wf_u8 p0) (wf_i64 p1) (wf_i64 p2))⟩

set_option maxRecDepth 100000 in
theorem lifted6 (os : Os) (started : os.Started) (H : Type) (enc : TypeId × Value → H) :
    ReturnsInHanded {} Try.checked os 6 .any (Rows.numAgreesSpec.pre6 enc Try.prog Try.f6 Rows.numAgreesRow.domain false) (Rows.numAgreesSpec.post enc Try.prog Try.f6 false true false false) := by
  refine returnsInHanded_of_change (C := Try.checked) own started (by kernel_rfl) Try.func6
    (ChangeSpec.witness6 (enc := enc) (C := Try.checked) false { blocks := #[], args := #[.int .u8 0, .int .i64 0, .int .i64 0], vars := [] } 8 (by kernel_rfl) (by kernel_rfl) (by kernel_rfl) (by kernel_rfl)) ?_
  intro W base args ds gs before hval hW _ _
  exact law_contract (X := CX) hX (fun _ => rfl) laidOut (ts := [22, 2, 2]) (tb := 4) (n := 8) (by kernel_rfl) (by kernel_rfl) Try.underlying4 (by kernel_rfl) (by kernel_rfl) rfl
    (fun ds hds => by match ds, hds with | [d0, d1, d2], _ => rfl) law6 W base args ds gs before hval hW

theorem numAgrees_holds : Rows.NumAgreesSaid :=
  OpenClaim.holds_of_wide 6 Try.f6 rfl rfl rfl rfl rfl rfl rfl ⟨rfl, rfl, rfl, rfl, rfl⟩ rfl rfl rfl rfl rfl (by kernel_rfl) Try.func6 (by kernel_rfl)
    (of_decide_eq_true (by kernel_rfl)) (by unfold Func.isWrapper; first | (rw [if_pos (by decide +kernel)]; kernel_rfl) | (rw [if_neg (by decide +kernel)]; exact ⟨rfl, rfl⟩))
    (fun os started H enc _ => lifted6 os started H enc)

#print axioms numAgrees_holds
end Go.Proofs.Ytnfmdenclkdmbaa
