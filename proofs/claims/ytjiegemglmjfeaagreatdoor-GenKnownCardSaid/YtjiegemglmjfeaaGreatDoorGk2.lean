/-
  The engine, part Ja: a block that is new need not be kept in the abstract memory.
  The engine, part K: slice expressions, append.
  The engine, part L: append.
  The engine, part La: maps whose keys are integers, bools or strings.
  The engine, part Lb: copy, clear.
  The engine, part Lc: append to nil of a slice of values that name blocks. (Not imported yet.)
  The engine, part M: one operation of the code, whatever it is.
  The engine, part Mb: strings, pointers held against each other, the ways of strings.Builder; one operation of the code, whatever it is.
  The engine, part Ma: cells that nobody writes, given back; the records of ranges over functions, laid aside and taken up again.
  The engine, part N: lists of operations; what is known of a frame.
  The engine, part O: operations that leave the memory alone, and what the others may write: for regions that draw their order.
-/
import Derived.Test.YtjiegemglmjfeaaGreatDoorGk1
import Derived.MapKept
import Derived.Lib.UnsafeStr
import Derived.Lib.Builder
import Derived.Laws.Externs
import Derived.OrdersIn
set_option linter.all false
set_option linter.deprecated false
namespace Go.Eng
open Go
noncomputable section
variable {X : Cx} {R : Type} {M : List Blk}
theorem Inv.shed {w0 w w' : World} {S : Sc} {F F' : Addr → Prop} {ρ : List Hd} {hd : Hd} {b : Blk} (hI : Inv X w0 S F ρ M w) (hN : Inv X w0 S F' (ρ ++ [hd]) (M ++ [b]) w') (hF : ∀ a, F a → F' a) (hp : ∀ g, g < w.heap.size → w'.heap[g]? = w.heap[g]?) (hw : ∀ a v, F a → w.cell? a = some v → w'.cell? a = some v) :
    Inv X w0 S F' ρ M w' where
  os := hN.os
  tape := hN.tape
  output := hN.output
  size := hN.size
  frame := hN.frame
  len := hI.len
  rep := fun id b' hd' hb hh => by
    cases hdead : b'.isDead with
    | false => exact (hI.rep id b' hd' hb hh).mono (fun _ _ h => h) hF hw (fun g hg => hp g (hI.sep id b' hd' g hb hdead hh hg).1)
    | true =>
      have h1 : (M ++ [b])[id]? = some b' := by rw [List.getElem?_append_left (List.getElem?_eq_some_iff.1 hb).1]; exact hb
      have h2 : (ρ ++ [hd])[id]? = some hd' := by rw [List.getElem?_append_left (List.getElem?_eq_some_iff.1 hh).1]; exact hh
      have hr := hI.rep id b' hd' hb hh
      cases b' with
      | dead => trivial
      | nst _ _ _ => trivial
      | fro t xs => exact Rep.mono (fun _ _ h => h) hF hw hr
      | _ => simp [Blk.isDead] at hdead
  sep := fun id b' hd' g hb hdead hh hg => by
    have h1 : (M ++ [b])[id]? = some b' := by rw [List.getElem?_append_left (List.getElem?_eq_some_iff.1 hb).1]; exact hb
    have h2 : (ρ ++ [hd])[id]? = some hd' := by rw [List.getElem?_append_left (List.getElem?_eq_some_iff.1 hh).1]; exact hh
    exact hN.sep id b' hd' g h1 hdead h2 hg
  disj := hI.disj
  fz := hN.fz
  glob := fun g => (hI.glob g).mono (fun _ _ h => h) hF hw
  one := hI.one
  old := hN.old
  fin := hN.fin
  nst := by
    have pm : ∀ {id : Nat} {c : Blk}, M[id]? = some c → (M ++ [b])[id]? = some c := fun h => by rw [List.getElem?_append_left (List.getElem?_eq_some_iff.1 h).1]; exact h
    have pr : ∀ {id : Nat} {c : Hd}, ρ[id]? = some c → (ρ ++ [hd])[id]? = some c := fun h => by rw [List.getElem?_append_left (List.getElem?_eq_some_iff.1 h).1]; exact h
    have up : ∀ {id p g}, Hid w' ρ M id p g → Hid w' (ρ ++ [hd]) (M ++ [b]) id p g := by
      intro id p g hh
      cases hh with
      | out hb hh hg => exact .out (pm hb) (pr hh) hg
      | sub hb hh hi hj ho hc hg => exact .sub (pm hb) (pr hh) hi hj ho hc hg
    refine ⟨fun hh => ?_, fun h1 h2 => hN.nst.inj (up h1) (up h2), fun hb hh => (hI.nst.rep hb hh).mono (fun _ _ h => h) hF hw (fun g hg => hp g (hI.nst.own (.out hb hh hg)).1) fun i j row e ys v g hi hx ho hc hg => hp g (hI.nst.own (.sub hb hh hi hx ho hc hg)).1⟩
    obtain ⟨a1, a2, a3, a4⟩ := hN.nst.own (up hh)
    exact ⟨a1, a2, a3, fun ⟨i, c, h, q1, q2, q3, q4⟩ => a4 ⟨i, c, h, pm q1, q2, pr q3, q4⟩⟩
def leafB : AV → Bool | .int _ _ | .bool _ | .str _ | .list _ _ => true | _ => false
def leafP : Bool → AV → Bool | true, .agg cs => cs.all leafB | false, x => leafB x | _, _ => false
def leafA : AV → Bool | .agg cs => cs.all leafB | x => leafB x
theorem frz_leaf {kd : Kind} {x : AV} {c : AV → List Blk → Option R} (h : leafB x = true) : frz kd x M c = c x M := by
  cases x <;> simp [leafB] at h <;> cases kd <;> rfl
theorem frzL_leaf : ∀ (ks : List Kind) (xs : List AV) {M : List Blk} {c : List AV → List Blk → Option R}, xs.all leafB = true → frzL ks xs M c = c xs M
  | [], xs, M, c, _ => by cases xs <;> rfl
  | _ :: _, [], M, c, _ => rfl
  | kd :: ks, x :: xs, M, c, h => by
    rw [List.all_cons, Bool.and_eq_true] at h
    simp only [frzL]
    rw [frz_leaf h.1, frzL_leaf ks xs h.2]
theorem frzP_leaf {e : TypeId} : ∀ (ps : List (Nat × AV)) {M : List Blk} {c : List (Nat × AV) → List Blk → Option R}, (ps.all fun p => leafP (X.ti e).u.agg p.2) = true → frzP X e ps M c = c ps M
  | [], M, c, _ => rfl
  | (i, x) :: ps, M, c, h => by
    rw [List.all_cons, Bool.and_eq_true] at h
    obtain ⟨h1, h2⟩ := h
    cases ha : (X.ti e).u.agg with
    | true =>
      rw [ha] at h1
      cases x <;> simp only [leafP, Bool.false_eq_true] at h1
      simp only [frzP, ha]
      rw [frzL_leaf _ _ h1, frzP_leaf ps h2]
    | false =>
      rw [ha] at h1
      simp only [frzP, ha]
      rw [frz_leaf (by simpa [leafP] using h1), frzP_leaf ps h2]
def evBuildList (X : Cx) (t : TypeId) (len : Nat) (ps : List (Nat × AV)) (k : AV → Option R) : Option R :=
  match (X.ti t).ok, (X.ti t).u with
  | true, .slice e =>
    tst ((((X.ti e).ok && decide (0 < (X.ti e).size) && decide (len * (X.ti e).size ≤ 16777216)) && (ps.all fun p => leafP (X.ti e).u.agg p.2)) && X.pk)
      (match fillA (fun i => some (i * (X.ti e).size, (X.ti e).size)) ((List.replicate len (zrow X e)).flatten) ps with
        | some cs => tst ((chunk (X.ti e).size len cs).all fun row => koks (X.K e) row) (k (.list e (chunk (X.ti e).size len cs)))
        | none => none)
  | _, _ => none
theorem evBuildList_sound (hX : X.Okb) {t : TypeId} {len : Nat} {ps : List (Nat × AV)} {k : AV → Option R} {r : R} (h : evBuildList X t len ps k = some r) :
    ∃ y, k y = some r ∧ (∀ (R' : Type) (k' : AV → Option R'), evBuildList X t len ps k' = k' y) ∧ ∀ {M : List Blk} {w0 : World} {S : Sc} {F : Addr → Prop} {ρ : List Hd} {w : World} (pv : List (Nat × Value)), Inv X w0 S F ρ M w → pv.length = ps.length →
      (∀ (j : Nat) p q, ps[j]? = some p → pv[j]? = some q → p.1 = q.1 ∧ Rep X.K ρ F w p.2 q.2) →
      ∃ v w' ρ' F', (Instr.buildSlice t len pv.toArray).run X.P w = .ok v w' ∧ Inv X w0 S F' ρ' M w' ∧ Grow F F' ρ ρ' w w' ∧ Rep X.K ρ' F' w' y v := by
  unfold evBuildList at h
  split at h
  · rename_i e hok hu
    replace h := tst_some h
    obtain ⟨h1, h⟩ := h
    split at h
    · rename_i cs hfill
      replace h := tst_some h
      obtain ⟨hks, h⟩ := h
      refine ⟨_, h, fun R' k' => by unfold evBuildList; simp only [hok, hu, h1, hfill, hks, tst], fun {M w0 S F ρ w} pv hI hl hp => ?_⟩
      obtain ⟨h1, hpk⟩ := Bool.and_eq_true_iff.1 h1
      obtain ⟨h1, h3⟩ := Bool.and_eq_true_iff.1 h1
      have hb : evBuildSlice X t len ps M (fun y M' => some (y, M')) = some (.own M.length, M ++ [.row e (chunk (X.ti e).size len cs)]) := by
        unfold evBuildSlice
        simp only [hok, hu, h1, tst]
        rw [frzP_leaf ps h3]
        simp only [hfill, hks, tst]
      obtain ⟨y1, M1, he, _, hd⟩ := evBuildSlice_sound hX hb
      injection he with he
      injection he with he1 he2
      subst he1; subst he2
      obtain ⟨v, w', ρ', F1, hrun, hI1, hg1, hr1, hpre⟩ := hd pv hI hl hp
      have hρ : ∃ hd, ρ' = ρ ++ [hd] := by
        have hl1 := hI1.len
        have hl2 := hI.len
        rw [List.length_append, List.length_singleton] at hl1
        have hlt : ρ.length < ρ'.length := by omega
        refine ⟨ρ'[ρ.length], List.ext_getElem? fun j => ?_⟩
        by_cases hj : j < ρ.length
        · rw [List.getElem?_append_left hj, List.getElem?_eq_getElem hj]
          exact hg1.hρ j _ (List.getElem?_eq_getElem hj)
        · by_cases hj2 : j = ρ.length
          · subst hj2
            rw [List.getElem?_append_right (Nat.le_refl _), Nat.sub_self, List.getElem?_eq_getElem hlt]
            rfl
          · rw [List.getElem?_eq_none (by omega), List.getElem?_eq_none (by simp; omega)]
      obtain ⟨hd2, rfl⟩ := hρ
      have hz : frz (.slice e) (.own M.length) (M ++ [.row e (chunk (X.ti e).size len cs)]) (fun x M => some (x, M)) = some (.list e (chunk (X.ti e).size len cs), M ++ [.fro e (chunk (X.ti e).size len cs)]) := by
        simp [gm_eq, frz, tst]
      obtain ⟨x', M2, he, _, _, hfz⟩ := frz_sound (X := X) hz
      injection he with he
      injection he with he1 he2
      subst he1; subst he2
      obtain ⟨F2, hI2, hg2, hv⟩ := hfz hI1
      have hg := hg1.trans hg2
      exact ⟨v, w', ρ, F2, hrun, hI.shed hI2 hg.hF hpre (fun a v ha hc => hg.hw a v ha hc), ⟨hg.hF, fun _ _ h => h, hg.hb⟩, (hv v hr1).pure (hX.ok hpk).kinds rfl⟩
    · cases h
  · cases h
def impC : AV → Bool | .clos _ [] [] => false | .clos _ _ _ => true | _ => false
def impPs (ps : List (Nat × AV)) : Bool := ps.any fun p => p.2.cells.any impC
def evBuildVar (X : Cx) (t : TypeId) (len : Nat) (ps : List (Nat × AV)) (M : List Blk) (k : AV → List Blk → Option R) : Option R :=
  match (X.ti t).ok, (X.ti t).u with
  | true, .slice e =>
    tst ((X.ti e).ok && decide (0 < (X.ti e).size) && decide (len * (X.ti e).size ≤ 16777216))
      (match fillA (fun i => some (i * (X.ti e).size, (X.ti e).size)) ((List.replicate len (zrow X e)).flatten) ps with
        | some cs => tst (koks (List.replicate cs.length .any) cs && X.tyB (List.replicate cs.length .any) e) (k (.vsl M.length len) (M ++ [.var (List.replicate cs.length .any) cs]))
        | none => none)
  | _, _ => none
theorem evBuildVar_sound (hX : X.Okb) {t : TypeId} {len : Nat} {ps : List (Nat × AV)} {k : AV → List Blk → Option R} {r : R} (h : evBuildVar X t len ps M k = some r) :
    ∃ y M', k y M' = some r ∧ Agree [] M M' ∧ ∀ {w0 : World} {S : Sc} {F : Addr → Prop} {ρ : List Hd} {w : World} (pv : List (Nat × Value)), Inv X w0 S F ρ M w → pv.length = ps.length →
      (∀ (j : Nat) p q, ps[j]? = some p → pv[j]? = some q → p.1 = q.1 ∧ Rep X.K ρ F w p.2 q.2) →
      ∃ v w' ρ' F', (Instr.buildSlice t len pv.toArray).run X.P w = .ok v w' ∧ Inv X w0 S F' ρ' M' w' ∧ Grow F F' ρ ρ' w w' ∧ Rep X.K ρ' F' w' y v := by
  unfold evBuildVar at h
  split at h
  · rename_i e hok hu
    replace h := tst_some h
    obtain ⟨h1, h⟩ := h
    simp only [Bool.and_eq_true, decide_eq_true_eq] at h1
    obtain ⟨⟨he, hpos⟩, hmax⟩ := h1
    obtain ⟨i, d, z, f⟩ := hX.facts hok
    obtain ⟨i2, d2, z2, f2⟩ := hX.facts he
    have hund := f.slice hu
    split at h
    · rename_i cs hfill
      replace h := tst_some h
      obtain ⟨hks, h⟩ := h
      rw [Bool.and_eq_true] at hks
      obtain ⟨hks, hyy⟩ := hks
      refine ⟨_, _, h, Agree.push _ _ _, fun {w0 S F ρ w} pv hI hl hp => ?_⟩
      have hzs : z2.cells.size = (X.ti e).size := by rw [f2.size]; exact f2.zs
      have hz : RepL X.K ρ F w (List.replicate len (zrow X e)).flatten ((Array.range (len * z2.cells.size)).map (z2.cells[· % z2.cells.size]!)).toList := by
        rw [zeros_eq z2.cells (by omega)]
        exact repL_replicate (repL_zrow f2) len
      obtain ⟨us, hf, hr⟩ := fillA_sound hI.one ps _ cs _ pv hfill hz hl hp
      obtain ⟨hI', hg⟩ := hI.newVar hks hr e hyy
      refine ⟨.slice (some ⟨w.heap.size, 0, none⟩) len len, _, _, F, ?_, hI', hg, ?_⟩
      · unfold Instr.buildSlice
        simp only [Sem.run_bind, run_underlying hund, Result.andThen_ok, f2.sizeOf]
        rw [if_neg (by omega)]
        by_cases h0 : len * (X.ti e).size = 0
        · have e0 : (Array.range (len * z2.cells.size)).map (z2.cells[· % z2.cells.size]!) = #[] := by rw [hzs, h0]; simp
          rw [e0] at hf
          rw [if_pos h0]
          simp only [Sem.run_bind, Sem.run_pure, Result.andThen_ok]
          have e1 : (Array.range (len * (X.ti e).size)).map (fun x => (#[] : Array Value)[x % (#[] : Array Value).size]!) = #[] := by rw [h0]; simp
          rw [e1, hf]
          simp only [newRow, Sem.run_bind, run_newObj, Result.andThen_ok, Sem.run_pure, World.alloc_eq]
        · rw [if_neg h0]
          simp only [Sem.run_bind, Sem.run_pure, Result.andThen_ok, f2.zeroValue]
          rw [hzs] at hf
          rw [hzs, hf]
          simp only [newRow, Sem.run_bind, run_newObj, Result.andThen_ok, Sem.run_pure, World.alloc_eq]
      · exact .vsl _ _ ⟨.slice (some ⟨w.heap.size, 0, none⟩) 1 1, cs.length⟩ _ _ 1 1 _ (by rw [← hI.len]; simp) rfl
    · cases h
  · cases h
end
end Go.Eng

namespace Go.Eng
open Go
noncomputable section
variable {X : Cx} {R : Type}
variable {w0 w w' : World} {S : Sc} {F : Addr → Prop} {ρ : List Hd} {M : List Blk}
def bnd (d : Int) : Option AV → Option Int
  | none => some d
  | some (.int _ n) => some n
  | _ => none
def ORep (K : TypeId → List Kind) (ρ : List Hd) (F : Addr → Prop) (w : World) : Option AV → Option Value → Prop
  | none, none => True
  | some x, some v => Rep K ρ F w x v
  | _, _ => False
def subrows (xs : List Row) (lo hi : Option AV) : List Row :=
  match lo, hi with
  | none, none => xs
  | none, some h => xs.take h.toI.toNat
  | some l, none => xs.drop l.toI.toNat
  | some l, some h => (xs.take h.toI.toNat).drop l.toI.toNat
def evSlice (X : Cx) (t : TypeId) (x : AV) (lo hi mx : Option AV) (M : List Blk) (k : AV → List Blk → Option R) : Option R :=
  match (X.ti t).ok, (X.ti t).u with
  | true, .slice e =>
    match rowsOf M x with
    | some (_, xs) =>
      match bnd 0 lo, bnd xs.length hi, bnd xs.length mx with
      | some l, some h, some m =>
        tst ((X.ti e).ok && !(mx.isSome && hi.isNone) && (decide (0 ≤ l) && decide (l ≤ h) && decide (h ≤ m) && decide (m ≤ (xs.length : Int))))
          (match x with
           | .list t' xs => tst (e == t') (k (.list t' (subrows xs lo hi)) M)
           | .nilsl => k .nilsl M
           | .own id =>
             match gm M id with
             | some (.row t' xs) => tst (e == t') (k (.own M.length) (M.set id .dead ++ [.row t' (subrows xs lo hi)]))
             | some (.fro t' xs) => tst (e == t') (k (.list t' (subrows xs lo hi)) M)
             | _ => none
           | _ => none)
      | _, _, _ => none
    | none => none
  | _, _ => none
theorem run_sliceAt {P : Program} {t e : TypeId} {size : Nat} (hund : P.underlying t = some (.slice e)) (hs : ∀ w, (sizeOf e).run P w = .ok size w) {a : Option Addr} {len cap : Nat} {lo hi mx : Option AV} {vl vh vm : Option Value} {K : TypeId → List Kind}
    (h1 : ORep K ρ F w lo vl) (h2 : ORep K ρ F w hi vh) (h3 : ORep K ρ F w mx vm) {l h m : Int} (e1 : bnd 0 lo = some l) (e2 : bnd len hi = some h) (e3 : bnd len mx = some m) (hno : ¬ (mx.isSome = true ∧ hi.isNone = true)) (b1 : 0 ≤ l) (b2 : l ≤ h) (b3 : h ≤ m) (b4 : m ≤ len) (b5 : len ≤ cap) :
    ∃ mm : Nat, h.toNat ≤ mm ∧ mm ≤ cap ∧ (Instr.sliceAt t (.slice a len cap) vl vh vm).run P w = .ok (.slice (if mm = l.toNat then a else a.map (·.add (l.toNat * size))) (h.toNat - l.toNat) (mm - l.toNat)) w := by
  obtain ⟨ln, rfl⟩ := Int.eq_ofNat_of_zero_le b1
  obtain ⟨hn, rfl⟩ := Int.eq_ofNat_of_zero_le (show 0 ≤ h by omega)
  obtain ⟨mn, rfl⟩ := Int.eq_ofNat_of_zero_le (show 0 ≤ m by omega)
  have bound : ∀ (o : Option AV) (v : Option Value) (d : Int) (n : Nat), ORep K ρ F w o v → bnd d o = some (n : Int) → (o = none ∧ v = none ∧ d = n) ∨ ∃ kd, v = some (.int kd n) ∧ o.isSome = true := by
    intro o v d n hr hb
    cases o with
    | none => cases v with
      | none => simp only [bnd, Option.some.injEq] at hb; exact .inl ⟨rfl, rfl, hb⟩
      | some _ => exact hr.elim
    | some x => cases v with
      | none => exact hr.elim
      | some v =>
        cases x <;> simp only [bnd] at hb <;> try cases hb
        cases hr
        exact .inr ⟨_, rfl, rfl⟩
  have hu : ∀ w, (underlying t).run P w = .ok (.slice e) w := fun w => run_underlying hund w
  rcases bound lo vl 0 ln h1 e1 with ⟨o1, rfl, d1⟩ | ⟨k1, rfl, s1⟩ <;> rcases bound hi vh len hn h2 e2 with ⟨o2, rfl, d2⟩ | ⟨k2, rfl, s2⟩ <;> rcases bound mx vm len mn h3 e3 with ⟨o3, rfl, d3⟩ | ⟨k3, rfl, s3⟩
  · refine ⟨cap, by omega, Nat.le_refl _, ?_⟩
    have e0 : ln = 0 := by omega
    have e0' : hn = len := by omega
    subst e0; subst e0'
    simp [Instr.sliceAt, Instr.slice, hu, Instr.sliceBounds, hs]
  · exact absurd ⟨s3, by rw [o2]; rfl⟩ hno
  · refine ⟨cap, by omega, Nat.le_refl _, ?_⟩
    have e0 : ln = 0 := by omega
    subst e0
    have : hn ≤ cap := by omega
    simp [Instr.sliceAt, Instr.slice, hu, Instr.sliceBounds, hs, Instr.sliceBound, asIntOf, this]
  · refine ⟨mn, by omega, by omega, ?_⟩
    have e0 : ln = 0 := by omega
    subst e0
    have h1 : hn ≤ mn := by omega
    have h2 : mn ≤ cap := by omega
    simp [Instr.sliceAt, Instr.slice, hu, Instr.sliceBounds, hs, Instr.sliceBound, asIntOf, h1, h2]
  · refine ⟨cap, by omega, Nat.le_refl _, ?_⟩
    have e0' : hn = len := by omega
    subst e0'
    have h1 : ln ≤ hn := by omega
    simp [Instr.sliceAt, Instr.slice, hu, Instr.sliceBounds, hs, Instr.sliceBound, asIntOf, h1]
  · exact absurd ⟨s3, by rw [o2]; rfl⟩ hno
  · refine ⟨cap, by omega, Nat.le_refl _, ?_⟩
    have h1 : ln ≤ hn := by omega
    have h2 : hn ≤ cap := by omega
    simp [Instr.sliceAt, Instr.slice, hu, Instr.sliceBounds, hs, Instr.sliceBound, asIntOf, h1, h2]
  · refine ⟨mn, by omega, by omega, ?_⟩
    have h1 : ln ≤ hn := by omega
    have h2 : hn ≤ mn := by omega
    have h3 : mn ≤ cap := by omega
    simp [Instr.sliceAt, Instr.slice, hu, Instr.sliceBounds, hs, Instr.sliceBound, asIntOf, h1, h2, h3]
theorem subrows_eq {xs : List Row} {lo hi : Option AV} {l h : Int} (e1 : bnd 0 lo = some l) (e2 : bnd xs.length hi = some h) : subrows xs lo hi = (xs.take h.toNat).drop l.toNat := by
  cases lo with
  | none =>
    simp only [bnd, Option.some.injEq] at e1
    subst e1
    cases hi with
    | none => simp only [bnd, Option.some.injEq] at e2; subst e2; simp [subrows]
    | some x => cases x <;> simp only [bnd] at e2 <;> try cases e2
                simp [subrows, AV.toI]
  | some y =>
    cases y <;> simp only [bnd] at e1 <;> try cases e1
    cases hi with
    | none => simp only [bnd, Option.some.injEq] at e2; subst e2; simp [subrows, AV.toI]
    | some x => cases x <;> simp only [bnd] at e2 <;> try cases e2
                simp [subrows, AV.toI]
theorem rep_sub {t : TypeId} {xs : List Row} {v : Value} (hv : Rep X.K ρ F w (.list t xs) v) {l h m : Nat} (b2 : l ≤ h) (b3 : h ≤ xs.length) :
    ∀ {a : Option Addr} {cap : Nat}, v = .slice a xs.length cap → h ≤ m → m ≤ cap → Rep X.K ρ F w (.list t ((xs.take h).drop l)) (.slice (if m = l then a else a.map (·.add (l * (X.K t).length))) (h - l) (m - l)) := by
  intro a cap hva hm1 hm2
  cases hv with
  | list0 =>
    injection hva with e1 e2 e3
    subst e1; subst e3
    have h0 : h = 0 := by simpa using b3
    have l0 : l = 0 := by omega
    have m0 : m = 0 := by omega
    subst h0; subst l0; subst m0
    exact .list0 t
  | list _ _ a' cap' vss hl hcap hmax hk hc hr =>
    injection hva with e1 e2 e3
    subst e1; subst e3
    have e : (if m = l then some a' else (some a').map (·.add (l * (X.K t).length))) = some (if m = l then a' else a'.add (l * (X.K t).length)) := by split <;> rfl
    rw [e]
    have hlen : ((xs.take h).drop l).length = h - l := by simp; omega
    have := Rep.list (K := X.K) (ρ := ρ) (F := F) (w := w) t ((xs.take h).drop l) (if m = l then a' else a'.add (l * (X.K t).length)) (m - l) ((vss.take h).drop l) (by simp [hl]) (by rw [hlen]; omega) (by omega) ?_ ?_ ?_
    · rw [hlen] at this; exact this
    · intro i row hi
      rw [List.getElem?_drop, List.getElem?_take] at hi
      split at hi
      · exact hk _ row hi
      · cases hi
    · intro i vs hi
      rw [List.getElem?_drop, List.getElem?_take] at hi
      split at hi
      · rename_i hlt
        obtain ⟨c1, c2⟩ := hc _ vs hi
        refine ⟨c1, fun j u hj => ?_⟩
        rw [if_neg (by omega), Addr.add_add]
        have := c2 j u hj
        rw [show l * (X.K t).length + (i * (X.K t).length + j) = (l + i) * (X.K t).length + j by rw [Nat.add_mul]; omega]
        exact this
      · cases hi
    · intro i row vs hi hvs
      rw [List.getElem?_drop, List.getElem?_take] at hi hvs
      split at hi
      · rename_i hlt
        rw [if_pos hlt] at hvs
        exact hr _ row vs hi hvs
      · cases hi
theorem evSlice_sound (hX : X.Okb) {t : TypeId} {x : AV} {lo hi mx : Option AV} {k : AV → List Blk → Option R} {r : R} (h : evSlice X t x lo hi mx M k = some r) :
    ∃ y M', k y M' = some r ∧ Agree (ownIds x) M M' ∧ ∀ {v : Value} {vl vh vm : Option Value}, Does X M y M' (fun ρ F w => Rep X.K ρ F w x v ∧ ORep X.K ρ F w lo vl ∧ ORep X.K ρ F w hi vh ∧ ORep X.K ρ F w mx vm) (Instr.sliceAt t v vl vh vm) := by
  unfold evSlice at h
  simp only [gm_eq] at h
  split at h
  · rename_i e hok hu
    obtain ⟨i, d, z, f⟩ := hX.facts hok
    have hund := f.slice hu
    split at h
    · rename_i o xs hrow
      split at h
      · rename_i l h' m e1 e2 e3
        replace h := tst_some h
        obtain ⟨h1, h⟩ := h
        simp only [Bool.and_eq_true, Bool.not_eq_true', Bool.and_eq_false_iff, decide_eq_true_eq] at h1
        obtain ⟨⟨he, hno⟩, ⟨⟨b1, b2⟩, b3⟩, b4⟩ := h1
        have hno' : ¬ (mx.isSome = true ∧ hi.isNone = true) := by
          rintro ⟨p, q⟩
          rcases hno with hh | hh
          · rw [p] at hh; cases hh
          · rw [q] at hh; cases hh
        obtain ⟨i2, d2, z2, f2⟩ := hX.facts he
        have hsz : (X.K e).length = (X.ti e).size := by rw [f2.size]; exact f2.ks
        have eb : (h' : Int) ≤ xs.length := by omega
        have core : ∀ {ρ : List Hd} {F : Addr → Prop} {w : World} {v : Value} {vl vh vm : Option Value}, Rep X.K ρ F w (.list e xs) v → ORep X.K ρ F w lo vl → ORep X.K ρ F w hi vh → ORep X.K ρ F w mx vm →
            ∃ u, (Instr.sliceAt t v vl vh vm).run X.P w = .ok u w ∧ Rep X.K ρ F w (.list e (subrows xs lo hi)) u := by
          intro ρ F w v vl vh vm hv r1 r2 r3
          have hva : ∃ a cap, v = .slice a xs.length cap ∧ xs.length ≤ cap := by
            cases hv with
            | list0 => exact ⟨_, _, rfl, by simp⟩
            | list _ _ a cap _ _ hcap => exact ⟨_, _, rfl, hcap⟩
          obtain ⟨a, cap, hva, hcap⟩ := hva
          obtain ⟨mm, m1, m2, hrun⟩ := run_sliceAt (P := X.P) (size := (X.ti e).size) hund f2.sizeOf (a := a) (len := xs.length) (cap := cap) r1 r2 r3 e1 e2 e3 hno' b1 b2 b3 b4 hcap
          rw [hva]
          refine ⟨_, hrun, ?_⟩
          rw [subrows_eq e1 e2, ← hsz]
          exact rep_sub hv (by omega) (by omega) hva m1 m2
        split at h
        · rename_i t' xs'
          replace h := tst_some h
          obtain ⟨h2, h⟩ := h
          rw [beq_iff_eq] at h2
          subst h2
          simp only [gm_eq, rowsOf, Option.some.injEq, Prod.mk.injEq] at hrow
          obtain ⟨_, rfl⟩ := hrow
          refine ⟨_, _, h, Agree.refl _ _, fun {v vl vh vm w0 S F ρ w} hI hh => ?_⟩
          obtain ⟨hv, r1, r2, r3⟩ := hh
          obtain ⟨u, h3, h4⟩ := core hv r1 r2 r3
          exact ⟨u, w, ρ, F, h3, hI, Grow.refl _ _ _, h4⟩
        · simp only [gm_eq, rowsOf, Option.some.injEq, Prod.mk.injEq] at hrow
          obtain ⟨_, rfl⟩ := hrow
          refine ⟨_, _, h, Agree.refl _ _, fun {v vl vh vm w0 S F ρ w} hI hh => ?_⟩
          obtain ⟨hv, r1, r2, r3⟩ := hh
          cases hv
          simp only [List.length_nil] at eb e2 e3 b4
          obtain ⟨mm, m1, m2, hrun⟩ := run_sliceAt (P := X.P) (size := (X.ti e).size) hund f2.sizeOf (a := none) (len := 0) (cap := 0) r1 r2 r3 e1 e2 e3 hno' b1 b2 b3 b4 (Nat.le_refl _)
          refine ⟨_, w, ρ, F, hrun, hI, Grow.refl _ _ _, ?_⟩
          have l0 : l.toNat = 0 := by omega
          have h0 : h'.toNat = 0 := by omega
          have m0 : mm = 0 := by omega
          rw [l0, h0, m0]
          exact .nilsl
        · rename_i id
          split at h
          · rename_i t' xs' hb
            replace h := tst_some h
            obtain ⟨h2, h⟩ := h
            rw [beq_iff_eq] at h2
            subst h2
            simp only [gm_eq, rowsOf, hb, Option.some.injEq, Prod.mk.injEq] at hrow
            obtain ⟨_, rfl⟩ := hrow
            refine ⟨_, _, h, ((Agree.set _ _ _).trans (Agree.push [] _ _)).mono (by simp [ownIds]), fun {v vl vh vm w0 S F ρ w} hI hh => ?_⟩
            obtain ⟨hv, r1, r2, r3⟩ := hh
            cases hv with
            | own _ hd hid =>
              obtain ⟨q1, q2, q3⟩ := hI.rep id _ hd hb hid
              have hva : ∃ a cap, hd.v = .slice a xs'.length cap ∧ xs'.length ≤ cap := by
                rcases q3 with ⟨q3, q4⟩ | ⟨g, o, c, cur, q3, _, q4, _⟩
                · subst q4; exact ⟨_, _, q3, Nat.le_refl _⟩
                · exact ⟨_, _, q3, q4⟩
              obtain ⟨a, cap, hva, hcap⟩ := hva
              obtain ⟨mm, m1, m2, hrun⟩ := run_sliceAt (P := X.P) (size := (X.ti e).size) hund f2.sizeOf (a := a) (len := xs'.length) (cap := cap) r1 r2 r3 e1 e2 e3 hno' b1 b2 b3 b4 hcap
              rw [hva]
              have hlen : (subrows xs' lo hi).length = h'.toNat - l.toNat := by rw [subrows_eq e1 e2]; simp; omega
              have hfin : ∀ hd' : Hd, hd'.v = .slice (if mm = l.toNat then a else a.map (·.add (l.toNat * (X.ti e).size))) (h'.toNat - l.toNat) (mm - l.toNat) → hd'.sz = (X.K e).length →
                  Inv X w0 S F (ρ ++ [hd']) (M.set id .dead ++ [.row e (subrows xs' lo hi)]) w := by
                intro hd' hv' hs'
                have hblk : ∀ g, hd'.blk? = some g → hd.blk? = some g := by
                  intro g hg
                  simp only [Hd.blk?, hv', hva] at hg ⊢
                  cases a with
                  | none => split at hg <;> simp [Value.blk?] at hg
                  | some a =>
                    split at hg
                    · exact hg
                    · simp only [Option.map_some, Value.blk?, Option.some.injEq] at hg ⊢
                      rw [← hg]
                      unfold Addr.add
                      split <;> rfl
                refine hI.move hb rfl hid (w' := w) (row := none) ⟨rfl, rfl, rfl, Nat.le_refl _, fun _ _ _ => rfl⟩ (.inl rfl) (fun g hg => ⟨(hI.sep id _ hd g hb rfl hid (hblk g hg)).1, .inl (hblk g hg)⟩) (by rw [hv']; rfl) ?_
                refine ⟨hs', fun i row hi' => ?_, ?_⟩
                · rw [subrows_eq e1 e2, List.getElem?_drop, List.getElem?_take] at hi'
                  split at hi'
                  · exact q2 _ row hi'
                  · cases hi'
                · rcases q3 with ⟨q3, q4⟩ | ⟨g, o, c, cur, q3, hg, q4, q5, q6, q7⟩
                  · subst q4
                    rw [q3] at hva
                    injection hva with a1 a2 a3
                    subst a1; subst a3
                    simp only [List.length_nil] at b4 eb
                    have l0 : l.toNat = 0 := by omega
                    have h0 : h'.toNat = 0 := by omega
                    have m0 : mm = 0 := by omega
                    refine .inl ⟨?_, by rw [subrows_eq e1 e2]; simp⟩
                    rw [hv', l0, h0, m0]
                    rfl
                  · rw [q3] at hva
                    injection hva with a1 a2 a3
                    subst a1; subst a3
                    refine .inr ⟨g, if mm = l.toNat then o else o + l.toNat * (X.ti e).size, mm - l.toNat, cur, ?_, hg, by rw [hlen]; omega, by omega, ?_, fun i row hi' j y hy => ?_⟩
                    · rw [hv', hlen]
                      split
                      · rfl
                      · rw [Option.map_some, Addr.add_lit]
                    · rw [hs', hsz]
                      rw [q1, hsz] at q6
                      split
                      · rename_i heq
                        rw [heq, Nat.sub_self, Nat.zero_mul]
                        have := Nat.zero_le (c * (X.ti e).size)
                        omega
                      · have k1 : l.toNat + (mm - l.toNat) ≤ c := by omega
                        have k2 := Nat.mul_le_mul_right (X.ti e).size k1
                        rw [Nat.add_mul] at k2
                        omega
                    · have hil := (List.getElem?_eq_some_iff.1 hi').1
                      rw [hlen] at hil
                      rw [subrows_eq e1 e2, List.getElem?_drop, List.getElem?_take] at hi'
                      split at hi'
                      · obtain ⟨u, hu1, hu2⟩ := q7 _ row hi' j y hy
                        refine ⟨u, ?_, hu2.mono (fun _ _ h => getElem?_append_old h) (fun _ h => h) (fun _ _ _ h => h)⟩
                        rw [if_neg (by omega), hs', hsz]
                        rw [q1, hsz] at hu1
                        rw [show o + l.toNat * (X.ti e).size + i * (X.ti e).size + j = o + (l.toNat + i) * (X.ti e).size + j by rw [Nat.add_mul]; omega]
                        exact hu1
                      · cases hi'
              refine ⟨_, w, _, F, hrun, hfin ⟨_, (X.K e).length⟩ rfl rfl, ⟨fun _ h => h, fun _ _ h => getElem?_append_old h, fun _ _ => rfl⟩, ?_⟩
              exact own_last (M := M) (hd := ⟨_, (X.K e).length⟩) hI.len
          · rename_i t' xs' hb
            replace h := tst_some h
            obtain ⟨h2, h⟩ := h
            rw [beq_iff_eq] at h2
            subst h2
            simp only [gm_eq, rowsOf, hb, Option.some.injEq, Prod.mk.injEq] at hrow
            obtain ⟨_, rfl⟩ := hrow
            refine ⟨_, _, h, Agree.refl _ _, fun {v vl vh vm w0 S F ρ w} hI hh => ?_⟩
            obtain ⟨hv, r1, r2, r3⟩ := hh
            cases hv with
            | own _ hd hid =>
              obtain ⟨u, h3, h4⟩ := core (hI.rep id _ hd hb hid) r1 r2 r3
              exact ⟨u, w, ρ, F, h3, hI, Grow.refl _ _ _, h4⟩
          · cases h
        · cases h
      · cases h
    · cases h
  · cases h
def evView (X : Cx) (t : TypeId) (x : AV) (lo hi : Option AV) (M : List Blk) (k : AV → Option R) : Option R :=
  match x with
  | .own id =>
    match (X.ti t).ok, (X.ti t).u with
    | true, .slice e =>
      match gm M id with
      | some (.row t' xs) =>
        match bnd 0 lo, bnd xs.length hi with
        | some l, some h => tst (((X.ti e).ok && e == t') && (decide (0 ≤ l) && decide (l ≤ h) && decide (h ≤ (xs.length : Int)))) (k (.vw id l.toNat (h.toNat - l.toNat)))
        | _, _ => none
      | _ => none
    | _, _ => none
  | _ => none
theorem evView_sound (hX : X.Okb) {t : TypeId} {x : AV} {lo hi : Option AV} {k : AV → Option R} {r : R} (h : evView X t x lo hi M k = some r) :
    ∃ y, k y = some r ∧ ∀ {w0 : World} {S : Sc} {F : Addr → Prop} {ρ : List Hd} {w : World} {v : Value} {vl vh : Option Value}, Inv X w0 S F ρ M w → Rep X.K ρ F w x v → ORep X.K ρ F w lo vl → ORep X.K ρ F w hi vh →
      ∃ u, (Instr.sliceAt t v vl vh none).run X.P w = .ok u w ∧ Rep X.K ρ F w y u := by
  unfold evView at h
  simp only [gm_eq] at h
  split at h
  · rename_i id
    split at h
    · rename_i e hok hu
      obtain ⟨i, d, z, f⟩ := hX.facts hok
      have hund := f.slice hu
      split at h
      · rename_i t' xs hb
        split at h
        · rename_i l h' e1 e2
          replace h := tst_some h
          obtain ⟨h1, h⟩ := h
          simp only [Bool.and_eq_true, decide_eq_true_eq, beq_iff_eq] at h1
          obtain ⟨⟨he, rfl⟩, ⟨b1, b2⟩, b3⟩ := h1
          obtain ⟨i2, d2, z2, f2⟩ := hX.facts he
          have hsz : (X.K e).length = (X.ti e).size := by rw [f2.size]; exact f2.ks
          refine ⟨_, h, fun {w0 S F ρ w v vl vh} hI hv r1 r2 => ?_⟩
          cases hv with
          | own _ hd hid =>
            obtain ⟨q1, q2, q3⟩ := hI.rep id _ hd hb hid
            rcases q3 with ⟨q3, q4⟩ | ⟨g, o, c, cur, q3, _, q4, _⟩
            · subst q4
              simp only [List.length_nil] at b3 e2
              obtain ⟨mm, m1, m2, hrun⟩ := run_sliceAt (P := X.P) (K := X.K) (ρ := ρ) (F := F) (w := w) (mx := none) (vm := none) (size := (X.ti e).size) hund f2.sizeOf (a := none) (len := 0) (cap := 0) r1 r2 trivial e1 e2 rfl (by simp) b1 b2 b3 (Int.le_refl _) (Nat.le_refl _)
              rw [q3]
              refine ⟨_, hrun, ?_⟩
              have l0 : l.toNat = 0 := by omega
              have h0 : h'.toNat = 0 := by omega
              have m0 : mm = 0 := by omega
              rw [l0, h0, m0]
              exact .vwn id 0
            · obtain ⟨mm, m1, m2, hrun⟩ := run_sliceAt (P := X.P) (K := X.K) (ρ := ρ) (F := F) (w := w) (mx := none) (vm := none) (size := (X.ti e).size) hund f2.sizeOf (a := some ⟨g, o, none⟩) (len := xs.length) (cap := c) r1 r2 trivial e1 e2 rfl (by simp) b1 b2 b3 (Int.le_refl _) q4
              rw [q3]
              refine ⟨_, hrun, ?_⟩
              by_cases hm : mm = l.toNat
              · rw [if_pos hm, show h'.toNat - l.toNat = 0 by omega]
                exact .vws id _ _ _
              · rw [if_neg hm, Option.map_some, Addr.add_lit, ← hsz, ← q1]
                exact .vw id l.toNat _ hd g o xs.length c _ hid q3 (by omega) (by omega)
        · cases h
      · cases h
    · cases h
  · cases h
end
end Go.Eng

namespace Go.Eng
open Go
noncomputable section
variable {X : Cx} {R : Type}
variable {w0 w w' : World} {S : Sc} {F : Addr → Prop} {ρ : List Hd} {M : List Blk}
theorem flat_get {α : Type} {sz : Nat} : ∀ (vss : List (List α)), (∀ (i : Nat) vs, vss[i]? = some vs → vs.length = sz) → ∀ (i j : Nat) vs, vss[i]? = some vs → j < sz → vss.flatten[i * sz + j]? = vs[j]?
  | [], _, i, j, vs, h, _ => by simp at h
  | v :: vss, hl, 0, j, vs, h, hj => by
    simp at h
    subst h
    have := hl 0 v rfl
    rw [List.flatten_cons, List.getElem?_append_left (by omega)]
    simp
  | v :: vss, hl, i + 1, j, vs, h, hj => by
    have h0 := hl 0 v rfl
    rw [List.flatten_cons, List.getElem?_append_right (by rw [h0, Nat.add_mul]; omega), h0]
    rw [show (i + 1) * sz + j - sz = i * sz + j by rw [Nat.add_mul]; omega]
    exact flat_get vss (fun i vs h => hl (i + 1) vs (by simpa using h)) i j vs (by simpa using h) hj
theorem flat_length {α : Type} {sz : Nat} : ∀ (vss : List (List α)), (∀ (i : Nat) vs, vss[i]? = some vs → vs.length = sz) → vss.flatten.length = vss.length * sz
  | [], _ => by simp
  | v :: vss, hl => by
    rw [List.flatten_cons, List.length_append, hl 0 v rfl, flat_length vss (fun i vs h => hl (i + 1) vs (by simpa using h)), List.length_cons, Nat.add_mul]
    omega
theorem append_news (hI : Inv X w0 S F ρ M w) {x : AV} {e : TypeId} {o : Option TypeId} {ys : List Row} (h : rowsOf M x = some (o, ys)) (ho : o = some e ∨ (o = none ∧ ys = [])) {v : Value} (hv : Rep X.K ρ F w x v) (hpos : 0 < (X.K e).length) :
    (∀ (i : Nat) row, ys[i]? = some row → koks (X.K e) row = true) ∧
    ∃ a c, v = .slice a ys.length c ∧ ∃ news : List Value, news.length = ys.length * (X.K e).length ∧ (∀ u ∈ news, u.oneCell' = true) ∧
      (∀ w2 : World, w2.heap = w.heap → (Builtin.firstCells (X.K e).length ys.length v).run X.P w2 = .ok news.toArray w2) ∧
      ∀ (i : Nat) row, ys[i]? = some row → ∀ (j : Nat) y, row[j]? = some y → ∃ u, news[i * (X.K e).length + j]? = some u ∧ Rep X.K ρ F w y u := by
  rcases ho with rfl | ⟨rfl, rfl⟩
  · obtain ⟨hk, hc⟩ := rowsOf_cells hI h hv
    refine ⟨hk, ?_⟩
    rcases hc with ⟨rfl, rfl⟩ | ⟨a, c, rfl, vss, hl, hvs⟩
    · exact ⟨none, 0, rfl, [], by simp, by simp, fun w2 _ => by simp [Builtin.firstCells], fun i row h => by simp at h⟩
    · have hlen : ∀ (i : Nat) vs, vss[i]? = some vs → vs.length = (X.K e).length := by
        intro i vs hi
        have hil := (List.getElem?_eq_some_iff.1 hi).1
        obtain ⟨⟨r1, _⟩, _⟩ := hvs i (ys[i]'(by omega)) vs (List.getElem?_eq_getElem (by omega)) hi
        rw [r1, koks_length (hk i _ (List.getElem?_eq_getElem (by omega)))]
      have hfl := flat_length vss hlen
      have hplace : ∀ (k : Nat) u, vss.flatten[k]? = some u → ∃ i j, ∃ (row : Row) (vs : List Value) (y : AV), k = i * (X.K e).length + j ∧ ys[i]? = some row ∧ vss[i]? = some vs ∧ row[j]? = some y ∧ vs[j]? = some u := by
        intro k u hku
        have hkl := (List.getElem?_eq_some_iff.1 hku).1
        rw [hfl] at hkl
        have hi : k / (X.K e).length < vss.length := Nat.div_lt_of_lt_mul (by rw [Nat.mul_comm]; exact hkl)
        have hj : k % (X.K e).length < (X.K e).length := Nat.mod_lt _ hpos
        have hkk : k = k / (X.K e).length * (X.K e).length + k % (X.K e).length := by rw [Nat.mul_comm]; exact (Nat.div_add_mod k _).symm
        have hvi : vss[k / (X.K e).length]? = some (vss[k / (X.K e).length]'hi) := List.getElem?_eq_getElem hi
        have hyi : ys[k / (X.K e).length]? = some (ys[k / (X.K e).length]'(by omega)) := List.getElem?_eq_getElem (by omega)
        have hg := flat_get vss hlen _ (k % (X.K e).length) _ hvi hj
        rw [← hkk] at hg
        rw [hku] at hg
        have hrl := koks_length (hk _ _ hyi)
        exact ⟨_, _, _, _, _, hkk, hyi, hvi, List.getElem?_eq_getElem (by rw [hrl]; exact hj), hg.symm⟩
      refine ⟨some a, c, rfl, vss.flatten, by rw [hfl, hl], fun u hu => ?_, fun w2 hw2 => ?_, fun i row hi j y hy => ?_⟩
      · obtain ⟨k, hk'⟩ := List.getElem?_of_mem hu
        obtain ⟨i, j, row, vs, y, _, h1, h2, h3, h4⟩ := hplace k u hk'
        exact oneCell_of_leaf ((hvs i row vs h1 h2).1.2 j y u h3 h4) (koks_leaf (hk i row h1) h3) hI.one
      · have := run_firstCells_some (P := X.P) w2 (X.K e).length ys.length a ys.length c vss.flatten (by rw [hfl, hl]) (fun k u hku => by
          obtain ⟨i, j, row, vs, y, hkk, h1, h2, h3, h4⟩ := hplace k u hku
          have hc := (hvs i row vs h1 h2).2 j u h4
          rw [Addr.add_add, ← hkk] at hc
          unfold World.cell? at hc ⊢
          rw [hw2]
          exact hc)
        exact this
      · have hil := (List.getElem?_eq_some_iff.1 hi).1
        have hvi : vss[i]? = some (vss[i]'(by omega)) := List.getElem?_eq_getElem (by omega)
        have hj := (List.getElem?_eq_some_iff.1 hy).1
        have hrl := koks_length (hk i row hi)
        obtain ⟨⟨r1, r2⟩, _⟩ := hvs i row _ hi hvi
        have hu : (vss[i]'(by omega))[j]? = some ((vss[i]'(by omega))[j]'(by omega)) := List.getElem?_eq_getElem (by omega)
        exact ⟨_, by rw [flat_get vss hlen i j _ hvi (by omega)]; exact hu, r2 j y _ hy hu⟩
  · obtain ⟨a, c, rfl⟩ := rowsOf_len hI h hv
    refine ⟨fun i row h => by simp at h, a, c, rfl, [], by simp, by simp, fun w2 _ => ?_, fun i row h => by simp at h⟩
    simp only [List.length_nil]
    cases a <;> simp [Builtin.firstCells, loadCells, loadCellsFrom]
def bytesR (s : ByteArray) : List Row := s.data.toList.map fun b => [.int .u8 b.toNat]
def srcOk : TyI → AV → Bool
  | .str, .str _ => true
  | .slice _, .str _ => false
  | .slice _, _ => true
  | _, _ => false
def srcOf (X : Cx) (M : List Blk) (e : TypeId) (x : AV) : Option (List Row) :=
  match x with
  | .str s => (match X.K e with | [.int .u8] => some (bytesR s) | _ => none)
  | x => match rowsOf M x with
    | some (o, ys) => (match (match o with | some e' => e == e' | none => ys.isEmpty) with | true => some ys | false => none)
    | none => none
theorem srcOk_ty {t : TyI} {x : AV} (h : srcOk t x = true) : t = .str ∨ ∃ e, t = .slice e := by
  unfold srcOk at h
  split at h
  · exact .inl rfl
  · cases h
  · exact .inr ⟨_, rfl⟩
  · cases h
theorem not_int {d : TypeDesc} (h : tyOf d = .str ∨ ∃ e, tyOf d = .slice e) : d = .string ∨ ∃ e, d = .slice e := by
  cases d <;> first
    | exact .inl rfl
    | exact .inr ⟨_, rfl⟩
    | (rcases h with h | ⟨e, h⟩ <;> cases h)
structure News (X : Cx) (ρ : List Hd) (F : Addr → Prop) (w : World) (e u : TypeId) (ys : List Row) (v : Value) : Prop where
  len : Builtin.lenOf v = pure ys.length
  ty : ∃ d, X.P.underlying u = some d ∧ (d = .string ∨ ∃ e, d = .slice e)
  ks : ∀ (i : Nat) row, ys[i]? = some row → koks (X.K e) row = true
  news : ∃ news : List Value, news.length = ys.length * (X.K e).length ∧ (∀ u ∈ news, u.oneCell' = true) ∧
      (∀ w2 : World, w2.heap = w.heap → (Builtin.firstCells (X.K e).length ys.length v).run X.P w2 = .ok news.toArray w2) ∧
      ∀ (i : Nat) row, ys[i]? = some row → ∀ (j : Nat) y, row[j]? = some y → ∃ u, news[i * (X.K e).length + j]? = some u ∧ Rep X.K ρ F w y u
theorem src_news (hX : X.Okb) (hI : Inv X w0 S F ρ M w) {x : AV} {e u : TypeId} {ys : List Row} (hu : (X.ti u).ok = true) (hs : srcOk (X.ti u).u x = true) (h : srcOf X M e x = some ys) {v : Value} (hv : Rep X.K ρ F w x v) (hpos : 0 < (X.K e).length) : News X ρ F w e u ys v := by
  obtain ⟨i1, d1, z1, f1⟩ := hX.facts hu
  have hun := f1.und
  have hui := f1.u
  by_cases hstr : ∃ s, x = .str s
  · obtain ⟨s, rfl⟩ := hstr
    cases hv
    simp only [srcOf] at h
    split at h
    · rename_i hK
      injection h with h
      subst h
      have hl : (bytesR s).length = s.size := by rw [bytesR, List.length_map, Array.length_toList]; rfl
      have hg : ∀ (i : Nat) row, (bytesR s)[i]? = some row → ∃ b, s.data.toList[i]? = some b ∧ row = [.int .u8 b.toNat] := by
        intro i row hi
        unfold bytesR at hi
        rw [List.getElem?_map] at hi
        cases hb : s.data.toList[i]? with
        | none => rw [hb] at hi; cases hi
        | some b => rw [hb] at hi; injection hi with hi; exact ⟨b, rfl, hi.symm⟩
      refine ⟨by rw [hl]; rfl, ⟨d1, hun, ?_⟩, fun i row hi => ?_, s.data.toList.map fun b => .int .u8 b.toNat, by rw [hl, hK, List.length_map, Array.length_toList]; exact (Nat.mul_one _).symm, fun u hu => ?_, fun w2 _ => ?_, fun i row hi j y hy => ?_⟩
      · exact not_int (hui ▸ srcOk_ty hs)
      · obtain ⟨b, _, rfl⟩ := hg i row hi
        rw [hK]; rfl
      · obtain ⟨b, _, rfl⟩ := List.mem_map.1 hu; rfl
      · rw [hl]
        show (pure ((s.extract 0 s.size).data.map fun b => Value.int .u8 b.toNat) : Sem (Array Value)).run X.P w2 = _
        rw [ByteArray.extract_zero_size, Sem.run_pure]
        congr 1
        apply Array.ext'
        simp
      · obtain ⟨b, hb, rfl⟩ := hg i row hi
        cases j with
        | zero =>
          simp only [List.getElem?_cons_zero, Option.some.injEq] at hy
          subst hy
          exact ⟨.int .u8 b.toNat, by rw [hK]; simp [hb], .int _ _⟩
        | succ j => simp at hy
    · cases h
  · have hx : srcOf X M e x = (match rowsOf M x with | some (o, ys) => (match (match o with | some e' => e == e' | none => ys.isEmpty) with | true => some ys | false => none) | none => none) := by
      cases x <;> first
        | rfl
        | exact absurd ⟨_, rfl⟩ hstr
    rw [hx] at h
    split at h
    · rename_i o ys' hrow
      split at h
      · rename_i hoe
        injection h with h
        subst h
        have ho : o = some e ∨ (o = none ∧ ys' = []) := by
          cases o with
          | none => exact .inr ⟨rfl, by simpa using hoe⟩
          | some e' => left; simp only [beq_iff_eq] at hoe; rw [hoe]
        obtain ⟨hk, a, c, rfl, news, h1, h2, h3, h4⟩ := append_news hI hrow ho hv hpos
        refine ⟨rfl, ⟨d1, hun, ?_⟩, hk, news, h1, h2, h3, h4⟩
        exact not_int (hui ▸ srcOk_ty hs)
      · cases h
    · cases h
def evAppend (X : Cx) (ts : List TypeId) (s x : AV) (M : List Blk) (k : AV → List Blk → Option R) : Option R :=
  match ts with
  | [t, u] =>
    match (X.ti t).ok, (X.ti t).u, (X.ti u).ok, srcOk (X.ti u).u x with
    | true, .slice e, true, true =>
      match srcOf X M e x with
      | some ys =>
        tst ((X.ti e).ok && decide (0 < (X.ti e).size) && decide (0 < (X.ti e).bytes))
          (match s with
           | .nilsl => tst (decide (ys.length * (X.ti e).bytes ≤ 140737488355328)) (k (.own M.length) (M ++ [.row e ys]))
           | .own id =>
             match gm M id with
             | some (.row e' xs) => tst (e == e' && decide ((xs.length + ys.length) * (X.ti e).bytes ≤ 140737488355328)) (k (.own M.length) (M.set id .dead ++ [.row e (xs ++ ys)]))
             | _ => none
           | _ => none)
      | none => none
    | _, _, _, _ => none
  | _ => none
theorem run_append_in {P : Program} {t u ty e : TypeId} {i : TypeInfo} (ht : P.underlying t = some (.slice e)) (hu : ∃ d, P.underlying u = some d ∧ (d = .string ∨ ∃ e, d = .slice e)) (hi : P.info? e = some i)
    {g o n c : Nat} {cur : Array Value} (hg : w.heap[g]? = some (.cells cur e (0, 0))) {v : Value} {m : Nat} (hlen : Builtin.lenOf v = pure m) {news : List Value} (hl : news.length = m * i.size)
    (hf : (Builtin.firstCells i.size m v).run P w = .ok news.toArray w) (h1 : ∀ u ∈ news, u.oneCell' = true) (hroom : n + m ≤ c) (hfit : o + n * i.size + news.length ≤ cur.size) :
    (Builtin.append_ #[t, u] ty #[.slice (some ⟨g, o, none⟩) n c, v]).run P w =
      .ok (.slice (some ⟨g, o, none⟩) (n + m) c) (w.setRow g (cur.toList.take (o + n * i.size) ++ news ++ cur.toList.drop (o + n * i.size + news.length)).toArray) := by
  have hst := run_storeCells_at P g (o + n * i.size) e news 0 cur w hg (by simpa using hfit) h1
  simp only [Nat.add_zero] at hst
  obtain ⟨d, hd, rfl | ⟨e2, rfl⟩⟩ := hu <;> simp [Builtin.append_, run_underlying ht, run_underlying hd, sizeOf, typeInfo, hi, hlen, hroom, hf, Addr.add_lit, hst]
theorem run_append_nothing {P : Program} {t u ty e : TypeId} {i : TypeInfo} (ht : P.underlying t = some (.slice e)) (hu : ∃ d, P.underlying u = some d ∧ (d = .string ∨ ∃ e, d = .slice e)) (hi : P.info? e = some i) {v : Value} (hlen : Builtin.lenOf v = pure 0)
    (hf : (Builtin.firstCells i.size 0 v).run P w = .ok #[] w) :
    (Builtin.append_ #[t, u] ty #[.slice none 0 0, v]).run P w = .ok (.slice none 0 0) w := by
  obtain ⟨d, hd, rfl | ⟨e2, rfl⟩⟩ := hu <;> simp [Builtin.append_, run_underlying ht, run_underlying hd, sizeOf, typeInfo, hi, hlen, hf]
theorem run_append_new {P : Program} {t u ty e : TypeId} {i : TypeInfo} {z : Value} (ht : P.underlying t = some (.slice e)) (hu : ∃ d, P.underlying u = some d ∧ (d = .string ∨ ∃ e, d = .slice e)) (hi : P.info? e = some i) (hz : i.zero = some z)
    {b : Option Addr} {n c : Nat} {olds : List Value} (hfo : (Builtin.firstCells i.size n (.slice b n c)).run P w.drew = .ok olds.toArray w.drew)
    {v : Value} {m : Nat} (hlen : Builtin.lenOf v = pure m) {news : List Value} (hf : (Builtin.firstCells i.size m v).run P w.drew = .ok news.toArray w.drew) (hn : ¬ n + m ≤ c) (h63 : n + m ≤ maxLen)
    (hfit : Builtin.nextslicecap (n + m) c * i.bytes ≤ 281474976710656) :
    (Builtin.append_ #[t, u] ty #[.slice b n c, v]).run P w =
      .ok (.slice (some ⟨w.heap.size, 0, none⟩) (n + m) (grownCap w (n + m) c e))
        (w.drew.alloc (.cells (olds.toArray ++ news.toArray ++ Builtin.zeroCells z.cells (grownCap w (n + m) c e - (n + m))) e)) := by
  have h63' : ¬ (9223372036854775807 < ((n : Int) + (m : Int))) := by simp only [maxLen] at h63; omega
  have h48' : ¬ (281474976710656 < Builtin.nextslicecap (n + m) c * i.bytes) := by omega
  obtain ⟨d, hd, rfl | ⟨e2, rfl⟩⟩ := hu <;> (
    simp [Builtin.append_, run_underlying ht, run_underlying hd, sizeOf, typeInfo, zeroValue, hi, hz, hlen, hn, h63', h48', Question.forced, hf, hfo, newRow, grownCap]
    congr 2
    apply Array.ext'
    simp [List.append_assoc])
theorem evAppend_sound (hX : X.Okb) {ts : List TypeId} {ty : TypeId} {s x : AV} {k : AV → List Blk → Option R} {r : R} (h : evAppend X ts s x M k = some r) :
    ∃ y M', k y M' = some r ∧ Agree (ownIds s) M M' ∧ ∀ {vs vx : Value}, Does X M y M' (fun ρ F w => Rep X.K ρ F w s vs ∧ Rep X.K ρ F w x vx) (Builtin.append_ ts.toArray ty #[vs, vx]) := by
  unfold evAppend at h
  simp only [gm_eq] at h
  split at h
  · rename_i t u
    split at h
    · rename_i e hok hu hok2 hsk
      split at h
      · rename_i ys hrow
        replace h := tst_some h
        obtain ⟨h1, h⟩ := h
        simp only [Bool.and_eq_true, decide_eq_true_eq] at h1
        obtain ⟨⟨he, hpos⟩, hby⟩ := h1
        obtain ⟨i, d, z, f⟩ := hX.facts hok
        obtain ⟨i2, d2, z2, f2⟩ := hX.facts he
        have ht := f.slice hu
        have hksz : (X.K e).length = i2.size := f2.ks
        have hpos' : 0 < (X.K e).length := by rw [hksz, ← f2.size]; exact hpos
        have hby' : 0 < i2.bytes := by rw [← f2.bytes]; exact hby
        have hzs : z2.cells.size = i2.size := f2.zs
        have bound : ∀ n : Nat, n * (X.ti e).bytes ≤ 140737488355328 → n ≤ maxLen := by
          intro n hn
          refine le_maxLen (Nat.le_trans ?_ hn)
          exact Nat.le_mul_of_pos_right _ hby
        have fresh : ∀ {w0 : World} {S : Sc} {F : Addr → Prop} {ρ : List Hd} {w : World} {M2 : List Blk} (xs : List Row) (olds news : List Value) (c : Nat), Inv X w0 S F ρ M2 w →
            (∀ (i : Nat) row, (xs ++ ys)[i]? = some row → koks (X.K e) row = true) → olds.length = xs.length * (X.K e).length → news.length = ys.length * (X.K e).length →
            (∀ (i : Nat) row, xs[i]? = some row → ∀ (j : Nat) y, row[j]? = some y → ∃ u, olds[i * (X.K e).length + j]? = some u ∧ Rep X.K ρ F w y u) →
            (∀ (i : Nat) row, ys[i]? = some row → ∀ (j : Nat) y, row[j]? = some y → ∃ u, news[i * (X.K e).length + j]? = some u ∧ Rep X.K ρ F w y u) → xs.length + ys.length ≤ maxLen →
            Inv X w0 S F (ρ ++ [⟨.slice (some ⟨w.heap.size, 0, none⟩) (xs.length + ys.length) (grownCap w (xs.length + ys.length) c e), (X.K e).length⟩]) (M2 ++ [.row e (xs ++ ys)])
              (w.drew.alloc (.cells (olds.toArray ++ news.toArray ++ Builtin.zeroCells z2.cells (grownCap w (xs.length + ys.length) c e - (xs.length + ys.length))) e)) ∧
            Grow F F ρ (ρ ++ [⟨.slice (some ⟨w.heap.size, 0, none⟩) (xs.length + ys.length) (grownCap w (xs.length + ys.length) c e), (X.K e).length⟩]) w
              (w.drew.alloc (.cells (olds.toArray ++ news.toArray ++ Builtin.zeroCells z2.cells (grownCap w (xs.length + ys.length) c e - (xs.length + ys.length))) e)) := by
          intro w0 S F ρ w M2 xs olds news c hI hk hlo hln hro hrn hmax
          have hcap := grownCap_ge w (xs.length + ys.length) c e
          have := hI.newRow (t := e) (xs := xs ++ ys) (cur := olds.toArray ++ news.toArray ++ Builtin.zeroCells z2.cells (grownCap w (xs.length + ys.length) c e - (xs.length + ys.length))) (c := grownCap w (xs.length + ys.length) c e)
            hk (by rw [List.length_append]; exact hcap) (grownCap_le_maxLen w _ c e hmax)
            (by
              simp only [Array.size_append, List.size_toArray, size_zeroCells, hlo, hln, hzs, ← hksz, ← Nat.add_mul]
              rw [show xs.length + ys.length + (grownCap w (xs.length + ys.length) c e - (xs.length + ys.length)) = grownCap w (xs.length + ys.length) c e by omega]
              exact Nat.le_refl _)
            (fun i row hi j y hy => by
              have hj := (List.getElem?_eq_some_iff.1 hy).1
              have hrl := koks_length (hk i row hi)
              by_cases hix : i < xs.length
              · rw [List.getElem?_append_left hix] at hi
                obtain ⟨u, h1, h2⟩ := hro i row hi j y hy
                have hlt := (List.getElem?_eq_some_iff.1 h1).1
                refine ⟨u, ?_, h2⟩
                rw [Array.append_assoc, Array.getElem?_append_left (by simpa using hlt)]
                simpa using h1
              · rw [List.getElem?_append_right (by omega)] at hi
                obtain ⟨u, h1, h2⟩ := hrn (i - xs.length) row hi j y hy
                have hlt := (List.getElem?_eq_some_iff.1 h1).1
                refine ⟨u, ?_, h2⟩
                have e0 : i * (X.K e).length + j - olds.length = (i - xs.length) * (X.K e).length + j := by
                  rw [hlo, Nat.sub_mul]
                  have : xs.length * (X.K e).length ≤ i * (X.K e).length := Nat.mul_le_mul_right _ (by omega)
                  omega
                have hge : olds.length ≤ i * (X.K e).length + j := by
                  rw [hlo]
                  have : xs.length * (X.K e).length ≤ i * (X.K e).length := Nat.mul_le_mul_right _ (by omega)
                  omega
                rw [Array.append_assoc, Array.getElem?_append_right (by simpa using hge)]
                simp only [List.size_toArray]
                rw [e0, Array.getElem?_append_left (by simpa using hlt)]
                simpa using h1)
            (w' := w.drew) ⟨rfl, rfl, rfl, Nat.le_refl _, fun _ _ _ => rfl⟩ rfl
          rw [List.length_append] at this
          exact this
        split at h
        · replace h := tst_some h
          obtain ⟨hb, h⟩ := h
          simp only [decide_eq_true_eq] at hb
          refine ⟨_, _, h, Agree.push _ _ _, fun {vs vx w0 S F ρ w} hI hh => ?_⟩
          obtain ⟨hs, hx⟩ := hh
          cases hs
          obtain ⟨hlen, hu', hk, news, hnl, hone, hfc, hrn⟩ := src_news hX hI hok2 hsk hrow hx hpos'
          by_cases hm : ys.length = 0
          · have hys : ys = [] := List.eq_nil_of_length_eq_zero hm
            subst hys
            have hn0 : news = [] := List.eq_nil_of_length_eq_zero (by simpa using hnl)
            subst hn0
            have hf0 := hfc w rfl
            rw [hksz] at hf0
            have hrun := run_append_nothing (w := w) (ty := ty) ht hu' f2.info hlen hf0
            refine ⟨_, w, ρ ++ [⟨.slice none 0 0, (X.K e).length⟩], F, hrun, hI.push' (fun g hg => by simp [Hd.blk?, Value.blk?] at hg) rfl ⟨rfl, fun i row h => by simp at h, .inl ⟨rfl, rfl⟩⟩, ⟨fun _ h => h, fun _ _ h => getElem?_append_old h, fun _ _ => rfl⟩, ?_⟩
            exact own_last (M := M) (hd := ⟨.slice none 0 0, (X.K e).length⟩) hI.len
          · have hmax := bound _ hb
            have hf0 := hfc w.drew rfl
            rw [hksz] at hf0
            have hrun := run_append_new (w := w) (ty := ty) ht hu' f2.info f2.zero (b := none) (n := 0) (c := 0) (olds := []) (by simp [Builtin.firstCells]) hlen hf0 (by omega) (by omega) (by rw [Nat.zero_add, nextslicecap_zero (by omega), ← f2.bytes]; omega)
            have hfr := fresh [] [] news 0 hI (by simpa using hk) (by simp) hnl (fun i row h => by simp at h) hrn (by simpa using hmax)
            simp only [List.length_nil, Nat.zero_add, List.nil_append] at hfr hrun
            refine ⟨_, _, _, F, hrun, hfr.1, hfr.2, ?_⟩
            exact own_last (M := M) (hd := ⟨_, (X.K e).length⟩) hI.len
        · rename_i id
          split at h
          · rename_i e' xs hb
            replace h := tst_some h
            obtain ⟨h2, h⟩ := h
            simp only [Bool.and_eq_true, beq_iff_eq, decide_eq_true_eq] at h2
            obtain ⟨rfl, hbd⟩ := h2
            refine ⟨_, _, h, ((Agree.set _ _ _).trans (Agree.push [] _ _)).mono (by simp [ownIds]), fun {vs vx w0 S F ρ w} hI hh => ?_⟩
            obtain ⟨hs, hx⟩ := hh
            cases hs with
            | own _ hd hid =>
              obtain ⟨hlen, hu', hk, news, hnl, hone, hfc, hrn⟩ := src_news hX hI hok2 hsk hrow hx hpos'
              obtain ⟨q1, q2, q3⟩ := hI.rep id _ hd hb hid
              have hkk : ∀ (i : Nat) row, (xs ++ ys)[i]? = some row → koks (X.K e) row = true := by
                intro i row hi
                by_cases hix : i < xs.length
                · rw [List.getElem?_append_left hix] at hi; exact q2 i row hi
                · rw [List.getElem?_append_right (by omega)] at hi; exact hk _ row hi
              have hmax := bound _ hbd
              have dead : ∀ {w : World}, Inv X w0 S F ρ M w → Inv X w0 S F ρ (M.set id .dead) w := by
                intro w hI
                cases hgb : hd.blk? with
                | none => exact hI.retag hb hid hgb trivial
                | some g => exact hI.write hb rfl hid hgb ⟨rfl, rfl, rfl, Nat.le_refl _, fun _ _ _ => rfl⟩ trivial
              rcases q3 with ⟨q3, q4⟩ | ⟨g, o', c, cur, q3, hg, q4, q5, q6, q7⟩
              · subst q4
                rw [q3]
                by_cases hm : ys.length = 0
                · have hys : ys = [] := List.eq_nil_of_length_eq_zero hm
                  subst hys
                  have hn0 : news = [] := List.eq_nil_of_length_eq_zero (by simpa using hnl)
                  subst hn0
                  have hf0 := hfc w rfl
                  rw [hksz] at hf0
                  have hrun := run_append_nothing (w := w) (ty := ty) ht hu' f2.info hlen hf0
                  refine ⟨_, w, ρ ++ [⟨.slice none 0 0, (X.K e).length⟩], F, hrun, (dead hI).push' (fun g hg => by simp [Hd.blk?, Value.blk?] at hg) rfl ⟨rfl, fun i row h => by simp at h, .inl ⟨rfl, rfl⟩⟩, ⟨fun _ h => h, fun _ _ h => getElem?_append_old h, fun _ _ => rfl⟩, ?_⟩
                  exact own_last (M := M) (hd := ⟨.slice none 0 0, (X.K e).length⟩) hI.len
                · have hf0 := hfc w.drew rfl
                  rw [hksz] at hf0
                  have hrun := run_append_new (w := w) (ty := ty) ht hu' f2.info f2.zero (b := none) (n := 0) (c := 0) (olds := []) (by simp [Builtin.firstCells]) hlen hf0 (by omega) (by simpa using hmax) (by rw [Nat.zero_add, nextslicecap_zero (by omega), ← f2.bytes]; simp at hbd; omega)
                  have hfr := fresh [] [] news 0 (dead hI) (by simpa using hk) (by simp) hnl (fun i row h => by simp at h) hrn (by simpa using hmax)
                  simp only [List.length_nil, Nat.zero_add, List.nil_append] at hfr hrun
                  refine ⟨_, _, _, F, hrun, hfr.1, hfr.2, ?_⟩
                  exact own_last (M := M) (hd := ⟨_, (X.K e).length⟩) hI.len
              · rw [q3]
                by_cases hroom : xs.length + ys.length ≤ c
                · have hfit : o' + xs.length * i2.size + news.length ≤ cur.size := by
                    rw [hnl, hksz]
                    rw [q1, hksz] at q6
                    have := Nat.mul_le_mul_right i2.size hroom
                    rw [Nat.add_mul] at this
                    omega
                  have hf0 := hfc w rfl
                  rw [hksz] at hf0
                  have hrun := run_append_in (w := w) (ty := ty) ht hu' f2.info hg hlen (by rw [hnl, hksz]) hf0 hone hroom hfit
                  have hgr := grownBy_setRow w g (cur.toList.take (o' + xs.length * i2.size) ++ news ++ cur.toList.drop (o' + xs.length * i2.size + news.length)).toArray
                  have hgb : hd.blk? = some g := by simp [Hd.blk?, Value.blk?, q3]
                  have hfa : ∀ a, F a → a.block ≠ g := (hI.sep id _ hd g hb rfl hid hgb).2.2
                  have hgrow : Grow F F ρ (ρ ++ [⟨.slice (some ⟨g, o', none⟩) (xs.length + ys.length) c, (X.K e).length⟩]) w (w.setRow g (cur.toList.take (o' + xs.length * i2.size) ++ news ++ cur.toList.drop (o' + xs.length * i2.size + news.length)).toArray) :=
                    ⟨fun _ h => h, fun _ _ h => getElem?_append_old h, hI.blks hgr (fun k hk a ha => by injection hk with hk; subst hk; exact hfa a ha)⟩
                  refine ⟨_, _, ρ ++ [⟨.slice (some ⟨g, o', none⟩) (xs.length + ys.length) c, (X.K e).length⟩], F, hrun, hI.move hb rfl hid (row := some g) hgr (.inr hgb.symm) (fun g' hg' => ?_) rfl ?_, hgrow, own_last (M := M) (hd := ⟨_, (X.K e).length⟩) hI.len⟩
                  · simp [Hd.blk?, Value.blk?] at hg'
                    subst hg'
                    exact ⟨by rw [size_setRow]; exact (hI.sep id _ hd g hb rfl hid hgb).1, .inl hgb⟩
                  · refine ⟨rfl, hkk, .inr ⟨g, o', c, _, by rw [List.length_append], setRow_heap w g cur _ e _ hg, by rw [List.length_append]; exact hroom, q5, ?_, fun i row hi j y hy => ?_⟩⟩
                    · rw [q1] at q6
                      simp only [List.size_toArray, List.length_append, List.length_take, List.length_drop, Array.length_toList]
                      omega
                    · have hj := (List.getElem?_eq_some_iff.1 hy).1
                      have hrl := koks_length (hkk i row hi)
                      rw [splice_get cur news _ hfit]
                      simp only [hksz] at *
                      by_cases hix : i < xs.length
                      · rw [List.getElem?_append_left hix] at hi
                        obtain ⟨u, hu1, hu2⟩ := q7 i row hi j y hy
                        rw [q1] at hu1
                        have : (i + 1) * i2.size ≤ xs.length * i2.size := Nat.mul_le_mul_right _ (by omega)
                        rw [Nat.add_mul, Nat.one_mul] at this
                        rw [if_neg (by omega)]
                        exact ⟨u, hu1, hu2.grow hgrow⟩
                      · rw [List.getElem?_append_right (by omega)] at hi
                        obtain ⟨u, hu1, hu2⟩ := hrn (i - xs.length) row hi j y hy
                        have hlt := (List.getElem?_eq_some_iff.1 hu1).1
                        have e0 : (i - xs.length) * i2.size = i * i2.size - xs.length * i2.size := Nat.sub_mul _ _ _
                        have hge : xs.length * i2.size ≤ i * i2.size := Nat.mul_le_mul_right _ (by omega)
                        rw [if_pos (by omega)]
                        rw [show o' + i * i2.size + j - (o' + xs.length * i2.size) = (i - xs.length) * i2.size + j by omega]
                        exact ⟨u, hu1, hu2.grow hgrow⟩
                · have hro : ∃ olds : List Value, olds.length = xs.length * (X.K e).length ∧ (∀ w2 : World, w2.heap = w.heap → (Builtin.firstCells (X.K e).length xs.length hd.v).run X.P w2 = .ok olds.toArray w2) ∧
                      ∀ (i : Nat) row, xs[i]? = some row → ∀ (j : Nat) y, row[j]? = some y → ∃ u, olds[i * (X.K e).length + j]? = some u ∧ Rep X.K ρ F w y u := by
                    obtain ⟨_, a', c', hv', olds, h1, _, h3, h4⟩ := append_news (e := e) hI (x := .own id) (o := some e) (ys := xs) (by simp [gm_eq, rowsOf, hb]) (.inl rfl) (.own _ hd hid) hpos'
                    exact ⟨olds, h1, h3, h4⟩
                  obtain ⟨olds, hlo, hfo, hro⟩ := hro
                  have hf0 := hfc w.drew rfl
                  have hf1 := hfo w.drew rfl
                  rw [q3] at hf1
                  rw [hksz] at hf0 hf1
                  have hrun := run_append_new (w := w) (ty := ty) ht hu' f2.info f2.zero hf1 hlen hf0 hroom (by omega) (growslice_fits (by omega) (by rw [← f2.bytes]; exact hbd))
                  have hfr := fresh xs olds news c (dead hI) hkk hlo hnl hro hrn hmax
                  refine ⟨_, _, _, F, hrun, hfr.1, hfr.2, ?_⟩
                  have := own_last (X := X) (M := M) (F := F) (w := w.drew.alloc (.cells (olds.toArray ++ news.toArray ++ Builtin.zeroCells z2.cells (grownCap w (xs.length + ys.length) c e - (xs.length + ys.length))) e))
                    (hd := ⟨.slice (some ⟨w.heap.size, 0, none⟩) (xs.length + ys.length) (grownCap w (xs.length + ys.length) c e), (X.K e).length⟩) hI.len
                  exact this
          · cases h
        · cases h
      · cases h
    · cases h
  · cases h
end
end Go.Eng

namespace Go.Eng
open Go Go.MapKept
noncomputable section
variable {X : Cx} {R : Type}
variable {w0 w w' : World} {S : Sc} {F : Addr → Prop} {ρ : List Hd} {M : List Blk}
def keq : AV → AV → Bool
  | .int _ a, .int _ b => a == b
  | .bool a, .bool b => a == b
  | .str a, .str b => a == b
  | _, _ => false
def mfind : List (AV × AV) → AV → Option AV
  | [], _ => none
  | e :: es, x => match keq x e.1 with | true => some e.2 | false => mfind es x
def mput : List (AV × AV) → AV → AV → List (AV × AV)
  | [], x, y => [(x, y)]
  | e :: es, x, y => match keq x e.1 with | true => (x, y) :: es | false => e :: mput es x y
def keyK : TyI → Option Kind
  | .int k => some (.int k)
  | .bool => some .bool
  | .str => some .str
  | _ => none
theorem TFacts.map {t k e : TypeId} {i : TypeInfo} {d : TypeDesc} {z : Value} (f : TFacts X t i d z) (h : (X.ti t).u = .map k e) : X.P.underlying t = some (.map k e) := by
  have h1 := f.und; have h2 := f.u
  rw [h] at h2
  cases d <;> simp_all [tyOf]
structure KeyF (X : Cx) (kt : TypeId) (kd : Kind) (d : TypeDesc) : Prop where
  und : X.P.underlying kt = some d
  ne : kd ≠ .any
  key : ∀ {ρ : List Hd} {F : Addr → Prop} {w : World} {x : AV} {v : Value}, kok kd x = true → Rep X.K ρ F w x v → IsKey d v
  same : ∀ {ρ : List Hd} {F : Addr → Prop} {w : World} {x y : AV} {v u : Value}, kok kd x = true → kok kd y = true → Rep X.K ρ F w x v → Rep X.K ρ F w y u → Instr.sameNow d v u = some (keq x y) ∧ (keq x y = true → u = v)
theorem keyF (hX : X.Okb) {kt : TypeId} {kd : Kind} (hok : (X.ti kt).ok = true) (h : keyK (X.ti kt).u = some kd) : ∃ d, KeyF X kt kd d := by
  obtain ⟨i, d, z, f⟩ := hX.facts hok
  refine ⟨d, f.und, ?_, ?_, ?_⟩
  all_goals rw [f.u] at h
  · rintro rfl; cases d <;> simp [tyOf, keyK] at h
  · intro ρ F w x v hx hr
    cases d <;> simp [tyOf, keyK] at h <;> subst h <;> cases x <;> simp [kok] at hx <;> cases hr <;> simp [IsKey, hx]
  · intro ρ F w x y v u hx hy hr hs
    cases d <;> simp [tyOf, keyK] at h <;> subst h <;> cases x <;> simp [kok] at hx <;> cases y <;> simp [kok] at hy <;> cases hr <;> cases hs <;> simp_all [Instr.sameNow, keq]
    all_goals (intro hb; exact ((bytes_beq _ _).1 hb).symm)
def Ents (X : Cx) (ρ : List Hd) (F : Addr → Prop) (w : World) (kd : Kind) (ag : Bool) (ks : List Kind) (es : List (AV × AV)) (mes : List MapEntry) : Prop :=
  mes.length = es.length ∧ ∀ (i : Nat) e me, es[i]? = some e → mes[i]? = some me → (kok kd e.1 = true ∧ koks ks e.2.cells = true ∧ e.2.shape ag = true) ∧ Rep X.K ρ F w e.1 me.key ∧ Rep X.K ρ F w e.2 me.val
theorem Ents.tail {kd : Kind} {ag : Bool} {ks : List Kind} {e : AV × AV} {es : List (AV × AV)} {me : MapEntry} {mes : List MapEntry} (h : Ents X ρ F w kd ag ks (e :: es) (me :: mes)) : Ents X ρ F w kd ag ks es mes :=
  ⟨by simpa using h.1, fun i e' me' he hm => h.2 (i + 1) e' me' (by simpa using he) (by simpa using hm)⟩
theorem find_spec {kt : TypeId} {kd : Kind} {d : TypeDesc} (hk : KeyF X kt kd d) {ag : Bool} {ks : List Kind} {x : AV} {v : Value} (hx : kok kd x = true) (hr : Rep X.K ρ F w x v) : ∀ (es : List (AV × AV)) (mes : List MapEntry) (n : Nat), Ents X ρ F w kd ag ks es mes →
    (mfind es x = none ∧ Instr.findNow d v mes n = some none ∧ (∀ y, mput es x y = es ++ [(x, y)])) ∨
    ∃ i e me, es[i]? = some e ∧ mes[i]? = some me ∧ mfind es x = some e.2 ∧ Instr.findNow d v mes n = some (some (n + i, me.val)) ∧ me.key = v ∧ ∀ y, mput es x y = es.set i (x, y)
  | [], [], n, _ => .inl ⟨rfl, rfl, fun _ => rfl⟩
  | [], _ :: _, n, h => by have := h.1; simp at this
  | _ :: _, [], n, h => by have := h.1; simp at this
  | e :: es, me :: mes, n, h => by
    obtain ⟨⟨a1, a2, a3⟩, r1, r2⟩ := h.2 0 e me rfl rfl
    obtain ⟨s1, s2⟩ := hk.same hx a1 hr r1
    cases hq : keq x e.1 with
    | true =>
      refine .inr ⟨0, e, me, rfl, rfl, by simp [mfind, hq], ?_, s2 hq, fun y => by simp [mput, hq]⟩
      rw [hq] at s1
      simp [Instr.findNow, s1]
    | false =>
      rw [hq] at s1
      rcases find_spec hk hx hr es mes (n + 1) h.tail with ⟨h1, h2, h3⟩ | ⟨i, e', me', h1, h2, h3, h4, h5, h6⟩
      · exact .inl ⟨by simp [mfind, hq, h1], by simp [Instr.findNow, s1, h2], fun y => by simp [mput, hq, h3]⟩
      · exact .inr ⟨i + 1, e', me', by simpa using h1, by simpa using h2, by simp [mfind, hq, h3], by simp [Instr.findNow, s1, h4]; omega, h5, fun y => by simp [mput, hq, h6]⟩
def evMakeMap (X : Cx) (t : TypeId) (M : List Blk) (k : AV → List Blk → Option R) : Option R :=
  match (X.ti t).ok, (X.ti t).u with
  | true, .map kt et => match keyK (X.ti kt).u with | some kd => k (.mp M.length) (M ++ [.map kd (X.ti et).u.agg (vks X et) []]) | none => k .top M
  | _, _ => none
theorem evMakeMap_sound (hX : X.Okb) {t : TypeId} {k : AV → List Blk → Option R} {r : R} (h : evMakeMap X t M k = some r) :
    ∃ y M', k y M' = some r ∧ Agree [] M M' ∧ Does X M y M' (fun _ _ _ => True) (Instr.makeMap t none) := by
  unfold evMakeMap at h
  split at h
  case h_2 => cases h
  rename_i kt et _ _
  split at h
  case h_2 =>
    refine ⟨_, _, h, Agree.refl _ _, fun {w0 S F ρ w} hI _ => ?_⟩
    have hgr : w.grownBy (w.alloc (.map #[] 0)) none := World.grownBy_alloc w _ none
    exact ⟨.map (some w.heap.size), w.alloc (.map #[] 0), ρ, F, rfl, hI.grown hgr, ⟨fun _ h => h, fun _ _ h => h, fun a ha => hgr.block _ (hI.fz a ha) (by simp)⟩, .top _⟩
  rename_i kd hkd
  have hne : kd ≠ .any := by rintro rfl; cases hu : (X.ti kt).u <;> simp [hu, keyK] at hkd
  refine ⟨_, _, h, Agree.push _ _ _, fun {w0 S F ρ w} hI _ => ?_⟩
  have hgr : w.grownBy (w.alloc (.map #[] 0)) none := World.grownBy_alloc w _ none
  have hlt : w.heap.size < (w.alloc (.map #[] 0)).heap.size := by simp
  refine ⟨.map (some w.heap.size), w.alloc (.map #[] 0), ρ ++ [⟨.map (some w.heap.size), 0⟩], F, rfl, ?_, ⟨fun _ h => h, fun _ _ h => getElem?_append_old h, fun a ha => hgr.block _ (hI.fz a ha) (by simp)⟩, ?_⟩
  · refine hI.push (hd := ⟨.map (some w.heap.size), 0⟩) hgr (fun g hg => ?_) rfl ⟨hne, w.heap.size, #[], 0, rfl, (MapKept.heap_alloc w _).1, rfl, fun i e me he _ => by simp at he⟩
    simp only [Hd.blk?, Value.blk?, Option.some.injEq] at hg; subst hg; exact ⟨Nat.le_refl _, hlt⟩
  · exact Rep.mp (K := X.K) _ ⟨.map (some w.heap.size), 0⟩ (by rw [← hI.len]; simp)
def mval (X : Cx) (t : TypeId) (x : AV) : AV :=
  match (X.ti t).u.agg with
  | true => .agg (ldn (vks X t) x.cells 0 (X.ti t).size)
  | false => ld ((vks X t).headD .raw) x
def zval (X : Cx) (t : TypeId) : AV :=
  match (X.ti t).u.agg with
  | true => .agg (X.ti t).zero
  | false => (X.ti t).zero.headD .top
def lkOut (X : Cx) (et : TypeId) (ok : Bool) (k : AV → Option R) (o : Option AV) : Option R :=
  match o with
  | some x => (match ok with | true => k (.tup [mval X et x, .bool true]) | false => k (mval X et x))
  | none => (match ok with | true => k (.tup [zval X et, .bool false]) | false => k (zval X et))
def lkVal (X : Cx) (et : TypeId) (o : Option AV) : AV := match o with | some x => mval X et x | none => zval X et
def lkTup (ok : Bool) (x : AV) (b : Bool) : AV := match ok with | true => .tup [x, .bool b] | false => x
def evFind : List (AV × AV) → AV → (Option AV → Option R) → Option R
  | [], _, k => k none
  | e :: es, x, k => match keq x e.1 with | true => k (some e.2) | false => evFind es x k
theorem evFind_eq : ∀ (es : List (AV × AV)) (x : AV) (k : Option AV → Option R), evFind es x k = k (mfind es x)
  | [], _, _ => rfl
  | e :: es, x, k => by
    simp only [evFind, mfind]
    cases keq x e.1 with
    | true => rfl
    | false => exact evFind_eq es x k
def allFix (ks : List Kind) : Bool := ks.all fun k => match k with | .any => false | _ => true
def evLookup (X : Cx) (t : TypeId) (x i : AV) (ok : Bool) (M : List Blk) (k : AV → Option R) : Option R :=
  match (X.ti t).ok, (X.ti t).u with
  | true, .map kt et =>
    match keyK (X.ti kt).u with
    | some kd =>
      tst ((X.ti kt).ok && (X.ti et).ok && kok kd i)
        (match x with
         | .nilmp => lkOut X et ok k none
         | .mp id =>
           match gm M id with
           | some (.map kd' ag ks es) =>
             tst (kd' == kd && ag == (X.ti et).u.agg && ks == vks X et) (match allFix ks with
               | true => (match mfind es i with | some y => lkOut X et ok k (some y) | none => lkOut X et ok k none)
               | false => evFind es i (lkOut X et ok k))
           | _ => none
         | _ => none)
    | none => none
  | _, _ => none
theorem vks_length (hX : X.Okb) {t : TypeId} (hok : (X.ti t).ok = true) : (vks X t).length = (X.ti t).size := by
  obtain ⟨i, d, z, f⟩ := hX.facts hok
  simp [vks, f.ks, f.size]
theorem mval_eq (hX : X.Okb) {t : TypeId} (hok : (X.ti t).ok = true) {x : AV} (hk : koks (vks X t) x.cells = true) (hp : x.shape (X.ti t).u.agg = true) : mval X t x = x := by
  have hl := vks_length hX hok
  unfold mval
  cases ha : (X.ti t).u.agg with
  | true =>
    rw [ha] at hp
    cases x <;> simp [AV.shape] at hp
    rename_i cs
    simp only [AV.cells] at hk ⊢
    rw [ldn_eq hk _ _ (by omega)]
    have := koks_length hk
    rw [List.drop_zero, List.take_of_length_le (by omega)]
  | false =>
    rw [ha] at hp
    have hc : x.cells = [x] := by cases x <;> simp_all [AV.shape, AV.leaf, AV.cells]
    rw [hc] at hk
    cases hv : vks X t with
    | nil => rw [hv] at hk; simp [koks] at hk
    | cons q qs =>
      rw [hv] at hk
      simp only [koks, Bool.and_eq_true] at hk
      exact ld_of_kok hk.1
theorem zval_rep (hX : X.Okb) {t : TypeId} (hok : (X.ti t).ok = true) : ∃ z, (∀ w, (zeroValue t).run X.P w = .ok z w) ∧ ∀ {ρ : List Hd} {F : Addr → Prop} {w : World}, Rep X.K ρ F w (zval X t) z := by
  obtain ⟨i, d, z, f⟩ := hX.facts hok
  refine ⟨z, f.zeroValue, fun {ρ F w} => ?_⟩
  have hz : RepL X.K ρ F w (X.ti t).zero z.cells.toList := by rw [f.zc]; exact repL_zero _ _ _ _ _
  have hag := f.zag
  unfold zval
  cases ha : (X.ti t).u.agg with
  | true =>
    rw [ha] at hag
    cases z <;> simp [vag] at hag
    rename_i cs
    have := Rep.agg (K := X.K) (ρ := ρ) (F := F) (w := w) _ _ hz.1 hz.2
    simpa [Value.cells] using this
  | false =>
    rw [ha] at hag
    have h1 : z.cells.toList = [z] := by cases z <;> simp_all [vag, Value.cells]
    rw [h1] at hz
    have hl := hz.1
    cases hzz : (X.ti t).zero with
    | nil => rw [hzz] at hl; simp at hl
    | cons y ys => exact hz.2 0 y z (by rw [hzz]; rfl) rfl
theorem lkOut_spec {et : TypeId} {ok : Bool} {k : AV → Option R} {o : Option AV} {r : R} (h : lkOut X et ok k o = some r) : k (lkTup ok (lkVal X et o) o.isSome) = some r := by
  unfold lkOut at h
  cases o <;> cases ok <;> exact h
theorem evLookup_sound (hX : X.Okb) {t : TypeId} {x i : AV} {ok : Bool} {k : AV → Option R} {r : R} (h : evLookup X t x i ok M k = some r) :
    ∃ y, k y = some r ∧ ∀ {w0 : World} {S : Sc} {F : Addr → Prop} {ρ : List Hd} {w : World} {v vi : Value}, Inv X w0 S F ρ M w → Rep X.K ρ F w x v → Rep X.K ρ F w i vi →
      ∃ u, (Instr.lookup t v vi ok).run X.P w = .ok u w ∧ Rep X.K ρ F w y u := by
  unfold evLookup at h
  simp only [gm_eq] at h
  split at h
  case h_2 => cases h
  rename_i kt et hto htu
  split at h
  case h_2 => cases h
  rename_i kd hkd
  replace h := tst_some h
  obtain ⟨hc, h⟩ := h
  simp only [Bool.and_eq_true] at hc
  obtain ⟨⟨hkok, heok⟩, hi⟩ := hc
  obtain ⟨ti, td, tz, tf⟩ := hX.facts hto
  have hund := tf.map htu
  obtain ⟨d, hkey⟩ := keyF hX hkok hkd
  obtain ⟨z, hz, hzr⟩ := zval_rep hX heok
  have out : ∀ {o : Option AV} {r : R}, lkOut X et ok k o = some r → ∃ y, k y = some r ∧ ∀ {ρ : List Hd} {F : Addr → Prop} {w : World} {vo : Option Value} {mes : List MapEntry} {v vi : Value}, (match o, vo with | some a, some b => Rep X.K ρ F w (mval X et a) b | none, none => True | _, _ => False) →
      (∀ w1 : World, (Instr.lookup t v vi ok).run X.P w = .ok (match ok with | true => .tuple #[vo.getD z, .bool vo.isSome] | false => vo.getD z) w) → ∃ u, (Instr.lookup t v vi ok).run X.P w = .ok u w ∧ Rep X.K ρ F w y u := by
    intro o r h
    refine ⟨_, lkOut_spec h, fun {ρ F w vo mes v vi} hm hrun => ⟨_, hrun w, ?_⟩⟩
    have hval : Rep X.K ρ F w (lkVal X et o) (vo.getD z) := by
      cases o with
      | none => cases vo with | none => exact hzr | some b => exact hm.elim
      | some a => cases vo with | none => exact hm.elim | some b => exact hm
    have hs : o.isSome = vo.isSome := by
      cases o with
      | none => cases vo with | none => rfl | some b => exact hm.elim
      | some a => cases vo with | none => exact hm.elim | some b => rfl
    cases ok with
    | false => exact hval
    | true =>
      refine .tup _ [_, _] rfl fun j y u hy hu => ?_
      match j with
      | 0 => simp at hy hu; subst hy; subst hu; exact hval
      | 1 => simp at hy hu; subst hy; subst hu; rw [hs]; exact .bool _
      | j + 2 => simp at hy
  cases x <;> simp only at h <;> try (cases h; done)
  case nilmp =>
    obtain ⟨y, h, hd⟩ := out h
    refine ⟨y, h, fun {w0 S F ρ w v vi} hI hv hvi => ?_⟩
    cases hv
    refine hd (vo := none) (mes := []) trivial fun _ => ?_
    have hf : Instr.findNow d vi [] 0 = some none := rfl
    cases ok <;> simp [Instr.lookup, run_underlying hund, Result.andThen, run_checkKey hkey.und (hkey.key hi hvi), run_findKey hkey.und hf, hz]
  case mp id =>
    split at h
    case h_2 => cases h
    rename_i kd' ag ks es hb
    replace h := tst_some h
    obtain ⟨hc, h⟩ := h
    simp only [Bool.and_eq_true, beq_iff_eq] at hc
    obtain ⟨⟨rfl, rfl⟩, rfl⟩ := hc
    have h' : lkOut X et ok k (mfind es i) = some r := by
      split at h
      · split at h
        · rename_i y hy; rw [hy]; exact h
        · rename_i hy; rw [hy]; exact h
      · rw [evFind_eq] at h; exact h
    obtain ⟨y, h, hd⟩ := out h'
    refine ⟨y, h, fun {w0 S F ρ w v vi} hI hv hvi => ?_⟩
    cases hv with
    | mp _ hd' hid =>
    obtain ⟨_, g, mes, clock, hv, hh, hsz, hes⟩ := hI.rep _ _ _ hb hid
    rw [hv]
    have hents : Ents X ρ F w kd' (X.ti et).u.agg (vks X et) es mes.toList := ⟨by simpa using hsz, fun j e me he hm => hes j e me he (by simpa using hm)⟩
    rcases find_spec hkey hi hvi es mes.toList 0 hents with ⟨f1, f2, _⟩ | ⟨j, e, me, e1, e2, f1, f2, _, _⟩
    · refine hd (vo := none) (mes := []) (by rw [f1]; trivial) fun _ => ?_
      cases ok <;> simp [Instr.lookup, run_underlying hund, MapKept.run_getObj_map hh, Result.andThen, run_checkKey hkey.und (hkey.key hi hvi), run_findKey hkey.und f2, hz]
    · obtain ⟨⟨a1, a2, a3⟩, r1, r2⟩ := hents.2 j e me e1 e2
      refine hd (vo := some me.val) (mes := []) (by rw [f1]; show Rep _ _ _ _ _ _; rw [mval_eq hX heok a2 a3]; exact r2) fun _ => ?_
      cases ok <;> simp [Instr.lookup, run_underlying hund, MapKept.run_getObj_map hh, Result.andThen, run_checkKey hkey.und (hkey.key hi hvi), run_findKey hkey.und f2]
def mpIds : AV → List Nat | .mp id => [id] | _ => []
def evMapUpdate (X : Cx) (t : TypeId) (m i x : AV) (M : List Blk) (k : List Blk → Option R) : Option R :=
  match (X.ti t).ok, (X.ti t).u, m with
  | true, .map kt et, .mp id =>
    match keyK (X.ti kt).u with
    | some kd =>
      match gm M id with
      | some (.map kd' ag ks es) =>
        tst ((X.ti kt).ok && kok kd i && kd' == kd && x.shape ag && koks ks x.cells) (k (M.set id (.map kd' ag ks (mput es i x))))
      | _ => none
    | none => none
  | _, _, _ => none
theorem evMapUpdate_sound (hX : X.Okb) {t : TypeId} {m i x : AV} {k : List Blk → Option R} {r : R} (h : evMapUpdate X t m i x M k = some r) :
    ∃ M', k M' = some r ∧ Agree (mpIds m) M M' ∧ ∀ {w0 : World} {S : Sc} {F : Addr → Prop} {ρ : List Hd} {w : World} {vm vi vx : Value}, Inv X w0 S F ρ M w → Rep X.K ρ F w m vm → Rep X.K ρ F w i vi → Rep X.K ρ F w x vx →
      ∃ w' F', (Instr.mapUpdate t vm vi vx).run X.P w = .ok () w' ∧ Inv X w0 S F' ρ M' w' ∧ Grow F F' ρ ρ w w' := by
  unfold evMapUpdate at h
  simp only [gm_eq] at h
  split at h
  case h_2 => cases h
  rename_i kt et id hto htu
  split at h
  case h_2 => cases h
  rename_i kd hkd
  split at h
  case h_2 => cases h
  rename_i kd' ag ks es hb
  replace h := tst_some h
  obtain ⟨hc, h⟩ := h
  simp only [Bool.and_eq_true, beq_iff_eq] at hc
  obtain ⟨⟨⟨⟨hkok, hi⟩, rfl⟩, hsh⟩, hks⟩ := hc
  obtain ⟨ti, td, tz, tf⟩ := hX.facts hto
  have hund := tf.map htu
  obtain ⟨d, hkey⟩ := keyF hX hkok hkd
  refine ⟨_, h, Agree.set _ _ _, fun {w0 S F ρ w vm vi vx} hI hm hvi hvx => ?_⟩
  cases hm with
  | mp _ hd hid =>
  obtain ⟨hne, g, mes, clock, hv, hh, hsz, hes⟩ := hI.rep _ _ _ hb hid
  have hblk : hd.blk? = some g := by simp [Hd.blk?, Value.blk?, hv]
  have hlt : g < w.heap.size := (Array.getElem?_eq_some_iff.1 hh).1
  have hsep := hI.sep _ _ _ _ hb rfl hid hblk
  rw [hv]
  have hents : Ents X ρ F w kd' ag ks es mes.toList := ⟨by simpa using hsz, fun j e me he hm => hes j e me he (by simpa using hm)⟩
  have hgrow : ∀ o : Obj, w.grownBy (w.putObj g o) (some g) := fun o => ⟨rfl, rfl, rfl, by simp, fun q hq hne => World.putObj_heap_other (fun e => hne (by rw [e]))⟩
  have hG : ∀ o : Obj, Grow F F ρ ρ w (w.putObj g o) := fun o => ⟨fun _ h => h, fun _ _ h => h, fun a ha => World.putObj_heap_other (hsep.2.2 a ha)⟩
  have done : ∀ (mes' : Array MapEntry) (clock' : Nat), mes'.size = (mput es i x).length → (∀ (j : Nat) e me, (mput es i x)[j]? = some e → mes'[j]? = some me → (kok kd' e.1 = true ∧ koks ks e.2.cells = true ∧ e.2.shape ag = true) ∧ Rep X.K ρ F w e.1 me.key ∧ Rep X.K ρ F w e.2 me.val) →
      Inv X w0 S F ρ (M.set id (.map kd' ag ks (mput es i x))) (w.putObj g (.map mes' clock')) := fun mes' clock' h1 h2 =>
    hI.write hb rfl hid hblk (hgrow _) ⟨hne, g, mes', clock', hv, World.putObj_heap_same hlt, h1, fun j e me he hm' => let ⟨a, r1, r2⟩ := h2 j e me he hm'; ⟨a, r1.grow (hG _), r2.grow (hG _)⟩⟩
  rcases find_spec hkey hi hvi es mes.toList 0 hents with ⟨f1, f2, f3⟩ | ⟨j, e, me, e1, e2, f1, f2, f4, f3⟩
  · refine ⟨w.putObj g (.map (mes.push { key := vi, val := vx, born := clock }) (clock + 1)), F, ?_, done _ _ (by rw [f3]; simp [hsz]) fun q e me he hm' => ?_, hG _⟩
    · simp [Instr.mapUpdate, run_underlying hund, MapKept.run_getObj_map hh, run_checkKey hkey.und (hkey.key hi hvi), run_findKey hkey.und f2, MapKept.run_setObj_map _ hh, Result.andThen, World.putObj]
    · rw [f3] at he
      by_cases hq : q < es.length
      · rw [List.getElem?_append_left hq] at he
        rw [Array.getElem?_push, if_neg (by omega)] at hm'
        exact hes q e me he hm'
      · have hq' : q = es.length := by have := (List.getElem?_eq_some_iff.1 he).1; simp at this; omega
        subst hq'
        rw [List.getElem?_append_right (Nat.le_refl _)] at he
        simp at he
        rw [← hsz, Array.getElem?_push, if_pos rfl] at hm'
        injection hm' with hm'
        subst he; subst hm'
        exact ⟨⟨hi, hks, hsh⟩, hvi, hvx⟩
  · have hjm : mes[j]? = some me := by simpa using e2
    have hjlt : j < mes.size := (Array.getElem?_eq_some_iff.1 hjm).1
    refine ⟨w.putObj g (.map (mes.modify j fun e => { e with key := vi, val := vx }) clock), F, ?_, done _ _ (by rw [f3]; simp [hsz]) fun q e' me' he hm' => ?_, hG _⟩
    · have hkk : me.key = vi := f4
      simp [Instr.mapUpdate, run_underlying hund, MapKept.run_getObj_map hh, run_checkKey hkey.und (hkey.key hi hvi), run_findKey hkey.und f2, hjm, hkk, run_keyThatStays (hkey.key hi hvi), MapKept.run_setObj_map _ hh, Result.andThen, World.putObj]
    · rw [f3, List.getElem?_set] at he
      rw [Array.getElem?_modify] at hm'
      split at he
      · rename_i ej; subst ej
        split at he
        · injection he with he
          subst he
          rw [if_pos rfl, hjm] at hm'
          simp at hm'
          subst hm'
          exact ⟨⟨hi, hks, hsh⟩, hvi, hvx⟩
        · cases he
      · rename_i ej
        rw [if_neg ej] at hm'
        exact hes q e' me' he hm'
end
end Go.Eng

namespace Go.Eng
open Go
noncomputable section
variable {X : Cx} {R : Type}
variable {w0 w w' : World} {S : Sc} {F : Addr → Prop} {ρ : List Hd} {M : List Blk}
theorem news_core {e : TypeId} {ys : List Row} {vss : List (List Value)} {a : Addr} {len c : Nat} (hk : ∀ (i : Nat) row, ys[i]? = some row → koks (X.K e) row = true) (hl : vss.length = ys.length)
    (hvs : ∀ (i : Nat) row vs, ys[i]? = some row → vss[i]? = some vs → RepL X.K ρ F w row vs ∧ CellsAt w (a.add (i * (X.K e).length)) vs) (hone : ∀ (id : Nat) hd, ρ[id]? = some hd → hd.v.oneCell' = true) (hpos : 0 < (X.K e).length) :
    ∃ news : List Value, news.length = ys.length * (X.K e).length ∧ (∀ u ∈ news, u.oneCell' = true) ∧
      (∀ w2 : World, w2.heap = w.heap → (Builtin.firstCells (X.K e).length ys.length (.slice (some a) len c)).run X.P w2 = .ok news.toArray w2) ∧
      ∀ (i : Nat) row, ys[i]? = some row → ∀ (j : Nat) y, row[j]? = some y → ∃ u, news[i * (X.K e).length + j]? = some u ∧ Rep X.K ρ F w y u := by
  have hlen : ∀ (i : Nat) vs, vss[i]? = some vs → vs.length = (X.K e).length := by
    intro i vs hi
    have hil := (List.getElem?_eq_some_iff.1 hi).1
    obtain ⟨⟨r1, _⟩, _⟩ := hvs i (ys[i]'(by omega)) vs (List.getElem?_eq_getElem (by omega)) hi
    rw [r1, koks_length (hk i _ (List.getElem?_eq_getElem (by omega)))]
  have hfl := flat_length vss hlen
  have hplace : ∀ (k : Nat) u, vss.flatten[k]? = some u → ∃ i j, ∃ (row : Row) (vs : List Value) (y : AV), k = i * (X.K e).length + j ∧ ys[i]? = some row ∧ vss[i]? = some vs ∧ row[j]? = some y ∧ vs[j]? = some u := by
    intro k u hku
    have hkl := (List.getElem?_eq_some_iff.1 hku).1
    rw [hfl] at hkl
    have hi : k / (X.K e).length < vss.length := Nat.div_lt_of_lt_mul (by rw [Nat.mul_comm]; exact hkl)
    have hj : k % (X.K e).length < (X.K e).length := Nat.mod_lt _ hpos
    have hkk : k = k / (X.K e).length * (X.K e).length + k % (X.K e).length := by rw [Nat.mul_comm]; exact (Nat.div_add_mod k _).symm
    have hvi : vss[k / (X.K e).length]? = some (vss[k / (X.K e).length]'hi) := List.getElem?_eq_getElem hi
    have hyi : ys[k / (X.K e).length]? = some (ys[k / (X.K e).length]'(by omega)) := List.getElem?_eq_getElem (by omega)
    have hg := flat_get vss hlen _ (k % (X.K e).length) _ hvi hj
    rw [← hkk] at hg
    rw [hku] at hg
    have hrl := koks_length (hk _ _ hyi)
    exact ⟨_, _, _, _, _, hkk, hyi, hvi, List.getElem?_eq_getElem (by rw [hrl]; exact hj), hg.symm⟩
  refine ⟨vss.flatten, by rw [hfl, hl], fun u hu => ?_, fun w2 hw2 => ?_, fun i row hi j y hy => ?_⟩
  · obtain ⟨k, hk'⟩ := List.getElem?_of_mem hu
    obtain ⟨i, j, row, vs, y, _, h1, h2, h3, h4⟩ := hplace k u hk'
    exact oneCell_of_leaf ((hvs i row vs h1 h2).1.2 j y u h3 h4) (koks_leaf (hk i row h1) h3) hone
  · have := run_firstCells_some (P := X.P) w2 (X.K e).length ys.length a len c vss.flatten (by rw [hfl, hl]) (fun k u hku => by
      obtain ⟨i, j, row, vs, y, hkk, h1, h2, h3, h4⟩ := hplace k u hku
      have hc := (hvs i row vs h1 h2).2 j u h4
      rw [Addr.add_add, ← hkk] at hc
      unfold World.cell? at hc ⊢
      rw [hw2]
      exact hc)
    exact this
  · have hil := (List.getElem?_eq_some_iff.1 hi).1
    have hvi : vss[i]? = some (vss[i]'(by omega)) := List.getElem?_eq_getElem (by omega)
    have hj := (List.getElem?_eq_some_iff.1 hy).1
    have hrl := koks_length (hk i row hi)
    obtain ⟨⟨r1, r2⟩, _⟩ := hvs i row _ hi hvi
    have hu : (vss[i]'(by omega))[j]? = some ((vss[i]'(by omega))[j]'(by omega)) := List.getElem?_eq_getElem (by omega)
    exact ⟨_, by rw [flat_get vss hlen i j _ hvi (by omega)]; exact hu, r2 j y _ hy hu⟩
def spl (xs : List Row) (lo : Nat) (zs : List Row) : List Row := xs.take lo ++ zs ++ xs.drop (lo + zs.length)
theorem spl_length {xs zs : List Row} {lo : Nat} (h : lo + zs.length ≤ xs.length) : (spl xs lo zs).length = xs.length := by
  simp [spl]; omega
theorem spl_get {xs zs : List Row} {lo : Nat} (h : lo + zs.length ≤ xs.length) {i : Nat} {row : Row} (hi : (spl xs lo zs)[i]? = some row) :
    (lo ≤ i ∧ i < lo + zs.length ∧ zs[i - lo]? = some row) ∨ ((i < lo ∨ lo + zs.length ≤ i) ∧ xs[i]? = some row) := by
  unfold spl at hi
  by_cases h1 : i < lo
  · rw [List.append_assoc, List.getElem?_append_left (by simp; omega), List.getElem?_take, if_pos h1] at hi
    exact .inr ⟨.inl h1, hi⟩
  · by_cases h2 : i < lo + zs.length
    · rw [List.append_assoc, List.getElem?_append_right (by simp; omega), List.getElem?_append_left (by simp; omega)] at hi
      simp only [List.length_take] at hi
      rw [show i - min lo xs.length = i - lo by omega] at hi
      exact .inl ⟨by omega, h2, hi⟩
    · rw [List.getElem?_append_right (by simp; omega)] at hi
      simp only [List.length_append, List.length_take, List.getElem?_drop] at hi
      rw [show lo + zs.length + (i - (min lo xs.length + zs.length)) = i by omega] at hi
      exact .inr ⟨.inr (by omega), hi⟩
theorem row_splice (hI : Inv X w0 S F ρ M w) {id : Nat} {e : TypeId} {xs : List Row} (hb : M[id]? = some (.row e xs)) {hd : Hd} (hid : ρ[id]? = some hd) {g o c : Nat} {cur : Array Value} (hv : hd.v = .slice (some ⟨g, o, none⟩) xs.length c) (hg : w.heap[g]? = some (.cells cur e (0, 0)))
    (hc1 : xs.length ≤ c) (hc2 : c ≤ maxLen) (hcs : o + c * hd.sz ≤ cur.size) (hcells : ∀ (i : Nat) row, xs[i]? = some row → ∀ (j : Nat) x, row[j]? = some x → ∃ v, cur[o + i * hd.sz + j]? = some v ∧ Rep X.K ρ F w x v)
    {lo : Nat} {zs : List Row} {news : List Value} (hq : lo + zs.length ≤ xs.length) (hkz : ∀ (i : Nat) row, zs[i]? = some row → koks (X.K e) row = true) (hnl : news.length = zs.length * (X.K e).length)
    (hrn : ∀ (i : Nat) row, zs[i]? = some row → ∀ (j : Nat) y, row[j]? = some y → ∃ u, news[i * (X.K e).length + j]? = some u ∧ Rep X.K ρ F w y u) :
    o + lo * hd.sz + news.length ≤ cur.size ∧
    Inv X w0 S F ρ (M.set id (.row e (spl xs lo zs))) (w.setRow g (cur.toList.take (o + lo * hd.sz) ++ news ++ cur.toList.drop (o + lo * hd.sz + news.length)).toArray) ∧
    Grow F F ρ ρ w (w.setRow g (cur.toList.take (o + lo * hd.sz) ++ news ++ cur.toList.drop (o + lo * hd.sz + news.length)).toArray) := by
  obtain ⟨q1, q2, _⟩ := hI.rep id _ hd hb hid
  have hgb : hd.blk? = some g := by simp [Hd.blk?, Value.blk?, hv]
  have hfa : ∀ a, F a → a.block ≠ g := (hI.sep id _ hd g hb rfl hid hgb).2.2
  have hgr := grownBy_setRow w g (cur.toList.take (o + lo * hd.sz) ++ news ++ cur.toList.drop (o + lo * hd.sz + news.length)).toArray
  have hgrow : Grow F F ρ ρ w (w.setRow g (cur.toList.take (o + lo * hd.sz) ++ news ++ cur.toList.drop (o + lo * hd.sz + news.length)).toArray) :=
    ⟨fun _ h => h, fun _ _ h => h, hI.blks hgr (fun k hk a ha => by injection hk with hk; subst hk; exact hfa a ha)⟩
  have hfit : o + lo * hd.sz + news.length ≤ cur.size := by
    rw [hnl, ← q1]
    have h1 : (lo + zs.length) * hd.sz ≤ c * hd.sz := Nat.mul_le_mul_right _ (by omega)
    rw [Nat.add_mul] at h1
    omega
  refine ⟨hfit, hI.write hb rfl hid hgb hgr ?_, hgrow⟩
  have hkk : ∀ (i : Nat) row, (spl xs lo zs)[i]? = some row → koks (X.K e) row = true := by
    intro i row hi
    rcases spl_get hq hi with ⟨_, _, h⟩ | ⟨_, h⟩
    · exact hkz _ row h
    · exact q2 _ row h
  refine ⟨q1, hkk, .inr ⟨g, o, c, _, by rw [spl_length hq]; exact hv, setRow_heap w g cur _ e _ hg, by rw [spl_length hq]; exact hc1, hc2, ?_, fun i row hi j y hy => ?_⟩⟩
  · simp only [List.size_toArray, List.length_append, List.length_take, List.length_drop, Array.length_toList]
    omega
  · have hj := (List.getElem?_eq_some_iff.1 hy).1
    have hrl := koks_length (hkk i row hi)
    rw [← q1] at hrl
    rw [splice_get cur news _ hfit]
    rcases spl_get hq hi with ⟨h1, h2, h⟩ | ⟨h1, h⟩
    · obtain ⟨u, hu1, hu2⟩ := hrn _ row h j y hy
      have hlt := (List.getElem?_eq_some_iff.1 hu1).1
      rw [← q1] at hu1 hlt
      have e0 : (i - lo) * hd.sz = i * hd.sz - lo * hd.sz := Nat.sub_mul _ _ _
      have hge : lo * hd.sz ≤ i * hd.sz := Nat.mul_le_mul_right _ h1
      rw [if_pos (by omega), show o + i * hd.sz + j - (o + lo * hd.sz) = (i - lo) * hd.sz + j by omega]
      exact ⟨u, hu1, hu2.grow hgrow⟩
    · obtain ⟨u, hu1, hu2⟩ := hcells i row h j y hy
      rw [if_neg]
      · exact ⟨u, hu1, hu2.grow hgrow⟩
      · rintro ⟨g1, g2⟩
        rw [hnl, ← q1] at g2
        rcases h1 with h1 | h1
        · have : (i + 1) * hd.sz ≤ lo * hd.sz := Nat.mul_le_mul_right _ (by omega)
          rw [Nat.add_mul, Nat.one_mul] at this
          omega
        · have : (lo + zs.length) * hd.sz ≤ i * hd.sz := Nat.mul_le_mul_right _ h1
          rw [Nat.add_mul] at this
          omega
def cpy (xs : List Row) (lo nd : Nat) (ys : List Row) : List Row := spl xs lo (ys.take nd)
def clr (z : Row) (xs : List Row) (lo n : Nat) : List Row := spl xs lo (List.replicate n z)
theorem cpy_zero (xs : List Row) (lo : Nat) (ys : List Row) : cpy xs lo 0 ys = xs := by simp [cpy, spl]
theorem clr_zero (z : Row) (xs : List Row) (lo : Nat) : clr z xs lo 0 = xs := by simp [clr, spl]
def tgt (M : List Blk) : AV → Option (Nat × Nat × Nat × TypeId × List Row)
  | .own id => match gm M id with | some (.row t xs) => some (id, 0, xs.length, t, xs) | _ => none
  | .vw id lo m => match gm M id with | some (.row t xs) => some (id, lo, m, t, xs) | _ => none
  | _ => none
theorem tgt_spec (hI : Inv X w0 S F ρ M w) {x : AV} {id lo m : Nat} {t : TypeId} {xs : List Row} (h : tgt M x = some (id, lo, m, t, xs)) {v : Value} (hv : Rep X.K ρ F w x v) :
    M[id]? = some (.row t xs) ∧ rdIds x = [id] ∧ ((m = 0 ∧ ((∃ c, v = .slice none 0 c) ∨ ∃ a c, v = .slice (some a) 0 c)) ∨
      ∃ hd g o c cur cap, ρ[id]? = some hd ∧ lo + m ≤ xs.length ∧ v = .slice (some ⟨g, o + lo * hd.sz, none⟩) m cap ∧ hd.v = .slice (some ⟨g, o, none⟩) xs.length c ∧ w.heap[g]? = some (.cells cur t (0, 0)) ∧ xs.length ≤ c ∧ c ≤ maxLen ∧ o + c * hd.sz ≤ cur.size ∧
        ∀ (i : Nat) row, xs[i]? = some row → ∀ (j : Nat) x, row[j]? = some x → ∃ v, cur[o + i * hd.sz + j]? = some v ∧ Rep X.K ρ F w x v) := by
  unfold tgt at h
  simp only [gm_eq] at h
  split at h
  · split at h
    · rename_i hb
      simp only [Option.some.injEq, Prod.mk.injEq] at h
      obtain ⟨rfl, rfl, rfl, rfl, rfl⟩ := h
      cases hv with
      | own _ hd hid =>
        refine ⟨hb, rfl, ?_⟩
        rcases (hI.rep _ _ hd hb hid).2.2 with ⟨h1, h2⟩ | ⟨g, o, c, cur, h1, h2, h3, h4, h5, h6⟩
        · subst h2; exact .inl ⟨rfl, .inl ⟨_, h1⟩⟩
        · exact .inr ⟨hd, g, o, c, cur, c, hid, by omega, by simpa using h1, h1, h2, h3, h4, h5, h6⟩
    · cases h
  · split at h
    · rename_i hb
      simp only [Option.some.injEq, Prod.mk.injEq] at h
      obtain ⟨rfl, rfl, rfl, rfl, rfl⟩ := h
      refine ⟨hb, rfl, ?_⟩
      cases hv with
      | vw _ _ _ hd g o n c cap hid hv hc hbd =>
        rcases (hI.rep _ _ hd hb hid).2.2 with ⟨h1, h2⟩ | ⟨g', o', c', cur, h1, h2, h3, h4, h5, h6⟩
        · rw [hv] at h1; cases h1
        · have h1' := h1
          rw [hv] at h1
          injection h1 with e1 e2 e3
          injection e1 with e1
          injection e1 with e1 e4 e5
          subst e1; subst e4; subst e2
          exact .inr ⟨hd, _, _, _, cur, cap, hid, hbd, rfl, h1', h2, h3, h4, h5, h6⟩
      | vwn => exact .inl ⟨rfl, .inl ⟨_, rfl⟩⟩
      | vws _ _ a cap => exact .inl ⟨rfl, .inr ⟨a, cap, rfl⟩⟩
    · cases h
  · cases h
def evCopy (X : Cx) (ts : List TypeId) (x y : AV) (M : List Blk) (k : AV → List Blk → Option R) : Option R :=
  match ts with
  | [t, _] =>
    match (X.ti t).ok, (X.ti t).u with
    | true, .slice e =>
      match rowsOf M y with
      | some (o, ys) =>
        match tgt M x with
        | some (id, lo, m, t', xs) =>
          tst ((X.ti e).ok && decide (0 < (X.ti e).size) && (match o with | some e' => e == e' | none => ys.isEmpty) && (e == t')) (k (.int .i64 ((min ys.length m : Nat) : Int)) (M.set id (.row t' (cpy xs lo m ys))))
        | none => none
      | none => none
    | _, _ => none
  | _ => none
theorem run_copy {P : Program} {t u ty e : TypeId} {size : Nat} (ht : P.underlying t = some (.slice e)) (hs : ∀ w, (sizeOf e).run P w = .ok size w) {g p m cap l c2 : Nat} {a : Option Addr} {e0 : TypeId} {cur : Array Value} {news : List Value}
    (hg : w.heap[g]? = some (.cells cur e0 (0, 0))) (hf : (Builtin.firstCells size (min l m) (.slice a l c2)).run P w = .ok news.toArray w) (h1 : ∀ u ∈ news, u.oneCell' = true) (hfit : p + news.length ≤ cur.size) :
    (Builtin.copy_ #[t, u] ty #[.slice (some ⟨g, p, none⟩) m cap, .slice a l c2]).run P w = .ok (.int .i64 ((min l m : Nat) : Int)) (w.setRow g (cur.toList.take p ++ news ++ cur.toList.drop (p + news.length)).toArray) := by
  have hst := run_storeCells_at P g p e0 news 0 cur w hg (by simpa using hfit) h1
  simp only [Nat.add_zero] at hst
  have hf' : (Builtin.firstCells size (Nat.min l m) (.slice a l c2)).run P w = .ok news.toArray w := hf
  simp [Builtin.copy_, run_underlying ht, Builtin.lenOf, hs, hf', hst, goInt]
theorem run_copy_none {P : Program} {t u ty e : TypeId} {size : Nat} (ht : P.underlying t = some (.slice e)) (hs : ∀ w, (sizeOf e).run P w = .ok size w) {b : Option Addr} {cap l c2 : Nat} {a : Option Addr} :
    (Builtin.copy_ #[t, u] ty #[.slice b 0 cap, .slice a l c2]).run P w = .ok (.int .i64 0) w := by
  have hf : (Builtin.firstCells size 0 (.slice a l c2)).run P w = .ok #[] w := by cases a <;> simp [Builtin.firstCells, loadCells, loadCellsFrom]
  have hz : Nat.min l 0 = 0 := Nat.min_zero l
  cases b <;> simp [Builtin.copy_, run_underlying ht, Builtin.lenOf, hs, hz, hf, goInt, storeCells]
theorem evCopy_sound (hX : X.Okb) {ts : List TypeId} {ty : TypeId} {x y : AV} {k : AV → List Blk → Option R} {r : R} (h : evCopy X ts x y M k = some r) :
    ∃ z M', k z M' = some r ∧ Agree (rdIds x) M M' ∧ ∀ {vx vy : Value}, Does X M z M' (fun ρ F w => Rep X.K ρ F w x vx ∧ Rep X.K ρ F w y vy) (Builtin.copy_ ts.toArray ty #[vx, vy]) := by
  unfold evCopy at h
  split at h
  · rename_i t u
    split at h
    · rename_i e hok hu
      split at h
      · rename_i o ys hrow
        split at h
        · rename_i id lo m t' xs htg
          replace h := tst_some h
          obtain ⟨h1, h⟩ := h
          simp only [Bool.and_eq_true, decide_eq_true_eq, beq_iff_eq] at h1
          obtain ⟨⟨⟨he, hpos⟩, hoe⟩, rfl⟩ := h1
          obtain ⟨i, d, z, f⟩ := hX.facts hok
          obtain ⟨i2, d2, z2, f2⟩ := hX.facts he
          have ht := f.slice hu
          have hsz : (X.K e).length = (X.ti e).size := by rw [f2.size]; exact f2.ks
          have ho : o = some e ∨ (o = none ∧ ys = []) := by
            cases o with
            | none => exact .inr ⟨rfl, by simpa using hoe⟩
            | some e' => left; simp only [beq_iff_eq] at hoe; rw [hoe]
          have hag : Agree (rdIds x) M (M.set id (.row e (cpy xs lo m ys))) := by
            refine (Agree.set M id _).mono (fun j hj => ?_)
            simp only [List.mem_singleton] at hj
            subst hj
            unfold tgt at htg
            split at htg
            · split at htg
              · simp only [Option.some.injEq, Prod.mk.injEq] at htg; simp [rdIds, htg.1]
              · cases htg
            · split at htg
              · simp only [Option.some.injEq, Prod.mk.injEq] at htg; simp [rdIds, htg.1]
              · cases htg
            · cases htg
          refine ⟨_, _, h, hag, fun {vx vy w0 S F ρ w} hI hh => ?_⟩
          obtain ⟨hvx, hvy⟩ := hh
          obtain ⟨hb, _, hcase⟩ := tgt_spec hI htg hvx
          have hself : cpy xs lo m ys = xs → M.set id (.row e (cpy xs lo m ys)) = M := by
            intro e1
            rw [e1]
            refine List.ext_getElem? fun j => ?_
            rw [List.getElem?_set]
            split
            · rename_i hj; subst hj
              have := (List.getElem?_eq_some_iff.1 hb).1
              rw [if_pos this, hb]
            · rfl
          have hls : ∃ a c2, vy = .slice a ys.length c2 := rowsOf_len hI hrow hvy
          obtain ⟨a, c2, rfl⟩ := hls
          rcases hcase with ⟨rfl, hv⟩ | ⟨hd, g, o', c, cur, cap, hid, hlm, rfl, hdv, hg, h3, h4, h5, h6⟩
          · have e1 := cpy_zero xs lo ys
            rw [hself e1]
            refine ⟨.int .i64 0, w, ρ, F, ?_, hI, Grow.refl _ _ _, by simpa using Rep.int .i64 0⟩
            rcases hv with ⟨c, rfl⟩ | ⟨a', c, rfl⟩
            · exact run_copy_none ht f2.sizeOf
            · exact run_copy_none ht f2.sizeOf
          · -- the cells of the source
            have hnews : ∃ news : List Value, news.length = (ys.take m).length * (X.K e).length ∧ (∀ u ∈ news, u.oneCell' = true) ∧ (Builtin.firstCells (X.K e).length (min ys.length m) (.slice a ys.length c2)).run X.P w = .ok news.toArray w ∧
                (∀ (i : Nat) row, (ys.take m)[i]? = some row → koks (X.K e) row = true) ∧ ∀ (i : Nat) row, (ys.take m)[i]? = some row → ∀ (j : Nat) y, row[j]? = some y → ∃ u, news[i * (X.K e).length + j]? = some u ∧ Rep X.K ρ F w y u := by
              have hmin : (ys.take m).length = min ys.length m := by rw [List.length_take, Nat.min_comm]
              have htk : ∀ (i : Nat) row, (ys.take m)[i]? = some row → i < m ∧ ys[i]? = some row := by
                intro i row hi
                rw [List.getElem?_take] at hi
                split at hi
                · exact ⟨by assumption, hi⟩
                · cases hi
              rcases ho with rfl | ⟨rfl, rfl⟩
              · obtain ⟨hk, hc⟩ := rowsOf_cells hI hrow hvy
                rcases hc with ⟨hv, rfl⟩ | ⟨a', c', hv, vss, hl, hvs⟩
                · injection hv with e1 e2 e3
                  subst e1
                  exact ⟨[], by simp, by simp, by simp [Builtin.firstCells], fun i row hi => by simp at hi, fun i row hi => by simp at hi⟩
                · injection hv with e1 e2 e3
                  subst e1
                  obtain ⟨news, n1, n2, n3, n4⟩ := news_core (X := X) (ρ := ρ) (F := F) (w := w) (e := e) (ys := ys.take m) (vss := vss.take m) (a := a') (len := ys.length) (c := c2) (fun i row hi => hk i row (htk i row hi).2) (by rw [List.length_take, List.length_take, hl])
                    (fun i row vs hi hvi => by
                      obtain ⟨him, hi'⟩ := htk i row hi
                      rw [List.getElem?_take, if_pos him] at hvi
                      exact hvs i row vs hi' hvi) hI.one (by rw [hsz]; exact hpos)
                  rw [hmin] at n3
                  exact ⟨news, n1, n2, n3 w rfl, fun i row hi => hk i row (htk i row hi).2, n4⟩
              · refine ⟨[], by simp, by simp, ?_, fun i row hi => by simp at hi, fun i row hi => by simp at hi⟩
                simp only [List.length_nil, Nat.zero_min]
                cases a <;> simp [Builtin.firstCells, loadCells, loadCellsFrom]
            obtain ⟨news, n1, n2, n3, n4, n5⟩ := hnews
            have hq : lo + (ys.take m).length ≤ xs.length := by rw [List.length_take]; omega
            obtain ⟨hfit, i1, g1⟩ := row_splice hI hb hid hdv hg h3 h4 h5 h6 hq n4 n1 n5
            rw [hsz] at n3
            exact ⟨_, _, ρ, F, run_copy ht f2.sizeOf hg n3 n2 hfit, i1, g1, .int _ _⟩
        · cases h
      · cases h
    · cases h
  · cases h
def evClear (X : Cx) (ts : List TypeId) (x : AV) (M : List Blk) (k : AV → List Blk → Option R) : Option R :=
  match ts with
  | [t] =>
    match (X.ti t).ok, (X.ti t).u with
    | true, .slice e =>
      match tgt M x with
      | some (id, lo, m, t', xs) => tst ((X.ti e).ok && decide (0 < (X.ti e).size) && koks (X.K e) (zrow X e) && (e == t')) (k (.tup []) (M.set id (.row t' (clr (zrow X e) xs lo m))))
      | none => none
    | _, _ => none
  | _ => none
theorem run_clear {P : Program} {t ty e : TypeId} {z : Value} (ht : P.underlying t = some (.slice e)) (hz : ∀ w, (zeroValue e).run P w = .ok z w) {g p m cap : Nat} {e0 : TypeId} {cur : Array Value}
    (hg : w.heap[g]? = some (.cells cur e0 (0, 0))) (hm : 0 < m) (h1 : ∀ u ∈ (Builtin.zeroCells z.cells m).toList, u.oneCell' = true) (hfit : p + (Builtin.zeroCells z.cells m).toList.length ≤ cur.size) :
    (Builtin.clear_ #[t] ty #[.slice (some ⟨g, p, none⟩) m cap]).run P w = .ok (.tuple #[]) (w.setRow g (cur.toList.take p ++ (Builtin.zeroCells z.cells m).toList ++ cur.toList.drop (p + (Builtin.zeroCells z.cells m).toList.length)).toArray) := by
  have hst := run_storeCells_at P g p e0 (Builtin.zeroCells z.cells m).toList 0 cur w hg (by simpa using hfit) h1
  simp only [Nat.add_zero] at hst
  obtain ⟨n, rfl⟩ := Nat.exists_eq_succ_of_ne_zero (Nat.pos_iff_ne_zero.1 hm)
  simp only [Builtin.clear_, List.getElem?_toArray, List.getElem?_cons_zero, Sem.run_bind, run_underlying ht, Result.andThen_ok, hz, hst, Sem.run_pure]
theorem evClear_sound (hX : X.Okb) {ts : List TypeId} {ty : TypeId} {x : AV} {k : AV → List Blk → Option R} {r : R} (h : evClear X ts x M k = some r) :
    ∃ z M', k z M' = some r ∧ Agree (rdIds x) M M' ∧ ∀ {vx : Value}, Does X M z M' (fun ρ F w => Rep X.K ρ F w x vx) (Builtin.clear_ ts.toArray ty #[vx]) := by
  unfold evClear at h
  split at h
  · rename_i t
    split at h
    · rename_i e hok hu
      split at h
      · rename_i id lo m t' xs htg
        replace h := tst_some h
        obtain ⟨h1, h⟩ := h
        simp only [Bool.and_eq_true, decide_eq_true_eq, beq_iff_eq] at h1
        obtain ⟨⟨⟨he, hpos⟩, hkz⟩, rfl⟩ := h1
        obtain ⟨i, d, z, f⟩ := hX.facts hok
        obtain ⟨i2, d2, z2, f2⟩ := hX.facts he
        have ht := f.slice hu
        have hsz : (X.K e).length = (X.ti e).size := by rw [f2.size]; exact f2.ks
        have hag : Agree (rdIds x) M (M.set id (.row e (clr (zrow X e) xs lo m))) := by
          refine (Agree.set M id _).mono (fun j hj => ?_)
          simp only [List.mem_singleton] at hj
          subst hj
          unfold tgt at htg
          split at htg
          · split at htg
            · simp only [Option.some.injEq, Prod.mk.injEq] at htg; simp [rdIds, htg.1]
            · cases htg
          · split at htg
            · simp only [Option.some.injEq, Prod.mk.injEq] at htg; simp [rdIds, htg.1]
            · cases htg
          · cases htg
        have hrt : ∀ {ρ : List Hd} {F : Addr → Prop} {w : World}, Rep X.K ρ F w (.tup []) (.tuple #[]) := .tup [] [] rfl (fun j x v h _ => by simp at h)
        refine ⟨_, _, h, hag, fun {vx w0 S F ρ w} hI hvx => ?_⟩
        obtain ⟨hb, _, hcase⟩ := tgt_spec hI htg hvx
        have hzero : ∀ {b : Option Addr} {cap : Nat}, (Builtin.clear_ #[t] ty #[.slice b 0 cap]).run X.P w = .ok (.tuple #[]) w := by
          intro b cap
          cases b <;> simp [Builtin.clear_, run_underlying ht]
        by_cases hm : m = 0
        · subst hm
          have hself : M.set id (.row e (clr (zrow X e) xs lo 0)) = M := by
            rw [clr_zero]
            refine List.ext_getElem? fun j => ?_
            rw [List.getElem?_set]
            split
            · rename_i hj; subst hj
              have := (List.getElem?_eq_some_iff.1 hb).1
              rw [if_pos this, hb]
            · rfl
          rw [hself]
          refine ⟨.tuple #[], w, ρ, F, ?_, hI, Grow.refl _ _ _, hrt⟩
          rcases hcase with ⟨_, ⟨c, rfl⟩ | ⟨a, c, rfl⟩⟩ | ⟨hd, g, o', c, cur, cap, hid, hlm, rfl, _⟩
          · exact hzero
          · exact hzero
          · exact hzero
        · rcases hcase with ⟨e0, _⟩ | ⟨hd, g, o', c, cur, cap, hid, hlm, rfl, hdv, hg, h3, h4, h5, h6⟩
          · exact absurd e0 hm
          · have hzs : z2.cells.size = i2.size := f2.zs
            have hzl : z2.cells.toList.length = (X.K e).length := by rw [hsz, f2.size, ← hzs]; simp
            have hzeros : (Builtin.zeroCells z2.cells m).toList = (List.replicate m z2.cells.toList).flatten := zeros_eq z2.cells (by rw [hzs, ← f2.size]; exact hpos) m
            have hrz : RepL X.K ρ F w (zrow X e) z2.cells.toList := repL_zrow f2
            have hvl : ∀ (i : Nat) vs, (List.replicate m z2.cells.toList)[i]? = some vs → vs.length = (X.K e).length := by
              intro i vs hi
              rw [List.getElem?_replicate] at hi
              split at hi
              · injection hi with hi; subst hi; exact hzl
              · cases hi
            have hnl : (Builtin.zeroCells z2.cells m).toList.length = (List.replicate m (zrow X e)).length * (X.K e).length := by
              rw [hzeros, flat_length _ hvl]; simp
            have hone : ∀ u ∈ (Builtin.zeroCells z2.cells m).toList, u.oneCell' = true := by
              intro u hu
              rw [hzeros] at hu
              obtain ⟨l, hl, hul⟩ := List.mem_flatten.1 hu
              rw [List.eq_of_mem_replicate hl] at hul
              obtain ⟨j, hj⟩ := List.getElem?_of_mem hul
              have hjl := (List.getElem?_eq_some_iff.1 hj).1
              have hx : (zrow X e)[j]? = some ((zrow X e)[j]'(by rw [koks_length hkz, ← hzl]; exact hjl)) := List.getElem?_eq_getElem _
              exact oneCell_of_leaf (hrz.2 j _ u hx hj) (koks_leaf hkz hx) hI.one
            have hq : lo + (List.replicate m (zrow X e)).length ≤ xs.length := by simpa using hlm
            obtain ⟨hfit, i1, g1⟩ := row_splice hI hb hid hdv hg h3 h4 h5 h6 hq (fun i row hi => by
              rw [List.getElem?_replicate] at hi
              split at hi
              · injection hi with hi; subst hi; exact hkz
              · cases hi) hnl (fun i row hi j y hy => by
              rw [List.getElem?_replicate] at hi
              split at hi
              · rename_i him
                injection hi with hi
                subst hi
                have hj := (List.getElem?_eq_some_iff.1 hy).1
                have hrl := koks_length hkz
                have hv : z2.cells.toList[j]? = some (z2.cells.toList[j]'(by omega)) := List.getElem?_eq_getElem (by omega)
                refine ⟨_, ?_, hrz.2 j y _ hy hv⟩
                rw [hzeros, flat_get _ hvl i j z2.cells.toList (by rw [List.getElem?_replicate, if_pos him]) (by omega)]
                exact hv
              · cases hi)
            exact ⟨_, _, ρ, F, run_clear ht f2.zeroValue hg (Nat.pos_of_ne_zero hm) hone hfit, i1, g1, hrt⟩
      · cases h
    · cases h
  · cases h
end
end Go.Eng

namespace Go.Eng
open Go
noncomputable section
variable {X : Cx} {R : Type}
variable {w0 w w' : World} {S : Sc} {F : Addr → Prop} {ρ : List Hd} {M : List Blk}
theorem Inv.newVarP (hI : Inv X w0 S F ρ M w) {ks : List Kind} {cs : List AV} (hk : koks ks cs = true) {cur : Array Value} (hr : RepL X.K ρ F w cs (cur.toList.take cs.length)) (e : TypeId) (hy : X.tyB ks e = true) (hf : X.fitB ks cur.size cs.length) (hg : w.grownBy w' none) (hsz : w'.heap.size = w.heap.size) :
    Inv X w0 S F (ρ ++ [⟨.slice (some ⟨w.heap.size, 0, none⟩) 1 1, cs.length⟩]) (M ++ [.var ks cs]) (w'.alloc (.cells cur e)) ∧
    Grow F F ρ (ρ ++ [⟨.slice (some ⟨w.heap.size, 0, none⟩) 1 1, cs.length⟩]) w (w'.alloc (.cells cur e)) := by
  have hgr : w.grownBy (w'.alloc (.cells cur e)) none := ⟨hg.os, hg.tape, hg.output, by simp; omega, fun k hk _ => (Go.RowKit.Below.heap_alloc w' _ k (by omega)).trans (hg.block k hk (by simp))⟩
  have hgrow : Grow F F ρ (ρ ++ [⟨.slice (some ⟨w.heap.size, 0, none⟩) 1 1, cs.length⟩]) w (w'.alloc (.cells cur e)) :=
    ⟨fun _ h => h, fun _ _ h => getElem?_append_old h, hI.blks hgr (by simp)⟩
  refine ⟨hI.push hgr (hd := ⟨.slice (some ⟨w.heap.size, 0, none⟩) 1 1, cs.length⟩) ?_ rfl ?_, hgrow⟩
  · intro g hg'
    simp [Hd.blk?, Value.blk?] at hg'
    subst hg'
    simp; omega
  · exact ⟨hk, rfl, w.heap.size, cur, e, rfl, by rw [← hsz]; exact heap_alloc_new w' _, hr.grow hgrow, hy, hf⟩
def evAppV (X : Cx) (ts : List TypeId) (s x : AV) (M : List Blk) : Option (AV × List Blk) :=
  match ts, s, x with
  | [t, u], .nilsl, .vsl id m => (match (X.ti t).ok, (X.ti t).u, (X.ti u).ok, (X.ti u).u, gm M id with
    | true, .slice e, true, .slice _, some (.var ks cs) =>
      (match (X.ti e).ok && decide (0 < (X.ti e).size) && decide (0 < (X.ti e).bytes) && decide (cs.length = m * (X.ti e).size) && decide (0 < m) && decide (m * (X.ti e).bytes ≤ 140737488355328) && koks ks cs && X.tyB ks e && (match X.ub with | none => true | some u => !decide (ks = u.ks)) with
       | true => some (.vsl M.length m, M ++ [.var ks cs])
       | false => none)
    | _, _, _, _, _ => none)
  | _, _, _ => none
theorem evAppV_sound (hX : X.Okb) {ts : List TypeId} {ty : TypeId} {s x y : AV} {M' : List Blk} (h : evAppV X ts s x M = some (y, M')) :
    Agree (ownIds s) M M' ∧ ∀ {vs vx : Value}, Does X M y M' (fun ρ F w => Rep X.K ρ F w s vs ∧ Rep X.K ρ F w x vx) (Builtin.append_ ts.toArray ty #[vs, vx]) := by
  unfold evAppV at h
  simp only [gm_eq] at h
  split at h
  · rename_i t u id m
    split at h
    · rename_i e u2 ks cs hok hu hok2 hu2 hb
      split at h
      · rename_i hc
        simp only [Bool.and_eq_true, decide_eq_true_eq] at hc
        obtain ⟨⟨⟨⟨⟨⟨⟨⟨he, hpos⟩, hby⟩, hlen⟩, hm⟩, hbd⟩, hk⟩, hty⟩, hub⟩ := hc
        injection h with h; injection h with h1 h2
        subst h1; subst h2
        obtain ⟨i, d, z, f⟩ := hX.facts hok
        obtain ⟨i2, d2, z2, f2⟩ := hX.facts he
        obtain ⟨i3, d3, z3, f3⟩ := hX.facts hok2
        have ht := f.slice hu
        have hu' := f3.slice hu2
        have hsz : (X.ti e).size = i2.size := f2.size
        refine ⟨Agree.push _ _ _, fun {vs vx w0 S F ρ w} hI hh => ?_⟩
        obtain ⟨hs, hx⟩ := hh
        cases hs
        cases hx with
        | vsl _ _ hd g o n c cap hid hv =>
          obtain ⟨_, _, g', cur, e', hv', hg, hr, hy⟩ := hI.rep _ _ _ hb hid
          rw [hv] at hv'
          injection hv' with e1 e2 e3
          injection e1 with e1
          injection e1 with e1 e4 e5
          subst e1; subst e4
          have hnl : (cur.toList.take cs.length).length = m * i2.size := by rw [← hsz, ← hlen]; exact hr.1
          have hf0 : (Builtin.firstCells i2.size m (.slice (some ⟨g, 0, none⟩) m cap)).run X.P w.drew = .ok (cur.toList.take cs.length).toArray w.drew := by
            refine run_firstCells_some w.drew i2.size m ⟨g, 0, none⟩ m cap (cur.toList.take cs.length) hnl fun j v hj => ?_
            rw [Addr.add_lit, Nat.zero_add]
            have hg2 : w.drew.heap[g]? = some (.cells cur e' (0, 0)) := hg
            rw [cell_of_row w.drew g j cur e' (0, 0) hg2]
            rw [List.getElem?_take] at hj
            split at hj
            · simpa using hj
            · cases hj
          have hrun := run_append_new (P := X.P) (w := w) (ty := ty) (b := none) (n := 0) (c := 0) (olds := []) ht ⟨_, hu', .inr ⟨_, rfl⟩⟩ f2.info f2.zero (by simp [Builtin.firstCells]) (v := .slice (some ⟨g, 0, none⟩) m cap) (m := m) rfl hf0 (by omega)
            (by have := Nat.le_mul_of_pos_right m hby; exact le_maxLen (by omega)) (by rw [Nat.zero_add, nextslicecap_zero (by omega), ← f2.bytes]; omega)
          simp only [Nat.zero_add, List.nil_append] at hrun
          have hnew := hI.newVarP (w' := w.drew) hk (cur := (#[] : Array Value) ++ (cur.toList.take cs.length).toArray ++ Builtin.zeroCells z2.cells (grownCap w m 0 e - m)) (by
            have : ((#[] : Array Value) ++ (cur.toList.take cs.length).toArray ++ Builtin.zeroCells z2.cells (grownCap w m 0 e - m)).toList.take cs.length = cur.toList.take cs.length := by
              simp only [Array.toList_append, List.nil_append]
              rw [List.take_append_of_le_length (Nat.le_of_eq hr.1.symm), List.take_of_length_le (Nat.le_of_eq hr.1)]
            rw [this]; exact hr) e hty (fun u hu2 hk2 => by rw [hu2] at hub; simp [hk2] at hub) ⟨rfl, rfl, rfl, Nat.le_refl _, fun _ _ _ => rfl⟩ rfl
          refine ⟨_, _, _, F, hrun, hnew.1, hnew.2, ?_⟩
          exact .vsl _ _ ⟨.slice (some ⟨w.heap.size, 0, none⟩) 1 1, cs.length⟩ _ _ 1 1 _ (by rw [← hI.len]; simp) rfl
      · cases h
    · cases h
  · cases h
end
end Go.Eng

namespace Go.Eng
open Go
noncomputable section
variable {X : Cx} {R : Type}
variable {w0 w w' : World} {S : Sc} {F : Addr → Prop} {ρ : List Hd} {M : List Blk}
def fen (rd : Option Nat) : Fence := { Fence.wide with round := rd }
theorem fen_fn (rd : Option Nat) (f : FuncId) : (fen rd).fn f := trivial
theorem fen_room (rd : Option Nat) (n : Nat) : (fen rd).room n := fun _ h => by simp [fen, Fence.wide] at h
def OpRuns (X : Cx) (o : Oper) (e : Operand → AV) (M : List Blk) (x : AV) (M' : List Blk) : Prop :=
  ∀ {rd : Option Nat} {n : Nat} {w0 : World} {S : Sc} {F : Addr → Prop} {ρ : List Hd} {w : World} {a : Act} {next : Act → World → Prop} {Q : Exit → Act → World → Prop}, Inv X w0 S F ρ M w → (∀ y, Rep X.K ρ F w (e y) (a.eval y)) →
    (∀ v w' ρ' F', Inv X w0 S F' ρ' M' w' → Grow F F' ρ ρ' w w' → Rep X.K ρ' F' w' x v → next (a.put o.dst v) w') → o.wpIn (fen rd) n X.P a w next Q
def ACalls (X : Cx) (f : FuncId) (args : List AV) (M : List Blk) (x : AV) (M' : List Blk) : Prop :=
  (∀ (vs : Array Value) (w : World), (callFunc f vs).run X.P w = .ok (.enter f vs) w) ∧
  ∀ {w0 : World} {S : Sc} {F : Addr → Prop} {ρ : List Hd} {w : World} {vs : List Value}, Inv X w0 S F ρ M w → RepL X.K ρ F w args vs →
    Calls X.P f vs.toArray w (fun e w' => ∃ v ρ' F', e = .returned v ∧ Inv X w0 S F' ρ' M' w' ∧ Grow F F' ρ ρ' w w' ∧ Rep X.K ρ' F' w' x v)
def AYields (X : Cx) (id : Nat) (args : List AV) (M : List Blk) (x : AV) (M' : List Blk) : Prop :=
  ∀ {rd : Option Nat} {n : Nat} {w0 : World} {S : Sc} {F : Addr → Prop} {ρ : List Hd} {w : World} {vs : List Value} {hd : Hd} {g : Nat}, Inv X w0 S F ρ M w → RepL X.K ρ F w args vs → ρ[id]? = some hd → hd.v = .pointer (some ⟨g, 0, none⟩) →
    ∃ f tmps ag body, (Instr.yield g vs.toArray).run X.P w = .ok (.round g f tmps ag body) w ∧
      RoundIn (fen rd) n X.P g f tmps ag body w (fun e w' => ∃ v ρ' F', e = .returned v ∧ Inv X w0 S F' ρ' M' w' ∧ Grow F F' ρ ρ' w w' ∧ Rep X.K ρ' F' w' x v)
structure Nt where
  n : Nat
  mask : Nat
structure Tab (R : Type) where
  nt : Nt
  wr : FuncId → List AV → List Blk → Option (List Nat)
  call : FuncId → List AV → List Blk → (AV → List Blk → Option R) → Option R
  yield : Nat → List AV → List Blk → (AV → List Blk → Option R) → Option R
structure Tab.CallOk (X : Cx) (T : Tab R) : Prop where
  call : ∀ {f args M k r}, T.call f args M k = some r → ∃ x M', ACalls X f args M x M' ∧ k x M' = some r ∧ ∀ ids, T.wr f args M = some ids → Agree ids M M'
  yield : ∀ {id args M k r}, T.yield id args M k = some r → ∃ x M', AYields X id args M x M' ∧ k x M' = some r
def evv (X : Cx) (env : List (Nat × AV)) : Operand → AV
  | .tmp t => look env t
  | .const v => constAV v
  | .global g => X.glob g
  | .func f => .clos f [] []
theorem evv_rep (hI : Inv X w0 S F ρ M w) {env : List (Nat × AV)} {a : Act} (h : EnvRep X ρ F w env a.tmps) (y : Operand) : Rep X.K ρ F w (evv X env y) (a.eval y) := by
  cases y with
  | tmp t => exact h t
  | const v => exact rep_constAV _ _ _ _ v
  | global g => exact hI.glob g
  | func f => exact .clos f [] [] [] [] rfl rfl (fun j x v h _ => by simp at h) (fun j x v h _ => by simp at h)
def evUn (op : UnOp) (x : AV) (k : AV → Option R) : Option R :=
  match op, x with
  | .not, .bool b => k (.bool (!b))
  | .neg, .int kd n => k (.int kd (kd.wrap (0 - n)))
  | .xor, .int kd n => k (.int kd (kd.wrap (BitVec.ofInt kd.bits (if kd.signed then -1 else kd.max) ^^^ BitVec.ofInt kd.bits n).toNat))
  | _, _ => none
def evConv (X : Cx) (s d : TypeId) (x : AV) (k : AV → Option R) : Option R :=
  match (X.ti s).ok, (X.ti d).ok, (X.ti d).u, x with
  | true, true, .int kd, .int _ n => k (.int kd (kd.wrap n))
  | _, _, _, _ => none
def evNilCheck (x : AV) (k : AV → Option R) : Option R :=
  match x with
  | .ptr _ _ _ => k x
  | .iptr _ _ _ => k x
  | .clos _ _ _ => k x
  | _ => none
def vwIs (X : Cx) (o : Oper) (x : AV) (mx : Option Operand) : Bool := match x, o.dst, mx with | .own _, some d, none => X.vw d o.type | _, _, _ => false
def mkN (X : Cx) (o : Oper) (t : TypeId) : Bool := match o.dst with | some d => X.vw d t | none => false
def evop0 (X : Cx) (T : Tab R) (e : Operand → AV) (o : Oper) (M : List Blk) (k : AV → List Blk → Option R) : Option R :=
  match o.op with
  | .move x => k (e x) M
  | .assign x => k (e x) M
  | .pick c a b => match e c with | .bool t => (match t with | true => k (e a) M | false => k (e b) M) | _ => none
  | .alloc t => evAlloc X t M k
  | .box t x => evBox X t (e x) M k
  | .build t ps => evBuild X t (ps.toList.map fun p => (p.1, e p.2)) fun y => k y M
  | .buildSlice t n ps => match impPs (ps.toList.map fun p => (p.1, e p.2)) with | true => evBuildVar X t n (ps.toList.map fun p => (p.1, e p.2)) M k | false => evBuildSlice X t n (ps.toList.map fun p => (p.1, e p.2)) M k
  | .load t x => evLoad X t (e x) M fun y => k y M
  | .store t x y => evStore X t (e x) (e y) M fun M' => k (.tup []) M'
  | .nilCheck x => evNilCheck (e x) fun y => k y M
  | .binOp op t x y _ => evBin X op t (e x) (e y) fun z => k z M
  | .unOp op _ x => evUn op (e x) fun z => k z M
  | .convert s d x => evConv X s d (e x) fun z => k z M
  | .fieldAddr t x f => evFieldAddr X t (e x) f fun y => k y M
  | .field t x f => evField X t (e x) f fun y => k y M
  | .indexAddr t x i => evIndexAddr X t (e x) (e i) M fun y => k y M
  | .index t x i => evIndex X t (e x) (e i) fun y => k y M
  | .slice t x lo hi mx => match vwIs X o (e x) mx with | true => evView X t (e x) (lo.map e) (hi.map e) M fun y => k y M | false => evSlice X t (e x) (lo.map e) (hi.map e) (mx.map e) M k
  | .makeSlice t l c => match mkN X o t with | true => evMakeN X t (e l) (e c) M k | false => evMakeSlice X t (e l) (e c) M k
  | .extract x i => match e x with | .tup vs => (match vs[i]? with | some y => k y M | none => none) | _ => none
  | .makeFunc (.func f) first caps => k (.clos f (first.toList.map e) (caps.toList.map e)) M
  | .call c =>
    match c.callee with
    | .value f =>
      match e f with
      | .clos g first caps => T.call g (first ++ c.args.toList.map e ++ caps) M k
      | .yld id => T.yield id (c.args.toList.map e) M fun x M' => tst (Nat.ble M.length M'.length) (k x M')
      | _ => none
    | .builtin .len => match c.argTypes.toList, c.args.toList with | [t], [x] => evLen X t (e x) M fun y => k y M | _, _ => none
    | .builtin .min => evMin imin (c.args.toList.map e) fun y => k y M
    | .builtin .max => evMin imax (c.args.toList.map e) fun y => k y M
    | .builtin .append => match c.args.toList with | [s, x] => (match evAppV X c.argTypes.toList (e s) (e x) M with | some p => k p.1 p.2 | none => evAppend X c.argTypes.toList (e s) (e x) M k) | _ => none
    | .builtin .copy => match c.args.toList with | [s, x] => evCopy X c.argTypes.toList (e s) (e x) M k | _ => none
    | .builtin .clear => match c.args.toList with | [s] => evClear X c.argTypes.toList (e s) M k | _ => none
    | _ => none
  | .makeMap t r => match r with | none => evMakeMap X t M k | some _ => none
  | .lookup t x i ok => evLookup X t (e x) (e i) ok M fun y => k y M
  | .mapUpdate t m i x => evMapUpdate X t (e m) (e i) (e x) M fun M' => k (.tup []) M'
  | .insert t m i x => evMapUpdate X t (e m) (e i) (e x) M fun M' => k (.tup []) M'
  | _ => none
def wrIds (T : Tab R) (e : Operand → AV) (o : Oper) (M : List Blk) : Option (List Nat) :=
  match o.op with
  | .alloc _ => some []
  | .box _ _ => some []
  | .makeSlice _ _ _ => some []
  | .buildSlice _ _ ps => some ((ps.toList.map fun p => (p.1, e p.2)).flatMap fun p => p.2.cells.flatMap ownIds)
  | .store _ x y => some (ptrIds (e x) ++ (e y).cells.flatMap ownIds)
  | .slice _ x _ _ _ => some (ownIds (e x))
  | .call c =>
    match c.callee with
    | .value f =>
      match e f with
      | .clos g first caps => T.wr g (first ++ c.args.toList.map e ++ caps) M
      | .yld _ => some (List.range M.length)
      | _ => none
    | .builtin .append => match c.args.toList with | [s, _] => some (ownIds (e s)) | _ => none
    | .builtin .copy => match c.args.toList with | [s, _] => some (rdIds (e s)) | _ => none
    | .builtin .clear => match c.args.toList with | [s] => some (rdIds (e s)) | _ => none
    | .builtin .unsafeSliceData => some []
    | .builtin .unsafeString => match c.args.toList with | [p, _] => some (ptrIds (e p)) | _ => none
    | _ => none
  | .makeMap _ _ => some []
  | .mapUpdate _ m _ _ => some (mpIds (e m))
  | .insert _ m _ _ => some (mpIds (e m))
  | _ => none
theorem wpIn_of_value {o : Oper} (hd : ∀ c, o.op ≠ .defer c) {rd : Option Nat} {n : Nat} {a : Act} {next : Act → World → Prop} {Q : Exit → Act → World → Prop} {v : Value} (h : (execOp a.eval o).run X.P w = .ok (.value v) w') (hn : next (a.put o.dst v) w') :
    o.wpIn (fen rd) n X.P a w next Q := by
  refine ⟨fun _ _ => trivial, ?_⟩
  rw [Oper.semAt_eq _ _ _ hd, h]
  exact hn
theorem wpIn_of_skip {o : Oper} (hd : ∀ c, o.op ≠ .defer c) {rd : Option Nat} {n : Nat} {a : Act} {next : Act → World → Prop} {Q : Exit → Act → World → Prop} (h : (execOp a.eval o).run X.P w = .ok .skip w') (hn : next (a.put o.dst undef) w') :
    o.wpIn (fen rd) n X.P a w next Q := by
  refine ⟨fun _ _ => trivial, ?_⟩
  rw [Oper.semAt_eq _ _ _ hd, h]
  exact hn
theorem OpRuns.of_val {o : Oper} (hd : ∀ c, o.op ≠ .defer c) {e : Operand → AV} {x : AV} {s : (Operand → Value) → Sem Value} (hs : ∀ ρe, execOp ρe o = (do pure (.value (← s ρe)) : Sem Next))
    (h : ∀ {w0 : World} {S : Sc} {F : Addr → Prop} {ρ : List Hd} {w : World} {ρe : Operand → Value}, Inv X w0 S F ρ M w → (∀ y, Rep X.K ρ F w (e y) (ρe y)) → ∃ v, (s ρe).run X.P w = .ok v w ∧ Rep X.K ρ F w x v) : OpRuns X o e M x M := by
  intro rd n w0 S F ρ w a next Q hI hr hn
  obtain ⟨v, h1, h2⟩ := h hI hr
  exact wpIn_of_value hd (by rw [hs, Sem.run_bind, h1]; rfl) (hn v w ρ F hI (Grow.refl _ _ _) h2)
theorem OpRuns.of_does {o : Oper} (hd : ∀ c, o.op ≠ .defer c) {e : Operand → AV} {x : AV} {M' : List Blk} {s : (Operand → Value) → Sem Value} (hs : ∀ ρe, execOp ρe o = (do pure (.value (← s ρe)) : Sem Next))
    (h : ∀ {w0 : World} {S : Sc} {F : Addr → Prop} {ρ : List Hd} {w : World} {ρe : Operand → Value}, Inv X w0 S F ρ M w → (∀ y, Rep X.K ρ F w (e y) (ρe y)) → ∃ v w' ρ' F', (s ρe).run X.P w = .ok v w' ∧ Inv X w0 S F' ρ' M' w' ∧ Grow F F' ρ ρ' w w' ∧ Rep X.K ρ' F' w' x v) : OpRuns X o e M x M' := by
  intro rd n w0 S F ρ w a next Q hI hr hn
  obtain ⟨v, w', ρ', F', h1, h2, h3, h4⟩ := h hI hr
  exact wpIn_of_value hd (by rw [hs, Sem.run_bind, h1]; rfl) (hn v w' ρ' F' h2 h3 h4)
theorem repL_map {e : Operand → AV} {ρe : Operand → Value} (hr : ∀ y, Rep X.K ρ F w (e y) (ρe y)) (xs : List Operand) : RepL X.K ρ F w (xs.map e) (xs.map ρe) := by
  refine ⟨by simp, fun j x v hx hv => ?_⟩
  rw [List.getElem?_map] at hx hv
  cases h : xs[j]? with
  | none => rw [h] at hx; cases hx
  | some y =>
    rw [h] at hx hv
    simp only [Option.map_some, Option.some.injEq] at hx hv
    subst hx; subst hv
    exact hr y
theorem RepL.append {xs ys : List AV} {vs us : List Value} (h : RepL X.K ρ F w xs vs) (k : RepL X.K ρ F w ys us) : RepL X.K ρ F w (xs ++ ys) (vs ++ us) := by
  refine ⟨by simp [h.1, k.1], fun j x v hx hv => ?_⟩
  by_cases hj : j < xs.length
  · rw [List.getElem?_append_left hj] at hx
    rw [List.getElem?_append_left (by rw [h.1]; exact hj)] at hv
    exact h.2 j x v hx hv
  · rw [List.getElem?_append_right (by omega)] at hx
    rw [List.getElem?_append_right (by rw [h.1]; omega), h.1] at hv
    exact k.2 _ x v hx hv
theorem orep_map {e : Operand → AV} {ρe : Operand → Value} (hr : ∀ y, Rep X.K ρ F w (e y) (ρe y)) (o : Option Operand) : ORep X.K ρ F w (o.map e) (o.map ρe) := by
  cases o with
  | none => trivial
  | some y => exact hr y
set_option maxHeartbeats 1600000 in
theorem evop0_sound (hX : X.Okb) {T : Tab R} (hT : T.CallOk X) {e : Operand → AV} {o : Oper} {k : AV → List Blk → Option R} {r : R} (h : evop0 X T e o M k = some r) :
    ∃ x M', OpRuns X o e M x M' ∧ k x M' = some r ∧ ∀ ids, wrIds T e o M = some ids → Agree ids M M' := by
  unfold evop0 at h
  split at h
  · rename_i x ho
    exact ⟨_, _, OpRuns.of_val (s := fun ρe => pure (ρe x)) (by simp [ho]) (fun ρe => by simp [execOp, ho]) (fun {w0 S F ρ w ρe} hI hr => ⟨_, rfl, hr x⟩), h, fun ids hi => by simp [wrIds, ho] at hi⟩
  · rename_i x ho
    exact ⟨_, _, OpRuns.of_val (s := fun ρe => pure (ρe x)) (by simp [ho]) (fun ρe => by simp [execOp, ho]) (fun {w0 S F ρ w ρe} hI hr => ⟨_, rfl, hr x⟩), h, fun ids hi => by simp [wrIds, ho] at hi⟩
  · rename_i c a b ho
    split at h
    · rename_i t hc
      have hsem : ∀ ρe, execOp ρe o = (do pure (.value (if ← asBool (ρe c) then ρe a else ρe b)) : Sem Next) := fun ρe => by simp [execOp, ho]
      split at h
      · refine ⟨_, _, fun {rd n w0 S F ρ w act next Q} hI hr hn => ?_, h, fun ids hi => by simp [wrIds, ho] at hi⟩
        have h1 := hr c
        rw [hc] at h1
        generalize hv : act.eval c = vc at h1
        cases h1
        exact wpIn_of_value (by simp [ho]) (by rw [hsem, hv]; rfl) (hn _ w ρ F hI (Grow.refl _ _ _) (hr a))
      · refine ⟨_, _, fun {rd n w0 S F ρ w act next Q} hI hr hn => ?_, h, fun ids hi => by simp [wrIds, ho] at hi⟩
        have h1 := hr c
        rw [hc] at h1
        generalize hv : act.eval c = vc at h1
        cases h1
        exact wpIn_of_value (by simp [ho]) (by rw [hsem, hv]; rfl) (hn _ w ρ F hI (Grow.refl _ _ _) (hr b))
    · cases h
  · rename_i t ho
    obtain ⟨x, M', h, hag, hd⟩ := evAlloc_sound hX h
    exact ⟨x, M', OpRuns.of_does (s := fun _ => Instr.alloc t true (.tuple #[])) (by simp [ho]) (fun ρe => by simp [execOp, ho]) (fun {w0 S F ρ w ρe} hI hr => hd hI trivial), h, fun ids hi => by simp only [wrIds, ho, Option.some.injEq] at hi; subst hi; exact hag⟩
  · rename_i t x ho
    obtain ⟨y, M', h, hag, hd⟩ := evBox_sound h
    exact ⟨y, M', OpRuns.of_does (s := fun ρe => Instr.box t (ρe x)) (by simp [ho]) (fun ρe => by simp [execOp, ho]) (fun {w0 S F ρ w ρe} hI hr => hd (ρe x) hI (hr x)), h, fun ids hi => by simp only [wrIds, ho, Option.some.injEq] at hi; subst hi; exact hag⟩
  · rename_i t ps ho
    obtain ⟨y, h, hd⟩ := evBuild_sound (M := M) hX h
    refine ⟨y, M, OpRuns.of_val (s := fun ρe => Instr.build t (ps.map fun (i, x) => (i, ρe x))) (by simp [ho]) (fun ρe => by simp [execOp, ho]) (fun {w0 S F ρ w ρe} hI hr => ?_), h, fun ids hi => by simp [wrIds, ho] at hi⟩
    obtain ⟨u, h1, h2⟩ := hd (ps.toList.map fun p => (p.1, ρe p.2)) hI (by simp) (fun j p q hp hq => by
      rw [List.getElem?_map] at hp hq
      cases hj : ps.toList[j]? with
      | none => rw [hj] at hp; cases hp
      | some z =>
        rw [hj] at hp hq
        simp only [Option.map_some, Option.some.injEq] at hp hq
        subst hp; subst hq
        exact ⟨rfl, hr z.2⟩)
    refine ⟨u, ?_, h2⟩
    have : (ps.map fun (i, x) => (i, ρe x)) = (ps.toList.map fun p => (p.1, ρe p.2)).toArray := by apply Array.ext'; simp
    rw [this]
    exact h1
  · rename_i t n ps ho
    split at h
    · obtain ⟨y, M', h, hag, hd⟩ := evBuildVar_sound hX h
      refine ⟨y, M', OpRuns.of_does (s := fun ρe => Instr.buildSlice t n (ps.map fun (i, x) => (i, ρe x))) (by simp [ho]) (fun ρe => by simp [execOp, ho]) (fun {w0 S F ρ w ρe} hI hr => ?_), h, fun ids hi => by simp only [wrIds, ho, Option.some.injEq] at hi; subst hi; exact hag.mono (fun i hi => by cases hi)⟩
      have := hd (ps.toList.map fun p => (p.1, ρe p.2)) hI (by simp) (fun j p q hp hq => by
        rw [List.getElem?_map] at hp hq
        cases hj : ps.toList[j]? with
        | none => rw [hj] at hp; cases hp
        | some z =>
          rw [hj] at hp hq
          simp only [Option.map_some, Option.some.injEq] at hp hq
          subst hp; subst hq
          exact ⟨rfl, hr z.2⟩)
      have e1 : (ps.map fun (i, x) => (i, ρe x)) = (ps.toList.map fun p => (p.1, ρe p.2)).toArray := by apply Array.ext'; simp
      rw [e1]
      exact this
    · obtain ⟨y, M', h, hag, hd⟩ := evBuildSlice_sound hX h
      refine ⟨y, M', OpRuns.of_does (s := fun ρe => Instr.buildSlice t n (ps.map fun (i, x) => (i, ρe x))) (by simp [ho]) (fun ρe => by simp [execOp, ho]) (fun {w0 S F ρ w ρe} hI hr => ?_), h, fun ids hi => by simp only [wrIds, ho, Option.some.injEq] at hi; subst hi; exact hag⟩
      have := hd (ps.toList.map fun p => (p.1, ρe p.2)) hI (by simp) (fun j p q hp hq => by
        rw [List.getElem?_map] at hp hq
        cases hj : ps.toList[j]? with
        | none => rw [hj] at hp; cases hp
        | some z =>
          rw [hj] at hp hq
          simp only [Option.map_some, Option.some.injEq] at hp hq
          subst hp; subst hq
          exact ⟨rfl, hr z.2⟩)
      have e1 : (ps.map fun (i, x) => (i, ρe x)) = (ps.toList.map fun p => (p.1, ρe p.2)).toArray := by apply Array.ext'; simp
      rw [e1]
      obtain ⟨v, w', ρ', F', h1, h2, h3, h4, _⟩ := this
      exact ⟨v, w', ρ', F', h1, h2, h3, h4⟩
  · rename_i t x ho
    obtain ⟨y, h, hd⟩ := evLoad_sound hX h
    exact ⟨y, M, OpRuns.of_val (s := fun ρe => Instr.loadAt t (ρe x)) (by simp [ho]) (fun ρe => by simp [execOp, ho]) (fun {w0 S F ρ w ρe} hI hr => hd hI (hr x)), h, fun ids hi => by simp [wrIds, ho] at hi⟩
  · rename_i t x y ho
    obtain ⟨M', h, hag, hd⟩ := evStore_sound hX h
    refine ⟨_, M', fun {rd n w0 S F ρ w act next Q} hI hr hn => ?_, h, fun ids hi => by simp only [wrIds, ho, Option.some.injEq] at hi; subst hi; exact hag⟩
    obtain ⟨w', F', h1, h2, h3⟩ := hd hI (hr x) (hr y)
    refine wpIn_of_skip (by simp [ho]) (w' := w') ?_ (hn undef w' ρ F' h2 h3 (.tup [] [] rfl (fun j x v h _ => by simp at h)))
    simp [execOp, ho, h1]
  · rename_i x ho
    unfold evNilCheck at h
    have core : ∀ (hp : ∀ {ρ : List Hd} {F : Addr → Prop} {w : World} {v : Value}, Rep X.K ρ F w (e x) v → (∃ a, v = .pointer (some a)) ∨ ∃ f c1 c2, v = .func (.func f) c1 c2), k (e x) M = some r → ∃ y M', OpRuns X o e M y M' ∧ k y M' = some r ∧ ∀ ids, wrIds T e o M = some ids → Agree ids M M' := by
      intro hp h
      refine ⟨_, _, fun {rd n w0 S F ρ w act next Q} hI hr hn => ?_, h, fun ids hi => by simp [wrIds, ho] at hi⟩
      have h1 := hr x
      refine wpIn_of_value (by simp [ho]) (v := act.eval x) (w' := w) ?_ (hn _ w ρ F hI (Grow.refl _ _ _) h1)
      rcases hp h1 with ⟨a, hv⟩ | ⟨f, c1, c2, hv⟩ <;> simp [execOp, ho, hv]
    split at h
    · rename_i id i off hx
      exact core (fun {ρ F w v} hv => by rw [hx] at hv; cases hv; exact .inl ⟨_, rfl⟩) h
    · rename_i t row off hx
      exact core (fun {ρ F w v} hv => by rw [hx] at hv; cases hv; exact .inl ⟨_, rfl⟩) h
    · rename_i f c1 c2 hx
      exact core (fun {ρ F w v} hv => by rw [hx] at hv; cases hv; exact .inr ⟨_, _, _, rfl⟩) h
    · cases h
  · rename_i op t x y u ho
    obtain ⟨z, h, hd⟩ := evBin_sound (a := x) (b := y) (u := u) hX h
    exact ⟨z, M, OpRuns.of_val (s := fun ρe => (do eqGuard op t x y (ρe x) (ρe y); binOp op t (ρe x) (ρe y))) (by simp [ho]) (fun ρe => by simp [execOp, ho]) (fun {w0 S F ρ w ρe} hI hr => hd ρ F w _ _ (hr x) (hr y)), h, fun ids hi => by simp [wrIds, ho] at hi⟩
  · rename_i op t x ho
    unfold evUn at h
    split at h
    · rename_i b hx
      refine ⟨_, M, OpRuns.of_val (s := fun ρe => Op.unary .not (ρe x)) (by simp [ho]) (fun ρe => by simp [execOp, ho]) (fun {w0 S F ρ w ρe} hI hr => ?_), h, fun ids hi => by simp [wrIds, ho] at hi⟩
      have h1 := hr x
      rw [hx] at h1
      generalize ρe x = vx at h1
      cases h1
      exact ⟨_, rfl, .bool _⟩
    · rename_i kd n hx
      refine ⟨_, M, OpRuns.of_val (s := fun ρe => Op.unary .neg (ρe x)) (by simp [ho]) (fun ρe => by simp [execOp, ho]) (fun {w0 S F ρ w ρe} hI hr => ?_), h, fun ids hi => by simp [wrIds, ho] at hi⟩
      have h1 := hr x
      rw [hx] at h1
      generalize ρe x = vx at h1
      cases h1
      exact ⟨_, rfl, .int _ _⟩
    · rename_i kd n hx
      refine ⟨_, M, OpRuns.of_val (s := fun ρe => Op.unary .xor (ρe x)) (by simp [ho]) (fun ρe => by simp [execOp, ho]) (fun {w0 S F ρ w ρe} hI hr => ?_), h, fun ids hi => by simp [wrIds, ho] at hi⟩
      have h1 := hr x
      rw [hx] at h1
      generalize ρe x = vx at h1
      cases h1
      exact ⟨_, rfl, .int _ _⟩
    · cases h
  · rename_i s d x ho
    unfold evConv at h
    split at h
    · rename_i kd k0 n h1 h2 h3 hx
      obtain ⟨i1, d1, z1, f1⟩ := hX.facts h1
      obtain ⟨i2, d2, z2, f2⟩ := hX.facts h2
      have hund := f2.intK h3
      refine ⟨_, M, OpRuns.of_val (s := fun ρe => convert s d (ρe x)) (by simp [ho]) (fun ρe => by simp [execOp, ho]) (fun {w0 S F ρ w ρe} hI hr => ?_), h, fun ids hi => by simp [wrIds, ho] at hi⟩
      have h4 := hr x
      rw [hx] at h4
      generalize ρe x = vx at h4
      cases h4
      refine ⟨.int kd (kd.wrap n), ?_, .int _ _⟩
      unfold convert
      simp only [Sem.run_bind, run_underlying f1.und, run_underlying hund, Result.andThen_ok, Conv.intToInt, Sem.run_pure]
    · cases h
  · rename_i t x f ho
    obtain ⟨y, h, hd⟩ := evFieldAddr_sound hX h
    exact ⟨y, M, OpRuns.of_val (s := fun ρe => Instr.fieldAt t (ρe x) f) (by simp [ho]) (fun ρe => by simp [execOp, ho]) (fun {w0 S F ρ w ρe} hI hr => hd (hr x)), h, fun ids hi => by simp [wrIds, ho] at hi⟩
  · rename_i t x f ho
    obtain ⟨y, h, hd⟩ := evField_sound hX h
    exact ⟨y, M, OpRuns.of_val (s := fun ρe => Instr.field t (ρe x) f) (by simp [ho]) (fun ρe => by simp [execOp, ho]) (fun {w0 S F ρ w ρe} hI hr => hd (hr x)), h, fun ids hi => by simp [wrIds, ho] at hi⟩
  · rename_i t x i ho
    obtain ⟨y, h, hd⟩ := evIndexAddr_sound hX h
    exact ⟨y, M, OpRuns.of_val (s := fun ρe => Instr.indexAt t (ρe x) (ρe i)) (by simp [ho]) (fun ρe => by simp [execOp, ho]) (fun {w0 S F ρ w ρe} hI hr => hd hI (hr x) (hr i)), h, fun ids hi => by simp [wrIds, ho] at hi⟩
  · rename_i t x i ho
    obtain ⟨y, h, hd⟩ := evIndex_sound hX h
    exact ⟨y, M, OpRuns.of_val (s := fun ρe => Instr.index t (ρe x) (ρe i)) (by simp [ho]) (fun ρe => by simp [execOp, ho]) (fun {w0 S F ρ w ρe} hI hr => hd (hr x) (hr i)), h, fun ids hi => by simp [wrIds, ho] at hi⟩
  · rename_i t x lo hi mx ho
    split at h
    · rename_i hvw
      have hmx : mx = none := by
        unfold vwIs at hvw
        split at hvw
        · rfl
        · cases hvw
      obtain ⟨y, h, hd⟩ := evView_sound hX h
      exact ⟨y, M, OpRuns.of_val (s := fun ρe => Instr.sliceAt t (ρe x) (lo.map ρe) (hi.map ρe) none) (by simp [ho]) (fun ρe => by simp [execOp, ho, hmx]) (fun {w0 S F ρ w ρe} hI hr => hd hI (hr x) (orep_map hr lo) (orep_map hr hi)), h, fun ids hi => Agree.refl _ _⟩
    obtain ⟨y, M', h, hag, hd⟩ := evSlice_sound hX h
    exact ⟨y, M', OpRuns.of_does (s := fun ρe => Instr.sliceAt t (ρe x) (lo.map ρe) (hi.map ρe) (mx.map ρe)) (by simp [ho]) (fun ρe => by simp [execOp, ho]) (fun {w0 S F ρ w ρe} hI hr => hd hI ⟨hr x, orep_map hr lo, orep_map hr hi, orep_map hr mx⟩), h, fun ids hi => by simp only [wrIds, ho, Option.some.injEq] at hi; subst hi; exact hag⟩
  · rename_i t l c ho
    split at h
    · rename_i hmk
      obtain ⟨y, M', h, hag, hd⟩ := evMakeN_sound hX h
      exact ⟨y, M', OpRuns.of_does (s := fun ρe => Instr.makeSlice t (ρe l) (ρe c)) (by simp [ho]) (fun ρe => by simp [execOp, ho]) (fun {w0 S F ρ w ρe} hI hr => hd hI ⟨hr l, hr c⟩), h, fun ids hi => by simp [wrIds, ho] at hi; subst hi; exact hag⟩
    obtain ⟨y, M', h, hag, hd⟩ := evMakeSlice_sound hX h
    exact ⟨y, M', OpRuns.of_does (s := fun ρe => Instr.makeSlice t (ρe l) (ρe c)) (by simp [ho]) (fun ρe => by simp [execOp, ho]) (fun {w0 S F ρ w ρe} hI hr => hd hI ⟨hr l, hr c⟩), h, fun ids hi => by simp only [wrIds, ho, Option.some.injEq] at hi; subst hi; exact hag⟩
  · rename_i x i ho
    split at h
    · rename_i vs hx
      split at h
      · rename_i y hy
        refine ⟨y, M, OpRuns.of_val (s := fun ρe => Instr.extract (ρe x) i) (by simp [ho]) (fun ρe => by simp [execOp, ho]) (fun {w0 S F ρ w ρe} hI hr => ?_), h, fun ids hi => by simp [wrIds, ho] at hi⟩
        have h1 := hr x
        rw [hx] at h1
        generalize ρe x = vx at h1
        cases h1 with
        | tup _ us hl hu =>
          have hi := (List.getElem?_eq_some_iff.1 hy).1
          have hui : us[i]? = some (us[i]'(by omega)) := List.getElem?_eq_getElem (by omega)
          refine ⟨us[i]'(by omega), ?_, hu i y _ hy hui⟩
          unfold Instr.extract
          simp only [List.getElem?_toArray, hui, Sem.run_pure]
      · cases h
    · cases h
  · rename_i f first caps ho
    refine ⟨_, M, OpRuns.of_val (s := fun ρe => Instr.makeFunc (.func f) (first.map ρe) (caps.map ρe)) (by simp [ho]) (fun ρe => by simp [execOp, ho]) (fun {w0 S F ρ w ρe} hI hr => ⟨_, rfl, ?_⟩), h, fun ids hi => by simp [wrIds, ho] at hi⟩
    have h1 := repL_map hr first.toList
    have h2 := repL_map hr caps.toList
    have := Rep.clos (K := X.K) (ρ := ρ) (F := F) (w := w) f _ _ _ _ h1.1 h2.1 h1.2 h2.2
    have e1 : (first.toList.map ρe).toArray = first.map ρe := by apply Array.ext'; simp
    have e2 : (caps.toList.map ρe).toArray = caps.map ρe := by apply Array.ext'; simp
    rw [e1, e2] at this
    exact this
  · rename_i c ho
    split at h
    · rename_i f hcal
      split at h
      · rename_i g first caps hf
        obtain ⟨x, M', ⟨hc1, hc2⟩, h, hag⟩ := hT.call h
        refine ⟨x, M', fun {rd n w0 S F ρ w act next Q} hI hr hn => ?_, h, fun ids hi => hag ids (by simpa only [wrIds, ho, hcal, hf] using hi)⟩
        have h1 := hr f
        rw [hf] at h1
        generalize hv : act.eval f = vf at h1
        cases h1 with
        | clos _ _ _ v1 v2 hl1 hl2 r1 r2 =>
          have hargs : RepL X.K ρ F w (first ++ c.args.toList.map e ++ caps) (v1 ++ c.args.toList.map act.eval ++ v2) := (RepL.append ⟨hl1, r1⟩ (repL_map hr _)).append ⟨hl2, r2⟩
          have hcall := hc2 hI hargs
          have e1 : (v1.toArray ++ c.args.map act.eval) ++ v2.toArray = (v1 ++ c.args.toList.map act.eval ++ v2).toArray := by apply Array.ext'; simp
          refine ⟨fun _ _ => trivial, ?_⟩
          rw [Oper.semAt_eq _ _ _ (by simp [ho])]
          have hrun : (execOp act.eval o).run X.P w = .ok (.enter g (v1 ++ c.args.toList.map act.eval ++ v2).toArray) w := by
            simp only [execOp, ho, resolve, hcal, hv, Deferred.ofValue, Sem.run_bind, Sem.run_pure, Result.andThen_ok, invoke]
            rw [e1]
            exact hc1 _ _
          rw [hrun]
          refine ⟨fun hd => by simp [fen, Fence.wide] at hd, ?_⟩
          have hin : CallsIn Fence.wide (n - 1) X.P g (v1 ++ c.args.toList.map act.eval ++ v2).toArray w (fun e w' => ∃ v ρ' F', e = .returned v ∧ Inv X w0 S F' ρ' M' w' ∧ Grow F F' ρ ρ' w w' ∧ Rep X.K ρ' F' w' x v) := callsIn_wide.2 hcall
          have hin2 : CallsIn (fen rd) (n - 1) X.P g (v1 ++ c.args.toList.map act.eval ++ v2).toArray w (fun e w' => ∃ v ρ' F', e = .returned v ∧ Inv X w0 S F' ρ' M' w' ∧ Grow F F' ρ ρ' w w' ∧ Rep X.K ρ' F' w' x v) := hin
          refine hin2.mono ?_
          rintro en w' ⟨v, ρ', F', rfl, h3, h4, h5⟩
          exact hn v w' ρ' F' h3 h4 h5
      · rename_i id hf
        obtain ⟨x, M', hy, h⟩ := hT.yield h
        replace h := tst_some h
        obtain ⟨hble, h⟩ := h
        refine ⟨x, M', fun {rd n w0 S F ρ w act next Q} hI hr hn => ?_, h, fun ids hi => by
          simp only [wrIds, ho, hcal, hf, Option.some.injEq] at hi
          subst hi
          exact ⟨Nat.le_of_ble_eq_true hble, fun i hi hn => absurd (List.mem_range.2 hi) hn⟩⟩
        have h1 := hr f
        rw [hf] at h1
        generalize hv : act.eval f = vf at h1
        cases h1 with
        | yld _ hd g hid hhd =>
          obtain ⟨fn, tmps, ag, body, h2, h3⟩ := hy (rd := rd) (n := n - 1) hI (repL_map hr c.args.toList) hid hhd
          refine ⟨fun _ _ => trivial, ?_⟩
          rw [Oper.semAt_eq _ _ _ (by simp [ho])]
          have hrun : (execOp act.eval o).run X.P w = .ok (.round g fn tmps ag body) w := by
            simp only [execOp, ho, resolve, hcal, hv, Deferred.ofValue, Sem.run_bind, Sem.run_pure, Result.andThen_ok, invoke]
            have e1 : #[] ++ c.args.map act.eval = (c.args.toList.map act.eval).toArray := by apply Array.ext'; simp
            rw [e1]
            exact h2
          rw [hrun]
          refine ⟨fun hd => by simp [fen, Fence.wide] at hd, ?_⟩
          refine h3.mono ?_
          rintro en w' ⟨v, ρ', F', rfl, h4, h5, h6⟩
          exact hn v w' ρ' F' h4 h5 h6
      · cases h
    · rename_i hcal
      split at h
      · rename_i t x ht hx
        have e1 : c.argTypes = #[t] := by apply Array.ext'; simpa using ht
        have e2 : c.args = #[x] := by apply Array.ext'; simpa using hx
        obtain ⟨y, h, hd⟩ := evLen_sound (ty := o.type) hX h
        exact ⟨y, M, OpRuns.of_val (s := fun ρe => Builtin.len_ #[t] o.type #[ρe x]) (by simp [ho]) (fun ρe => by simp [execOp, ho, resolve, hcal, invoke, builtin, e1, e2]) (fun {w0 S F ρ w ρe} hI hr => hd hI (hr x)), h, fun ids hi => by simp [wrIds, ho, hcal] at hi⟩
      · cases h
    · rename_i hcal
      obtain ⟨y, h, hd⟩ := evMin_min (P := X.P) (K := X.K) h
      refine ⟨y, M, OpRuns.of_val (s := fun ρe => Builtin.min_ c.argTypes o.type (c.args.map ρe)) (by simp [ho]) (fun ρe => by simp [execOp, ho, resolve, hcal, invoke, builtin]) (fun {w0 S F ρ w ρe} hI hr => ?_), h, fun ids hi => by simp [wrIds, ho, hcal] at hi⟩
      have e1 : c.args.map ρe = (c.args.toList.map ρe).toArray := by apply Array.ext'; simp
      rw [e1]
      exact hd _ _ (repL_map hr _)
    · rename_i hcal
      obtain ⟨y, h, hd⟩ := evMin_max (P := X.P) (K := X.K) h
      refine ⟨y, M, OpRuns.of_val (s := fun ρe => Builtin.max_ c.argTypes o.type (c.args.map ρe)) (by simp [ho]) (fun ρe => by simp [execOp, ho, resolve, hcal, invoke, builtin]) (fun {w0 S F ρ w ρe} hI hr => ?_), h, fun ids hi => by simp [wrIds, ho, hcal] at hi⟩
      have e1 : c.args.map ρe = (c.args.toList.map ρe).toArray := by apply Array.ext'; simp
      rw [e1]
      exact hd _ _ (repL_map hr _)
    · rename_i hcal
      split at h
      · rename_i s x hx
        have e2 : c.args = #[s, x] := by apply Array.ext'; simpa using hx
        have h' : ∃ y M', k y M' = some r ∧ Agree (ownIds (e s)) M M' ∧ ∀ {vs vx : Value}, Does X M y M' (fun ρ F w => Rep X.K ρ F w (e s) vs ∧ Rep X.K ρ F w (e x) vx) (Builtin.append_ c.argTypes.toList.toArray o.type #[vs, vx]) := by
          split at h
          · rename_i p hp
            have := evAppV_sound (ty := o.type) (y := p.1) (M' := p.2) hX hp
            exact ⟨_, _, h, this.1, fun {vs vx} => this.2⟩
          · exact evAppend_sound (ty := o.type) hX h
        obtain ⟨y, M', h, hag, hd⟩ := h'
        refine ⟨y, M', OpRuns.of_does (s := fun ρe => Builtin.append_ c.argTypes o.type #[ρe s, ρe x]) (by simp [ho]) (fun ρe => by simp [execOp, ho, resolve, hcal, invoke, builtin, e2]) (fun {w0 S F ρ w ρe} hI hr => ?_), h, fun ids hi => by simp only [wrIds, ho, hcal, hx, Option.some.injEq] at hi; subst hi; exact hag⟩
        have := hd hI ⟨hr s, hr x⟩
        simpa using this
      · cases h
    · rename_i hcal
      split at h
      · rename_i s x hx
        have e2 : c.args = #[s, x] := by apply Array.ext'; simpa using hx
        obtain ⟨y, M', h, hag, hd⟩ := evCopy_sound (ty := o.type) hX h
        refine ⟨y, M', OpRuns.of_does (s := fun ρe => Builtin.copy_ c.argTypes o.type #[ρe s, ρe x]) (by simp [ho]) (fun ρe => by simp [execOp, ho, resolve, hcal, invoke, builtin, e2]) (fun {w0 S F ρ w ρe} hI hr => ?_), h, fun ids hi => by simp only [wrIds, ho, hcal, hx, Option.some.injEq] at hi; subst hi; exact hag⟩
        have := hd hI ⟨hr s, hr x⟩
        simpa using this
      · cases h
    · rename_i hcal
      split at h
      · rename_i s hx
        have e2 : c.args = #[s] := by apply Array.ext'; simpa using hx
        obtain ⟨y, M', h, hag, hd⟩ := evClear_sound (ty := o.type) hX h
        refine ⟨y, M', OpRuns.of_does (s := fun ρe => Builtin.clear_ c.argTypes o.type #[ρe s]) (by simp [ho]) (fun ρe => by simp [execOp, ho, resolve, hcal, invoke, builtin, e2]) (fun {w0 S F ρ w ρe} hI hr => ?_), h, fun ids hi => by simp only [wrIds, ho, hcal, hx, Option.some.injEq] at hi; subst hi; exact hag⟩
        have := hd hI (hr s)
        simpa using this
      · cases h
    · cases h
  · rename_i t r' ho
    split at h
    · obtain ⟨x, M', h, hag, hd⟩ := evMakeMap_sound hX h
      exact ⟨x, M', OpRuns.of_does (s := fun _ => Instr.makeMap t none) (by simp [ho]) (fun ρe => by simp [execOp, ho]) (fun {w0 S F ρ w ρe} hI hr => hd hI trivial), h, fun ids hi => by simp only [wrIds, ho, Option.some.injEq] at hi; subst hi; exact hag⟩
    · cases h
  · rename_i t x i ok ho
    obtain ⟨y, h, hd⟩ := evLookup_sound hX h
    exact ⟨y, M, OpRuns.of_val (s := fun ρe => Instr.lookup t (ρe x) (ρe i) ok) (by simp [ho]) (fun ρe => by simp [execOp, ho]) (fun {w0 S F ρ w ρe} hI hr => hd hI (hr x) (hr i)), h, fun ids hi => by simp [wrIds, ho] at hi⟩
  · rename_i t m i x ho
    obtain ⟨M', h, hag, hd⟩ := evMapUpdate_sound hX h
    refine ⟨_, M', fun {rd n w0 S F ρ w act next Q} hI hr hn => ?_, h, fun ids hi => by simp only [wrIds, ho, Option.some.injEq] at hi; subst hi; exact hag⟩
    obtain ⟨w', F', h1, h2, h3⟩ := hd hI (hr m) (hr i) (hr x)
    refine wpIn_of_skip (by simp [ho]) (w' := w') ?_ (hn undef w' ρ F' h2 h3 (.tup [] [] rfl (fun j x v h _ => by simp at h)))
    simp [execOp, ho, h1]
  · rename_i t m i x ho
    obtain ⟨M', h, hag, hd⟩ := evMapUpdate_sound hX h
    refine ⟨_, M', fun {rd n w0 S F ρ w act next Q} hI hr hn => ?_, h, fun ids hi => by simp only [wrIds, ho, Option.some.injEq] at hi; subst hi; exact hag⟩
    obtain ⟨w', F', h1, h2, h3⟩ := hd hI (hr m) (hr i) (hr x)
    refine wpIn_of_skip (by simp [ho]) (w' := w') ?_ (hn undef w' ρ F' h2 h3 (.tup [] [] rfl (fun j x v h _ => by simp at h)))
    simp [execOp, ho, h1]
  · cases h
section
variable {α : Type}
def fzN (n : Nat) (k : Nat → Option R) : Option R := match n with | 0 => k 0 | m + 1 => k (Nat.succ m)
def fzI (n : Int) (k : Int → Option R) : Option R := match n with | .ofNat m => fzN m fun m => k (.ofNat m) | .negSucc m => fzN m fun m => k (.negSucc m)
theorem fzN_eq (n : Nat) (k : Nat → Option R) : fzN n k = k n := by cases n <;> rfl
theorem fzI_eq (n : Int) (k : Int → Option R) : fzI n k = k n := by cases n <;> (unfold fzI; exact fzN_eq _ fun _ => _)
noncomputable def fzL (f : α → (α → Option R) → Option R) (l : List α) : (List α → Option R) → Option R :=
  List.rec (motive := fun _ => (List α → Option R) → Option R) (fun k => k []) (fun x _ ih k => f x fun x' => ih fun l' => k (x' :: l')) l
theorem fzL_eq {f : α → (α → Option R) → Option R} (hf : ∀ x k, f x k = k x) : ∀ (l : List α) (k : List α → Option R), fzL f l k = k l
  | [], _ => rfl
  | x :: l, k => by
    show f x (fun x' => fzL f l fun l' => k (x' :: l')) = k (x :: l)
    rw [hf, fzL_eq hf l]
def fz0 (x : AV) (k : AV → Option R) : Option R :=
  match x with
  | .int kd n => fzI n fun n => k (.int kd n)
  | .bool b => (match b with | true => k (.bool true) | false => k (.bool false))
  | .ptr id i off => fzN id fun id => fzN i fun i => fzN off fun off => k (.ptr id i off)
  | .own id => fzN id fun id => k (.own id)
  | .yld id => fzN id fun id => k (.yld id)
  | .mp id => fzN id fun id => k (.mp id)
  | .vsl id n => fzN id fun id => fzN n fun n => k (.vsl id n)
  | .vw id lo n => fzN id fun id => fzN lo fun lo => fzN n fun n => k (.vw id lo n)
  | x => k x
theorem fz0_eq (x : AV) (k : AV → Option R) : fz0 x k = k x := by
  cases x <;> simp only [fz0, fzI_eq, fzN_eq]
  split <;> rfl
noncomputable def fz1 (x : AV) (k : AV → Option R) : Option R :=
  match x with
  | .agg cs => fzL fz0 cs fun cs => k (.agg cs)
  | .clos f a b => fzL fz0 a fun a => fzL fz0 b fun b => k (.clos f a b)
  | x => fz0 x k
theorem fz1_eq (x : AV) (k : AV → Option R) : fz1 x k = k x := by
  unfold fz1
  split
  · exact fzL_eq fz0_eq _ _
  · rw [fzL_eq fz0_eq, fzL_eq fz0_eq]
  · exact fz0_eq _ _
noncomputable def fz2 (x : AV) (k : AV → Option R) : Option R :=
  match x with
  | .tup cs => fzL fz1 cs fun cs => k (.tup cs)
  | x => fz1 x k
theorem fz2_eq (x : AV) (k : AV → Option R) : fz2 x k = k x := by
  unfold fz2
  split
  · exact fzL_eq fz1_eq _ _
  · exact fz1_eq _ _
noncomputable def fzE (e : AV × AV) (k : AV × AV → Option R) : Option R := fz0 e.1 fun a => fz1 e.2 fun b => k (a, b)
theorem fzE_eq (e : AV × AV) (k : AV × AV → Option R) : fzE e k = k e := by unfold fzE; rw [fz0_eq, fz1_eq]
noncomputable def fzB (b : Blk) (k : Blk → Option R) : Option R :=
  match b with
  | .var ks cs => fzL fz1 cs fun cs => k (.var ks cs)
  | .row t xs => fzL (fzL fz1) xs fun xs => k (.row t xs)
  | .map kd ag ks es => fzL fzE es fun es => k (.map kd ag ks es)
  | b => k b
theorem fzB_eq (b : Blk) (k : Blk → Option R) : fzB b k = k b := by
  unfold fzB
  split
  · exact fzL_eq fz1_eq _ _
  · exact fzL_eq (fun _ _ => fzL_eq fz1_eq _ _) _ _
  · exact fzL_eq fzE_eq _ _
  · rfl
noncomputable def fzAt (M : List Blk) (id : Nat) (k : List Blk → Option R) : Option R :=
  List.rec (motive := fun _ => Nat → (List Blk → Option R) → Option R) (fun _ k => k []) (fun b tl ih n k => Nat.rec (motive := fun _ => Option R) (fzB b fun b => k (b :: tl)) (fun m _ => ih m fun l => k (b :: l)) n) M id k
theorem fzAt_eq : ∀ (M : List Blk) (id : Nat) (k : List Blk → Option R), fzAt M id k = k M
  | [], _, _ => rfl
  | b :: M, 0, k => by
    show (fzB b fun b => k (b :: M)) = _
    rw [fzB_eq]
  | b :: M, n + 1, k => by
    show (fzAt M n fun l => k (b :: l)) = _
    rw [fzAt_eq M n]
noncomputable def fzEnd (M : List Blk) (k : List Blk → Option R) : Option R :=
  List.rec (motive := fun _ => (List Blk → Option R) → Option R) (fun k => k []) (fun b tl ih k => List.rec (motive := fun _ => Option R) (fzB b fun b => k [b]) (fun _ _ _ => ih fun l => k (b :: l)) tl) M k
theorem fzEnd_eq : ∀ (M : List Blk) (k : List Blk → Option R), fzEnd M k = k M
  | [], _ => rfl
  | [b], k => by
    show (fzB b fun b => k [b]) = _
    rw [fzB_eq]
  | b :: c :: M, k => by
    show (fzEnd (c :: M) fun l => k (b :: l)) = _
    rw [fzEnd_eq (c :: M)]
noncomputable def fzOp (e : Operand → AV) (o : Oper) (k : AV → List Blk → Option R) (x : AV) (M : List Blk) : Option R :=
  match o.op with
  | .store _ p _ => (match e p with | .ptr id _ _ => fzAt M id fun M => k x M | _ => k x M)
  | .mapUpdate _ m _ _ => (match e m with | .mp id => fzAt M id fun M => k x M | _ => k x M)
  | .insert _ m _ _ => (match e m with | .mp id => fzAt M id fun M => k x M | _ => k x M)
  | .alloc _ => fz2 x fun x => fzEnd M fun M => k x M
  | .box _ _ => fz2 x fun x => fzEnd M fun M => k x M
  | .makeSlice _ _ _ => fz2 x fun x => fzEnd M fun M => k x M
  | .buildSlice _ _ _ => fz2 x fun x => fzEnd M fun M => k x M
  | .makeMap _ _ => fz2 x fun x => fzEnd M fun M => k x M
  | .slice _ _ _ _ _ => fz2 x fun x => fzEnd M fun M => k x M
  | .call c => (match c.callee with | .value _ => k x M | .builtin .append => fz2 x fun x => fzEnd M fun M => k x M | _ => fz2 x fun x => k x M)
  | _ => fz2 x fun x => k x M
theorem fzOp_eq (e : Operand → AV) (o : Oper) (k : AV → List Blk → Option R) (x : AV) (M : List Blk) : fzOp e o k x M = k x M := by
  unfold fzOp
  split <;> try (simp only [fz2_eq, fzEnd_eq]; done)
  · split
    · exact fzAt_eq _ _ _
    · rfl
  · split
    · exact fzAt_eq _ _ _
    · rfl
  · split
    · exact fzAt_eq _ _ _
    · rfl
  · split
    · rfl
    · simp only [fz2_eq, fzEnd_eq]
    · exact fz2_eq _ _
end
end
end Go.Eng

namespace Go.Eng
open Go
noncomputable section
variable {X : Cx} {R : Type}
variable {w0 w w' : World} {S : Sc} {F : Addr → Prop} {ρ : List Hd} {M : List Blk}
def lEq : List UInt8 → List UInt8 → Bool
  | [], [] => true
  | x :: xs, y :: ys => Nat.beq x.toNat y.toNat && lEq xs ys
  | _, _ => false
theorem lEq_eq : ∀ (a b : List UInt8), lEq a b = (a == b)
  | [], [] => rfl
  | [], _ :: _ => rfl
  | _ :: _, [] => rfl
  | x :: xs, y :: ys => by
    have hxy : Nat.beq x.toNat y.toNat = (x == y) := by
      cases h : Nat.beq x.toNat y.toNat with
      | true => have := UInt8.toNat_inj.1 (Nat.eq_of_beq_eq_true h); simp [this]
      | false =>
        have : x ≠ y := fun e => by rw [e] at h; simp at h
        simp [this]
    simp only [lEq, List.cons_beq_cons, lEq_eq xs ys, hxy]
def xStr (op : BinOp) (a b : ByteArray) : Option AV :=
  match op with
  | .add => (match decide (a.data.toList.length + b.data.toList.length ≤ 1000000) with | true => some (.str ⟨⟨a.data.toList ++ b.data.toList⟩⟩) | false => none)
  | .eql => some (.bool (lEq a.data.toList b.data.toList))
  | .neq => some (.bool (!lEq a.data.toList b.data.toList))
  | _ => none
def xPtr (X : Cx) (t : TypeId) (x y : AV) : Option Bool :=
  match (X.ti t).ok, (X.ti t).u with
  | true, .ptr e =>
    match x, y with
    | .nilp, .nilp => some true
    | .ptr _ _ _, .nilp => some false
    | .iptr _ _ _, .nilp => some false
    | .ptr a i o, .ptr b j p => (match (X.ti e).ok && (Nat.beq a b && (Nat.beq i j && Nat.beq o p)) with | true => some true | false => none)
    | _, _ => none
  | _, _ => none
def xSl (X : Cx) (t : TypeId) (x y : AV) (M : List Blk) : Option Bool :=
  match (X.ti t).ok, (X.ti t).u with
  | true, .slice _ => (match x, y with
    | .own id, .nilsl => (match gm M id with | some (.row _ (_ :: _)) => some false | _ => none)
    | _, _ => none)
  | _, _ => none
def ownNil (x y : AV) : Bool := match x, y with | .own _, .nilsl => true | _, _ => false
def ubTy (X : Cx) (s d : TypeId) : Bool := match X.ub with | none => false | some u => (Nat.beq s u.pt && Nat.beq d u.up) || (Nat.beq s u.up && Nat.beq d u.pt)
def ubAt (X : Cx) (x : AV) (M : List Blk) : Bool :=
  match X.ub with
  | none => false
  | some u => match x with
    | .ptr id 0 0 => (match gm M id with | some (.var ks _) => decide (ks = u.ks) | _ => false)
    | _ => false
def isNe (X : Cx) (g : FuncId) : Bool := match X.ub with | none => false | some u => Nat.beq g u.ne
def byteOf (row : Row) : Option UInt8 := match row with | [.int .u8 (.ofNat n)] => (match Nat.blt n 256 with | true => some (UInt8.ofNat n) | false => none) | _ => none
def bytesOf : Nat → List Row → Option (List UInt8)
  | 0, _ => some []
  | n + 1, row :: xs => (match byteOf row with | some b => (match bytesOf n xs with | some l => some (b :: l) | none => none) | none => none)
  | _ + 1, [] => none
def isX (X : Cx) (e : Operand → AV) (o : Oper) : Bool :=
  match o.op with
  | .binOp _ _ x y _ =>
    (match e x with
     | .str _ => (match e y with | .str _ => true | _ => false)
     | .nilp => (match e y with | .nilp => true | _ => false)
     | .iptr _ _ _ => (match e y with | .nilp => true | _ => false)
     | .ptr _ _ _ => (match e y with | .nilp => true | .ptr _ _ _ => true | _ => false)
     | .own _ => (match e y with | .nilsl => true | _ => false)
     | _ => false)
  | .convert s d _ => ubTy X s d
  | .slice _ x _ _ _ => (match e x with | .str _ => true | _ => false)
  | .call c =>
    match c.callee with
    | .builtin .unsafeSliceData => true
    | .builtin .unsafeString => true
    | .value f => (match e f with | .clos g [] [] => isNe X g | _ => false)
    | _ => false
  | _ => false
def strOf : AV → Option ByteArray | .str s => some s | _ => none
theorem strOf_some {x : AV} {s : ByteArray} (h : strOf x = some s) : x = .str s := by
  cases x <;> simp [strOf] at h
  rw [h]
def xopB (X : Cx) (op : BinOp) (t : TypeId) (x y : AV) : Option AV :=
  match strOf x, strOf y with
  | some a, some b => xStr op a b
  | _, _ => match xPtr X t x y, op with
    | some b, .eql => some (.bool b)
    | some b, .neq => some (.bool (!b))
    | _, _ => none
def xopS (X : Cx) (t : TypeId) (x : AV) (lo hi : Option AV) : Option AV :=
  match strOf x with
  | some s =>
    (match (X.ti t).ok, (X.ti t).u, bnd 0 lo, bnd s.data.toList.length hi with
     | true, .str, some l, some h => (match decide (0 ≤ l) && decide (l ≤ h) && decide (h ≤ (s.data.toList.length : Int)) with
       | true => some (.str ⟨⟨(s.data.toList.take h.toNat).drop l.toNat⟩⟩)
       | false => none)
     | _, _, _, _ => none)
  | none => none
def xop (X : Cx) (e : Operand → AV) (o : Oper) (M : List Blk) : Option (AV × List Blk) :=
  match o.op with
  | .binOp op t x y _ => (match xopB X op t (e x) (e y) with
    | some z => some (z, M)
    | none => (match xSl X t (e x) (e y) M, op with
      | some b, .eql => some (.bool b, M)
      | some b, .neq => some (.bool (!b), M)
      | _, _ => none))
  | .convert _ _ x => (match ubAt X (e x) M with | true => some (e x, M) | false => none)
  | .slice t x lo hi mx => (match mx, xopS X t (e x) (lo.map e) (hi.map e) with | none, some z => some (z, M) | _, _ => none)
  | .call c =>
    match c.callee with
    | .builtin .unsafeSliceData =>
      (match c.args.toList with
       | [x] => (match e x with
         | .own id => (match gm M id with | some (.row _ (_ :: _)) => some (.ptr id 0 0, M) | _ => none)
         | _ => none)
       | _ => none)
    | .builtin .unsafeString =>
      (match c.argTypes.toList, c.args.toList with
       | [pt, _], [p, n] => (match e p, e n with
         | .ptr id 0 0, .int .i64 (.ofNat m) => (match gm M id with
           | some (.row t xs) => (match (X.ti pt).ok, (X.ti pt).u, (X.ti t).ok with
             | true, .ptr t', true => (match Nat.beq t' t && (Nat.beq (X.ti t).size 1 && (Nat.blt 0 m && Nat.ble m 1000000)) with
               | true => (match bytesOf m xs with | some l => some (.str ⟨⟨l⟩⟩, M.set id .dead) | none => none)
               | false => none)
             | _, _, _ => none)
           | _ => none)
         | _, _ => none)
       | _, _ => none)
    | .value f => (match e f with | .clos g [] [] => (match isNe X g, c.args.toList with | true, [x] => some (e x, M) | _, _ => none) | _ => none)
    | _ => none
  | _ => none
theorem byteOf_some {row : Row} {b : UInt8} (h : byteOf row = some b) : row = [.int .u8 b.toNat] := by
  unfold byteOf at h
  split at h
  · rename_i n
    split at h
    · rename_i hn
      have : n < 256 := by simpa [Nat.blt_eq] using hn
      injection h with h
      subst h
      have e : (UInt8.ofNat n).toNat = n := by simp; omega
      rw [e]; rfl
    · cases h
  · cases h
theorem bytesOf_some : ∀ {n : Nat} {xs : List Row} {l : List UInt8}, bytesOf n xs = some l → l.length = n ∧ ∀ (j : Nat) b, l[j]? = some b → xs[j]? = some [.int .u8 b.toNat]
  | 0, _, l, h => by
    simp only [bytesOf, Option.some.injEq] at h
    subst h
    exact ⟨rfl, fun j b h => by simp at h⟩
  | n + 1, [], l, h => by simp [bytesOf] at h
  | n + 1, row :: xs, l, h => by
    simp only [bytesOf] at h
    split at h
    · rename_i b hb
      split at h
      · rename_i l' hl
        injection h with h
        subst h
        obtain ⟨h1, h2⟩ := bytesOf_some hl
        refine ⟨by simp [h1], fun j b' hj => ?_⟩
        cases j with
        | zero => simp only [List.getElem?_cons_zero, Option.some.injEq] at hj ⊢; subst hj; exact byteOf_some hb
        | succ j => simp only [List.getElem?_cons_succ] at hj ⊢; exact h2 j b' hj
      · cases h
    · cases h
theorem run_xStr {op : BinOp} {t : TypeId} {a b : ByteArray} {z : AV} (h : xStr op a b = some z) (x y : Operand) (w : World) :
    ∃ v, (do eqGuard op t x y (.string a) (.string b); binOp op t (.string a) (.string b) : Sem Value).run X.P w = .ok v w ∧ Rep X.K ρ F w z v := by
  have tl : ∀ s : ByteArray, s.toList = s.data.toList := fun s => ByteArray.toList_eq s
  unfold xStr at h
  split at h
  · split at h
    · rename_i hl
      injection h with h
      subst h
      have hs : a.size + b.size ≤ 9223372036854775807 := by
        have := of_decide_eq_true hl
        simp only [Array.length_toList] at this
        show a.data.size + b.data.size ≤ _
        omega
      refine ⟨.string (a ++ b), ?_, ?_⟩
      · rw [eqGuard_at_string, Sem.run_bind, Sem.run_pure, Result.andThen_ok]
        show (Op.stringOp .add a b).run X.P w = _
        exact run_string_add_sum w a b hs
      · have : (a ++ b) = ⟨⟨a.data.toList ++ b.data.toList⟩⟩ := by
          apply ByteArray.ext
          apply Array.ext'
          simp
        rw [this]
        exact .str _
    · cases h
  · injection h with h
    subst h
    refine ⟨.bool (a.toList == b.toList), ?_, by rw [lEq_eq, tl, tl]; exact .bool _⟩
    rw [eqGuard_at_string, Sem.run_bind, Sem.run_pure, Result.andThen_ok]
    simp [binOp, Op.stringOp]
  · injection h with h
    subst h
    refine ⟨.bool (!(a.toList == b.toList)), ?_, by rw [lEq_eq, tl, tl]; exact .bool _⟩
    rw [eqGuard_at_string, Sem.run_bind, Sem.run_pure, Result.andThen_ok]
    simp [binOp, Op.stringOp]
  · cases h
theorem run_xPtr (hX : X.Okb) {op : BinOp} {t : TypeId} {p q : AV} {b : Bool} (h : xPtr X t p q = some b) {v u : Value} (h1 : Rep X.K ρ F w p v) (h2 : Rep X.K ρ F w q u) (x y : Operand) :
    (op = .eql → (do eqGuard op t x y v u; binOp op t v u : Sem Value).run X.P w = .ok (.bool b) w) ∧ (op = .neq → (do eqGuard op t x y v u; binOp op t v u : Sem Value).run X.P w = .ok (.bool (!b)) w) := by
  unfold xPtr at h
  split at h
  · rename_i e hok hu
    obtain ⟨i, d, z, f⟩ := hX.facts hok
    have hund : X.P.underlying t = some (.pointer e) := by
      have hu2 := f.u
      rw [hu] at hu2
      have := f.und
      cases d <;> simp [tyOf] at hu2
      subst hu2; exact this
    have hpt : X.P.underlying t = some (.pointer (X.P.pointee t)) := by
      rw [hund]; simp [Program.pointee, hund]
    have key : ∀ (p : Option Addr), v = .pointer p → u = .pointer none → p.isNone = b → (op = .eql → (do eqGuard op t x y v u; binOp op t v u : Sem Value).run X.P w = .ok (.bool b) w) ∧ (op = .neq → (do eqGuard op t x y v u; binOp op t v u : Sem Value).run X.P w = .ok (.bool (!b)) w) := by
      rintro p rfl rfl rfl
      constructor
      · rintro rfl
        rw [eqGuard_at_pointer, Sem.run_bind, Sem.run_pure, Result.andThen_ok]
        exact run_eql_pointer_nil w t p hpt
      · rintro rfl
        rw [eqGuard_at_pointer, Sem.run_bind, Sem.run_pure, Result.andThen_ok]
        exact run_neq_pointer_nil w t p hpt
    split at h
    · injection h with h; subst h
      cases h1; cases h2
      exact key _ rfl rfl rfl
    · injection h with h; subst h
      cases h2
      cases h1
      exact key _ rfl rfl rfl
    · injection h with h; subst h
      cases h2
      cases h1
      exact key _ rfl rfl rfl
    · rename_i a i' o b' j p'
      split at h
      · rename_i hb
        injection h with h; subst h
        simp only [Bool.and_eq_true] at hb
        obtain ⟨he, e1, e2, e3⟩ := hb
        have e1 := Nat.eq_of_beq_eq_true e1
        have e2 := Nat.eq_of_beq_eq_true e2
        have e3 := Nat.eq_of_beq_eq_true e3
        subst e1; subst e2; subst e3
        obtain ⟨i2, d2, z2, f2⟩ := hX.facts he
        cases h1 with
        | ptr _ _ _ hd g o' n c hid hv =>
          cases h2 with
          | ptr _ _ _ hd2 g2 o2 n2 c2 hid2 hv2 =>
            rw [hid] at hid2; injection hid2 with hid2; subst hid2
            rw [hv] at hv2; injection hv2 with q1 q2 q3
            injection q1 with q1; injection q1 with q4 q5 q6
            subst q4; subst q5
            constructor
            · rintro rfl
              rw [eqGuard_at_pointer, Sem.run_bind, Sem.run_pure, Result.andThen_ok]
              exact run_eql_ptr_same w _ hund f2.info
            · rintro rfl
              rw [eqGuard_at_pointer, Sem.run_bind, Sem.run_pure, Result.andThen_ok]
              exact Lib.run_neq_ptr_same w _ hund f2.info
      · cases h
    · cases h
  · cases h
theorem liesAt_from {P : Program} {e : TypeId} (hc : P.cellsOf e = 1) (count off n : Nat) (hn : off + n ≤ count) : liesAt P P.depth e count off e n = true := by
  have hd : P.depth = (2 * (P.types.size + Made.depth) + 1) + 1 := rfl
  rw [hd]
  simp only [liesAt, Bool.or_eq_true]
  left
  rw [hd]
  simp [rowAt, hc, hn, sameLayout, Nat.mod_one]
theorem run_unsafeString_at {P : Program} {w : World} (pt it ty e : TypeId) (hp : P.underlying pt = some (.pointer e)) (hc : P.cellsOf e = 1) (g o cells : Nat) (hsh : w.shape? g = some (e, cells)) (l : List UInt8) (h0 : l ≠ []) (hn : o + l.length ≤ cells) (h63 : l.length ≤ 9223372036854775807)
    (hcell : ∀ j x, l[j]? = some x → w.cell? ((⟨g, o, none⟩ : Addr).add j) = some (.int .u8 x.toNat)) :
    (Builtin.unsafeString_ #[pt, it] ty #[.pointer (some ⟨g, o, none⟩), .int .i64 l.length]).run P w = .ok (.string ⟨l.toArray⟩) (w.freeze ⟨g, o, none⟩ l.length) := by
  have hl : l.length ≠ 0 := by simpa using h0
  have hlb := Lib.run_loadBytes (P := P) w l ⟨g, o, none⟩ .empty hcell
  have hlies := liesAt_from (P := P) hc (cells / P.cellsOf e) o l.length (by rw [hc]; simpa using hn)
  have h63' : ¬ (9223372036854775807 : Int) < (l.length : Int) := by omega
  have hmax : IntKind.i64.max = 9223372036854775807 := rfl
  have hneg : ¬ (l.length : Int) < 0 := by omega
  change (asInt (.int .i64 l.length) >>= _).run P w = _
  simp [asInt, asIntOf, hmax, h63', hneg, hl, variablesAt, hsh, elemOf, run_underlying hp, hlies, hlb]
theorem grownBy_freeze (w : World) (g o n : Nat) : w.grownBy (w.freeze ⟨g, o, none⟩ n) (some g) := by
  unfold World.freeze
  split
  · exact ⟨rfl, rfl, rfl, Nat.le_refl _, fun _ _ _ => rfl⟩
  · refine ⟨rfl, rfl, rfl, by simp, fun k hk hne => ?_⟩
    have : k ≠ g := fun e => hne (by rw [e])
    simp [Array.getElem?_modify, Ne.symm this]
theorem run_substr {P : Program} {t : TypeId} {w : World} (hund : P.underlying t = some .string) (s : ByteArray) {lo hi : Option AV} {vl vh : Option Value} {K : TypeId → List Kind} (h1 : ORep K ρ F w lo vl) (h2 : ORep K ρ F w hi vh) {l h : Int} (e1 : bnd 0 lo = some l) (e2 : bnd s.data.toList.length hi = some h)
    (b1 : 0 ≤ l) (b2 : l ≤ h) (b3 : h ≤ s.data.toList.length) : (Instr.sliceAt t (.string s) vl vh none).run P w = .ok (.string ⟨⟨(s.data.toList.take h.toNat).drop l.toNat⟩⟩) w := by
  obtain ⟨ln, rfl⟩ := Int.eq_ofNat_of_zero_le b1
  obtain ⟨hn, rfl⟩ := Int.eq_ofNat_of_zero_le (show 0 ≤ h by omega)
  have bound : ∀ (o : Option AV) (v : Option Value) (d : Int) (n : Nat), ORep K ρ F w o v → bnd d o = some (n : Int) → (o = none ∧ v = none ∧ d = n) ∨ ∃ kd, v = some (.int kd n) ∧ o.isSome = true := by
    intro o v d n hr hb
    cases o with
    | none => cases v with
      | none => simp only [bnd, Option.some.injEq] at hb; exact .inl ⟨rfl, rfl, hb⟩
      | some _ => exact hr.elim
    | some x => cases v with
      | none => exact hr.elim
      | some v =>
        cases x <;> simp only [bnd] at hb <;> try cases hb
        cases hr
        exact .inr ⟨_, rfl, rfl⟩
  have hu : ∀ w, (underlying t).run P w = .ok .string w := fun w => run_underlying hund w
  have hsz : s.size = s.data.toList.length := by rw [Array.length_toList]; rfl
  have hs : ∀ a b : Nat, b ≤ s.size → s.extract a b = ⟨⟨(s.data.toList.take b).drop a⟩⟩ := by
    intro a b hb
    apply ByteArray.ext
    rw [ByteArray.data_extract]
    apply Array.ext'
    rw [Array.toList_extract, List.extract_eq_drop_take]
    rw [List.drop_take]
  have hfin : (⟨⟨(s.data.toList.take hn).drop ln⟩⟩ : ByteArray) = s.extract ln hn := (hs ln hn (by omega)).symm
  simp only [Int.toNat_natCast]
  rw [hfin]
  rcases bound lo vl 0 ln h1 e1 with ⟨o1, rfl, d1⟩ | ⟨k1, rfl, s1⟩ <;> rcases bound hi vh s.data.toList.length hn h2 e2 with ⟨o2, rfl, d2⟩ | ⟨k2, rfl, s2⟩
  · have e0 : ln = 0 := by omega
    have e0' : hn = s.size := by omega
    subst e0; subst e0'
    simp [Instr.sliceAt, Instr.slice, hu, Instr.sliceBounds]
  · have e0 : ln = 0 := by omega
    subst e0
    have : hn ≤ s.size := by omega
    simp [Instr.sliceAt, Instr.slice, hu, Instr.sliceBounds, Instr.sliceBound, asIntOf, this]
  · have e0' : hn = s.size := by omega
    subst e0'
    have h1 : ln ≤ s.size := by omega
    simp [Instr.sliceAt, Instr.slice, hu, Instr.sliceBounds, Instr.sliceBound, asIntOf, h1]
  · have h1 : ln ≤ hn := by omega
    have h2 : hn ≤ s.size := by omega
    simp [Instr.sliceAt, Instr.slice, hu, Instr.sliceBounds, Instr.sliceBound, asIntOf, h1, h2]
theorem ubTy_some {s d : TypeId} (h : ubTy X s d = true) : ∃ u, X.ub = some u ∧ (s = u.pt ∧ d = u.up ∨ s = u.up ∧ d = u.pt) := by
  unfold ubTy at h
  split at h
  · cases h
  · rename_i u hu
    rw [Bool.or_eq_true, Bool.and_eq_true, Bool.and_eq_true] at h
    rcases h with ⟨a, b⟩ | ⟨a, b⟩
    · exact ⟨u, hu, .inl ⟨Nat.eq_of_beq_eq_true a, Nat.eq_of_beq_eq_true b⟩⟩
    · exact ⟨u, hu, .inr ⟨Nat.eq_of_beq_eq_true a, Nat.eq_of_beq_eq_true b⟩⟩
theorem ubAt_run (hX : X.Okb) {s d : TypeId} {x : AV} (hty : ubTy X s d = true) (h : ubAt X x M = true) (hI : Inv X w0 S F ρ M w) {v : Value} (hv : Rep X.K ρ F w x v) : (convert s d v).run X.P w = .ok v w := by
  obtain ⟨u, hu, hsd⟩ := ubTy_some hty
  have hok := hX.ub u hu
  unfold ubAt at h
  rw [hu] at h
  simp only at h
  split at h
  · rename_i id
    split at h
    · rename_i ks cs hb
      rw [gm_eq] at hb
      have hks := of_decide_eq_true h
      cases hv with
      | ptr _ _ _ hd g o n c hid hhv =>
        obtain ⟨hk, g', cur, e, hv', hsz, hg, hr, hc, hy⟩ := hI.var_cells hb hid
        rw [hhv] at hv'
        injection hv' with e1 e2 e3
        injection e1 with e1
        injection e1 with e1 e4 e5
        subst e1; subst e4
        have hye : e = u.e := by
          have hy := hy.1
          unfold Cx.tyB at hy
          rw [hu] at hy
          simp only [hks, decide_true] at hy
          exact Nat.eq_of_beq_eq_true hy
        subst hye
        have hsz2 : cur.size = u.ks.length := by
          rw [hy.2 u hu hks, koks_length hk, hks]
        have hsh : w.shape? g = some (u.e, u.ks.length) := by simp [World.shape?, hg, hsz2]
        obtain ⟨j, hj, hj0⟩ := hok.bt
        have e0 : (⟨g, 0 + 0 * hd.sz + 0, none⟩ : Addr) = ⟨g, 0, none⟩ := by simp
        rw [e0]
        rcases hsd with ⟨rfl, rfl⟩ | ⟨rfl, rfl⟩
        · exact Lib.run_to_unsafe w ⟨g, 0, none⟩ hok.pt hok.up hj hj0 hsh hok.ks
        · exact Lib.run_from_unsafe w ⟨g, 0, none⟩ hok.up hok.pt hj hsh hok.lies
    · cases h
  · cases h
theorem run_xSl (hX : X.Okb) {op : BinOp} {t : TypeId} {p q : AV} {b : Bool} (h : xSl X t p q M = some b) (hI : Inv X w0 S F ρ M w) {v u : Value} (h1 : Rep X.K ρ F w p v) (h2 : Rep X.K ρ F w q u) (x y : Operand) :
    (op = .eql → (do eqGuard op t x y v u; binOp op t v u : Sem Value).run X.P w = .ok (.bool b) w) ∧ (op = .neq → (do eqGuard op t x y v u; binOp op t v u : Sem Value).run X.P w = .ok (.bool (!b)) w) := by
  unfold xSl at h
  simp only [gm_eq] at h
  split at h
  · rename_i e hok hu
    obtain ⟨i, d, z, f⟩ := hX.facts hok
    have hund := f.slice hu
    split at h
    · rename_i id
      split at h
      · rename_i t' row xs hb
        injection h with h; subst h
        cases h2
        have hv : ∃ a n c, v = .slice (some a) n c := by
          cases h1 with
          | own _ hd hh =>
            obtain ⟨_, _, h3⟩ := hI.rep _ _ _ hb hh
            rcases h3 with ⟨_, h3⟩ | ⟨g, o, c, cur, e1, _⟩
            · cases h3
            · exact ⟨_, _, _, e1⟩
        obtain ⟨a, n, c, rfl⟩ := hv
        constructor
        · rintro rfl
          rw [eqGuard_at_slice, Sem.run_bind, Sem.run_pure, Result.andThen_ok]
          exact Lib.run_eql_slice_nil w t _ (some a) n c 0 0 hund
        · rintro rfl
          rw [eqGuard_at_slice, Sem.run_bind, Sem.run_pure, Result.andThen_ok]
          exact run_neq_slice_nil_any w t _ (some a) n c 0 0 hund
      · cases h
    · cases h
  · cases h
theorem xop_sound (hX : X.Okb) {T : Tab R} {e : Operand → AV} {o : Oper} {x : AV} {M' : List Blk} (hi : isX X e o = true) (h : xop X e o M = some (x, M')) :
    OpRuns X o e M x M' ∧ ∀ ids, wrIds T e o M = some ids → Agree ids M M' := by
  unfold xop at h
  split at h
  · rename_i op t a b u ho
    refine ⟨?_, fun ids hid => by simp [wrIds, ho] at hid⟩
    split at h
    · rename_i z hz
      injection h with h; injection h with h3 h4
      subst h3; subst h4
      intro rd n w0 S F ρ w act next Q hI hr hn
      refine OpRuns.of_val (o := o) (e := e) (x := z) (M := M) (s := fun ρe => (do eqGuard op t a b (ρe a) (ρe b); binOp op t (ρe a) (ρe b))) (by simp [ho]) (fun ρe => by simp [execOp, ho]) (fun {w0 S F ρ w ρe} hI hr => ?_) hI hr hn
      unfold xopB at hz
      split at hz
      · rename_i s1 s2 h1 h2
        have r1 := hr a
        have r2 := hr b
        rw [strOf_some h1] at r1; rw [strOf_some h2] at r2
        generalize ρe a = va at r1
        generalize ρe b = vb at r2
        cases r1; cases r2
        exact run_xStr hz a b w
      · split at hz
        · rename_i bb hb
          injection hz with hz; subst hz
          exact ⟨_, (run_xPtr hX (op := .eql) hb (hr a) (hr b) a b).1 rfl, .bool _⟩
        · rename_i bb hb
          injection hz with hz; subst hz
          exact ⟨_, (run_xPtr hX (op := .neq) hb (hr a) (hr b) a b).2 rfl, .bool _⟩
        · cases hz
    · split at h
      · rename_i bb hb hn0
        injection h with h; injection h with h3 h4
        subst h3; subst h4
        intro rd n w0 S F ρ w act next Q hI hr hn
        refine OpRuns.of_val (o := o) (e := e) (x := .bool bb) (M := M) (s := fun ρe => (do eqGuard .eql t a b (ρe a) (ρe b); binOp .eql t (ρe a) (ρe b))) (by simp [ho]) (fun ρe => by simp [execOp, ho]) (fun {w0 S F ρ w ρe} hI hr => ?_) hI hr hn
        exact ⟨_, (run_xSl hX (op := .eql) hb hI (hr a) (hr b) a b).1 rfl, .bool _⟩
      · rename_i bb hb hn0
        injection h with h; injection h with h3 h4
        subst h3; subst h4
        intro rd n w0 S F ρ w act next Q hI hr hn
        refine OpRuns.of_val (o := o) (e := e) (x := .bool (!bb)) (M := M) (s := fun ρe => (do eqGuard .neq t a b (ρe a) (ρe b); binOp .neq t (ρe a) (ρe b))) (by simp [ho]) (fun ρe => by simp [execOp, ho]) (fun {w0 S F ρ w ρe} hI hr => ?_) hI hr hn
        exact ⟨_, (run_xSl hX (op := .neq) hb hI (hr a) (hr b) a b).2 rfl, .bool _⟩
      · cases h
  · rename_i s d a ho
    refine ⟨?_, fun ids hid => by simp [wrIds, ho] at hid⟩
    split at h
    · rename_i hat
      injection h with h; injection h with h3 h4
      subst h3; subst h4
      have hty : ubTy X s d = true := by
        unfold isX at hi
        simp only [ho] at hi
        exact hi
      intro rd n w0 S F ρ w act next Q hI hr hn
      refine OpRuns.of_val (o := o) (e := e) (x := e a) (M := M) (s := fun ρe => convert s d (ρe a)) (by simp [ho]) (fun ρe => by simp [execOp, ho]) (fun {w0 S F ρ w ρe} hI hr => ?_) hI hr hn
      exact ⟨_, ubAt_run hX hty hat hI (hr a), hr a⟩
    · cases h
  · rename_i t a lo hi2 mx ho
    split at h
    · rename_i z hz
      injection h with h; injection h with h3 h4
      subst h3; subst h4
      refine ⟨?_, fun ids hid => Agree.refl _ _⟩
      unfold xopS at hz
      split at hz
      · rename_i s hs
        split at hz
        · rename_i l hh hok hu e1 e2
          split at hz
          · rename_i hb
            injection hz with hz
            subst hz
            simp only [Bool.and_eq_true, decide_eq_true_eq] at hb
            obtain ⟨⟨b1, b2⟩, b3⟩ := hb
            obtain ⟨i, d, z, f⟩ := hX.facts hok
            have hund : X.P.underlying t = some .string := by
              have hu2 := f.u
              rw [hu] at hu2
              have := f.und
              cases d <;> simp [tyOf] at hu2
              exact this
            intro rd n w0 S F ρ w act next Q hI hr hn
            refine OpRuns.of_val (o := o) (e := e) (M := M) (x := .str ⟨⟨(s.data.toList.take hh.toNat).drop l.toNat⟩⟩) (s := fun ρe => Instr.sliceAt t (ρe a) (lo.map ρe) (hi2.map ρe) none) (by simp [ho]) (fun ρe => by simp [execOp, ho]) (fun {w0 S F ρ w ρe} hI hr => ?_) hI hr hn
            have r1 := hr a
            rw [strOf_some hs] at r1
            generalize ρe a = va at r1
            cases r1
            exact ⟨_, run_substr hund s (orep_map hr lo) (orep_map hr hi2) e1 e2 b1 b2 b3, .str _⟩
          · cases hz
        · cases hz
      · cases hz
    · cases h
  · rename_i c ho
    split at h
    · rename_i hcal
      split at h
      · rename_i a ha
        split at h
        · rename_i id hid
          split at h
          · rename_i t r rs hb
            injection h with h; injection h with h3 h4
            subst h3; subst h4
            rw [gm_eq] at hb
            have e2 : c.args = #[a] := by apply Array.ext'; simpa using ha
            refine ⟨OpRuns.of_val (s := fun ρe => Builtin.unsafeSliceData_ c.argTypes o.type #[ρe a]) (by simp [ho]) (fun ρe => by simp [execOp, ho, resolve, hcal, invoke, builtin, e2]) (fun {w0 S F ρ w ρe} hI hr => ?_), fun ids hid => Agree.refl _ _⟩
            have r1 := hr a
            rw [hid] at r1
            generalize ρe a = va at r1
            cases r1 with
            | own _ hd hh =>
              obtain ⟨q1, q2, q3⟩ := hI.rep id _ hd hb hh
              rcases q3 with ⟨_, q4⟩ | ⟨g, o', c', cur, q3, hg, q4, q5, q6, q7⟩
              · cases q4
              · rw [q3]
                refine ⟨.pointer (some ⟨g, o', none⟩), Lib.run_unsafeSliceData_row w _ _ _ _ _ (by simp at q4; omega), ?_⟩
                have := Rep.ptr (K := X.K) (F := F) (w := w) id 0 0 hd g o' _ _ hh q3
                simpa using this
          · cases h
        · cases h
      · cases h
    · rename_i hcal
      split at h
      · rename_i pt it p n ht ha
        split at h
        · rename_i id m hp hn
          split at h
          · rename_i t xs hb
            split at h
            · rename_i t' hok hu hok2
              split at h
              · rename_i hc
                split at h
                · rename_i l hl
                  injection h with h; injection h with h3 h4
                  subst h3; subst h4
                  rw [gm_eq] at hb
                  simp only [Bool.and_eq_true] at hc
                  obtain ⟨c1, c2, c3, c4⟩ := hc
                  have c1 := Nat.eq_of_beq_eq_true c1
                  subst c1
                  have c2 := Nat.eq_of_beq_eq_true c2
                  have c3 : 0 < m := by simpa [Nat.blt_eq] using c3
                  have c4 := Nat.le_of_ble_eq_true c4
                  obtain ⟨l1, l2⟩ := bytesOf_some hl
                  have e1 : c.argTypes = #[pt, it] := by apply Array.ext'; simpa using ht
                  have e2 : c.args = #[p, n] := by apply Array.ext'; simpa using ha
                  obtain ⟨i, d, z, f⟩ := hX.facts hok
                  obtain ⟨i2, d2, z2, f2⟩ := hX.facts hok2
                  have hund : X.P.underlying pt = some (.pointer t') := by
                    have hu2 := f.u
                    rw [hu] at hu2
                    have := f.und
                    cases d <;> simp [tyOf] at hu2
                    subst hu2; exact this
                  have hcells : X.P.cellsOf t' = 1 := by
                    have h1 := f2.size
                    rw [c2] at h1
                    simp [Program.cellsOf, f2.info, ← h1]
                  refine ⟨OpRuns.of_does (s := fun ρe => Builtin.unsafeString_ #[pt, it] o.type #[ρe p, ρe n]) (by simp [ho]) (fun ρe => by simp [execOp, ho, resolve, hcal, invoke, builtin, e1, e2]) (fun {w0 S F ρ w ρe} hI hr => ?_), fun ids hid => ?_⟩
                  · have r1 := hr p
                    have r2 := hr n
                    rw [hp] at r1; rw [hn] at r2
                    generalize ρe p = vp at r1
                    generalize ρe n = vn at r2
                    cases r2
                    cases r1 with
                    | ptr _ _ _ hd g0 o0 n0 c0 hh hv =>
                      obtain ⟨q1, q2, q3⟩ := hI.rep id _ hd hb hh
                      rcases q3 with ⟨q3, _⟩ | ⟨g, o', c', cur, q3, hg, q4, q5, q6, q7⟩
                      · rw [hv] at q3; cases q3
                      · have q3' := q3
                        rw [hv] at q3'
                        injection q3' with k1 k2 k3
                        injection k1 with k1; injection k1 with k4 k5 k6
                        subst k4; subst k5; subst k3
                        have hsz : hd.sz = 1 := by
                          rw [q1]
                          show (X.K t').length = 1
                          have : (X.K t').length = i2.size := f2.ks
                          rw [this, ← f2.size, c2]
                        rw [hsz] at q6 q7
                        have hm : m ≤ xs.length := by
                          have := (List.getElem?_eq_some_iff.1 (l2 (m - 1) (l[m - 1]'(by omega)) (List.getElem?_eq_getElem (by omega)))).1
                          omega
                        have hsh : w.shape? g0 = some (t', cur.size) := by simp [World.shape?, hg]
                        have hcell : ∀ j x, l[j]? = some x → w.cell? ((⟨g0, o0, none⟩ : Addr).add j) = some (.int .u8 x.toNat) := by
                          intro j x hj
                          obtain ⟨v, hv1, hv2⟩ := q7 j _ (l2 j x hj) 0 _ rfl
                          cases hv2
                          rw [Addr.add_lit, cell_of_row w g0 (o0 + j) cur _ (0, 0) hg]
                          simpa using hv1
                        have hrun := run_unsafeString_at (P := X.P) (w := w) pt it o.type t' hund hcells g0 o0 cur.size hsh l (fun e => by rw [e] at l1; simp at l1; omega) (by omega) (by omega) hcell
                        have hgb : hd.blk? = some g0 := by simp [Hd.blk?, Value.blk?, hv]
                        have hgr := grownBy_freeze w g0 o0 l.length
                        have hfa : ∀ a, F a → a.block ≠ g0 := (hI.sep id _ hd g0 hb rfl hh hgb).2.2
                        refine ⟨.string ⟨l.toArray⟩, w.freeze ⟨g0, o0, none⟩ l.length, ρ, F, ?_, hI.write hb rfl hh hgb hgr trivial, ⟨fun _ h => h, fun _ _ h => h, hI.blks hgr (fun k hk a ha => by injection hk with hk; subst hk; exact hfa a ha)⟩, .str _⟩
                        rw [← l1]
                        simpa using hrun
                  · simp only [wrIds, ho, hcal] at hid
                    rw [ha] at hid
                    simp only [Option.some.injEq] at hid
                    subst hid
                    rw [hp]
                    exact Agree.set _ _ _
                · cases h
              · cases h
            · cases h
          · cases h
        · cases h
      · cases h
    · rename_i f hcal
      split at h
      · rename_i g hf
        split at h
        · rename_i a hne ha
          injection h with h; injection h with h3 h4
          subst h3; subst h4
          refine ⟨?_, fun ids hid => Agree.refl _ _⟩
          unfold isNe at hne
          split at hne
          · cases hne
          · rename_i u hub
            have hg := Nat.eq_of_beq_eq_true hne
            subst hg
            obtain ⟨fn, f1, f2, f3, f4, f5⟩ := (hX.ub u hub).ne
            have e2 : c.args = #[a] := by apply Array.ext'; simpa using ha
            intro rd n w0 S F ρ w act next Q hI hr hn
            have h1 := hr f
            rw [hf] at h1
            generalize hv : act.eval f = vf at h1
            cases h1 with
            | clos _ _ _ v1 v2 hl1 hl2 r1 r2 =>
              have hv1 : v1 = [] := by simpa using hl1
              have hv2 : v2 = [] := by simpa using hl2
              subst hv1; subst hv2
              refine wpIn_of_value (by simp [ho]) (v := act.eval a) (w' := w) ?_ (hn _ w ρ F hI (Grow.refl _ _ _) (hr a))
              simp only [execOp, ho, resolve, hcal, hv, Deferred.ofValue, Sem.run_bind, Sem.run_pure, Result.andThen_ok, invoke, e2]
              have e1 : (#[] : Array Value) ++ #[a].map act.eval ++ #[] = #[act.eval a] := by simp
              have h5 := run_callFunc_extern f1 f2 f3 f4 f5 #[act.eval a] w
              rw [Lib.run_noEscape, Result.andThen_ok] at h5
              rw [e1]
              exact h5
        · cases h
      · cases h
    · cases h
  · cases h
def fzU (b : UInt8) (k : UInt8 → Option R) : Option R := fzN b.toNat fun n => k (UInt8.ofNat n)
theorem fzU_eq (b : UInt8) (k : UInt8 → Option R) : fzU b k = k b := by unfold fzU; rw [fzN_eq, UInt8.ofNat_toNat]
noncomputable def fzX (x : AV) (k : AV → Option R) : Option R :=
  match x with
  | .str s => fzL fzU s.data.toList fun l => k (.str ⟨⟨l⟩⟩)
  | x => k x
theorem fzX_eq (x : AV) (k : AV → Option R) : fzX x k = k x := by
  unfold fzX
  split
  · rw [fzL_eq fzU_eq]
  · rfl
noncomputable def evop1 (X : Cx) (T : Tab R) (e : Operand → AV) (o : Oper) (M : List Blk) (k : AV → List Blk → Option R) : Option R :=
  match isX X e o with
  | true => (match xop X e o M with | some (x, M') => fzX x fun x => k x M' | none => none)
  | false => evop0 X T e o M k
noncomputable def evop (X : Cx) (T : Tab R) (e : Operand → AV) (o : Oper) (M : List Blk) (k : AV → List Blk → Option R) : Option R :=
  match X.pk with
  | true => evop1 X T e o M k
  | false => evop1 X T e o M (fzOp e o k)
theorem evop_eq (X : Cx) (T : Tab R) (e : Operand → AV) (o : Oper) (M : List Blk) (k : AV → List Blk → Option R) : evop X T e o M k = evop1 X T e o M k := by
  unfold evop
  split
  · rfl
  · rw [show fzOp e o k = k from funext fun x => funext fun M => fzOp_eq e o k x M]
theorem evop1_sound (hX : X.Okb) {T : Tab R} (hT : T.CallOk X) {e : Operand → AV} {o : Oper} {k : AV → List Blk → Option R} {r : R} (h : evop1 X T e o M k = some r) :
    ∃ x M', OpRuns X o e M x M' ∧ k x M' = some r ∧ ∀ ids, wrIds T e o M = some ids → Agree ids M M' := by
  unfold evop1 at h
  split at h
  · rename_i hi
    split at h
    · rename_i x M' hx
      rw [fzX_eq] at h
      obtain ⟨h1, h2⟩ := xop_sound (T := T) hX hi hx
      exact ⟨x, M', @h1, h, h2⟩
    · cases h
  · exact evop0_sound hX hT h
theorem evop_sound (hX : X.Okb) {T : Tab R} (hT : T.CallOk X) {e : Operand → AV} {o : Oper} {k : AV → List Blk → Option R} {r : R} (h : evop X T e o M k = some r) :
    ∃ x M', OpRuns X o e M x M' ∧ k x M' = some r ∧ ∀ ids, wrIds T e o M = some ids → Agree ids M M' := evop1_sound hX hT (by rwa [evop_eq] at h)
end
end Go.Eng

namespace Go.Eng
open Go
noncomputable section
variable {X : Cx} {R : Type}
def less (F : Addr → Prop) (D : Nat) (a : Addr) : Prop := F a ∧ a.block ≠ D
theorem Rep.shrink {K : TypeId → List Kind} {ρ : List Hd} {F : Addr → Prop} {w : World} {D : Nat} (hD : ∀ a v, a.block = D → w.cell? a ≠ some v) {x : AV} {v : Value} (h : Rep K ρ F w x v) : Rep K ρ (less F D) w x v := by
  induction h with
  | top v => exact .top v
  | int k n => exact .int k n
  | bool b => exact .bool b
  | str s => exact .str s
  | agg cs vs hl _ ih => exact .agg cs vs hl ih
  | tup cs vs hl _ ih => exact .tup cs vs hl ih
  | nilp => exact .nilp
  | iptr t row off a vs hk hl hc _ ih => exact .iptr t row off a vs hk hl (fun j v hv => ⟨(hc j v hv).1, (hc j v hv).2, fun e => hD _ v e (hc j v hv).1⟩) ih
  | ptr id i off hd g o n c hid hv => exact .ptr id i off hd g o n c hid hv
  | list0 t => exact .list0 t
  | list t xs a cap vss hl hcap hmax hk hc _ ih =>
    exact .list t xs a cap vss hl hcap hmax hk (fun i vs hvs => ⟨(hc i vs hvs).1, fun j v hv => ⟨((hc i vs hvs).2 j v hv).1, ((hc i vs hvs).2 j v hv).2, fun e => hD _ v e ((hc i vs hvs).2 j v hv).1⟩⟩) ih
  | own id hd hid => exact .own id hd hid
  | nilsl => exact .nilsl
  | clos f first caps vf vc hf hc _ _ ih1 ih2 => exact .clos f first caps vf vc hf hc ih1 ih2
  | nilfn => exact .nilfn
  | yld id hd g hid hv => exact .yld id hd g hid hv
  | mp id hd hid => exact .mp id hd hid
  | nilmp => exact .nilmp
  | vsl id m hd g o n c cap hid hv => exact .vsl id m hd g o n c cap hid hv
  | vw id lo m hd g o n c cap hid hv hc hb => exact .vw id lo m hd g o n c cap hid hv hc hb
  | vwn id lo => exact .vwn id lo
  | vws id lo a cap => exact .vws id lo a cap
  | enl a cap => exact .enl a cap
theorem cell_ne_of_loop {w : World} {D : Nat} {lp : Loop} (h : w.heap[D]? = some (.loop lp)) : ∀ (a : Addr) v, a.block = D → w.cell? a ≠ some v := by
  intro a v e hc
  subst e
  simp [World.cell?, h] at hc
theorem cell_ne_of_deferred {w : World} {D : Nat} {ds : Option (List Deferred)} (h : w.heap[D]? = some (.deferred ds)) : ∀ (a : Addr) v, a.block = D → w.cell? a ≠ some v := by
  intro a v e hc
  subst e
  simp [World.cell?, h] at hc
theorem cell_putObj {w : World} {D : Nat} {o : Obj} {a : Addr} (h : a.block ≠ D) : (w.putObj D o).cell? a = w.cell? a := by
  unfold World.cell?
  rw [World.putObj_heap_other h]
theorem Rep.less {K : TypeId → List Kind} {ρ : List Hd} {F : Addr → Prop} {w : World} {D : Nat} (hD : ∀ a v, a.block = D → w.cell? a ≠ some v) (o : Obj) {x : AV} {v : Value} (h : Rep K ρ F w x v) : Rep K ρ (less F D) (w.putObj D o) x v :=
  (h.shrink hD).mono (fun _ _ h => h) (fun _ h => h) (fun a v ha hc => by rw [cell_putObj ha.2]; exact hc)
theorem EnvRep.less {ρ : List Hd} {F : Addr → Prop} {w : World} {D : Nat} (hD : ∀ a v, a.block = D → w.cell? a ≠ some v) (o : Obj) {env : List (Nat × AV)} {tmps : Array Value} (h : EnvRep X ρ F w env tmps) : EnvRep X ρ (less F D) (w.putObj D o) env tmps :=
  fun t => (h t).less hD o
theorem BRep.less {ρ : List Hd} {F : Addr → Prop} {w : World} {D : Nat} (hD : ∀ a v, a.block = D → w.cell? a ≠ some v) (o : Obj) {hd : Hd} {b : Blk} (hne : b.isDead = false → ∀ g, hd.blk? = some g → g ≠ D) (h : BRep X ρ F w hd b) : BRep X ρ (less F D) (w.putObj D o) hd b := by
  cases b with
  | var ks cs =>
    obtain ⟨h1, h2, g, cur, e, hv, hh, hr, hy⟩ := h
    exact ⟨h1, h2, g, cur, e, hv, by rw [World.putObj_heap_other (hne rfl g (by simp [Hd.blk?, Value.blk?, hv]))]; exact hh, ⟨hr.1, fun j x v hx hv => (hr.2 j x v hx hv).less hD o⟩, hy⟩
  | row t xs =>
    obtain ⟨h1, h2, h3⟩ := h
    refine ⟨h1, h2, ?_⟩
    rcases h3 with h3 | ⟨g, of, c, cur, hv, hh, h4, h5, h6, h7⟩
    · exact .inl h3
    · refine .inr ⟨g, of, c, cur, hv, by rw [World.putObj_heap_other (hne rfl g (by simp [Hd.blk?, Value.blk?, hv]))]; exact hh, h4, h5, h6, fun i row hi j x hx => ?_⟩
      obtain ⟨v, hcv, hr⟩ := h7 i row hi j x hx
      exact ⟨v, hcv, hr.less hD o⟩
  | map kd ag ks es =>
    obtain ⟨hkd, g, mes, clock, hv, hh, hsz, hes⟩ := h
    exact ⟨hkd, g, mes, clock, hv, by rw [World.putObj_heap_other (hne rfl g (by simp [Hd.blk?, Value.blk?, hv]))]; exact hh, hsz, fun i e me he hm => let ⟨a, r1, r2⟩ := hes i e me he hm; ⟨a, r1.less hD o, r2.less hD o⟩⟩
  | loop s env busy pend =>
    obtain ⟨g, lp, hv, hh, h1, h2, h3, h4, h5, h6⟩ := h
    exact ⟨g, lp, hv, by rw [World.putObj_heap_other (hne rfl g (by simp [Hd.blk?, Value.blk?, hv]))]; exact hh, h1, h2, h3, h4, h5.less hD o, h6⟩
  | dfr =>
    obtain ⟨g, hv, hh⟩ := h
    exact ⟨g, hv, by rw [World.putObj_heap_other (hne rfl g (by simp [Hd.blk?, Value.blk?, hv]))]; exact hh⟩
  | fro t xs => exact Rep.less (K := X.K) hD o h
  | dead => trivial
  | nst _ _ _ => trivial
theorem NRep.less {ρ : List Hd} {F : Addr → Prop} {w : World} {D : Nat} (hD : ∀ a v, a.block = D → w.cell? a ≠ some v) (o : Obj) {hd : Hd} {t : TypeId} {xs : List Row} {op : Option (Nat × Nat × Nat)} (hg : ∀ g, hd.blk? = some g → g ≠ D)
    (hs : ∀ (i j : Nat) row e ys v g, xs[i]? = some row → row[j]? = some (.sub e ys) → opAt op i j = none → cellOf w hd i j = some v → Value.blk? v = some g → g ≠ D)
    (h : NRep X ρ F w hd t xs op) : NRep X ρ (Eng.less F D) (w.putObj D o) hd t xs op := by
  obtain ⟨h0, h1, h2, h3, h4⟩ := h
  refine ⟨h0, h1, h2, h3, ?_⟩
  rcases h4 with h4 | ⟨g, of, c, cur, hv, hh, h5, h6, h7, h8⟩
  · exact .inl h4
  · refine .inr ⟨g, of, c, cur, hv, by rw [World.putObj_heap_other (hg g (by simp [Hd.blk?, Value.blk?, hv]))]; exact hh, h5, h6, h7, fun i row hi j x hx => ?_⟩
    obtain ⟨v, hcv, ho, hr⟩ := h8 i row hi j x hx
    refine ⟨v, hcv, ho, fun hk => ?_⟩
    have hr := hr hk
    have hcell : cellOf w hd i j = some v := by
      simp only [cellOf, hv]
      rw [Addr.add_lit, cell_of_row w g _ cur t (0, 0) hh, ← Nat.add_assoc]
      exact hcv
    unfold NCell at hr ⊢
    split at hr
    · exact ⟨hr.1.less hD o (fun _ g' hg' => hs i j row _ _ v g' hi hx hk hcell hg'), hr.2⟩
    · exact Rep.less (K := X.K) hD o hr
theorem Inv.write_kept {w0 w : World} {S : Sc} {F : Addr → Prop} {ρ : List Hd} {M : List Blk} (hI : Inv X w0 S F ρ M w) {D : Nat} (hF : F ⟨D, 0, none⟩) (hD : ∀ a v, a.block = D → w.cell? a ≠ some v) (hN : ∀ a, S.F0 a → a.block ≠ D) (o : Obj) :
    Inv X w0 S (less F D) ρ M (w.putObj D o) where
  os := hI.os
  tape := hI.tape
  output := hI.output
  size := by simpa using hI.size
  frame := fun g h1 h2 => by
    have hne : g ≠ D := by
      rintro rfl
      rcases hI.old _ hF with h | h | h
      · exact hN _ h rfl
      · exact h2 h
      · simp only at h; omega
    rw [World.putObj_heap_other hne]; exact hI.frame g h1 h2
  len := hI.len
  rep := fun id b hd hb hh => (hI.rep id b hd hb hh).less hD o (fun hdd g hgb e => (hI.sep id b hd g hb hdd hh hgb).2.2 _ hF e.symm)
  sep := fun id b hd g hb hdd hh hgb => let ⟨a1, a2, a3⟩ := hI.sep id b hd g hb hdd hh hgb; ⟨by simpa using a1, a2, fun a ha => a3 a ha.1⟩
  disj := hI.disj
  fz := fun a ha => by simpa using hI.fz a ha.1
  glob := fun g => (hI.glob g).less hD o
  one := hI.one
  old := fun a ha => hI.old a ha.1
  fin := fun a ha => ⟨hI.fin a ha, hN a ha⟩
  nst := by
    have ne : ∀ {id p g}, Hid w ρ M id p g → g ≠ D := fun hh e => (hI.nst.own hh).2.2.1 _ hF e.symm
    refine ⟨fun {id p g} hh => ?_, fun {id id' p p' g} h1 h2 => ?_, fun {id t xs op hd} hb hh => (hI.nst.rep hb hh).less hD o (fun g hg => ne (.out hb hh hg)) fun i j row e ys v g hi hx ho hc hg => ne (.sub hb hh hi hx ho hc hg)⟩
    · have hh := hh.back hI.nst hI.len (fun _ _ h _ => h) (fun _ _ h _ => h) fun g _ _ h3 _ => World.putObj_heap_other (fun e => h3 _ hF e.symm)
      obtain ⟨a1, a2, a3, a4⟩ := hI.nst.own hh
      exact ⟨by simpa using a1, a2, fun a ha => a3 a ha.1, a4⟩
    · have b1 := h1.back hI.nst hI.len (fun _ _ h _ => h) (fun _ _ h _ => h) fun g _ _ h3 _ => World.putObj_heap_other (fun e => h3 _ hF e.symm)
      have b2 := h2.back hI.nst hI.len (fun _ _ h _ => h) (fun _ _ h _ => h) fun g _ _ h3 _ => World.putObj_heap_other (fun e => h3 _ hF e.symm)
      exact hI.nst.inj b1 b2
end
end Go.Eng

namespace Go.Eng
open Go
noncomputable section
variable {X : Cx} {R : Type}
inductive Rd where
  | out
  | unk
  | at (id : Nat)
  deriving Inhabited, DecidableEq
structure Cy where
  r : Option Nat
  db : Addr → Prop
  tv : Nat → Value
  df : List Deferred
structure St where
  env : List (Nat × AV)
  mem : List Blk
  dfs : List Nat
  rd : Rd
def Marks (F : Addr → Prop) (w : World) (db : Addr → Prop) (df ds : List Deferred) : Prop :=
  (∀ a, db a → F a) ∧ ∃ ms : List Nat, ds = ms.map (fun D => ({ target := .collected D, args := #[] } : Deferred)) ++ df ∧ ms.Nodup ∧ ∀ D ∈ ms, (∀ a, db a → a.block ≠ D) ∧ F ⟨D, 0, none⟩ ∧ w.heap[D]? = some (.deferred (some []))
def DefRep (F : Addr → Prop) (w : World) (db : Addr → Prop) (df : List Deferred) : List Nat → List Deferred → Prop
  | [], ds => Marks F w db df ds
  | _ :: _, _ => False
def RdRep (F : Addr → Prop) (w : World) (rdc : Option Nat) : Prop := rdc = none ∨ ∃ g r, rdc = some g ∧ F ⟨g, 0, none⟩ ∧ w.heap[g]? = some (.loop r)
theorem Marks.nil (F : Addr → Prop) (w : World) {db : Addr → Prop} {df : List Deferred} (h : ∀ a, db a → F a) : Marks F w db df df := ⟨h, [], rfl, List.nodup_nil, fun _ h => by simp at h⟩
theorem Marks.mono {F F' : Addr → Prop} {w w' : World} {db : Addr → Prop} (hF : ∀ a, F a → F' a) (hb : ∀ a, F a → w'.heap[a.block]? = w.heap[a.block]?) {df ds : List Deferred} (h : Marks F w db df ds) : Marks F' w' db df ds := by
  obtain ⟨h0, ms, h1, h2, h3⟩ := h
  exact ⟨fun a ha => hF _ (h0 a ha), ms, h1, h2, fun D hD => ⟨(h3 D hD).1, hF _ (h3 D hD).2.1, (hb _ (h3 D hD).2.1).trans (h3 D hD).2.2⟩⟩
theorem DefRep.mono {F F' : Addr → Prop} {w w' : World} {db : Addr → Prop} (hF : ∀ a, F a → F' a) (hb : ∀ a, F a → w'.heap[a.block]? = w.heap[a.block]?) : ∀ {df : List Deferred} {ids : List Nat} {ds : List Deferred}, DefRep F w db df ids ds → DefRep F' w' db df ids ds
  | _, [], _, hd => Marks.mono hF hb hd
theorem RdRep.mono {F F' : Addr → Prop} {w w' : World} (hF : ∀ a, F a → F' a) (hb : ∀ a, F a → w'.heap[a.block]? = w.heap[a.block]?) {rdc : Option Nat} (hr : RdRep F w rdc) : RdRep F' w' rdc := by
  rcases hr with h | ⟨g, r, h1, h2, h3⟩
  · exact .inl h
  · exact .inr ⟨g, r, h1, hF _ h2, (hb _ h2).trans h3⟩
structure Sim (X : Cx) (nt : Nt) (st : St) (rdc : Cy) (F : Addr → Prop) (ρ : List Hd) (a : Act) (w : World) : Prop where
  env : EnvRep X ρ F w st.env a.tmps
  size : a.tmps.size = nt.n
  defs : DefRep F w rdc.db rdc.df st.dfs a.defers
  rd : RdRep F w rdc.r
  kept : ∀ t, nt.mask.testBit t = false → a.tmps.getD t undef = rdc.tv t
theorem Sim.grow {nt : Nt} {st : St} {rdc : Cy} {F F' : Addr → Prop} {ρ ρ' : List Hd} {a : Act} {w w' : World} (h : Sim X nt st rdc F ρ a w) (g : Grow F F' ρ ρ' w w') : Sim X nt st rdc F' ρ' a w' :=
  ⟨h.env.grow g, h.size, h.defs.mono g.hF g.hb, h.rd.mono g.hF g.hb, h.kept⟩
def CodeRuns (X : Cx) (nt : Nt) (c : Code) (st : St) (e : Exit) (st' : St) : Prop :=
  ∀ {rdc : Cy} {n : Nat} {w0 : World} {S : Sc} {F : Addr → Prop} {ρ : List Hd} {a : Act} {w : World} {Q : Exit → Act → World → Prop}, Inv X w0 S F ρ st.mem w → Sim X nt st rdc F ρ a w →
    (∀ a' w' F' ρ', Inv X w0 S F' ρ' st'.mem w' → Sim X nt st' rdc F' ρ' a' w' → Grow F F' ρ ρ' w w' → Q e a' w') → c.wpIn (fen rdc.r) n X.P Q a w
def filt (keep : List Nat) (env : List (Nat × AV)) : List (Nat × AV) := env.filter fun p => keep.contains p.1
theorem look_filt (keep : List Nat) : ∀ (env : List (Nat × AV)) (t : Nat), look (filt keep env) t = if keep.contains t then look env t else .top
  | [], t => by simp [filt, look_cons, look_nil]
  | (u, x) :: env, t => by
    have ih := look_filt keep env t
    unfold filt at *
    rw [List.filter_cons]
    by_cases hu : keep.contains u = true
    · rw [if_pos hu]
      simp only [look_cons, look_nil]
      by_cases ht : t = u
      · subst ht; rw [if_pos hu]; simp
      · have : (t == u) = false := by simpa using ht
        simp only [this, Bool.false_eq_true, if_false, ih]
    · rw [if_neg hu, ih]
      by_cases hk : keep.contains t = true
      · rw [if_pos hk, if_pos hk]
        have ht : (t == u) = false := by
          by_cases ht : t = u
          · subst ht; exact absurd hk hu
          · simpa using ht
        simp only [look_cons, look_nil, ht, Bool.false_eq_true, if_false]
      · rw [if_neg hk, if_neg hk]
theorem EnvRep.filt {ρ : List Hd} {F : Addr → Prop} {w : World} {env : List (Nat × AV)} {tmps : Array Value} (h : EnvRep X ρ F w env tmps) (keep : List Nat) : EnvRep X ρ F w (filt keep env) tmps := by
  intro t
  rw [look_filt]
  split
  · exact h t
  · exact .top _
def putD (nt : Nt) (st : St) (dst : Option Tmp) (x : AV) (M : List Blk) (k : St → Option R) : Option R :=
  match dst with
  | none => k { st with mem := M }
  | some d => tst (Nat.blt d nt.n && nt.mask.testBit d) (k { st with env := (d, x) :: st.env, mem := M })
theorem EnvRep.put {ρ : List Hd} {F : Addr → Prop} {w : World} {env : List (Nat × AV)} {tmps : Array Value} (h : EnvRep X ρ F w env tmps) {d : Nat} (hd : d < tmps.size) {x : AV} {v : Value} (hx : Rep X.K ρ F w x v) :
    EnvRep X ρ F w ((d, x) :: env) (tmps.setIfInBounds d v) := by
  intro t
  simp only [look_cons, look_nil]
  by_cases ht : t = d
  · subst ht
    simp only [beq_self_eq_true, if_true]
    have : (tmps.setIfInBounds t v).getD t undef = v := by simp [Array.getD_eq_getD_getElem?, hd]
    rw [this]
    exact hx
  · have : (t == d) = false := by simpa using ht
    simp only [this, Bool.false_eq_true, if_false]
    have e : (tmps.setIfInBounds d v).getD t undef = tmps.getD t undef := by simp [Array.getD_eq_getD_getElem?, Array.getElem?_setIfInBounds_ne (Ne.symm ht)]
    rw [e]
    exact h t
theorem kept_put {mask d : Nat} (hd : mask.testBit d = true) {a : Act} {tv : Nat → Value} (h : ∀ t, mask.testBit t = false → a.tmps.getD t undef = tv t) {v : Value} : ∀ t, mask.testBit t = false → (a.put (some d) v).tmps.getD t undef = tv t := by
  intro t ht
  have hne : d ≠ t := fun e => by subst e; rw [hd] at ht; cases ht
  rw [← h t ht]
  simp [Act.put, Array.getD_eq_getD_getElem?, Array.getElem?_setIfInBounds_ne hne]
theorem Sim.put {nt : Nt} {st : St} {rdc : Cy} {F : Addr → Prop} {ρ : List Hd} {a : Act} {w : World} (h : Sim X nt st rdc F ρ a w) {dst : Option Tmp} {x : AV} {v : Value} (hx : Rep X.K ρ F w x v) {M : List Blk} {k : St → Option R} {r : R} (hk : putD nt st dst x M k = some r) :
    ∃ st', k st' = some r ∧ st'.mem = M ∧ ∀ {rdc : Cy} {F : Addr → Prop} {ρ : List Hd} {a : Act} {w : World} {v : Value}, Sim X nt st rdc F ρ a w → Rep X.K ρ F w x v → Sim X nt st' rdc F ρ (a.put dst v) w := by
  unfold putD at hk
  cases dst with
  | none => exact ⟨_, hk, rfl, fun {rdc F ρ a w v} h _ => ⟨h.env, h.size, h.defs, h.rd, h.kept⟩⟩
  | some d =>
    replace hk := tst_some hk
    obtain ⟨hd, hk⟩ := hk
    refine ⟨_, hk, rfl, fun {rdc F ρ a w v} h hx => ⟨h.env.put (by rw [h.size]; simp only [Bool.and_eq_true] at hd; simpa using hd.1) hx, by simp [Act.put, h.size], h.defs, h.rd, kept_put (by simp only [Bool.and_eq_true] at hd; exact hd.2) h.kept⟩⟩
theorem putD_some {nt : Nt} {st : St} {dst : Option Tmp} {x : AV} {M : List Blk} {k : St → Option R} {r : R} (hk : putD nt st dst x M k = some r) :
    ∃ st', k st' = some r ∧ st'.mem = M ∧ ∀ {rdc : Cy} {F : Addr → Prop} {ρ : List Hd} {a : Act} {w : World} {v : Value}, Sim X nt st rdc F ρ a w → Rep X.K ρ F w x v → Sim X nt st' rdc F ρ (a.put dst v) w := by
  unfold putD at hk
  cases dst with
  | none => exact ⟨_, hk, rfl, fun {rdc F ρ a w v} h _ => ⟨h.env, h.size, h.defs, h.rd, h.kept⟩⟩
  | some d =>
    replace hk := tst_some hk
    obtain ⟨hd, hk⟩ := hk
    refine ⟨_, hk, rfl, fun {rdc F ρ a w v} h hx => ⟨h.env.put (by rw [h.size]; simp only [Bool.and_eq_true] at hd; simpa using hd.1) hx, by simp [Act.put, h.size], h.defs, h.rd, kept_put (by simp only [Bool.and_eq_true] at hd; exact hd.2) h.kept⟩⟩
def gslot (ops : Array Oper) (j : Nat) : Option Nat := (ops[j]?).bind (·.dst)
def evops (X : Cx) (T : Tab R) (ops : Array Oper) : List Oper → St → (St → Option R) → Option R
  | [], st, k => k st
  | o :: rest, st, k =>
    match o.guard with
    | none => evop X T (evv X st.env) o st.mem fun x M => putD T.nt st o.dst x M fun st' => evops X T ops rest st' k
    | some (j, want) =>
      match gslot ops j with
      | none => none
      | some d =>
        match look st.env d with
        | .bool b =>
          match b with
          | true => match want with
            | true => evop X T (evv X ((d, .bool true) :: st.env)) o st.mem fun x M => putD T.nt { st with env := (d, .bool true) :: st.env } o.dst x M fun st' => evops X T ops rest st' k
            | false => putD T.nt { st with env := (d, .bool true) :: st.env } o.dst (.tup []) st.mem fun st' => evops X T ops rest st' k
          | false => match want with
            | false => evop X T (evv X ((d, .bool false) :: st.env)) o st.mem fun x M => putD T.nt { st with env := (d, .bool false) :: st.env } o.dst x M fun st' => evops X T ops rest st' k
            | true => putD T.nt { st with env := (d, .bool false) :: st.env } o.dst (.tup []) st.mem fun st' => evops X T ops rest st' k
        | .tup [] => putD T.nt st o.dst (.tup []) st.mem fun st' => evops X T ops rest st' k
        | _ => none
theorem rep_undef {K : TypeId → List Kind} {ρ : List Hd} {F : Addr → Prop} {w : World} : Rep K ρ F w (.tup []) undef := .tup [] [] rfl (fun j x v h _ => by simp at h)
theorem yielded_of {ops : Array Oper} {j d : Nat} (hd : gslot ops j = some d) {tmps : Array Value} {b : Bool} (h : tmps.getD d undef = .bool b) : yielded ops tmps j = some b := by
  unfold yielded
  unfold gslot at hd
  rw [hd]
  simp only [Option.bind_some]
  rw [Array.getD_eq_getD_getElem?] at h
  cases ht : tmps[d]? with
  | none => rw [ht] at h; simp [undef] at h
  | some v => rw [ht] at h; simp only [Option.getD_some] at h; rw [h]
theorem yielded_undef {ops : Array Oper} {j d : Nat} (hd : gslot ops j = some d) {tmps : Array Value} (h : tmps.getD d undef = undef) : yielded ops tmps j = none := by
  unfold yielded
  unfold gslot at hd
  rw [hd]
  simp only [Option.bind_some]
  rw [Array.getD_eq_getD_getElem?] at h
  cases ht : tmps[d]? with
  | none => rfl
  | some v => rw [ht] at h; simp only [Option.getD_some] at h; rw [h]; rfl
theorem wpOpsIn_cons' {rdc : Cy} {n : Nat} {ops : Array Oper} {Q : Exit → Act → World → Prop} {i : Nat} {rest : List Nat} {o : Oper} (ho : ops[i]? = some o) {a : Act} {w : World}
    (h : wpOpIn (fen rdc.r) n X.P ops Q i (wpOpsIn (fen rdc.r) n X.P ops Q rest) a w) : wpOpsIn (fen rdc.r) n X.P ops Q (i :: rest) a w := by
  rw [wpOpsIn_cons]; exact h
def OneRuns (X : Cx) (nt : Nt) (ops : Array Oper) (o : Oper) (st st' : St) : Prop :=
  ∀ {rdc : Cy} {n : Nat} {w0 : World} {S : Sc} {F : Addr → Prop} {ρ : List Hd} {a : Act} {w : World} {Q : Exit → Act → World → Prop} {K : Act → World → Prop}, Inv X w0 S F ρ st.mem w → Sim X nt st rdc F ρ a w →
    (∀ a' w' F' ρ', Inv X w0 S F' ρ' st'.mem w' → Sim X nt st' rdc F' ρ' a' w' → Grow F F' ρ ρ' w w' → K a' w') →
    ∀ i, ops[i]? = some o → wpOpIn (fen rdc.r) n X.P ops Q i K a w
theorem one_run {nt : Nt} {ops : Array Oper} {o : Oper} {st stg st' : St} {x : AV} {M' : List Blk} (hop : OpRuns X o (evv X stg.env) st.mem x M')
    (hg : ∀ {rdc : Cy} {F : Addr → Prop} {ρ : List Hd} {a : Act} {w : World}, Sim X nt st rdc F ρ a w → Sim X nt stg rdc F ρ a w ∧ Region.wanted o (yielded ops a.tmps) = true)
    (hm : st'.mem = M') (hp : ∀ {rdc : Cy} {F : Addr → Prop} {ρ : List Hd} {a : Act} {w : World} {v : Value}, Sim X nt stg rdc F ρ a w → Rep X.K ρ F w x v → Sim X nt st' rdc F ρ (a.put o.dst v) w) : OneRuns X nt ops o st st' := by
  intro rdc n w0 S F ρ a w Q K hI hs hk i hi
  obtain ⟨hs', hw⟩ := hg hs
  unfold wpOpIn
  simp only [hi, hw, if_true]
  refine hop hI (fun y => evv_rep hI hs'.env y) ?_
  intro v w' ρ' F' hI' hgr hx
  exact hk _ w' F' ρ' (hm ▸ hI') (hp (hs'.grow hgr) hx) hgr
theorem one_skip {nt : Nt} {ops : Array Oper} {o : Oper} {st stg st' : St}
    (hg : ∀ {rdc : Cy} {F : Addr → Prop} {ρ : List Hd} {a : Act} {w : World}, Sim X nt st rdc F ρ a w → Sim X nt stg rdc F ρ a w ∧ Region.wanted o (yielded ops a.tmps) = false)
    (hm : st'.mem = st.mem) (hp : ∀ {rdc : Cy} {F : Addr → Prop} {ρ : List Hd} {a : Act} {w : World} {v : Value}, Sim X nt stg rdc F ρ a w → Rep X.K ρ F w (.tup []) v → Sim X nt st' rdc F ρ (a.put o.dst v) w) : OneRuns X nt ops o st st' := by
  intro rdc n w0 S F ρ a w Q K hI hs hk i hi
  obtain ⟨hs', hw⟩ := hg hs
  unfold wpOpIn
  simp only [hi, hw, Bool.false_eq_true, if_false]
  exact ⟨fun _ _ => trivial, hk _ w F ρ (hm ▸ hI) (hp hs' rep_undef) (Grow.refl _ _ _)⟩
theorem wanted_none {o : Oper} (h : o.guard = none) (y : Nat → Option Bool) : Region.wanted o y = true := by unfold Region.wanted; rw [h]
theorem wanted_some {o : Oper} {j : Nat} {want : Bool} (h : o.guard = some (j, want)) (y : Nat → Option Bool) : Region.wanted o y = (y j == some want) := by unfold Region.wanted; rw [h]
theorem Sim.refine {nt : Nt} {st : St} {rdc : Cy} {F : Addr → Prop} {ρ : List Hd} {a : Act} {w : World} (h : Sim X nt st rdc F ρ a w) {d : Nat} {x : AV} (hx : look st.env d = x) : Sim X nt { st with env := (d, x) :: st.env } rdc F ρ a w := by
  refine ⟨fun t => ?_, h.size, h.defs, h.rd, h.kept⟩
  simp only [look_cons, look_nil]
  by_cases ht : t = d
  · subst ht; simp only [beq_self_eq_true, if_true]; rw [← hx]; exact h.env t
  · have : (t == d) = false := by simpa using ht
    simp only [this, Bool.false_eq_true, if_false]
    exact h.env t
theorem evops_step (hX : X.Okb) {T : Tab R} (hT : T.CallOk X) {ops : Array Oper} {o : Oper} {rest : List Oper} {st : St} {k : St → Option R} {r : R} (h : evops X T ops (o :: rest) st k = some r) :
    ∃ st', OneRuns X T.nt ops o st st' ∧ evops X T ops rest st' k = some r := by
  simp only [evops] at h
  split at h
  · rename_i hgd
    obtain ⟨x, M', hop, h, _⟩ := evop_sound hX hT h
    obtain ⟨st', h, hm, hp⟩ := putD_some (X := X) h
    exact ⟨st', one_run (stg := st) hop (fun {rdc F ρ a w} hs => ⟨hs, wanted_none hgd _⟩) hm hp, h⟩
  · rename_i j want hgd
    split at h
    · cases h
    · rename_i d hd
      have ysome : ∀ {b : Bool}, look st.env d = .bool b → ∀ {rdc : Cy} {F : Addr → Prop} {ρ : List Hd} {a : Act} {w : World}, Sim X T.nt st rdc F ρ a w → yielded ops a.tmps j = some b := by
        intro b hb rdc F ρ a w hs
        have := hs.env d
        rw [hb] at this
        generalize hv : a.tmps.getD d undef = v at this
        cases this
        exact yielded_of hd hv
      have run : ∀ (b : Bool), look st.env d = .bool b → want = b → (evop X T (evv X ((d, .bool b) :: st.env)) o st.mem fun x M => putD T.nt { st with env := (d, .bool b) :: st.env } o.dst x M fun st' => evops X T ops rest st' k) = some r →
          ∃ st', OneRuns X T.nt ops o st st' ∧ evops X T ops rest st' k = some r := by
        intro b hb hwb h
        obtain ⟨x, M', hop, h, _⟩ := evop_sound hX hT h
        obtain ⟨st', h, hm, hp⟩ := putD_some (X := X) h
        refine ⟨st', one_run (stg := { st with env := (d, .bool b) :: st.env }) hop (fun {rdc F ρ a w} hs => ⟨hs.refine hb, ?_⟩) hm hp, h⟩
        rw [wanted_some hgd, ysome hb hs, hwb]
        simp
      have skip : ∀ (b : Bool), look st.env d = .bool b → want ≠ b → (putD T.nt { st with env := (d, .bool b) :: st.env } o.dst (.tup []) st.mem fun st' => evops X T ops rest st' k) = some r →
          ∃ st', OneRuns X T.nt ops o st st' ∧ evops X T ops rest st' k = some r := by
        intro b hb hwb h
        obtain ⟨st', h, hm, hp⟩ := putD_some (X := X) h
        refine ⟨st', one_skip (stg := { st with env := (d, .bool b) :: st.env }) (fun {rdc F ρ a w} hs => ⟨hs.refine hb, ?_⟩) hm hp, h⟩
        rw [wanted_some hgd, ysome hb hs]
        simp only [beq_eq_false_iff_ne, ne_eq, Option.some.injEq]
        exact fun e => hwb e.symm
      split at h
      · rename_i b hb
        split at h
        · split at h
          · exact run true hb rfl h
          · exact skip true hb (by simp) h
        · split at h
          · exact run false hb rfl h
          · exact skip false hb (by simp) h
      · rename_i hb
        obtain ⟨st', h, hm, hp⟩ := putD_some (X := X) h
        refine ⟨st', one_skip (stg := st) (fun {rdc F ρ a w} hs => ⟨hs, ?_⟩) hm hp, h⟩
        have := hs.env d
        rw [hb] at this
        generalize hv : a.tmps.getD d undef = v at this
        have hu : v = undef := by
          cases this with
          | tup _ vs hl _ => have : vs = [] := List.eq_nil_of_length_eq_zero (by simpa using hl); subst this; rfl
        rw [wanted_some hgd, yielded_undef hd (hv.trans hu)]
        simp
      · cases h
theorem evops_sound (hX : X.Okb) {T : Tab R} (hT : T.CallOk X) {ops : Array Oper} : ∀ (rest : List Oper) (m : Nat) {st : St} {k : St → Option R} {r : R}, (∀ (i : Nat), rest[i]? = ops[m + i]?) → evops X T ops rest st k = some r →
    ∃ st', k st' = some r ∧ ∀ {rdc : Cy} {n : Nat} {w0 : World} {S : Sc} {F : Addr → Prop} {ρ : List Hd} {a : Act} {w : World} {Q : Exit → Act → World → Prop}, Inv X w0 S F ρ st.mem w → Sim X T.nt st rdc F ρ a w →
      (∀ a' w' F' ρ', Inv X w0 S F' ρ' st'.mem w' → Sim X T.nt st' rdc F' ρ' a' w' → Grow F F' ρ ρ' w w' → Q .normal a' w') → wpOpsIn (fen rdc.r) n X.P ops Q ((List.range rest.length).map (m + ·)) a w
  | [], m, st, k, r, _, h => ⟨st, h, fun {rdc n w0 S F ρ a w Q} hI hs hq => hq a w F ρ hI hs (Grow.refl _ _ _)⟩
  | o :: rest, m, st, k, r, hr, h => by
    obtain ⟨st1, h1, h⟩ := evops_step hX hT h
    obtain ⟨st2, h, h2⟩ := evops_sound hX hT rest (m + 1) (fun i => by have := hr (i + 1); rw [show m + 1 + i = m + (i + 1) by omega]; simpa using this) h
    refine ⟨st2, h, fun {rdc n w0 S F ρ a w Q} hI hs hq => ?_⟩
    have ho : ops[m]? = some o := by have := hr 0; simpa using this.symm
    have hl : (List.range (o :: rest).length).map (m + ·) = m :: (List.range rest.length).map ((m + 1) + ·) := by
      rw [List.length_cons, List.range_succ_eq_map, List.map_cons, List.map_map]
      congr 1
      apply List.map_congr_left
      intro i _
      simp; omega
    rw [hl]
    refine wpOpsIn_cons' ho (h1 hI hs ?_ m ho)
    intro a' w' F' ρ' hI' hs' hg
    exact h2 hI' hs' (fun a'' w'' F'' ρ'' hI'' hs'' hg'' => hq a'' w'' F'' ρ'' hI'' hs'' (hg.trans hg''))
end
end Go.Eng

namespace Go.Eng
open Go
noncomputable section
variable {X : Cx} {R R' : Type} {M M' : List Blk}
def Det (f : (R : Type) → (AV → Option R) → Option R) : Prop := ∀ {R : Type} {k : AV → Option R} {r : R}, f R k = some r → ∃ y, k y = some r ∧ ∀ (R' : Type) (k' : AV → Option R'), f R' k' = k' y
theorem det_nil0 {x : AV} {k : Bool → Option R} {r : R} (h : evNil x k = some r) : ∃ b, k b = some r ∧ ∀ (R' : Type) (k' : Bool → Option R'), evNil x k' = k' b := by
  unfold evNil at h
  split at h
  · exact ⟨_, h, fun R' k' => rfl⟩
  · exact ⟨_, h, fun R' k' => rfl⟩
  · split at h
    · cases h
    · rename_i he
      exact ⟨_, h, fun R' k' => by simp only [evNil, he]⟩
  · cases h
theorem det_bin (op : BinOp) (t : TypeId) (x y : AV) : Det fun _ k => evBin X op t x y k := by
  intro R k r h
  simp only [evBin] at h ⊢
  split at h
  · rename_i kx a ky b
    cases op <;> simp only at h ⊢ <;> first
      | (replace h := tst_some h; obtain ⟨e, h⟩ := h
         first
          | (exact ⟨_, h, fun R' k' => by simp only [e, tst]⟩)
          | (replace h := tst_some h; obtain ⟨e2, h⟩ := h
             exact ⟨_, h, fun R' k' => by simp only [e, e2, tst]⟩)
          | (cases h))
      | cases h
  · rename_i a b
    split at h
    · rename_i h1 h2
      exact ⟨_, h, fun R' k' => by simp only [h1, h2]⟩
    · rename_i h1 h2
      exact ⟨_, h, fun R' k' => by simp only [h1, h2]⟩
    · cases h
  · rename_i xs ys
    split at h
    · rename_i fs h1 h2 h3
      split at h
      · cases h
      · rename_i bb hbb
        split at h
        · exact ⟨_, h, fun R' k' => by simp only [h1, h2, h3, hbb]⟩
        · exact ⟨_, h, fun R' k' => by simp only [h1, h2, h3, hbb]⟩
        · cases h
    · cases h
  · split at h
    · rename_i h1 h2
      obtain ⟨b, h, hd⟩ := det_nil0 h
      exact ⟨_, h, fun R' k' => hd _ _⟩
    · rename_i h1 h2
      obtain ⟨b, h, hd⟩ := det_nil0 h
      exact ⟨_, h, fun R' k' => hd _ _⟩
    · cases h
  · cases h
theorem det_un (op : UnOp) (x : AV) : Det fun _ k => evUn op x k := by
  intro R k r h
  simp only [evUn] at h ⊢
  split at h
  · exact ⟨_, h, fun R' k' => rfl⟩
  · exact ⟨_, h, fun R' k' => rfl⟩
  · exact ⟨_, h, fun R' k' => rfl⟩
  · cases h
theorem det_conv (s d : TypeId) (x : AV) : Det fun _ k => evConv X s d x k := by
  intro R k r h
  simp only [evConv] at h ⊢
  split at h
  · rename_i h1 h2 h3
    exact ⟨_, h, fun R' k' => by simp only [h1, h2, h3]⟩
  · cases h
theorem det_nil (x : AV) : Det fun _ k => evNilCheck x k := by
  intro R k r h
  simp only [evNilCheck] at h ⊢
  split at h
  · exact ⟨_, h, fun R' k' => rfl⟩
  · exact ⟨_, h, fun R' k' => rfl⟩
  · exact ⟨_, h, fun R' k' => rfl⟩
  · cases h
theorem det_fieldAddr (t : TypeId) (x : AV) (f : Nat) : Det fun _ k => evFieldAddr X t x f k := by
  intro R k r h
  simp only [evFieldAddr] at h ⊢
  split at h
  · rename_i fs h1 h2
    split at h
    · rename_i off ft h3
      replace h := tst_some h
      obtain ⟨e, h⟩ := h
      split at h
      · exact ⟨_, h, fun R' k' => by simp only [h1, h2, h3, e, tst]⟩
      · exact ⟨_, h, fun R' k' => by simp only [h1, h2, h3, e, tst]⟩
      · cases h
    · cases h
  · cases h
theorem det_part (t : TypeId) (cs : List AV) (off : Nat) : Det fun _ k => evPart X t cs off k := by
  intro R k r h
  simp only [evPart] at h ⊢
  replace h := tst_some h
  obtain ⟨e, h⟩ := h
  split at h
  · rename_i h1
    exact ⟨_, h, fun R' k' => by simp only [h1, e, tst]⟩
  · rename_i h1
    replace h := tst_some h
    obtain ⟨e2, h⟩ := h
    exact ⟨_, h, fun R' k' => by simp only [h1, e, e2, tst]⟩
theorem det_field (t : TypeId) (x : AV) (f : Nat) : Det fun _ k => evField X t x f k := by
  intro R k r h
  simp only [evField] at h ⊢
  split at h
  · rename_i fs cs h1 h2
    split at h
    · rename_i off ft h3
      obtain ⟨y, h, hd⟩ := det_part _ _ _ h
      exact ⟨y, h, fun R' k' => hd R' k'⟩
    · cases h
  · cases h
theorem det_index (t : TypeId) (x i : AV) : Det fun _ k => evIndex X t x i k := by
  intro R k r h
  simp only [evIndex] at h ⊢
  split at h
  · rename_i len e cs kk n h1 h2
    replace h := tst_some h
    obtain ⟨e1, h⟩ := h
    obtain ⟨y, h, hd⟩ := det_part _ _ _ h
    exact ⟨y, h, fun R' k' => by simp only [h1, h2, e1, tst]; exact hd R' k'⟩
  · rename_i h1 h2
    replace h := tst_some h
    obtain ⟨e1, h⟩ := h
    split at h
    · cases h
    · rename_i b hb
      exact ⟨_, h, fun R' k' => by simp only [h1, h2, e1, hb, tst]⟩
  · cases h
theorem det_build (t : TypeId) (ps : List (Nat × AV)) : Det fun _ k => evBuild X t ps k := by
  intro R k r h
  simp only [evBuild] at h ⊢
  split at h
  · rename_i fs h1 h2
    replace h := tst_some h
    obtain ⟨e1, h⟩ := h
    split at h
    · rename_i cs h3
      exact ⟨_, h, fun R' k' => by simp only [h1, h2, h3, e1, tst]⟩
    · cases h
  · rename_i n e h1 h2
    replace h := tst_some h
    obtain ⟨e1, h⟩ := h
    split at h
    · rename_i cs h3
      exact ⟨_, h, fun R' k' => by simp only [h1, h2, h3, e1, tst]⟩
    · cases h
  · cases h
theorem det_min (f : Int → Int → Int) (xs : List AV) : Det fun _ k => evMin f xs k := by
  intro R k r h
  simp only [evMin] at h ⊢
  split at h
  · split at h
    · rename_i h1
      exact ⟨_, h, fun R' k' => by simp only [h1]⟩
    · cases h
  · cases h
theorem mem_load {t : TypeId} {p : AV} {k : AV → Option R} {r : R} (h : evLoad X t p M k = some r) : ∃ y, k y = some r ∧ ∀ (M' : List Blk), (∀ id ∈ ptrIds p, M'[id]? = M[id]?) → ∀ (R' : Type) (k' : AV → Option R'), evLoad X t p M' k' = k' y := by
  unfold evLoad at h
  simp only [gm_eq] at h
  split at h
  · replace h := tst_some h
    obtain ⟨e, h⟩ := h
    split at h
    · rename_i h1
      exact ⟨_, h, fun M' _ R' k' => by simp only [gm_eq, evLoad, h1, e, tst]⟩
    · rename_i h1
      replace h := tst_some h
      obtain ⟨e2, h⟩ := h
      exact ⟨_, h, fun M' _ R' k' => by simp only [gm_eq, evLoad, h1, e, e2, tst]⟩
  · rename_i id i off
    split at h
    · rename_i hb
      replace h := tst_some h
      obtain ⟨e, h⟩ := h
      split at h
      · rename_i h1
        exact ⟨_, h, fun M' hM R' k' => by have hm := hM id (by simp [ptrIds]); simp only [gm_eq, evLoad, hm, hb, h1, e, tst]⟩
      · rename_i h1
        replace h := tst_some h
        obtain ⟨e2, h⟩ := h
        exact ⟨_, h, fun M' hM R' k' => by have hm := hM id (by simp [ptrIds]); simp only [gm_eq, evLoad, hm, hb, h1, e, e2, tst]⟩
    · rename_i hb
      replace h := tst_some h
      obtain ⟨e, h⟩ := h
      split at h
      · rename_i h1
        exact ⟨_, h, fun M' hM R' k' => by have hm := hM id (by simp [ptrIds]); simp only [gm_eq, evLoad, hm, hb, h1, e, tst]⟩
      · rename_i h1
        replace h := tst_some h
        obtain ⟨e2, h⟩ := h
        exact ⟨_, h, fun M' hM R' k' => by have hm := hM id (by simp [ptrIds]); simp only [gm_eq, evLoad, hm, hb, h1, e, e2, tst]⟩
    · rename_i t' xs op hb
      replace h := tst_some h
      obtain ⟨e, h⟩ := h
      split at h
      · cases h
      · rename_i h1
        replace h := tst_some h
        obtain ⟨e2, h⟩ := h
        split at h
        · rename_i i0 k0 h3
          replace h := tst_some h
          obtain ⟨e3, h⟩ := h
          exact ⟨_, h, fun M' hM R' k' => by have hm := hM id (by simp [ptrIds]); simp only [gm_eq, evLoad, hm, hb, h1, e, e2, h3, e3, tst]⟩
        · rename_i h3
          unfold ldN at h
          split at h
          · rename_i h4
            replace h := tst_some h
            obtain ⟨e3, h⟩ := h
            exact ⟨_, h, fun M' hM R' k' => by have hm := hM id (by simp [ptrIds]); simp only [gm_eq, evLoad, hm, hb, h1, e, e2, h3, ldN, h4, e3, tst]⟩
          · rename_i h4
            refine ⟨_, h, fun M' hM R' k' => ?_⟩
            have hm := hM id (by simp [ptrIds])
            simp only [gm_eq, evLoad, hm, hb, h1, e, e2, h3, tst]
            unfold ldN
            split
            · rename_i h5; exact absurd h5 (h4 _)
            · rfl
    · cases h
  · cases h
theorem mem_indexAddr {t : TypeId} {x i : AV} {k : AV → Option R} {r : R} (h : evIndexAddr X t x i M k = some r) : ∃ y, k y = some r ∧ ∀ (M' : List Blk), (∀ id ∈ rdIds x, M'[id]? = M[id]?) → ∀ (R' : Type) (k' : AV → Option R'), evIndexAddr X t x i M' k' = k' y := by
  unfold evIndexAddr at h
  simp only [gm_eq] at h
  split at h
  · split at h
    · rename_i h1 h2
      replace h := tst_some h
      obtain ⟨e, h⟩ := h
      split at h
      · replace h := tst_some h
        obtain ⟨e2, h⟩ := h
        exact ⟨_, h, fun M' _ R' k' => by simp only [gm_eq, evIndexAddr, h1, h2, e, e2, tst]⟩
      · rename_i id
        split at h
        · rename_i hb
          replace h := tst_some h
          obtain ⟨e2, h⟩ := h
          exact ⟨_, h, fun M' hM R' k' => by have hm := hM id (by simp [rdIds]); simp only [gm_eq, evIndexAddr, h1, h2, hm, hb, e, e2, tst]⟩
        · rename_i hb
          replace h := tst_some h
          obtain ⟨e2, h⟩ := h
          exact ⟨_, h, fun M' hM R' k' => by have hm := hM id (by simp [rdIds]); simp only [gm_eq, evIndexAddr, h1, h2, hm, hb, e, e2, tst]⟩
        · rename_i hb
          replace h := tst_some h
          obtain ⟨e2, h⟩ := h
          exact ⟨_, h, fun M' hM R' k' => by have hm := hM id (by simp [rdIds]); simp only [gm_eq, evIndexAddr, h1, h2, hm, hb, e, e2, tst]⟩
        · cases h
      · replace h := tst_some h
        obtain ⟨e2, h⟩ := h
        exact ⟨_, h, fun M' _ R' k' => by simp only [gm_eq, evIndexAddr, h1, h2, e, e2, tst]⟩
      · rename_i id lo m
        split at h
        · rename_i hb
          replace h := tst_some h
          obtain ⟨e2, h⟩ := h
          exact ⟨_, h, fun M' hM R' k' => by have hm := hM id (by simp [rdIds]); simp only [gm_eq, evIndexAddr, h1, h2, hm, hb, e, e2, tst]⟩
        · cases h
      · cases h
    · rename_i h1 h2
      replace h := tst_some h
      obtain ⟨e, h⟩ := h
      split at h
      · exact ⟨_, h, fun M' _ R' k' => by simp only [gm_eq, evIndexAddr, h1, h2, e, tst]⟩
      · exact ⟨_, h, fun M' _ R' k' => by simp only [gm_eq, evIndexAddr, h1, h2, e, tst]⟩
      · cases h
    · cases h
  · cases h
theorem rowsOf_congr {x : AV} (h : ∀ id ∈ rdIds x, M'[id]? = M[id]?) : rowsOf M' x = rowsOf M x := by
  cases x <;> simp only [gm_eq, rowsOf]
  · rename_i id
    rw [h id (by simp [rdIds])]
  · rename_i id lo m
    rw [h id (by simp [rdIds])]
theorem evLen_slice {t e : TypeId} {x : AV} {k : AV → Option R} (h1 : (X.ti t).ok = true) (h2 : (X.ti t).u = .slice e) (hx : ∀ id m, x ≠ .vsl id m) (hx2 : ∀ id lo m, x ≠ .vw id lo m) : evLen X t x M k = match rowsOf M x with | some (_, xs) => k (.int .i64 xs.length) | none => nLen M x fun n => k (.int .i64 n) := by
  cases x <;> first
    | exact absurd rfl (hx _ _)
    | exact absurd rfl (hx2 _ _ _)
    | (unfold evLen; simp only [h1, h2]; rfl)
    | (unfold evLen; simp only [h1, h2]; generalize rowsOf M _ = o; cases o <;> rfl)
theorem mem_len {t : TypeId} {x : AV} {k : AV → Option R} {r : R} (h : evLen X t x M k = some r) : ∃ y, k y = some r ∧ ∀ (M' : List Blk), (∀ id ∈ rdIds x, M'[id]? = M[id]?) → ∀ (R' : Type) (k' : AV → Option R'), evLen X t x M' k' = k' y := by
  unfold evLen at h
  split at h
  · rename_i h1 h2
    exact ⟨_, h, fun M' _ R' k' => by simp only [evLen, h1, h2]⟩
  · rename_i h1 h2
    exact ⟨_, h, fun M' _ R' k' => by simp only [evLen, h1, h2]⟩
  · rename_i h1 h2
    exact ⟨_, h, fun M' _ R' k' => by simp only [evLen, h1, h2]⟩
  · rename_i h1 h2
    exact ⟨_, h, fun M' _ R' k' => by simp only [evLen, h1, h2]⟩
  · rename_i e h1 h2 hx' hx2'
    split at h
    · rename_i o xs hr
      refine ⟨_, h, fun M' hM R' k' => ?_⟩
      have := rowsOf_congr (M := M) (M' := M') hM
      rw [evLen_slice h1 h2 hx' hx2', this, hr]
    · rename_i hr
      obtain ⟨id, t', xs, op, rfl, hb, h⟩ := nLen_some h
      refine ⟨_, h, fun M' hM R' k' => ?_⟩
      have := rowsOf_congr (M := M) (M' := M') hM
      have hm := hM id (by simp [rdIds])
      rw [evLen_slice h1 h2 hx' hx2', this, hr]
      simp only [nLen, gm_eq, hm, hb]
  · cases h
theorem mem_slice {t : TypeId} {x : AV} {lo hi mx : Option AV} {k : AV → List Blk → Option R} {r : R} (hx : rdIds x = []) (h : evSlice X t x lo hi mx M k = some r) :
    ∃ y, k y M = some r ∧ ∀ (M' : List Blk) (R' : Type) (k' : AV → List Blk → Option R'), evSlice X t x lo hi mx M' k' = k' y M' := by
  have hrow : ∀ M', rowsOf M' x = rowsOf M x := fun M' => rowsOf_congr (by rw [hx]; simp)
  unfold evSlice at h
  simp only [gm_eq] at h
  split at h
  · rename_i e h1 h2
    split at h
    · rename_i o xs h3
      split at h
      · rename_i l hh m h4 h5 h6
        replace h := tst_some h
        obtain ⟨h7, h⟩ := h
        split at h
        · replace h := tst_some h
          obtain ⟨h8, h⟩ := h
          exact ⟨_, h, fun M' R' k' => by unfold evSlice; simp only [gm_eq, h1, h2, hrow M', h3, h4, h5, h6, h7, h8, tst]⟩
        · exact ⟨_, h, fun M' R' k' => by unfold evSlice; simp only [gm_eq, h1, h2, hrow M', h3, h4, h5, h6, h7, tst]⟩
        · simp [rdIds] at hx
        · cases h
      · cases h
    · cases h
  · cases h
theorem mem_view {t : TypeId} {x : AV} {lo hi : Option AV} {k : AV → Option R} {r : R} (h : evView X t x lo hi M k = some r) : ∃ y, k y = some r ∧ ∀ (M' : List Blk), (∀ id ∈ rdIds x, M'[id]? = M[id]?) → ∀ (R' : Type) (k' : AV → Option R'), evView X t x lo hi M' k' = k' y := by
  unfold evView at h
  simp only [gm_eq] at h
  split at h
  · rename_i id
    split at h
    · rename_i h1 h2
      split at h
      · rename_i hb
        split at h
        · rename_i h3 h4
          replace h := tst_some h
          obtain ⟨e, h⟩ := h
          exact ⟨_, h, fun M' hM R' k' => by have hm := hM id (by simp [rdIds]); simp only [gm_eq, evView, h1, h2, hm, hb, h3, h4, e, tst]⟩
        · cases h
      · cases h
    · cases h
  · cases h
theorem mem_lkOut {et : TypeId} {ok : Bool} {k : AV → Option R} {o : Option AV} {r : R} (h : lkOut X et ok k o = some r) : ∃ y, k y = some r ∧ ∀ (R' : Type) (k' : AV → Option R'), lkOut X et ok k' o = k' y :=
  ⟨_, lkOut_spec h, fun R' k' => by cases o <;> cases ok <;> rfl⟩
theorem mem_lookup {t : TypeId} {x i : AV} {ok : Bool} {k : AV → Option R} {r : R} (h : evLookup X t x i ok M k = some r) : ∃ y, k y = some r ∧ ∀ (M' : List Blk), (∀ id ∈ mpIds x, M'[id]? = M[id]?) → ∀ (R' : Type) (k' : AV → Option R'), evLookup X t x i ok M' k' = k' y := by
  unfold evLookup at h
  simp only [gm_eq] at h
  split at h
  case h_2 => cases h
  rename_i kt et h1 h2
  split at h
  case h_2 => cases h
  rename_i kd h3
  replace h := tst_some h
  obtain ⟨h4, h⟩ := h
  cases x <;> simp only at h <;> try (cases h; done)
  case nilmp =>
    obtain ⟨y, h, hd⟩ := mem_lkOut h
    exact ⟨y, h, fun M' _ R' k' => by unfold evLookup; simp only [gm_eq, h1, h2, h3, h4, tst]; exact hd R' k'⟩
  case mp id =>
    split at h
    case h_2 => cases h
    rename_i kd' ag ks es hb
    replace h := tst_some h
    obtain ⟨h5, h⟩ := h
    split at h
    · rename_i h6
      split at h
      · rename_i y' h7
        obtain ⟨y, h, hd⟩ := mem_lkOut h
        exact ⟨y, h, fun M' hM R' k' => by unfold evLookup; have hm := hM id (by simp [mpIds]); simp only [gm_eq, h1, h2, h3, h4, hm, hb, h5, h6, h7, tst]; exact hd R' k'⟩
      · rename_i h7
        obtain ⟨y, h, hd⟩ := mem_lkOut h
        exact ⟨y, h, fun M' hM R' k' => by unfold evLookup; have hm := hM id (by simp [mpIds]); simp only [gm_eq, h1, h2, h3, h4, hm, hb, h5, h6, h7, tst]; exact hd R' k'⟩
    · rename_i h6
      rw [evFind_eq] at h
      obtain ⟨y, h, hd⟩ := mem_lkOut h
      exact ⟨y, h, fun M' hM R' k' => by unfold evLookup; have hm := hM id (by simp [mpIds]); simp only [gm_eq, h1, h2, h3, h4, hm, hb, h5, h6, tst, evFind_eq]; exact hd R' k'⟩
def quietIds (X : Cx) (e : Operand → AV) (o : Oper) : Option (List Nat) :=
  match o.op with
  | .move _ => some []
  | .assign _ => some []
  | .pick _ _ _ => some []
  | .binOp _ _ x y _ => (match ownNil (e x) (e y) with | true => none | false => some [])
  | .unOp _ _ _ => some []
  | .convert s d _ => (match ubTy X s d with | true => none | false => some [])
  | .fieldAddr _ _ _ => some []
  | .field _ _ _ => some []
  | .index _ _ _ => some []
  | .extract _ _ => some []
  | .makeFunc _ _ _ => some []
  | .nilCheck _ => some []
  | .build _ _ => some []
  | .load _ x => some (ptrIds (e x))
  | .indexAddr _ x _ => some (rdIds (e x))
  | .slice _ x _ _ mx => match vwIs X o (e x) mx with | true => some (rdIds (e x)) | false => match rdIds (e x) with | [] => some [] | _ => none
  | .call c =>
    match c.callee with
    | .builtin .len => some (c.args.toList.flatMap fun x => rdIds (e x))
    | .builtin .min => some []
    | .builtin .max => some []
    | _ => none
  | .lookup _ x _ _ => some (mpIds (e x))
  | _ => none
theorem quiet_spec0 {T : Tab R} {T' : Tab R'} {e : Operand → AV} {o : Oper} {k : AV → List Blk → Option R} {r : R} {ids : List Nat} (hq : quietIds X e o = some ids) (h : evop0 X T e o M k = some r) :
    ∃ y, k y M = some r ∧ ∀ (M' : List Blk), (∀ id ∈ ids, M'[id]? = M[id]?) → ∀ (k' : AV → List Blk → Option R'), evop0 X T' e o M' k' = k' y M' := by
  unfold quietIds at hq
  unfold evop0 at h
  split at hq
  all_goals (rename_i ho; simp only [ho] at h)
  · exact ⟨_, h, fun M' _ k' => by unfold evop0; simp only [ho]⟩
  · exact ⟨_, h, fun M' _ k' => by unfold evop0; simp only [ho]⟩
  · split at h
    · rename_i t hc
      split at h
      · exact ⟨_, h, fun M' _ k' => by unfold evop0; simp only [ho, hc]⟩
      · exact ⟨_, h, fun M' _ k' => by unfold evop0; simp only [ho, hc]⟩
    · cases h
  · split at hq
    · cases hq
    obtain ⟨y, h, hd⟩ := det_bin (X := X) _ _ _ _ h
    exact ⟨y, h, fun M' _ k' => by unfold evop0; simp only [ho]; exact hd _ _⟩
  · obtain ⟨y, h, hd⟩ := det_un _ _ h
    exact ⟨y, h, fun M' _ k' => by unfold evop0; simp only [ho]; exact hd _ _⟩
  · split at hq
    · cases hq
    obtain ⟨y, h, hd⟩ := det_conv (X := X) _ _ _ h
    exact ⟨y, h, fun M' _ k' => by unfold evop0; simp only [ho]; exact hd _ _⟩
  · obtain ⟨y, h, hd⟩ := det_fieldAddr (X := X) _ _ _ h
    exact ⟨y, h, fun M' _ k' => by unfold evop0; simp only [ho]; exact hd _ _⟩
  · obtain ⟨y, h, hd⟩ := det_field (X := X) _ _ _ h
    exact ⟨y, h, fun M' _ k' => by unfold evop0; simp only [ho]; exact hd _ _⟩
  · obtain ⟨y, h, hd⟩ := det_index (X := X) _ _ _ h
    exact ⟨y, h, fun M' _ k' => by unfold evop0; simp only [ho]; exact hd _ _⟩
  · split at h
    · rename_i vs hv
      split at h
      · rename_i y hy
        exact ⟨_, h, fun M' _ k' => by unfold evop0; simp only [ho, hv, hy]⟩
      · cases h
    · cases h
  · rename_i fn first caps
    cases fn with
    | func f => exact ⟨_, h, fun M' _ k' => by unfold evop0; simp only [ho]⟩
    | _ => cases h
  · obtain ⟨y, h, hd⟩ := det_nil _ h
    exact ⟨y, h, fun M' _ k' => by unfold evop0; simp only [ho]; exact hd _ _⟩
  · obtain ⟨y, h, hd⟩ := det_build (X := X) _ _ h
    exact ⟨y, h, fun M' _ k' => by unfold evop0; simp only [ho]; exact hd _ _⟩
  · injection hq with hq; subst hq
    obtain ⟨y, h, hd⟩ := mem_load h
    exact ⟨y, h, fun M' hM k' => by unfold evop0; simp only [ho]; exact hd M' hM _ _⟩
  · injection hq with hq; subst hq
    obtain ⟨y, h, hd⟩ := mem_indexAddr h
    exact ⟨y, h, fun M' hM k' => by unfold evop0; simp only [ho]; exact hd M' hM _ _⟩
  · split at hq
    · rename_i hvw
      simp only [hvw] at h
      injection hq with hq; subst hq
      obtain ⟨y, h, hd⟩ := mem_view h
      exact ⟨y, h, fun M' hM k' => by unfold evop0; simp only [ho, hvw]; exact hd M' hM _ _⟩
    · rename_i hvw
      simp only [hvw] at h
      split at hq
      · rename_i hx
        obtain ⟨y, h, hd⟩ := mem_slice hx h
        exact ⟨y, h, fun M' hM k' => by unfold evop0; simp only [ho, hvw]; exact hd M' _ _⟩
      · cases hq
  · rename_i c
    split at hq
    · rename_i hc
      simp only [hc] at h
      injection hq with hq; subst hq
      split at h
      · rename_i t x ht hx
        obtain ⟨y, h, hd⟩ := mem_len h
        refine ⟨y, h, fun M' hM k' => ?_⟩
        unfold evop0
        simp only [ho, hc, ht, hx]
        exact hd M' (fun id hid => hM id (by rw [hx]; simpa using hid)) _ _
      · cases h
    · rename_i hc
      simp only [hc] at h
      obtain ⟨y, h, hd⟩ := det_min _ _ h
      exact ⟨y, h, fun M' _ k' => by unfold evop0; simp only [ho, hc]; exact hd _ _⟩
    · rename_i hc
      simp only [hc] at h
      obtain ⟨y, h, hd⟩ := det_min _ _ h
      exact ⟨y, h, fun M' _ k' => by unfold evop0; simp only [ho, hc]; exact hd _ _⟩
    · cases hq
  · injection hq with hq; subst hq
    obtain ⟨y, h, hd⟩ := mem_lookup h
    exact ⟨y, h, fun M' hM k' => by unfold evop0; simp only [ho]; exact hd M' hM _ _⟩
  · cases hq
theorem xop_quiet {e : Operand → AV} {o : Oper} {ids : List Nat} {x : AV} {M1 : List Blk} (hi : isX X e o = true) (hq : quietIds X e o = some ids) (h : xop X e o M = some (x, M1)) : M1 = M ∧ ∀ M2, xop X e o M2 = some (x, M2) := by
  unfold isX at hi
  unfold quietIds at hq
  unfold xop at h ⊢
  split at hi
  · rename_i op t a b u ho
    simp only [ho] at h hq ⊢
    split at h
    · rename_i z hz
      injection h with h; injection h with h3 h4
      subst h3; subst h4
      exact ⟨rfl, fun M2 => by simp only [hz]⟩
    · have hn : xSl X t (e a) (e b) M = none := by
        cases hs : xSl X t (e a) (e b) M with
        | none => rfl
        | some bb =>
          unfold xSl at hs
          split at hs
          · split at hs
            · rename_i h1 h2
              simp only [h1, h2, ownNil] at hq
              cases hq
            · cases hs
          · cases hs
      rw [hn] at h
      cases h
  · rename_i s d a ho
    simp only [ho, hi] at hq
    cases hq
  · rename_i t a lo hi2 mx ho
    simp only [ho] at h ⊢
    split at h
    · rename_i z hz
      injection h with h; injection h with h3 h4
      subst h3; subst h4
      exact ⟨rfl, fun M2 => by simp only [hz]⟩
    · cases h
  · rename_i c ho
    simp only [ho] at hq
    split at hi
    · rename_i hc; simp only [hc] at hq; cases hq
    · rename_i hc; simp only [hc] at hq; cases hq
    · rename_i f hc; simp only [hc] at hq; cases hq
    · cases hi
  · cases hi
theorem quiet_spec1 {T : Tab R} {T' : Tab R'} {e : Operand → AV} {o : Oper} {k : AV → List Blk → Option R} {r : R} {ids : List Nat} (hq : quietIds X e o = some ids) (h : evop1 X T e o M k = some r) :
    ∃ y, k y M = some r ∧ ∀ (M' : List Blk), (∀ id ∈ ids, M'[id]? = M[id]?) → ∀ (k' : AV → List Blk → Option R'), evop1 X T' e o M' k' = k' y M' := by
  unfold evop1 at h
  split at h
  · rename_i hi
    split at h
    · rename_i x M1 hx
      rw [fzX_eq] at h
      obtain ⟨h1, h2⟩ := xop_quiet hi hq hx
      subst h1
      exact ⟨x, h, fun M' _ k' => by unfold evop1; simp only [hi, h2 M', fzX_eq]⟩
    · cases h
  · rename_i hi
    obtain ⟨y, h1, h2⟩ := quiet_spec0 (T' := T') hq h
    exact ⟨y, h1, fun M' hM k' => by unfold evop1; simp only [hi]; exact h2 M' hM k'⟩
theorem quiet_spec {T : Tab R} {T' : Tab R'} {e : Operand → AV} {o : Oper} {k : AV → List Blk → Option R} {r : R} {ids : List Nat} (hq : quietIds X e o = some ids) (h : evop X T e o M k = some r) :
    ∃ y, k y M = some r ∧ ∀ (M' : List Blk), (∀ id ∈ ids, M'[id]? = M[id]?) → ∀ (k' : AV → List Blk → Option R'), evop X T' e o M' k' = k' y M' := by
  rw [evop_eq] at h
  obtain ⟨y, h1, h2⟩ := quiet_spec1 (T' := T') hq h
  exact ⟨y, h1, fun M' hM k' => by rw [evop_eq]; exact h2 M' hM k'⟩
def tab0 (R : Type) : Tab R := ⟨⟨0, 0⟩, fun _ _ _ => none, fun _ _ _ _ => none, fun _ _ _ _ => none⟩
theorem tab0_ok (X : Cx) (R : Type) : (tab0 R).CallOk X := ⟨fun h => by simp [tab0] at h, fun h => by simp [tab0] at h⟩
theorem quiet_runs (hX : X.Okb) {T : Tab R} {e : Operand → AV} {o : Oper} {k : AV → List Blk → Option R} {r : R} {ids : List Nat} (hq : quietIds X e o = some ids) (h : evop X T e o M k = some r) :
    ∃ y, k y M = some r ∧ ∀ (M' : List Blk), (∀ id ∈ ids, M'[id]? = M[id]?) → OpRuns X o e M' y M' := by
  obtain ⟨y, h1, h2⟩ := quiet_spec (T' := tab0 (AV × List Blk)) hq h
  refine ⟨y, h1, fun M' hM => ?_⟩
  obtain ⟨x, M1, h3, h4, _⟩ := evop_sound hX (tab0_ok X _) (h2 M' hM fun x M => some (x, M))
  injection h4 with h4
  injection h4 with h4 h5
  subst h4; subst h5
  exact h3
def wrsOf : List Oper → Nat
  | [] => 0
  | o :: os => match o.op with
    | .buildSlice _ _ _ => wrsOf os + 1
    | .call c => (match c.callee with | .value _ => wrsOf os + 1 | _ => wrsOf os)
    | _ => wrsOf os
def lstOf (X : Cx) (ops : Array Oper) (e : Operand → AV) (o : Oper) : Option (TypeId × Nat × Array (Nat × Operand)) :=
  match o.op with
  | .buildSlice t n ps =>
    match (Nat.blt 1 (wrsOf ops.toList) && Nat.blt 0 n) && ps.toList.all fun p => leafA (e p.2) with
    | true => some (t, n, ps)
    | false => none
  | _ => none
theorem lstOf_some {ops : Array Oper} {e : Operand → AV} {o : Oper} {t : TypeId} {n : Nat} {ps : Array (Nat × Operand)} (h : lstOf X ops e o = some (t, n, ps)) : o.op = .buildSlice t n ps := by
  unfold lstOf at h
  split at h
  · rename_i ho
    split at h
    · injection h with h
      injection h with h1 h
      injection h with h2 h3
      subst h1; subst h2; subst h3
      exact ho
    · cases h
  · cases h
theorem list_runs (hX : X.Okb) {e : Operand → AV} {o : Oper} {t : TypeId} {n : Nat} {ps : Array (Nat × Operand)} {k : AV → Option R} {r : R} (ho : o.op = .buildSlice t n ps) (h : evBuildList X t n (ps.toList.map fun p => (p.1, e p.2)) k = some r) :
    ∃ y, k y = some r ∧ ∀ (M' : List Blk), OpRuns X o e M' y M' := by
  obtain ⟨y, h1, _, hd⟩ := evBuildList_sound hX h
  refine ⟨y, h1, fun M' => OpRuns.of_does (s := fun ρe => Instr.buildSlice t n (ps.map fun (i, x) => (i, ρe x))) (by simp [ho]) (fun ρe => by simp [execOp, ho]) (fun {w0 S F ρ w ρe} hI hr => ?_)⟩
  have := hd (ps.toList.map fun p => (p.1, ρe p.2)) hI (by simp) (fun j p q hp hq => by
    rw [List.getElem?_map] at hp hq
    cases hj : ps.toList[j]? with
    | none => rw [hj] at hp; cases hp
    | some z =>
      rw [hj] at hp hq
      simp only [Option.map_some, Option.some.injEq] at hp hq
      subst hp; subst hq
      exact ⟨rfl, hr z.2⟩)
  have e1 : (ps.map fun (i, x) => (i, ρe x)) = (ps.toList.map fun p => (p.1, ρe p.2)).toArray := by apply Array.ext'; simp
  rw [e1]
  exact this
end
end Go.Eng
