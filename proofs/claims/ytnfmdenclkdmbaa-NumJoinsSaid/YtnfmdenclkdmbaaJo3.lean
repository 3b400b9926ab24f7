/-
  The engine, part Aa: pieces of code cut out; tables made of lists.
  The engine, part Ab: tables of types and places; entering a function.
  The engine, part Ac: what is read of the arguments, as abstract values; from a function's contract to a law's row.
  The functions of the code as typed functions, and that the code runs so. Printed by gen2.py.
  The functions of the code as typed functions, and that the code runs so. Printed by gen2.py.
  The functions of the code as typed functions, and that the code runs so. Printed by gen2.py.
  The functions of the code as typed functions, and that the code runs so. Printed by gen2.py.
  The functions of the code as typed functions, and that the code runs so. Printed by gen2.py.
  The functions of the code as typed functions, and that the code runs so. Printed by gen2.py.
  The functions of the code as typed functions, and that the code runs so. Printed by gen2.py.
  The functions of the code as typed functions, and that the code runs so. Printed by gen2.py.
  The functions of the code as typed functions, and that the code runs so. Printed by gen2.py.
  The functions of the code as typed functions, and that the code runs so. Printed by gen2.py.
  The functions of the code as typed functions, and that the code runs so. Printed by gen2.py.
  The functions of the code as typed functions, and that the code runs so. Printed by gen2.py.
  The functions of the code as typed functions, and that the code runs so. Printed by gen2.py.
  The functions of the code as typed functions, and that the code runs so. Printed by gen2.py.
  The functions of the code as typed functions, and that the code runs so. Printed by gen2.py.
  The functions of the code as typed functions, and that the code runs so. Printed by gen2.py.
  The functions of the code as typed functions, and that the code runs so. Printed by gen2.py.
  The functions of the code as typed functions, and that the code runs so. Printed by gen2.py.
  The functions of the code as typed functions, and that the code runs so. Printed by gen2.py.
  The functions of the code as typed functions, and that the code runs so. Printed by gen2.py.
  The functions of the code as typed functions, and that the code runs so. Printed by gen2.py.
  The functions of the code as typed functions, and that the code runs so. Printed by gen2.py.
  The functions of the code as typed functions, and that the code runs so. Printed by gen2.py.
  The functions of the code as typed functions, and that the code runs so. Printed by gen2.py.
  The functions of the code as typed functions, and that the code runs so. Printed by gen2.py.
  The functions of the code as typed functions, and that the code runs so. Printed by gen2.py.
  The functions of the code as typed functions, and that the code runs so. Printed by gen2.py.
  The functions of the code as typed functions, and that the code runs so. Printed by gen2.py.
  The functions of the code as typed functions, and that the code runs so. Printed by gen2.py.
  The functions of the code as typed functions, and that the code runs so. Printed by gen2.py.
  The functions of the code as typed functions, and that the code runs so. Printed by gen2.py.
  The functions of the code as typed functions, and that the code runs so. Printed by gen2.py.
  The functions of the code as typed functions, and that the code runs so. Printed by gen2.py.
  The functions of the code as typed functions, and that the code runs so. Printed by gen2.py.
  The functions of the code as typed functions, and that the code runs so. Printed by gen2.py.
  The functions of the code as typed functions, and that the code runs so. Printed by gen2.py.
  The functions of the code as typed functions, and that the code runs so. Printed by gen2.py.
  The functions of the code as typed functions, and that the code runs so. Printed by gen2.py.
  The functions of the code as typed functions, and that the code runs so. Printed by gen2.py.
  The functions of the code as typed functions, and that the code runs so. Printed by gen2.py.
  The functions of the code as typed functions, and that the code runs so. Printed by gen2.py.
  The functions of the code as typed functions, and that the code runs so. Printed by gen2.py.
  The functions of the code as typed functions, and that the code runs so. Printed by gen2.py.
  The functions of the code as typed functions, and that the code runs so. Printed by gen2.py.
  The functions of the code as typed functions, and that the code runs so. Printed by gen2.py.
  The functions of the code as typed functions, and that the code runs so. Printed by gen2.py.
  The functions of the code as typed functions, and that the code runs so. Printed by gen2.py.
  The functions of the code as typed functions, and that the code runs so. Printed by gen2.py.
  The functions of the code as typed functions, and that the code runs so. Printed by gen2.py.
  The functions of the code as typed functions, and that the code runs so. Printed by gen2.py.
  The functions of the code as typed functions, and that the code runs so. Printed by gen2.py.
  The functions of the code as typed functions, and that the code runs so. Printed by gen2.py.
  The functions of the code as typed functions, and that the code runs so. Printed by gen2.py.
  The functions of the code as typed functions, and that the code runs so. Printed by gen2.py.
  The functions of the code as typed functions, and that the code runs so. Printed by gen2.py.
  The functions of the code as typed functions, and that the code runs so. Printed by gen2.py.
  The functions of the code as typed functions, and that the code runs so. Printed by gen2.py.
  The functions of the code as typed functions, and that the code runs so. Printed by gen2.py.
  The functions of the code as typed functions, and that the code runs so. Printed by gen2.py.
  The functions of the code as typed functions, and that the code runs so. Printed by gen2.py.
-/
import Derived.Test.YtnfmdenclkdmbaaJo2
import Derived.ProofKit
import Derived.OpenShut
import Derived.Carry
import Derived.ChangeArms
import Derived.Test.YtnfmdenclkdmbaaChecked
import Derived.KernelRfl
set_option linter.all false
set_option linter.deprecated false
namespace Go.Eng
open Go

variable {X : Cx} {R O : Type}

def kontX (X : Cx) (m : Nat) (xs : Ex → St → Option (XSh O)) (e : Ex) (st : St) : Option O :=
  match xs e st with
  | some x => goS X m x.cv x.σ x.sel st fun s => some (x.out s)
  | none => none

theorem callCut_sound (hX : X.Ok) {root c : Code} {p : Nat} {L : LTab O} (hL : L.Ok X root) (hat : At root p c) {m mask : Nat} {cv' : List Cv} {σ : LSh} {sel' : St → List Nat} {xs : Ex → St → Option (XSh O)} {JF : St → Option O} {exOf : O → Ex} {stOf : O → St}
    (hstep : ∀ lk M, JF (canS σ lk M) = evk X L c p (canS σ lk M) (kontX X m xs)) (hx : ∀ e st x, xs e st = some x → outOk x e exOf stOf)
    {nt : Nt} (hnt : L.tab.nt = ⟨nt.n, mask⟩) {elim : O → (Ex → St → Option R) → Option R} (helim : ∀ o k, elim o k = k (exOf o) (stOf o)) {st : St} {k : Ex → St → Option R} {r : R}
    (h : callLoop X m mask cv' σ sel' nt JF elim st k = some r) : ∃ e st', CodeRuns X nt c st (Ex.exit' e) st' ∧ k e st' = some r := by
  unfold callLoop at h
  obtain ⟨st1, h, e1, e2, hcv⟩ := evcv_sound hX cv' h
  replace h := tst_some h
  obtain ⟨h1, h⟩ := h
  rw [Bool.and_eq_true, Bool.and_eq_true] at h1
  obtain ⟨⟨h1, hmask⟩, hdf1⟩ := h1
  have hdf1 : st1.dfs = [] := by simpa using hdf1
  have hmask : nt.mask &&& mask = mask := Nat.eq_of_beq_eq_true hmask
  split at h
  · cases h
  · rename_i o ho
    rw [helim] at h
    replace h := tst_some h
    obtain ⟨h2, h⟩ := h
    rw [Bool.and_eq_true] at h2
    obtain ⟨hm, hdfs⟩ := h2
    have hdfs : (stOf o).dfs = [] := by simpa using hdfs
    refine ⟨_, _, fun {rdc n w0 S F ρ a w Q} hI hs hq => ?_, h⟩
    obtain ⟨F1, ρ1, i1, s1, g1⟩ := hcv (nt := nt) (rdc := rdc) (a := a) hI hs
    obtain ⟨hok, hmem, _⟩ := enter_facts h1
    have hsub := i1.sub hX hok hd0
    have ho' : evk X L c p (canS σ (fun t => ren (idx (sel' st1)) 4 (look st1.env t)) (subM st1.mem (sel' st1))) (kontX X m xs) = some o := (hstep _ _).symm.trans ho
    obtain ⟨e, st2, hrun, hk⟩ := evk_sound hX hL c hat ho'
    have hout : exOf o = e ∧ ∀ {nt : Nt} {rdc : Cy} {w0 : World} {S : Sc} {F : Addr → Prop} {ρ : List Hd} {a : Act} {w : World}, Inv X w0 S F ρ st2.mem w → Sim X nt st2 rdc F ρ a w →
        ∃ F' ρ', Inv X w0 S F' ρ' (stOf o).mem w ∧ Sim X nt (stOf o) rdc F' ρ' a w ∧ GrowF m F F' ρ ρ' w w := by
      unfold kontX at hk
      split at hk
      case h_2 => cases hk
      rename_i x hxe
      obtain ⟨lk, M, ho2, hr⟩ := goS_sound hX hk
      injection ho2 with ho2
      obtain ⟨q1, q2⟩ := hx e st2 x hxe lk M
      rw [ho2] at q1 q2
      refine ⟨q1, fun {nt rdc w0 S F ρ a w} hI hs => ?_⟩
      rw [q2]
      exact hr hI hs
    refine hrun (rdc := ⟨rdc.r, rdc.db, fun t => a.tmps.getD t undef⟩) (n := n) (w0 := w) (S := hand ρ1 st1.mem (sel' st1) F1) (F := F1) (ρ := sub hd0 ρ1 (sel' st1)) (a := a) (w := w)
      (by have : (canS σ (fun t => ren (idx (sel' st1)) 4 (look st1.env t)) (subM st1.mem (sel' st1))).mem = subM st1.mem (sel' st1) := hmem
          rw [this]; exact hsub)
      ⟨enter_env hX h1 i1 s1.env, by rw [hnt]; exact s1.size, by have := s1.defs; rw [hdf1] at this; exact this, s1.rd, fun _ _ => rfl⟩ ?_
    intro a' w' F0 ρ0 hI0 hs0 hg0
    obtain ⟨F', ρ', hI', hs', hg1⟩ := hout.2 hI0 hs0
    have hg' := (hg0.toF m).trans hg1
    rw [← hout.1]
    obtain ⟨i3, g3, r3⟩ := i1.merge hX hok hd0 hI' hg' hm
    refine hq a' w' F' _ i3 ⟨fun t => ?_, by have := hs'.size; rw [hnt] at this; exact this, ?_, hs'.rd, fun t ht => ?_⟩ (g1.trans g3)
    · rcases look_append (renE (rno m (sel' st1) st1.mem.length) 4 (stOf o).env) (st1.env.filter (fun p => !mask.testBit p.1)) t with e | e
      · simp only [leaveS]; rw [e]; exact (hs'.env.ren hX r3 4) t
      · simp only [leaveS]; rw [e]
        rcases look_mask mask st1.env t with e' | ⟨hb, e'⟩
        · rw [e']; exact .top _
        · rw [e']
          have hk := hs'.kept t (by rw [hnt]; exact hb)
          rw [hk]
          exact (s1.env t).grow g3
    · have hd := hs'.defs
      rw [hdfs] at hd
      simp only [leaveS]
      rw [hdf1]
      exact hd
    · have hb : mask.testBit t = false := by
        rw [← hmask, Nat.testBit_and, ht, Bool.false_and]
      have hk := hs'.kept t (by rw [hnt]; exact hb)
      rw [hk]
      exact s1.kept t ht

/-! ### Tables out of lists -/

abbrev Ent1 (R : Type) := St → (Ex → St → Option R) → Option R

def pickE : List (Nat × Ent1 R) → Nat → Ent1 R
  | [], _ => fun _ _ => none
  | e :: es, p => match Nat.beq p e.1 with | true => e.2 | false => pickE es p
def pickO : List (Nat × Ent1 R) → Nat → Option (Ent1 R)
  | [], _ => none
  | e :: es, p => match Nat.beq p e.1 with | true => some e.2 | false => pickO es p

def AllE {α : Type} (P : α → Prop) : List α → Prop
  | [] => True
  | e :: es => P e ∧ AllE P es

theorem pickE_some {es : List (Nat × Ent1 R)} {P : Nat × Ent1 R → Prop} (hP : AllE P es) {p : Nat} {st : St} {k : Ex → St → Option R} {r : R} (h : pickE es p st k = some r) : ∃ f, P (p, f) ∧ f st k = some r := by
  induction es with
  | nil => simp [pickE] at h
  | cons e es ih =>
    simp only [pickE] at h
    cases hb : Nat.beq p e.1 with
    | true =>
      simp only [hb] at h
      have := Nat.eq_of_beq_eq_true hb
      subst this
      exact ⟨e.2, hP.1, h⟩
    | false => simp only [hb] at h; exact ih hP.2 h
theorem pickO_some {es : List (Nat × Ent1 R)} {P : Nat × Ent1 R → Prop} (hP : AllE P es) {p : Nat} {f : Ent1 R} (h : pickO es p = some f) : P (p, f) := by
  induction es with
  | nil => simp [pickO] at h
  | cons e es ih =>
    simp only [pickO] at h
    split at h
    · rename_i hb
      have := Nat.eq_of_beq_eq_true hb
      subst this
      injection h with h
      subst h
      exact hP.1
    · exact ih hP.2 h

/-- An entry for a loop, a range over a function, a piece cut out. -/
def LoopOk (X : Cx) (root : Code) (nt : Nt) (e : Nat × Ent1 R) : Prop := ∀ {c st k r}, At root e.1 (.loop c) → e.2 st k = some r → ∃ x st', CodeRuns X nt (.loop c) st (Ex.exit' x) st' ∧ k x st' = some r
def RangeOk (X : Cx) (root : Code) (nt : Nt) (e : Nat × Ent1 R) : Prop := ∀ {g ps a b st k r}, At root e.1 (.rangeFunc g ps a b) → e.2 st k = some r → ∃ x st', CodeRuns X nt (.rangeFunc g ps a b) st (Ex.exit' x) st' ∧ k x st' = some r
def CutOk (X : Cx) (root : Code) (nt : Nt) (e : Nat × Ent1 R) : Prop := ∀ {c st k r}, At root e.1 c → e.2 st k = some r → ∃ x st', CodeRuns X nt c st (Ex.exit' x) st' ∧ k x st' = some r

/-- An entry for the call of a function at arguments of some shape. -/
structure CE (R : Type) where
  f : FuncId
  test : List AV → List Blk → Bool
  wr : List AV → List Blk → Option (List Nat)
  run : List AV → List Blk → (AV → List Blk → Option R) → Option R

def pickC : List (CE R) → FuncId → List AV → List Blk → (AV → List Blk → Option R) → Option R
  | [], _, _, _, _ => none
  | e :: es, f, args, M, k => match Nat.beq f e.f && e.test args M with | true => e.run args M k | false => pickC es f args M k
def pickW : List (CE R) → FuncId → List AV → List Blk → Option (List Nat)
  | [], _, _, _ => none
  | e :: es, f, args, M => match Nat.beq f e.f && e.test args M with | true => e.wr args M | false => pickW es f args M

def CeOk (X : Cx) (e : CE R) : Prop := ∀ {args M k r}, e.run args M k = some r → ∃ x M', ACalls X e.f args M x M' ∧ k x M' = some r ∧ ∀ ids, e.wr args M = some ids → Agree ids M M'

theorem pickC_some {es : List (CE R)} (hP : AllE (CeOk X) es) {f : FuncId} {args : List AV} {M : List Blk} {k : AV → List Blk → Option R} {r : R} (h : pickC es f args M k = some r) :
    ∃ x M', ACalls X f args M x M' ∧ k x M' = some r ∧ ∀ ids, pickW es f args M = some ids → Agree ids M M' := by
  induction es with
  | nil => simp [pickC] at h
  | cons e es ih =>
    simp only [pickC] at h
    split at h
    · rename_i hb
      have hb' := hb
      rw [Bool.and_eq_true] at hb
      have := Nat.eq_of_beq_eq_true hb.1
      subst this
      obtain ⟨x, M', h1, h2, h3⟩ := hP.1 h
      refine ⟨x, M', h1, h2, fun ids hi => ?_⟩
      simp only [pickW, hb'] at hi
      exact h3 ids hi
    · rename_i hb
      obtain ⟨x, M', h1, h2, h3⟩ := ih hP.2 h
      refine ⟨x, M', h1, h2, fun ids hi => ?_⟩
      simp only [pickW, hb] at hi
      exact h3 ids hi

def mkTab (nt : Nt) (cs : List (CE R)) (y : Nat → List AV → List Blk → (AV → List Blk → Option R) → Option R) (ls rs ks : List (Nat × Ent1 R)) : LTab R :=
  ⟨⟨nt, pickW cs, pickC cs, y⟩, pickE ls, pickE rs, pickO ks⟩
def YOk (X : Cx) (y : Nat → List AV → List Blk → (AV → List Blk → Option R) → Option R) : Prop := ∀ {id args M k r}, y id args M k = some r → ∃ x M', AYields X id args M x M' ∧ k x M' = some r
def noY : Nat → List AV → List Blk → (AV → List Blk → Option R) → Option R := fun _ _ _ _ => none
theorem noY_ok : YOk X (noY (R := R)) := fun {_ _ _ _ _} h => by cases h

theorem mkTab_ok {root : Code} {nt : Nt} {cs : List (CE R)} {y : Nat → List AV → List Blk → (AV → List Blk → Option R) → Option R} {ls rs ks : List (Nat × Ent1 R)} (hc : AllE (CeOk X) cs) (hy : YOk X y)
    (hl : AllE (LoopOk X root nt) ls) (hr : AllE (RangeOk X root nt) rs) (hk : AllE (CutOk X root nt) ks) : (mkTab nt cs y ls rs ks).Ok X root where
  tab := ⟨fun {f args M k r} h => pickC_some hc h, fun {id args M k r} h => hy h⟩
  loop := fun {p c st k r} hat h => by
    obtain ⟨f, h1, h2⟩ := pickE_some hl h
    exact h1 hat h2
  range := fun {p g ps a b st k r} hat h => by
    obtain ⟨f, h1, h2⟩ := pickE_some hr h
    exact h1 hat h2
  cut := fun {p c f st k r} hat hf h => pickO_some hk hf hat h

/-- A loop's entry is right. -/
theorem loop_ok (hX : X.Ok) {root c0 : Code} {path : List Bool} (hc0 : codeAt root path = some (.loop c0)) {p : Nat} (hp : enc path = p) {L : LTab O} (hL : L.Ok X root) {m mask : Nat} {cv cv' : List Cv} {σ : LSh} {sel sel' : St → List Nat} {xs : Ex → St → Option (XSh O)} {LF : Nat → St → Option O} {exOf : O → Ex} {stOf : O → St}
    (h0 : ∀ lk M, LF 0 (canS σ lk M) = none) (hstep : ∀ n lk M, LF (n + 1) (canS σ lk M) = evk X L c0 (2 * p) (canS σ lk M) (kont X m cv σ sel xs (LF n))) (hx : ∀ e st x, xs e st = some x → outOk x e exOf stOf)
    {nt : Nt} (hnt : L.tab.nt = ⟨nt.n, mask⟩) {elim : O → (Ex → St → Option R) → Option R} (helim : ∀ o k, elim o k = k (exOf o) (stOf o)) {fuel : Nat} :
    LoopOk X root nt (p, fun st k => callLoop X m mask cv' σ sel' nt (LF fuel) elim st k) := by
  intro c st k r hat h
  have hd := hat.det path hp
  rw [hc0] at hd
  injection hd with hd; injection hd with hd; subst hd
  exact callLoop_sound hX hL hat h0 hstep hx hnt helim h

theorem cut_ok (hX : X.Ok) {root c0 : Code} {path : List Bool} (hc0 : codeAt root path = some c0) {p : Nat} (hp : enc path = p) {L : LTab O} (hL : L.Ok X root) {m mask : Nat} {cv' : List Cv} {σ : LSh} {sel' : St → List Nat} {xs : Ex → St → Option (XSh O)} {JF : St → Option O} {exOf : O → Ex} {stOf : O → St}
    (hstep : ∀ lk M, JF (canS σ lk M) = evk X L c0 p (canS σ lk M) (kontX X m xs)) (hx : ∀ e st x, xs e st = some x → outOk x e exOf stOf)
    {nt : Nt} (hnt : L.tab.nt = ⟨nt.n, mask⟩) {elim : O → (Ex → St → Option R) → Option R} (helim : ∀ o k, elim o k = k (exOf o) (stOf o)) :
    CutOk X root nt (p, fun st k => callLoop X m mask cv' σ sel' nt JF elim st k) := by
  intro c st k r hat h
  have hd := hat.det path hp
  rw [hc0] at hd
  injection hd with hd; subst hd
  exact callCut_sound hX hL hat hstep hx hnt helim h

/-- A range's entry is right: the function that is ranged over, run in line. -/
def inl (g : FuncId) (run : List AV → List Blk → (AV → List Blk → Option R) → Option R) : List (CE R) := [⟨g, fun _ _ => true, fun _ _ => none, run⟩]
def oneTab (nt : Nt) (cs : List (CE R)) : Tab R := ⟨nt, pickW cs, pickC cs, noY⟩
theorem oneTab_ok {nt : Nt} {cs : List (CE R)} (hc : AllE (CeOk X) cs) : (oneTab nt cs).CallOk X := ⟨fun {f args M k r} h => pickC_some hc h, fun {_ _ _ _ _} h => by cases h⟩

theorem range_ok (hX : X.Ok) {root : Code} {path : List Bool} {g0 : Operand} {ps0 : Array Tmp} {a0 b0 : Code} (hc0 : codeAt root path = some (.rangeFunc g0 ps0 a0 b0)) {p : Nat} (hp : enc path = p) {nt : Nt} {cs : List (CE R)} (hc : AllE (CeOk X) cs) {s : Nat} {keep : List Nat}
    (hsite : X.site s = ⟨nt.n, ps0, a0, b0⟩) : RangeOk X root nt (p, fun st k => evrange X (oneTab nt cs) s keep g0 st k) := by
  intro g ps a b st k r hat h
  have hd := hat.det path hp
  rw [hc0] at hd
  injection hd with hd; injection hd with h1 h2 h3 h4; subst h1; subst h2; subst h3; subst h4
  exact evrange_sound hX (T := oneTab nt cs) (oneTab_ok hc) hsite h

theorem inl_ok {g : FuncId} {run : List AV → List Blk → (AV → List Blk → Option R) → Option R} (h : ∀ {args M k r}, run args M k = some r → ∃ x M', ACalls X g args M x M' ∧ k x M' = some r) : AllE (CeOk X) (inl g run) :=
  ⟨fun {args M k r} hr => by
    obtain ⟨x, M', h1, h2⟩ := h hr
    exact ⟨x, M', h1, h2, fun ids hi => by cases hi⟩, trivial⟩

/-- Which entry of a list of places the loop of a range is at: the yields of several places. -/
def pickY : List (Nat × (Nat → List AV → List Blk → (AV → List Blk → Option R) → Option R)) → Nat → List AV → List Blk → (AV → List Blk → Option R) → Option R
  | [], _, _, _, _ => none
  | e :: es, id, args, M, k =>
    match M[id]? with
    | some (.loop s _ _ _) => (match Nat.beq s e.1 with | true => e.2 id args M k | false => pickY es id args M k)
    | _ => none
theorem pickY_ok {es : List (Nat × (Nat → List AV → List Blk → (AV → List Blk → Option R) → Option R))} (h : AllE (fun e => YOk X e.2) es) : YOk X (pickY es) := by
  induction es with
  | nil => intro id args M k r h; cases h
  | cons e es ih =>
    intro id args M k r hk
    simp only [pickY] at hk
    split at hk
    · split at hk
      · exact h.1 hk
      · exact ih h.2 hk
    · cases hk

/-- A call, cut down to a contract's shape, as an entry. -/
theorem ce_ok (hX : X.Ok) {f : FuncId} {m na : Nat} {cv : List Cv} {σ : LSh} {sel : St → List Nat} {FFn : St → Option O} {valOf : O → AV} {memOf : O → List Blk} {elim : O → (AV → List Blk → Option R) → Option R} (helim : ∀ o k, elim o k = k (valOf o) (memOf o))
    (hf : ∀ lk M o, FFn (canS σ lk M) = some o → FCalls X f m (argsE na (canS σ lk M).env) (canS σ lk M).mem (valOf o) (memOf o)) (hc : ∀ (vs : Array Value) (w : World), (callFunc f vs).run X.P w = .ok (.enter f vs) w)
    {test : List AV → List Blk → Bool} {wr : List AV → List Blk → Option (List Nat)} (hwr : ∀ args M ids, wr args M = some ids → cv = [] ∧ ids = sel ⟨argEnv 0 args, M, [], .unk⟩) :
    CeOk X ⟨f, test, wr, fun args M k => tst (Nat.beq args.length na) (callFn X m cv σ sel FFn elim args M k)⟩ := by
  intro args M k r h
  replace h := tst_some h
  obtain ⟨hna, h⟩ := h
  obtain ⟨x, M', h1, h2, h3⟩ := callFn_sound hX helim hf hc (Nat.eq_of_beq_eq_true hna) h
  refine ⟨x, M', h1, h2, fun ids hi => ?_⟩
  obtain ⟨e1, e2⟩ := hwr args M ids hi
  rw [e2]; exact h3 e1

/-- A call whose entry changes blocks: all of them may be written. -/
theorem ce_okc (hX : X.Ok) {f : FuncId} {m na : Nat} {cv : List Cv} {σ : LSh} {sel : St → List Nat} {FFn : St → Option O} {valOf : O → AV} {memOf : O → List Blk} {elim : O → (AV → List Blk → Option R) → Option R} (helim : ∀ o k, elim o k = k (valOf o) (memOf o))
    (hf : ∀ lk M o, FFn (canS σ lk M) = some o → FCalls X f m (argsE na (canS σ lk M).env) (canS σ lk M).mem (valOf o) (memOf o)) (hc : ∀ (vs : Array Value) (w : World), (callFunc f vs).run X.P w = .ok (.enter f vs) w)
    {test : List AV → List Blk → Bool} :
    CeOk X ⟨f, test, fun _ M => some (List.range M.length), fun args M k => tst (Nat.beq args.length na) (callFn X m cv σ sel FFn elim args M fun x M' => tst (Nat.ble M.length M'.length) (k x M'))⟩ := by
  intro args M k r h
  replace h := tst_some h
  obtain ⟨hna, h⟩ := h
  obtain ⟨x, M', h1, h2, h3⟩ := callFn_sound hX helim hf hc (Nat.eq_of_beq_eq_true hna) h
  replace h2 := tst_some h2
  obtain ⟨hle, h2⟩ := h2
  refine ⟨x, M', h1, h2, fun ids hi => ?_⟩
  injection hi with hi
  subst hi
  exact ⟨Nat.le_of_ble_eq_true hle, fun i hi hn => absurd (List.mem_range.2 hi) hn⟩

/-- A call whose code is run in place. -/
theorem inl1_ok {g : FuncId} {test : List AV → List Blk → Bool} {run : List AV → List Blk → (AV → List Blk → Option R) → Option R} (h : ∀ {args M k r}, run args M k = some r → ∃ x M', ACalls X g args M x M' ∧ k x M' = some r) :
    CeOk X ⟨g, test, fun _ M => some (List.range M.length), fun args M k => run args M fun x M' => tst (Nat.ble M.length M'.length) (k x M')⟩ := by
  intro args M k r hr
  obtain ⟨x, M', h1, h2⟩ := h hr
  replace h2 := tst_some h2
  obtain ⟨hle, h2⟩ := h2
  refine ⟨x, M', h1, h2, fun ids hi => ?_⟩
  injection hi with hi
  subst hi
  exact ⟨Nat.le_of_ble_eq_true hle, fun i hi hn => absurd (List.mem_range.2 hi) hn⟩

/-- Nil slices handed on as slices that nobody writes. -/
def nilfix : List (Nat × TypeId) → List AV → List AV
  | [], xs => xs
  | p :: ps, xs => nilfix ps (match xs[p.1]? with | some .nilsl => xs.set p.1 (.list p.2 []) | _ => xs)
theorem repL_nilfix {ρ : List Hd} {F : Addr → Prop} {w : World} {vs : List Value} : ∀ (ps : List (Nat × TypeId)) {xs : List AV}, RepL X.K ρ F w xs vs → RepL X.K ρ F w (nilfix ps xs) vs
  | [], xs, h => h
  | p :: ps, xs, h => by
    refine repL_nilfix ps ?_
    split
    · rename_i hx
      refine ⟨by simp [h.1], fun j y v hy hv => ?_⟩
      by_cases e : j = p.1
      · subst e
        have hlt : p.1 < xs.length := (List.getElem?_eq_some_iff.1 hx).1
        rw [List.getElem?_set_self hlt] at hy
        injection hy with hy
        subst hy
        have := h.2 p.1 _ v hx hv
        cases this
        exact .list0 _
      · rw [List.getElem?_set_ne (Ne.symm e)] at hy
        exact h.2 j y v hy hv
    · exact h
theorem nil_ok {e : CE R} (h : CeOk X e) (ps : List (Nat × TypeId)) (test : List AV → List Blk → Bool) : CeOk X ⟨e.f, test, fun args M => e.wr (nilfix ps args) M, fun args M k => e.run (nilfix ps args) M k⟩ := by
  intro args M k r hr
  obtain ⟨x, M', h1, h2, h3⟩ := h hr
  exact ⟨x, M', ⟨h1.1, fun {w0 S F ρ w vs} hI hv => h1.2 hI (repL_nilfix ps hv)⟩, h2, h3⟩

def testV (X : Cx) (cv : List Cv) (σ : LSh) (sel : St → List Nat) (args : List AV) (M : List Blk) : Bool :=
  match evcv X cv ⟨argEnv 0 args, M, [], .unk⟩ (fun st1 => some (enterOk σ (sel st1) st1)) with
  | some true => true
  | _ => false

/-- A function's contract out of its code: the last step. -/
theorem fn_sound (hX : X.Ok) {f : FuncId} {fn : Func} {c : Code} {L : LTab O} (hL : L.Ok X c) (hf : X.P.funcs[f]? = some fn) (hb : fn.body = some c) (hn : fn.ntmps = L.tab.nt.n)
    (hc : ∀ (vs : Array Value) (w : World), (callFunc f vs).run X.P w = .ok (.enter f vs) w) {rs : List ResultVar} (hrs : fn.results.toList = rs) {m : Nat} {ys : St → Option (XSh O)} {valOf : O → AV} {memOf : O → List Blk} (hys : ∀ st y, ys st = some y → retOk y valOf memOf)
    {args : List AV} {M : List Blk} {o : O} (h : evfn X L c rs args M (goR X m ys) = some o) : FCalls X f m args M (valOf o) (memOf o) := by
  obtain ⟨x, M', h1, h2⟩ := evfn_sound hX hL hf hb hn hc hrs h
  exact goR_sound hX hys h1 h2
theorem fn_soundt (hX : X.Ok) {f : FuncId} {fn : Func} {c : Code} {L : LTab O} (hL : L.Ok X c) (hf : X.P.funcs[f]? = some fn) (hb : fn.body = some c) (hn : fn.ntmps = L.tab.nt.n)
    (hc : ∀ (vs : Array Value) (w : World), (callFunc f vs).run X.P w = .ok (.enter f vs) w) {rs : List ResultVar} (hrs : fn.results.toList = rs) {m n : Nat} {ys : St → Option (XSh O)} {valOf : O → AV} {memOf : O → List Blk} (hys : ∀ st y, ys st = some y → retOkt n y valOf memOf)
    {args : List AV} {M : List Blk} {o : O} (h : evfn X L c rs args M (goRt X m n ys) = some o) : FCalls X f m args M (valOf o) (memOf o) := by
  obtain ⟨x, M', h1, h2⟩ := evfn_sound hX hL hf hb hn hc hrs h
  exact goRt_sound hX hys h1 h2

end Go.Eng

namespace Go.Eng
open Go

variable {X : Cx}

def badTI : TI := ⟨false, .other, 0, 0, [], []⟩
def lookTI : List (Nat × TI) → Nat → TI
  | [], _ => badTI
  | e :: es, t => match Nat.beq t e.1 with | true => e.2 | false => lookTI es t
def lookS : List (Nat × Site) → Nat → Site
  | [], _ => ⟨0, #[], .skip, .skip⟩
  | e :: es, t => match Nat.beq t e.1 with | true => e.2 | false => lookS es t

theorem lookTI_ok {P : Program} {l : List (Nat × TI)} (h : AllE (fun e => e.2 = tiOf P e.1 ∧ e.2.ok = true) l) (t : Nat) : ((lookTI l t).ok = true → lookTI l t = tiOf P t) ∧ ((lookTI l t).ok = false → (lookTI l t).ks = []) := by
  induction l with
  | nil => exact ⟨fun h => (by cases h), fun _ => rfl⟩
  | cons e es ih =>
    simp only [lookTI]
    cases hb : Nat.beq t e.1 with
    | true =>
      have := Nat.eq_of_beq_eq_true hb
      subst this
      exact ⟨fun _ => h.1.1, fun hf => (by have := h.1.2; rw [hf] at this; cases this)⟩
    | false => exact ih h.2

def lookE : List Nat → Nat → Bool
  | [], _ => false
  | e :: es, t => match Nat.beq t e with | true => true | false => lookE es t
theorem lookE_ok {P : Program} {l : List Nat} (h : AllE (fun e => eqOk P e = true) l) (t : Nat) (ht : lookE l t = true) : eqOk P t = true := by
  induction l with
  | nil => cases ht
  | cons e es ih =>
    simp only [lookE] at ht
    cases hb : Nat.beq t e with
    | true =>
      have := Nat.eq_of_beq_eq_true hb
      subst this
      exact h.1
    | false => rw [hb] at ht; exact ih h.2 ht
theorem cx_ok {P : Program} {l : List (Nat × TI)} {s : Nat → Site} {el : List Nat} (hm : P.follows .mixedOrders = true) (h : AllE (fun e => e.2 = tiOf P e.1 ∧ e.2.ok = true) l) (he : AllE (fun e => eqOk P e = true) el) : (⟨P, lookTI l, s, fun _ => .top, lookE el⟩ : Cx).Ok where
  eqs := lookE_ok he
  ti := fun t => (lookTI_ok h t).1
  mixed := hm
  bad := fun t => (lookTI_ok h t).2
  glob := fun _ => .inl rfl

theorem enters {P : Program} {f : FuncId} {fn : Func} {c : Code} (hf : P.funcs[f]? = some fn) (hb : fn.body = some c) (hn : (fn.name == "runtime.NumGoroutine") = false) (vs : Array Value) (w : World) : (callFunc f vs).run P w = .ok (.enter f vs) w := by
  have hp : (program).run P w = .ok P w := rfl
  have hn' : fn.name ≠ "runtime.NumGoroutine" := by simpa using hn
  simp [callFunc, Sem.run_bind, hp, Result.andThen, hf, hn', hb]

end Go.Eng

namespace Go.Eng
open Go Go.ChangeShapes Go.WideShapes Go.ChangeAt Go.RowKit

variable {X : Cx}

/-- Integers within their kinds; slices and strings not too long. -/
inductive Wf (K : TypeId → List Kind) : AV → Prop
  | int (k : IntKind) (n : Int) (h : (Lit.int k n).wf = true) : Wf K (.int k n)
  | bool (b : Bool) : Wf K (.bool b)
  | str (s : ByteArray) (h : s.size ≤ maxLen) : Wf K (.str s)
  | list (t : TypeId) (xs : List Row) (hl : xs.length ≤ maxLen) (hk : ∀ row ∈ xs, koks (K t) row = true) (h : ∀ row ∈ xs, ∀ x ∈ row, Wf K x) : Wf K (.list t xs)
def WfL (K : TypeId → List Kind) (row : Row) : Prop := ∀ x ∈ row, Wf K x

def offsOk (X : Cx) : Nat → List (Nat × TypeId) → Nat → Bool
  | o, [], n => o == n
  | o, f :: fs, n => f.1 == o && offsOk X (o + (X.ti f.2).size) fs n
/-- A type whose data can be read so. -/
def rdT (X : Cx) : Nat → TypeId → Bool
  | 0, _ => false
  | n + 1, t => (X.ti t).ok && match (X.ti t).u with
    | .int k => (X.ti t).ks == [.int k]
    | .bool => (X.ti t).ks == [.bool]
    | .str => (X.ti t).ks == [.str]
    | .slice e => (X.ti t).ks == [.slice e] && rdT X n e && Nat.blt 0 (X.ti e).size
    | .struct fs => (X.ti t).ks == fs.flatMap (fun f => (X.ti f.2).ks) && offsOk X 0 fs (X.ti t).size && fs.all (fun f => rdT X n f.2)
    | .array m e => (X.ti t).ks == (List.replicate m (X.ti e).ks).flatten && rdT X n e && (m * (X.ti e).size == (X.ti t).size)
    | _ => false

theorem koks_append : ∀ {ks ls : List Kind} {r s : Row}, koks ks r = true → koks ls s = true → koks (ks ++ ls) (r ++ s) = true
  | [], _, [], _, _, h => h
  | k :: ks, ls, x :: r, s, h, h' => by
    simp only [koks, Bool.and_eq_true] at h
    simp only [List.cons_append, koks, Bool.and_eq_true]
    exact ⟨h.1, koks_append h.2 h'⟩
  | [], _, _ :: _, _, h, _ => by simp [koks] at h
  | _ :: _, _, [], _, h, _ => by simp [koks] at h

section
variable {w : World} {ρ : List Hd}

/-- The cells that were there. -/
def there (w : World) (a : Addr) : Prop := a.block < w.heap.size

def Reads (X : Cx) (ρ : List Hd) (w : World) (ks : List Kind) (cs : List Value) (row : Row) : Prop := RepL X.K ρ (there w) w row cs ∧ koks ks row = true ∧ WfL X.K row

theorem reads_fields {cs : List Value} : ∀ (fs : List (Nat × TypeId)) (o : Nat), o ≤ cs.length → offsOk X o fs cs.length = true → (∀ f ∈ fs, (X.ti f.2).ks.length = (X.ti f.2).size) →
    (∀ f ∈ fs, ∃ row, Reads X ρ w (X.ti f.2).ks ((cs.drop f.1).take (X.ti f.2).size) row) → ∃ row, Reads X ρ w (fs.flatMap fun f => (X.ti f.2).ks) (cs.drop o) row
  | [], o, ho, h, _, _ => by
    have : o = cs.length := by simpa [offsOk] using h
    subst this
    exact ⟨[], ⟨by simp [RepL], rfl, fun x hx => by simp at hx⟩⟩
  | f :: fs, o, ho, h, hks, hr => by
    simp only [offsOk, Bool.and_eq_true, beq_iff_eq] at h
    obtain ⟨h1, h2⟩ := h
    obtain ⟨r1, a1, a2, a3⟩ := hr f (by simp)
    rw [h1] at a1
    have hl1 : ((cs.drop o).take (X.ti f.2).size).length = (X.ti f.2).size := by rw [a1.1, koks_length a2]; exact hks f (by simp)
    have ho2 : o + (X.ti f.2).size ≤ cs.length := by simp at hl1; omega
    obtain ⟨r2, b1, b2, b3⟩ := reads_fields fs (o + (X.ti f.2).size) ho2 h2 (fun g hg => hks g (by simp [hg])) (fun g hg => hr g (by simp [hg]))
    refine ⟨r1 ++ r2, ?_, ?_, fun x hx => ?_⟩
    · have := RepL.append a1 b1
      rwa [← List.drop_drop, List.take_append_drop] at this
    · simp only [List.flatMap_cons]; exact koks_append a2 b2
    · rw [List.mem_append] at hx
      rcases hx with hx | hx
      · exact a3 x hx
      · exact b3 x hx

theorem reads_elems {cs : List Value} {ks : List Kind} {sz : Nat} (hks : ks.length = sz) : ∀ (m o : Nat), o + m * sz = cs.length → (∀ i, i < m → ∃ row, Reads X ρ w ks ((cs.drop (o + i * sz)).take sz) row) → ∃ row, Reads X ρ w (List.replicate m ks).flatten (cs.drop o) row
  | 0, o, ho, _ => by
    have : o = cs.length := by simpa using ho
    subst this
    exact ⟨[], ⟨by simp [RepL], rfl, fun x hx => by simp at hx⟩⟩
  | m + 1, o, ho, hr => by
    obtain ⟨r1, a1, a2, a3⟩ := hr 0 (by omega)
    simp only [Nat.zero_mul, Nat.add_zero] at a1
    have e1 : (m + 1) * sz = m * sz + sz := Nat.succ_mul m sz
    obtain ⟨r2, b1, b2, b3⟩ := reads_elems (cs := cs) hks m (o + sz) (by omega) (fun i hi => by
      have := hr (i + 1) (by omega)
      have e2 : (i + 1) * sz = i * sz + sz := Nat.succ_mul i sz
      rw [e2, show o + (i * sz + sz) = o + sz + i * sz by omega] at this
      exact this)
    refine ⟨r1 ++ r2, ?_, ?_, fun x hx => ?_⟩
    · have := RepL.append a1 b1
      rwa [← List.drop_drop, List.take_append_drop] at this
    · simp only [List.replicate_succ, List.flatten_cons]; exact koks_append a2 b2
    · rw [List.mem_append] at hx
      rcases hx with hx | hx
      · exact a3 x hx
      · exact b3 x hx

theorem reads_one {k : Kind} {x : AV} {v : Value} (hr : Rep X.K ρ (there w) w x v) (hk : kok k x = true) (hw : Wf X.K x) : Reads X ρ w [k] [v] [x] :=
  ⟨⟨rfl, fun j y u hy hu => by
    cases j with
    | zero => simp at hy hu; subst hy; subst hu; exact hr
    | succ j => simp at hy⟩, by simp [koks, hk], fun y hy => by simp at hy; subst hy; exact hw⟩

theorem reads_of_trod (hX : X.Ok) {H : Type} {enc : TypeId × Value → H} : ∀ (n : Nat) {fuel : Nat} {t : TypeId} {cs : List Value} {x : DataW H × List MemPlace}, rdT X n t = true →
    DataW.trod enc X.P w 0 (fun _ => true) true fuel t cs = some x → ∃ row, Reads X ρ w (X.ti t).ks cs row
  | 0, _, _, _, _, h, _ => by simp [rdT] at h
  | n + 1, fuel, t, cs, x, h, hx => by
    simp only [rdT, Bool.and_eq_true] at h
    obtain ⟨hok, h⟩ := h
    obtain ⟨i, d, z, f⟩ := hX.facts hok
    have hcell : ∀ t', (X.ti t').ok = true → X.P.cellsOf t' = (X.ti t').size := fun t' hok' => by
      obtain ⟨i', d', z', f'⟩ := hX.facts hok'
      simp [Program.cellsOf, f'.info, f'.size]
    have hlen : ∀ t', (X.ti t').ok = true → (X.ti t').ks.length = (X.ti t').size := fun t' hok' => by
      obtain ⟨i', d', z', f'⟩ := hX.facts hok'
      rw [f'.ks, f'.size]
    have okof : ∀ {m t'}, rdT X m t' = true → (X.ti t').ok = true := fun {m t'} hm => by
      cases m with
      | zero => simp [rdT] at hm
      | succ m => simp only [rdT, Bool.and_eq_true] at hm; exact hm.1
    split at h
    · rename_i k hu
      have hk : (X.ti t).ks = [.int k] := by simpa using h
      obtain ⟨m, rfl, _, hwf⟩ := DataW.trod_int (f.intK hu) hx
      rw [hk]
      exact ⟨_, reads_one (.int k m) (by simp [kok]) (.int k m hwf)⟩
    · rename_i hu
      have hk : (X.ti t).ks = [.bool] := by simpa using h
      have hund : X.P.underlying t = some .bool := by
        have := f.und; rw [f.u] at hu
        cases d <;> simp_all [tyOf]
      obtain ⟨b, rfl, _⟩ := DataW.trod_bool hund hx
      rw [hk]
      exact ⟨_, reads_one (.bool b) rfl (.bool b)⟩
    · rename_i hu
      have hk : (X.ti t).ks = [.str] := by simpa using h
      have hund : X.P.underlying t = some .string := by
        have := f.und; rw [f.u] at hu
        cases d <;> simp_all [tyOf]
      obtain ⟨s, rfl, _, hs⟩ := DataW.trod_string hund hx
      rw [hk]
      exact ⟨_, reads_one (.str s) rfl (.str s hs)⟩
    · rename_i e hu
      simp only [Bool.and_eq_true, beq_iff_eq] at h
      obtain ⟨⟨hk, hrd⟩, hpos⟩ := h
      have hpos : 0 < (X.ti e).size := by simpa using hpos
      have hoke := okof hrd
      rcases DataW.trod_slice (f.slice hu) hx with ⟨rfl, _⟩ | ⟨a, len, cap, elems, rest, m, _, rfl, _, _, hlc, hcm, hel, hread, _, _⟩
      · rw [hk]
        exact ⟨_, reads_one (.list0 e) (by simp [kok]) (.list e [] (by simp) (fun row h => by simp at h) (fun row h => by simp at h))⟩
      · rw [hk]
        have each : ∀ i, i < len → ∃ vs row, w.cells? 0 (a.add (i * (X.ti e).size)) (X.ti e).size = some vs ∧ Reads X ρ w (X.ti e).ks vs row := by
          intro i hi
          have := hread i hi
          rw [hcell e hoke, List.getElem?_eq_getElem (by omega)] at this
          rw [Option.bind_eq_some_iff] at this
          obtain ⟨vs, h1, h2⟩ := this
          obtain ⟨row, h3⟩ := reads_of_trod hX n hrd h2
          exact ⟨vs, row, h1, h3⟩
        have hch : ∃ g : Nat → List Value × Row, ∀ i, i < len → w.cells? 0 (a.add (i * (X.ti e).size)) (X.ti e).size = some (g i).1 ∧ Reads X ρ w (X.ti e).ks (g i).1 (g i).2 := by
          refine ⟨fun i => if hi : i < len then ((each i hi).choose, (each i hi).choose_spec.choose) else ([], []), fun i hi => ?_⟩
          simp only [hi, dif_pos]
          exact (each i hi).choose_spec.choose_spec
        obtain ⟨g, hg⟩ := hch
        have hkl := hlen e hoke
        have hxs : ((List.range len).map fun i => (g i).2).length = len := by simp
        have rep := Rep.list (K := X.K) (ρ := ρ) (F := there w) (w := w) e ((List.range len).map fun i => (g i).2) a cap ((List.range len).map fun i => (g i).1) (by simp) (by simpa using hlc) hcm
          (fun i row hi => by
            have hlt : i < len := by have := (List.getElem?_eq_some_iff.1 hi).1; simpa using this
            simp only [List.getElem?_map, List.getElem?_range hlt, Option.map_some, Option.some.injEq] at hi
            subst hi
            exact (hg i hlt).2.2.1)
          (fun i vs hi => by
            have hlt : i < len := by have := (List.getElem?_eq_some_iff.1 hi).1; simpa using this
            simp only [List.getElem?_map, List.getElem?_range hlt, Option.map_some, Option.some.injEq] at hi
            subst hi
            obtain ⟨c1, c2⟩ := hg i hlt
            have hvl : (g i).1.length = (X.K e).length := by rw [c2.1.1, koks_length c2.2.1]; rfl
            refine ⟨hvl, fun j v hj => ?_⟩
            have hjl : j < (X.ti e).size := by have := (List.getElem?_eq_some_iff.1 hj).1; rw [hvl] at this; rw [← hkl]; exact this
            have hcell' : w.cell? (a.add (i * (X.K e).length + j)) = some v := by
              have hsome := World.cells?_some c1
              obtain ⟨_, hsome⟩ := hsome
              have := hsome.2 j hjl
              rw [hj] at this
              have e2 : (X.K e).length = (X.ti e).size := hkl
              rw [e2]
              rwa [Addr.add_add] at this
            exact ⟨hcell', World.block_lt_of_cell? w _ hcell'⟩)
          (fun i row vs hi hvs j y v hy hv => by
            have hlt : i < len := by have := (List.getElem?_eq_some_iff.1 hi).1; simpa using this
            simp only [List.getElem?_map, List.getElem?_range hlt, Option.map_some, Option.some.injEq] at hi hvs
            subst hi; subst hvs
            exact (hg i hlt).2.1.2 j y v hy hv)
        rw [hxs] at rep
        refine ⟨_, reads_one rep (by simp [kok]) (.list e _ (by rw [hxs]; omega) (fun row hrow => ?_) fun row hrow y hy => ?_)⟩
        · obtain ⟨i, hi, rfl⟩ := List.mem_map.1 hrow
          exact (hg i (List.mem_range.1 hi)).2.2.1
        · obtain ⟨i, hi, rfl⟩ := List.mem_map.1 hrow
          exact (hg i (List.mem_range.1 hi)).2.2.2 y hy
    · rename_i fs hu
      simp only [Bool.and_eq_true, beq_iff_eq] at h
      obtain ⟨⟨hk, hoff⟩, hall⟩ := h
      obtain ⟨gs, hund, rfl⟩ := f.struct hu
      obtain ⟨xs, m, _, _, hcl, hxl, hfield⟩ := DataW.trod_struct hund hx
      rw [hk]
      rw [hcell t hok] at hcl
      have := reads_fields (X := X) (ρ := ρ) (w := w) (cs := cs) (gs.toList.map fun f => (f.offset, f.type)) 0 (Nat.zero_le _) (by rw [hcl]; exact hoff)
        (fun g hg => hlen _ (okof (List.all_eq_true.1 hall g hg))) (fun g hg => by
          have hrd := List.all_eq_true.1 hall g hg
          obtain ⟨q, hq, rfl⟩ := List.mem_map.1 hg
          obtain ⟨j, hj, hq⟩ := List.mem_iff_getElem.1 hq
          have hj' : gs[j]? = some q := by rw [← hq]; simp [Array.length_toList ▸ hj]
          have hf := hfield j q hj'
          rw [hcell _ (okof hrd)] at hf
          have hjx : j < xs.length := by rw [hxl]; simpa using hj
          rw [List.getElem?_eq_getElem hjx] at hf
          exact reads_of_trod hX n hrd hf)
      simpa using this
    · rename_i m e hu
      simp only [Bool.and_eq_true, beq_iff_eq] at h
      obtain ⟨⟨hk, hrd⟩, hmul⟩ := h
      have hoke := okof hrd
      obtain ⟨xs, m', _, _, hcl, hxl, hread⟩ := DataW.trod_array (f.array hu) hx
      rw [hk]
      rw [hcell t hok] at hcl
      have := reads_elems (X := X) (ρ := ρ) (w := w) (cs := cs) (hlen e hoke) m 0 (by omega) (fun i hi => by
        have hf := hread i hi
        rw [hcell _ hoke, List.getElem?_eq_getElem (by omega)] at hf
        simpa using reads_of_trod hX n hrd hf)
      simpa using this
    · cases h

end

/-- An argument of a type, as an abstract value. -/
def ArgAV (X : Cx) (t : TypeId) (x : AV) : Prop := ((X.ti t).u.agg = true ∧ ∃ row, x = .agg row ∧ koks (X.ti t).ks row = true ∧ WfL X.K row) ∨ ((X.ti t).u.agg = false ∧ koks (X.ti t).ks [x] = true ∧ Wf X.K x)

theorem argAV_of_trod (hX : X.Ok) {w : World} {base : Nat} {ρ : List Hd} {H : Type} {enc : TypeId × Value → H} {n : Nat} {t : TypeId} {v : Value} {d : DataW H} {ps : List MemPlace} (hrd : rdT X n t = true) (h : DataW.Trod enc X.P w 0 (fun _ => true) true t v d ps)
    (hok : Value.okWide X.P w .any base t v) : ∃ x, ArgAV X t x ∧ Rep X.K ρ (there w) w x v := by
  obtain ⟨fuel, h⟩ := h
  obtain ⟨row, hr⟩ := reads_of_trod hX (ρ := ρ) n hrd h
  have hto : (X.ti t).ok = true := by
    cases n with
    | zero => simp [rdT] at hrd
    | succ n => simp only [rdT, Bool.and_eq_true] at hrd; exact hrd.1
  obtain ⟨i, dd, z, f⟩ := hX.facts hto
  cases hag : (X.ti t).u.agg with
  | true =>
    have hv : ∃ cs, v = .agg cs := by
      unfold Value.okWide at hok
      rw [f.und] at hok
      rw [f.u] at hag
      cases dd <;> simp [tyOf, TyI.agg] at hag
      · obtain ⟨cs, h1, _⟩ := hok; exact ⟨cs, h1⟩
      · obtain ⟨cs, h1, _⟩ := hok; exact ⟨cs, h1⟩
    obtain ⟨cs, rfl⟩ := hv
    have hc : (Value.agg cs).cells.toList = cs.toList := rfl
    rw [hc] at hr
    refine ⟨.agg row, .inl ⟨hag, row, rfl, hr.2.1, hr.2.2⟩, ?_⟩
    have := Rep.agg (K := X.K) (ρ := ρ) (F := there w) (w := w) row cs.toList hr.1.1 hr.1.2
    simpa using this
  | false =>
    have hkl : (X.ti t).ks.length = 1 := by
      cases n with
      | zero => simp [rdT] at hrd
      | succ n =>
        simp only [rdT, Bool.and_eq_true] at hrd
        have h2 := hrd.2
        split at h2
        · rename_i k hu
          have : (X.ti t).ks = [.int k] := by simpa using h2
          rw [this]; rfl
        · have : (X.ti t).ks = [.bool] := by simpa using h2
          rw [this]; rfl
        · have : (X.ti t).ks = [.str] := by simpa using h2
          rw [this]; rfl
        · simp only [Bool.and_eq_true, beq_iff_eq] at h2
          rw [h2.1.1]; rfl
        · rename_i hu; rw [hu] at hag; simp [TyI.agg] at hag
        · rename_i hu; rw [hu] at hag; simp [TyI.agg] at hag
        · cases h2
    have hrl := koks_length hr.2.1
    rw [hkl] at hrl
    obtain ⟨x, rfl⟩ := List.length_eq_one_iff.1 hrl
    have hcl : v.cells.toList.length = 1 := by rw [hr.1.1, hrl]
    have hv : v.cells.toList = [v] := by
      cases v with
      | agg cs =>
        exfalso
        unfold Value.okWide at hok
        rw [f.und] at hok
        rw [f.u] at hag
        cases dd <;> simp [tyOf, TyI.agg] at hag <;> simp [Cell.okWide, Cell.ok, f.und] at hok
      | _ => rfl
    rw [hv] at hr
    exact ⟨x, .inr ⟨hag, hr.2.1, hr.2.2 x (by simp)⟩, hr.1.2 0 x v rfl rfl⟩

/-! ### A law's row -/

theorem below_of_inv {w0 w : World} {F : Addr → Prop} {ρ : List Hd} {M : List Blk} {F0 : Addr → Prop} (hI : Inv X w0 ⟨fun _ => False, F0⟩ F ρ M w) : Below w0.heap.size w0 w :=
  ⟨hI.os, hI.tape, hI.output, hI.size, fun k hk => hI.frame k hk (fun h => h)⟩

theorem kept_of_below {w w' : World} (h : Below w.heap.size w w') (may : MemPlace → Prop) : w.keptBut w' may := by
  refine ⟨h.os, h.output, fun i hi => ?_⟩
  rw [h.block i hi]
  exact (World.keptBut_refl w may).2.2 i hi

theorem inv_start (hX : X.Ok) (hg : ∀ g, X.glob g = .top) (w : World) : Inv X w ⟨fun _ => False, there w⟩ (there w) [] [] w where
  os := rfl
  tape := rfl
  output := rfl
  size := Nat.le_refl _
  frame := fun _ _ _ => rfl
  len := rfl
  rep := fun id b hd hb _ => by simp at hb
  sep := fun id b hd g hb _ _ _ => by simp at hb
  disj := fun id id' b b' hd hd' g _ hb _ _ _ _ _ _ => by simp at hb
  fz := fun a ha => ha
  glob := fun g => by rw [hg]; exact .top _
  one := fun id hd hh => by simp at hh
  old := fun a ha => .inl ha
  fin := fun a ha => ha

def ArgsAV (X : Cx) : List TypeId → List AV → Prop
  | [], [] => True
  | t :: ts, x :: xs => ArgAV X t x ∧ ArgsAV X ts xs
  | _, _ => False

theorem argsAV_of_trod (hX : X.Ok) {w : World} {base : Nat} {ρ : List Hd} {H : Type} {enc : TypeId × Value → H} {n : Nat} : ∀ {ts : List TypeId} {vs : List Value} {ds : List (DataW H)} {ps : List MemPlace}, (ts.all (rdT X n)) = true →
    DataW.TrodAll enc X.P w 0 (fun _ => true) true ts vs ds ps → (∀ (j : Nat) t v, ts[j]? = some t → vs[j]? = some v → Value.okWide X.P w .any base t v) → ∃ xs, ArgsAV X ts xs ∧ RepL X.K ρ (there w) w xs vs
  | [], [], [], ps, _, _, _ => ⟨[], trivial, by simp [RepL]⟩
  | t :: ts, v :: vs, d :: ds, ps, hrd, h, hok => by
    obtain ⟨p, q, h1, h2, _⟩ := h
    simp only [List.all_cons, Bool.and_eq_true] at hrd
    obtain ⟨x, hx, hr⟩ := argAV_of_trod hX (ρ := ρ) hrd.1 h1 (hok 0 t v rfl rfl)
    obtain ⟨xs, hxs, hrs⟩ := argsAV_of_trod hX (ρ := ρ) (ts := ts) (vs := vs) hrd.2 h2 (fun j t' v' ht hv => hok (j + 1) t' v' (by simpa using ht) (by simpa using hv))
    refine ⟨x :: xs, ⟨hx, hxs⟩, by simp [hrs.1], fun j y u hy hu => ?_⟩
    cases j with
    | zero => simp at hy hu; subst hy; subst hu; exact hr
    | succ j => simp at hy hu; exact hrs.2 j y u hy hu
  | [], [], _ :: _, _, _, h, _ => by simp [DataW.TrodAll] at h
  | [], _ :: _, _, _, _, h, _ => by simp [DataW.TrodAll] at h
  | _ :: _, [], _, _, _, h, _ => by simp [DataW.TrodAll] at h
  | _ :: _, _ :: _, [], _, _, h, _ => by simp [DataW.TrodAll] at h

theorem trodAll_behind {P : Program} {H : Type} {enc : TypeId × Value → H} (hl : laidOutB P = true) {w w' : World} (hb : Below w.heap.size w w') : ∀ {ts : List TypeId} {vs : List Value} {ds : List (DataW H)} {ps : List MemPlace}, (ts.all fun t => P.readableRec t && Nat.blt t P.types.size) = true →
    DataW.TrodAll enc P w 0 (fun _ => true) true ts vs ds ps → (∀ x ∈ ps, x.block < w.heap.size) → DataW.TrodAll enc P w' 0 (fun b => decide (b < w.heap.size)) true ts vs ds ps
  | [], [], [], ps, _, h, _ => h
  | t :: ts, v :: vs, d :: ds, ps, hrd, h, hlt => by
    obtain ⟨p, q, h1, h2, rfl⟩ := h
    simp only [List.all_cons, Bool.and_eq_true] at hrd
    exact ⟨p, q, Below.trod hl hrd.1.1 (by simpa using hrd.1.2) h1 hb (fun x hx => hlt x (by simp [hx])), trodAll_behind hl hb (ts := ts) (vs := vs) hrd.2 h2 (fun x hx => hlt x (by simp [hx])), rfl⟩
  | [], [], _ :: _, _, _, h, _ => by simp [DataW.TrodAll] at h
  | [], _ :: _, _, _, _, h, _ => by simp [DataW.TrodAll] at h
  | _ :: _, [], _, _, _, h, _ => by simp [DataW.TrodAll] at h
  | _ :: _, _ :: _, [], _, _, h, _ => by simp [DataW.TrodAll] at h

/-- What a law's row asks of the function: from its contract at all that can be read. -/
theorem law_contract (hX : X.Ok) (hg : ∀ g, X.glob g = .top) (hl : laidOutB X.P = true) {f : FuncId} {fn : Func} {s : ChangeSpec} {ts : List TypeId} {tb : TypeId} (hts : fn.params.toList = ts) (hrt : fn.resultTypes = #[tb]) (htb : X.P.underlying tb = some .bool)
    {n : Nat} (hrd : (ts.all (rdT X n)) = true) (hrr : (ts.all fun t => X.P.readableRec t && Nat.blt t X.P.types.size) = true) (hv : s.vars = []) {H : Type} {enc : TypeId × Value → H}
    (hs : ∀ ds : List (DataW H), ds.length = ts.length → s.fn H ds = { results := [.lit (.bool true)], args := ds })
    (hlaw : ∀ xs, ArgsAV X ts xs → ∃ m M', FCalls X f m xs [] (.bool true) M')
    (W : World) (base : Nat) (args : Array Value) (ds gs : List (DataW H)) (before : List MemPlace) (hval : ∀ (j : Nat) t v, fn.params[j]? = some t → args[j]? = some v → Value.okWide X.P W .any base t v)
    (hW : DataW.Whole enc X.P fn.params.toList s.vars false W args.toList ds gs before) :
    Calls X.P f args W fun e W' => ∃ v, e = .returned v ∧ s.post enc X.P fn false true false false W args v W' := by
  have hW' := hW
  obtain ⟨p, q, hA, hV, hpq, hfz, hnd⟩ := hW
  rw [hv] at hV
  obtain ⟨rfl, rfl⟩ := trodVars_none hV
  rw [List.append_nil] at hpq
  have hpq' : p = before := hpq.symm
  subst hpq'
  have hA0 := hA
  rw [hts] at hA
  have hlen : ds.length = ts.length := by
    have : ∀ (ts : List TypeId) (vs : List Value) (ds : List (DataW H)) (ps : List MemPlace), DataW.TrodAll enc X.P W 0 (fun _ => true) true ts vs ds ps → ds.length = ts.length := by
      intro ts
      induction ts with
      | nil => intro vs ds ps h; cases vs <;> cases ds <;> simp_all [DataW.TrodAll]
      | cons t ts ih =>
        intro vs ds ps h
        cases vs with
        | nil => cases ds <;> simp [DataW.TrodAll] at h
        | cons v vs =>
          cases ds with
          | nil => simp [DataW.TrodAll] at h
          | cons d ds => obtain ⟨_, _, _, h2, _⟩ := h; simp [ih _ _ _ h2]
    exact this _ _ _ _ hA
  obtain ⟨xs, hxs, hrep⟩ := argsAV_of_trod hX (ρ := []) hrd hA (fun j t v ht hv => hval j t v (by rw [← hts] at ht; simpa using ht) (by simpa using hv))
  obtain ⟨m, M', hcall⟩ := hlaw xs hxs
  have := hcall (inv_start hX hg W) hrep
  refine this.mono ?_
  rintro e W' ⟨v, ρ', F', rfl, hI, _, hr⟩
  refine ⟨v, rfl, ?_⟩
  cases hr
  have hb := below_of_inv hI
  have hlt : ∀ x ∈ p, x.block < W.heap.size := fun x hx => by simpa using hW'.lt x hx
  have hfn : s.fn H (ds ++ []) = { results := [.lit (.bool true)], args := ds } := by rw [List.append_nil]; exact hs ds hlen
  refine ⟨ds, [], p, [], p, [], hW', ?_, ?_, ?_, kept_of_below hb _, fun h => by cases h⟩
  · rw [hfn, hrt]
    exact trodAll_mk1 (shut_bool htb true)
  · rw [hfn]
    rw [hts]
    exact trodAll_behind hl hb hrr hA hlt
  · rw [hfn, hv]; exact rfl

end Go.Eng

namespace Go.Proofs.Ytnfmdenclkdmbaa
open Go Go.Eng
set_option maxRecDepth 100000
noncomputable def code3 : Code := (Try.f3.body).getD .skip
noncomputable def code4 : Code := (Try.f4.body).getD .skip
noncomputable def code5 : Code := (Try.f5.body).getD .skip
noncomputable def code6 : Code := (Try.f6.body).getD .skip
noncomputable def code7 : Code := (Try.f7.body).getD .skip
noncomputable def code8 : Code := (Try.f8.body).getD .skip
noncomputable def code9 : Code := (Try.f9.body).getD .skip
noncomputable def code10 : Code := (Try.f10.body).getD .skip
noncomputable def code11 : Code := (Try.f11.body).getD .skip
noncomputable def code12 : Code := (Try.f12.body).getD .skip
noncomputable def code13 : Code := (Try.f13.body).getD .skip
noncomputable def code14 : Code := (Try.f14.body).getD .skip
noncomputable def code15 : Code := (Try.f15.body).getD .skip
noncomputable def code16 : Code := (Try.f16.body).getD .skip
noncomputable def code17 : Code := (Try.f17.body).getD .skip
noncomputable def code18 : Code := (Try.f18.body).getD .skip
noncomputable def code19 : Code := (Try.f19.body).getD .skip
noncomputable def code20 : Code := (Try.f20.body).getD .skip
noncomputable def code21 : Code := (Try.f21.body).getD .skip
noncomputable def code22 : Code := (Try.f22.body).getD .skip
noncomputable def code23 : Code := (Try.f23.body).getD .skip
noncomputable def code24 : Code := (Try.f24.body).getD .skip
noncomputable def code25 : Code := (Try.f25.body).getD .skip
noncomputable def code26 : Code := (Try.f26.body).getD .skip
noncomputable def code27 : Code := (Try.f27.body).getD .skip
noncomputable def code28 : Code := (Try.f28.body).getD .skip
noncomputable def code29 : Code := (Try.f29.body).getD .skip
noncomputable def code30 : Code := (Try.f30.body).getD .skip
noncomputable def code31 : Code := (Try.f31.body).getD .skip
noncomputable def code32 : Code := (Try.f32.body).getD .skip
noncomputable def code33 : Code := (Try.f33.body).getD .skip
noncomputable def code34 : Code := (Try.f34.body).getD .skip
noncomputable def code35 : Code := (Try.f35.body).getD .skip
noncomputable def code36 : Code := (Try.f36.body).getD .skip
noncomputable def code37 : Code := (Try.f37.body).getD .skip
noncomputable def code38 : Code := (Try.f38.body).getD .skip
noncomputable def code39 : Code := (Try.f39.body).getD .skip
noncomputable def code40 : Code := (Try.f40.body).getD .skip
noncomputable def code41 : Code := (Try.f41.body).getD .skip
noncomputable def code42 : Code := (Try.f42.body).getD .skip
noncomputable def code43 : Code := (Try.f43.body).getD .skip
noncomputable def code44 : Code := (Try.f44.body).getD .skip
noncomputable def code45 : Code := (Try.f45.body).getD .skip
noncomputable def code46 : Code := (Try.f46.body).getD .skip
noncomputable def code47 : Code := (Try.f47.body).getD .skip
noncomputable def code48 : Code := (Try.f48.body).getD .skip
noncomputable def code49 : Code := (Try.f49.body).getD .skip
noncomputable def code50 : Code := (Try.f50.body).getD .skip
noncomputable def code51 : Code := (Try.f51.body).getD .skip
noncomputable def code52 : Code := (Try.f52.body).getD .skip
noncomputable def code53 : Code := (Try.f53.body).getD .skip
noncomputable def code54 : Code := (Try.f54.body).getD .skip
noncomputable def code55 : Code := (Try.f55.body).getD .skip
noncomputable def code56 : Code := (Try.f56.body).getD .skip
noncomputable def code57 : Code := (Try.f57.body).getD .skip
noncomputable def code58 : Code := (Try.f58.body).getD .skip
noncomputable def code59 : Code := (Try.f59.body).getD .skip
noncomputable def code60 : Code := (Try.f60.body).getD .skip
noncomputable def code61 : Code := (Try.f61.body).getD .skip
noncomputable def code62 : Code := (Try.f62.body).getD .skip
noncomputable def code63 : Code := (Try.f63.body).getD .skip
noncomputable def code64 : Code := (Try.f64.body).getD .skip
noncomputable def code65 : Code := (Try.f65.body).getD .skip
noncomputable def code66 : Code := (Try.f66.body).getD .skip
noncomputable def code67 : Code := (Try.f67.body).getD .skip
noncomputable def code68 : Code := (Try.f68.body).getD .skip
noncomputable def code69 : Code := (Try.f69.body).getD .skip
noncomputable def code70 : Code := (Try.f70.body).getD .skip
noncomputable def code71 : Code := (Try.f71.body).getD .skip
noncomputable def code72 : Code := (Try.f72.body).getD .skip
noncomputable def code73 : Code := (Try.f73.body).getD .skip
noncomputable def code74 : Code := (Try.f74.body).getD .skip
noncomputable def code75 : Code := (Try.f75.body).getD .skip
noncomputable def code76 : Code := (Try.f76.body).getD .skip
noncomputable def code77 : Code := (Try.f77.body).getD .skip
noncomputable def code78 : Code := (Try.f78.body).getD .skip
noncomputable def code79 : Code := (Try.f79.body).getD .skip
noncomputable def code80 : Code := (Try.f80.body).getD .skip
noncomputable def code81 : Code := (Try.f81.body).getD .skip
noncomputable def code82 : Code := (Try.f82.body).getD .skip
noncomputable def code83 : Code := (Try.f83.body).getD .skip
noncomputable def code84 : Code := (Try.f84.body).getD .skip
noncomputable def code85 : Code := (Try.f85.body).getD .skip
noncomputable def code86 : Code := (Try.f86.body).getD .skip
noncomputable def code87 : Code := (Try.f87.body).getD .skip
noncomputable def code88 : Code := (Try.f88.body).getD .skip
noncomputable def code89 : Code := (Try.f89.body).getD .skip
noncomputable def code90 : Code := (Try.f90.body).getD .skip
noncomputable def code91 : Code := (Try.f91.body).getD .skip
noncomputable def code92 : Code := (Try.f92.body).getD .skip
noncomputable def code93 : Code := (Try.f93.body).getD .skip
noncomputable def code94 : Code := (Try.f94.body).getD .skip
noncomputable def code95 : Code := (Try.f95.body).getD .skip
noncomputable def code96 : Code := (Try.f96.body).getD .skip
noncomputable def siteL : List (Nat × Site) := []
def tiL : List (Nat × TI) := [
  (2, ⟨true, .int .i64, 1, 8, [.int .i64 0], [.int .i64]⟩),
  (4, ⟨true, .bool, 1, 1, [.bool false], [.bool]⟩),
  (21, ⟨true, .int .i32, 1, 4, [.int .i32 0], [.int .i32]⟩),
  (22, ⟨true, .int .u8, 1, 1, [.int .u8 0], [.int .u8]⟩),
  (23, ⟨true, .other, 1, 0, [.top], [.raw]⟩),
  (29, ⟨true, .struct [(0, 2), (1, 2)], 2, 16, [.int .i64 0, .int .i64 0], [.int .i64, .int .i64]⟩),
  (38, ⟨true, .slice 29, 1, 24, [.nilsl], [.slice 29]⟩),
  (41, ⟨true, .int .i8, 1, 1, [.int .i8 0], [.int .i8]⟩),
  (46, ⟨true, .other, 1, 8, [.nilfn], [.raw]⟩),
  (48, ⟨true, .map 22 46, 1, 8, [.nilmp], [.raw]⟩),
  (50, ⟨true, .other, 1, 8, [.nilfn], [.raw]⟩),
  (54, ⟨true, .slice 2, 1, 24, [.nilsl], [.slice 2]⟩),
  (63, ⟨true, .other, 1, 8, [.nilfn], [.raw]⟩),
  (64, ⟨true, .int .u64, 1, 8, [.int .u64 0], [.int .u64]⟩),
  (65, ⟨true, .other, 1, 0, [.top], [.raw]⟩),
  (68, ⟨true, .slice 4, 1, 24, [.nilsl], [.slice 4]⟩)]
noncomputable def CX : Cx := ⟨Try.prog, lookTI tiL, lookS siteL, fun _ => .top, lookE [29]⟩
theorem hX : CX.Ok := cx_ok (el := [29]) (by kernel_rfl) ⟨⟨by kernel_rfl, rfl⟩, ⟨by kernel_rfl, rfl⟩, ⟨by kernel_rfl, rfl⟩, ⟨by kernel_rfl, rfl⟩, ⟨by kernel_rfl, rfl⟩, ⟨by kernel_rfl, rfl⟩, ⟨by kernel_rfl, rfl⟩, ⟨by kernel_rfl, rfl⟩, ⟨by kernel_rfl, rfl⟩, ⟨by kernel_rfl, rfl⟩, ⟨by kernel_rfl, rfl⟩, ⟨by kernel_rfl, rfl⟩, ⟨by kernel_rfl, rfl⟩, ⟨by kernel_rfl, rfl⟩, ⟨by kernel_rfl, rfl⟩, ⟨by kernel_rfl, rfl⟩, trivial⟩ ⟨(by show eqOk Try.prog _ = true; kernel_rfl), trivial⟩
theorem hb3 : Try.f3.body = some code3 := by kernel_rfl
theorem en3 : ∀ (vs : Array Value) (w : World), (callFunc 3 vs).run CX.P w = .ok (.enter 3 vs) w := enters Try.func3 hb3 (by kernel_rfl)
theorem hb4 : Try.f4.body = some code4 := by kernel_rfl
theorem en4 : ∀ (vs : Array Value) (w : World), (callFunc 4 vs).run CX.P w = .ok (.enter 4 vs) w := enters Try.func4 hb4 (by kernel_rfl)
theorem hb5 : Try.f5.body = some code5 := by kernel_rfl
theorem en5 : ∀ (vs : Array Value) (w : World), (callFunc 5 vs).run CX.P w = .ok (.enter 5 vs) w := enters Try.func5 hb5 (by kernel_rfl)
theorem hb6 : Try.f6.body = some code6 := by kernel_rfl
theorem en6 : ∀ (vs : Array Value) (w : World), (callFunc 6 vs).run CX.P w = .ok (.enter 6 vs) w := enters Try.func6 hb6 (by kernel_rfl)
theorem hb7 : Try.f7.body = some code7 := by kernel_rfl
theorem en7 : ∀ (vs : Array Value) (w : World), (callFunc 7 vs).run CX.P w = .ok (.enter 7 vs) w := enters Try.func7 hb7 (by kernel_rfl)
theorem hb8 : Try.f8.body = some code8 := by kernel_rfl
theorem en8 : ∀ (vs : Array Value) (w : World), (callFunc 8 vs).run CX.P w = .ok (.enter 8 vs) w := enters Try.func8 hb8 (by kernel_rfl)
theorem hb9 : Try.f9.body = some code9 := by kernel_rfl
theorem en9 : ∀ (vs : Array Value) (w : World), (callFunc 9 vs).run CX.P w = .ok (.enter 9 vs) w := enters Try.func9 hb9 (by kernel_rfl)
theorem hb10 : Try.f10.body = some code10 := by kernel_rfl
theorem en10 : ∀ (vs : Array Value) (w : World), (callFunc 10 vs).run CX.P w = .ok (.enter 10 vs) w := enters Try.func10 hb10 (by kernel_rfl)
theorem hb11 : Try.f11.body = some code11 := by kernel_rfl
theorem en11 : ∀ (vs : Array Value) (w : World), (callFunc 11 vs).run CX.P w = .ok (.enter 11 vs) w := enters Try.func11 hb11 (by kernel_rfl)
theorem hb12 : Try.f12.body = some code12 := by kernel_rfl
theorem en12 : ∀ (vs : Array Value) (w : World), (callFunc 12 vs).run CX.P w = .ok (.enter 12 vs) w := enters Try.func12 hb12 (by kernel_rfl)
theorem hb13 : Try.f13.body = some code13 := by kernel_rfl
theorem en13 : ∀ (vs : Array Value) (w : World), (callFunc 13 vs).run CX.P w = .ok (.enter 13 vs) w := enters Try.func13 hb13 (by kernel_rfl)
theorem hb14 : Try.f14.body = some code14 := by kernel_rfl
theorem en14 : ∀ (vs : Array Value) (w : World), (callFunc 14 vs).run CX.P w = .ok (.enter 14 vs) w := enters Try.func14 hb14 (by kernel_rfl)
theorem hb15 : Try.f15.body = some code15 := by kernel_rfl
theorem en15 : ∀ (vs : Array Value) (w : World), (callFunc 15 vs).run CX.P w = .ok (.enter 15 vs) w := enters Try.func15 hb15 (by kernel_rfl)
theorem hb16 : Try.f16.body = some code16 := by kernel_rfl
theorem en16 : ∀ (vs : Array Value) (w : World), (callFunc 16 vs).run CX.P w = .ok (.enter 16 vs) w := enters Try.func16 hb16 (by kernel_rfl)
theorem hb17 : Try.f17.body = some code17 := by kernel_rfl
theorem en17 : ∀ (vs : Array Value) (w : World), (callFunc 17 vs).run CX.P w = .ok (.enter 17 vs) w := enters Try.func17 hb17 (by kernel_rfl)
theorem hb18 : Try.f18.body = some code18 := by kernel_rfl
theorem en18 : ∀ (vs : Array Value) (w : World), (callFunc 18 vs).run CX.P w = .ok (.enter 18 vs) w := enters Try.func18 hb18 (by kernel_rfl)
theorem hb19 : Try.f19.body = some code19 := by kernel_rfl
theorem en19 : ∀ (vs : Array Value) (w : World), (callFunc 19 vs).run CX.P w = .ok (.enter 19 vs) w := enters Try.func19 hb19 (by kernel_rfl)
theorem hb20 : Try.f20.body = some code20 := by kernel_rfl
theorem en20 : ∀ (vs : Array Value) (w : World), (callFunc 20 vs).run CX.P w = .ok (.enter 20 vs) w := enters Try.func20 hb20 (by kernel_rfl)
theorem hb21 : Try.f21.body = some code21 := by kernel_rfl
theorem en21 : ∀ (vs : Array Value) (w : World), (callFunc 21 vs).run CX.P w = .ok (.enter 21 vs) w := enters Try.func21 hb21 (by kernel_rfl)
theorem hb22 : Try.f22.body = some code22 := by kernel_rfl
theorem en22 : ∀ (vs : Array Value) (w : World), (callFunc 22 vs).run CX.P w = .ok (.enter 22 vs) w := enters Try.func22 hb22 (by kernel_rfl)
theorem hb23 : Try.f23.body = some code23 := by kernel_rfl
theorem en23 : ∀ (vs : Array Value) (w : World), (callFunc 23 vs).run CX.P w = .ok (.enter 23 vs) w := enters Try.func23 hb23 (by kernel_rfl)
theorem hb24 : Try.f24.body = some code24 := by kernel_rfl
theorem en24 : ∀ (vs : Array Value) (w : World), (callFunc 24 vs).run CX.P w = .ok (.enter 24 vs) w := enters Try.func24 hb24 (by kernel_rfl)
theorem hb25 : Try.f25.body = some code25 := by kernel_rfl
theorem en25 : ∀ (vs : Array Value) (w : World), (callFunc 25 vs).run CX.P w = .ok (.enter 25 vs) w := enters Try.func25 hb25 (by kernel_rfl)
theorem hb26 : Try.f26.body = some code26 := by kernel_rfl
theorem en26 : ∀ (vs : Array Value) (w : World), (callFunc 26 vs).run CX.P w = .ok (.enter 26 vs) w := enters Try.func26 hb26 (by kernel_rfl)
theorem hb27 : Try.f27.body = some code27 := by kernel_rfl
theorem en27 : ∀ (vs : Array Value) (w : World), (callFunc 27 vs).run CX.P w = .ok (.enter 27 vs) w := enters Try.func27 hb27 (by kernel_rfl)
theorem hb28 : Try.f28.body = some code28 := by kernel_rfl
theorem en28 : ∀ (vs : Array Value) (w : World), (callFunc 28 vs).run CX.P w = .ok (.enter 28 vs) w := enters Try.func28 hb28 (by kernel_rfl)
theorem hb29 : Try.f29.body = some code29 := by kernel_rfl
theorem en29 : ∀ (vs : Array Value) (w : World), (callFunc 29 vs).run CX.P w = .ok (.enter 29 vs) w := enters Try.func29 hb29 (by kernel_rfl)
theorem hb30 : Try.f30.body = some code30 := by kernel_rfl
theorem en30 : ∀ (vs : Array Value) (w : World), (callFunc 30 vs).run CX.P w = .ok (.enter 30 vs) w := enters Try.func30 hb30 (by kernel_rfl)
theorem hb31 : Try.f31.body = some code31 := by kernel_rfl
theorem en31 : ∀ (vs : Array Value) (w : World), (callFunc 31 vs).run CX.P w = .ok (.enter 31 vs) w := enters Try.func31 hb31 (by kernel_rfl)
theorem hb32 : Try.f32.body = some code32 := by kernel_rfl
theorem en32 : ∀ (vs : Array Value) (w : World), (callFunc 32 vs).run CX.P w = .ok (.enter 32 vs) w := enters Try.func32 hb32 (by kernel_rfl)
theorem hb33 : Try.f33.body = some code33 := by kernel_rfl
theorem en33 : ∀ (vs : Array Value) (w : World), (callFunc 33 vs).run CX.P w = .ok (.enter 33 vs) w := enters Try.func33 hb33 (by kernel_rfl)
theorem hb34 : Try.f34.body = some code34 := by kernel_rfl
theorem en34 : ∀ (vs : Array Value) (w : World), (callFunc 34 vs).run CX.P w = .ok (.enter 34 vs) w := enters Try.func34 hb34 (by kernel_rfl)
theorem hb35 : Try.f35.body = some code35 := by kernel_rfl
theorem en35 : ∀ (vs : Array Value) (w : World), (callFunc 35 vs).run CX.P w = .ok (.enter 35 vs) w := enters Try.func35 hb35 (by kernel_rfl)
theorem hb36 : Try.f36.body = some code36 := by kernel_rfl
theorem en36 : ∀ (vs : Array Value) (w : World), (callFunc 36 vs).run CX.P w = .ok (.enter 36 vs) w := enters Try.func36 hb36 (by kernel_rfl)
theorem hb37 : Try.f37.body = some code37 := by kernel_rfl
theorem en37 : ∀ (vs : Array Value) (w : World), (callFunc 37 vs).run CX.P w = .ok (.enter 37 vs) w := enters Try.func37 hb37 (by kernel_rfl)
theorem hb38 : Try.f38.body = some code38 := by kernel_rfl
theorem en38 : ∀ (vs : Array Value) (w : World), (callFunc 38 vs).run CX.P w = .ok (.enter 38 vs) w := enters Try.func38 hb38 (by kernel_rfl)
theorem hb39 : Try.f39.body = some code39 := by kernel_rfl
theorem en39 : ∀ (vs : Array Value) (w : World), (callFunc 39 vs).run CX.P w = .ok (.enter 39 vs) w := enters Try.func39 hb39 (by kernel_rfl)
theorem hb40 : Try.f40.body = some code40 := by kernel_rfl
theorem en40 : ∀ (vs : Array Value) (w : World), (callFunc 40 vs).run CX.P w = .ok (.enter 40 vs) w := enters Try.func40 hb40 (by kernel_rfl)
theorem hb41 : Try.f41.body = some code41 := by kernel_rfl
theorem en41 : ∀ (vs : Array Value) (w : World), (callFunc 41 vs).run CX.P w = .ok (.enter 41 vs) w := enters Try.func41 hb41 (by kernel_rfl)
theorem hb42 : Try.f42.body = some code42 := by kernel_rfl
theorem en42 : ∀ (vs : Array Value) (w : World), (callFunc 42 vs).run CX.P w = .ok (.enter 42 vs) w := enters Try.func42 hb42 (by kernel_rfl)
theorem hb43 : Try.f43.body = some code43 := by kernel_rfl
theorem en43 : ∀ (vs : Array Value) (w : World), (callFunc 43 vs).run CX.P w = .ok (.enter 43 vs) w := enters Try.func43 hb43 (by kernel_rfl)
theorem hb44 : Try.f44.body = some code44 := by kernel_rfl
theorem en44 : ∀ (vs : Array Value) (w : World), (callFunc 44 vs).run CX.P w = .ok (.enter 44 vs) w := enters Try.func44 hb44 (by kernel_rfl)
theorem hb45 : Try.f45.body = some code45 := by kernel_rfl
theorem en45 : ∀ (vs : Array Value) (w : World), (callFunc 45 vs).run CX.P w = .ok (.enter 45 vs) w := enters Try.func45 hb45 (by kernel_rfl)
theorem hb46 : Try.f46.body = some code46 := by kernel_rfl
theorem en46 : ∀ (vs : Array Value) (w : World), (callFunc 46 vs).run CX.P w = .ok (.enter 46 vs) w := enters Try.func46 hb46 (by kernel_rfl)
theorem hb47 : Try.f47.body = some code47 := by kernel_rfl
theorem en47 : ∀ (vs : Array Value) (w : World), (callFunc 47 vs).run CX.P w = .ok (.enter 47 vs) w := enters Try.func47 hb47 (by kernel_rfl)
theorem hb48 : Try.f48.body = some code48 := by kernel_rfl
theorem en48 : ∀ (vs : Array Value) (w : World), (callFunc 48 vs).run CX.P w = .ok (.enter 48 vs) w := enters Try.func48 hb48 (by kernel_rfl)
theorem hb49 : Try.f49.body = some code49 := by kernel_rfl
theorem en49 : ∀ (vs : Array Value) (w : World), (callFunc 49 vs).run CX.P w = .ok (.enter 49 vs) w := enters Try.func49 hb49 (by kernel_rfl)
theorem hb50 : Try.f50.body = some code50 := by kernel_rfl
theorem en50 : ∀ (vs : Array Value) (w : World), (callFunc 50 vs).run CX.P w = .ok (.enter 50 vs) w := enters Try.func50 hb50 (by kernel_rfl)
theorem hb51 : Try.f51.body = some code51 := by kernel_rfl
theorem en51 : ∀ (vs : Array Value) (w : World), (callFunc 51 vs).run CX.P w = .ok (.enter 51 vs) w := enters Try.func51 hb51 (by kernel_rfl)
theorem hb52 : Try.f52.body = some code52 := by kernel_rfl
theorem en52 : ∀ (vs : Array Value) (w : World), (callFunc 52 vs).run CX.P w = .ok (.enter 52 vs) w := enters Try.func52 hb52 (by kernel_rfl)
theorem hb53 : Try.f53.body = some code53 := by kernel_rfl
theorem en53 : ∀ (vs : Array Value) (w : World), (callFunc 53 vs).run CX.P w = .ok (.enter 53 vs) w := enters Try.func53 hb53 (by kernel_rfl)
theorem hb54 : Try.f54.body = some code54 := by kernel_rfl
theorem en54 : ∀ (vs : Array Value) (w : World), (callFunc 54 vs).run CX.P w = .ok (.enter 54 vs) w := enters Try.func54 hb54 (by kernel_rfl)
theorem hb55 : Try.f55.body = some code55 := by kernel_rfl
theorem en55 : ∀ (vs : Array Value) (w : World), (callFunc 55 vs).run CX.P w = .ok (.enter 55 vs) w := enters Try.func55 hb55 (by kernel_rfl)
theorem hb56 : Try.f56.body = some code56 := by kernel_rfl
theorem en56 : ∀ (vs : Array Value) (w : World), (callFunc 56 vs).run CX.P w = .ok (.enter 56 vs) w := enters Try.func56 hb56 (by kernel_rfl)
theorem hb57 : Try.f57.body = some code57 := by kernel_rfl
theorem en57 : ∀ (vs : Array Value) (w : World), (callFunc 57 vs).run CX.P w = .ok (.enter 57 vs) w := enters Try.func57 hb57 (by kernel_rfl)
theorem hb58 : Try.f58.body = some code58 := by kernel_rfl
theorem en58 : ∀ (vs : Array Value) (w : World), (callFunc 58 vs).run CX.P w = .ok (.enter 58 vs) w := enters Try.func58 hb58 (by kernel_rfl)
theorem hb59 : Try.f59.body = some code59 := by kernel_rfl
theorem en59 : ∀ (vs : Array Value) (w : World), (callFunc 59 vs).run CX.P w = .ok (.enter 59 vs) w := enters Try.func59 hb59 (by kernel_rfl)
theorem hb60 : Try.f60.body = some code60 := by kernel_rfl
theorem en60 : ∀ (vs : Array Value) (w : World), (callFunc 60 vs).run CX.P w = .ok (.enter 60 vs) w := enters Try.func60 hb60 (by kernel_rfl)
theorem hb61 : Try.f61.body = some code61 := by kernel_rfl
theorem en61 : ∀ (vs : Array Value) (w : World), (callFunc 61 vs).run CX.P w = .ok (.enter 61 vs) w := enters Try.func61 hb61 (by kernel_rfl)
theorem hb62 : Try.f62.body = some code62 := by kernel_rfl
theorem en62 : ∀ (vs : Array Value) (w : World), (callFunc 62 vs).run CX.P w = .ok (.enter 62 vs) w := enters Try.func62 hb62 (by kernel_rfl)
theorem hb63 : Try.f63.body = some code63 := by kernel_rfl
theorem en63 : ∀ (vs : Array Value) (w : World), (callFunc 63 vs).run CX.P w = .ok (.enter 63 vs) w := enters Try.func63 hb63 (by kernel_rfl)
theorem hb64 : Try.f64.body = some code64 := by kernel_rfl
theorem en64 : ∀ (vs : Array Value) (w : World), (callFunc 64 vs).run CX.P w = .ok (.enter 64 vs) w := enters Try.func64 hb64 (by kernel_rfl)
theorem hb65 : Try.f65.body = some code65 := by kernel_rfl
theorem en65 : ∀ (vs : Array Value) (w : World), (callFunc 65 vs).run CX.P w = .ok (.enter 65 vs) w := enters Try.func65 hb65 (by kernel_rfl)
theorem hb66 : Try.f66.body = some code66 := by kernel_rfl
theorem en66 : ∀ (vs : Array Value) (w : World), (callFunc 66 vs).run CX.P w = .ok (.enter 66 vs) w := enters Try.func66 hb66 (by kernel_rfl)
theorem hb67 : Try.f67.body = some code67 := by kernel_rfl
theorem en67 : ∀ (vs : Array Value) (w : World), (callFunc 67 vs).run CX.P w = .ok (.enter 67 vs) w := enters Try.func67 hb67 (by kernel_rfl)
theorem hb68 : Try.f68.body = some code68 := by kernel_rfl
theorem en68 : ∀ (vs : Array Value) (w : World), (callFunc 68 vs).run CX.P w = .ok (.enter 68 vs) w := enters Try.func68 hb68 (by kernel_rfl)
theorem hb69 : Try.f69.body = some code69 := by kernel_rfl
theorem en69 : ∀ (vs : Array Value) (w : World), (callFunc 69 vs).run CX.P w = .ok (.enter 69 vs) w := enters Try.func69 hb69 (by kernel_rfl)
theorem hb70 : Try.f70.body = some code70 := by kernel_rfl
theorem en70 : ∀ (vs : Array Value) (w : World), (callFunc 70 vs).run CX.P w = .ok (.enter 70 vs) w := enters Try.func70 hb70 (by kernel_rfl)
theorem hb71 : Try.f71.body = some code71 := by kernel_rfl
theorem en71 : ∀ (vs : Array Value) (w : World), (callFunc 71 vs).run CX.P w = .ok (.enter 71 vs) w := enters Try.func71 hb71 (by kernel_rfl)
theorem hb72 : Try.f72.body = some code72 := by kernel_rfl
theorem en72 : ∀ (vs : Array Value) (w : World), (callFunc 72 vs).run CX.P w = .ok (.enter 72 vs) w := enters Try.func72 hb72 (by kernel_rfl)
theorem hb73 : Try.f73.body = some code73 := by kernel_rfl
theorem en73 : ∀ (vs : Array Value) (w : World), (callFunc 73 vs).run CX.P w = .ok (.enter 73 vs) w := enters Try.func73 hb73 (by kernel_rfl)
theorem hb74 : Try.f74.body = some code74 := by kernel_rfl
theorem en74 : ∀ (vs : Array Value) (w : World), (callFunc 74 vs).run CX.P w = .ok (.enter 74 vs) w := enters Try.func74 hb74 (by kernel_rfl)
theorem hb75 : Try.f75.body = some code75 := by kernel_rfl
theorem en75 : ∀ (vs : Array Value) (w : World), (callFunc 75 vs).run CX.P w = .ok (.enter 75 vs) w := enters Try.func75 hb75 (by kernel_rfl)
theorem hb76 : Try.f76.body = some code76 := by kernel_rfl
theorem en76 : ∀ (vs : Array Value) (w : World), (callFunc 76 vs).run CX.P w = .ok (.enter 76 vs) w := enters Try.func76 hb76 (by kernel_rfl)
theorem hb77 : Try.f77.body = some code77 := by kernel_rfl
theorem en77 : ∀ (vs : Array Value) (w : World), (callFunc 77 vs).run CX.P w = .ok (.enter 77 vs) w := enters Try.func77 hb77 (by kernel_rfl)
theorem hb78 : Try.f78.body = some code78 := by kernel_rfl
theorem en78 : ∀ (vs : Array Value) (w : World), (callFunc 78 vs).run CX.P w = .ok (.enter 78 vs) w := enters Try.func78 hb78 (by kernel_rfl)
theorem hb79 : Try.f79.body = some code79 := by kernel_rfl
theorem en79 : ∀ (vs : Array Value) (w : World), (callFunc 79 vs).run CX.P w = .ok (.enter 79 vs) w := enters Try.func79 hb79 (by kernel_rfl)
theorem hb80 : Try.f80.body = some code80 := by kernel_rfl
theorem en80 : ∀ (vs : Array Value) (w : World), (callFunc 80 vs).run CX.P w = .ok (.enter 80 vs) w := enters Try.func80 hb80 (by kernel_rfl)
theorem hb81 : Try.f81.body = some code81 := by kernel_rfl
theorem en81 : ∀ (vs : Array Value) (w : World), (callFunc 81 vs).run CX.P w = .ok (.enter 81 vs) w := enters Try.func81 hb81 (by kernel_rfl)
theorem hb82 : Try.f82.body = some code82 := by kernel_rfl
theorem en82 : ∀ (vs : Array Value) (w : World), (callFunc 82 vs).run CX.P w = .ok (.enter 82 vs) w := enters Try.func82 hb82 (by kernel_rfl)
theorem hb83 : Try.f83.body = some code83 := by kernel_rfl
theorem en83 : ∀ (vs : Array Value) (w : World), (callFunc 83 vs).run CX.P w = .ok (.enter 83 vs) w := enters Try.func83 hb83 (by kernel_rfl)
theorem hb84 : Try.f84.body = some code84 := by kernel_rfl
theorem en84 : ∀ (vs : Array Value) (w : World), (callFunc 84 vs).run CX.P w = .ok (.enter 84 vs) w := enters Try.func84 hb84 (by kernel_rfl)
theorem hb85 : Try.f85.body = some code85 := by kernel_rfl
theorem en85 : ∀ (vs : Array Value) (w : World), (callFunc 85 vs).run CX.P w = .ok (.enter 85 vs) w := enters Try.func85 hb85 (by kernel_rfl)
theorem hb86 : Try.f86.body = some code86 := by kernel_rfl
theorem en86 : ∀ (vs : Array Value) (w : World), (callFunc 86 vs).run CX.P w = .ok (.enter 86 vs) w := enters Try.func86 hb86 (by kernel_rfl)
theorem hb87 : Try.f87.body = some code87 := by kernel_rfl
theorem en87 : ∀ (vs : Array Value) (w : World), (callFunc 87 vs).run CX.P w = .ok (.enter 87 vs) w := enters Try.func87 hb87 (by kernel_rfl)
theorem hb88 : Try.f88.body = some code88 := by kernel_rfl
theorem en88 : ∀ (vs : Array Value) (w : World), (callFunc 88 vs).run CX.P w = .ok (.enter 88 vs) w := enters Try.func88 hb88 (by kernel_rfl)
theorem hb89 : Try.f89.body = some code89 := by kernel_rfl
theorem en89 : ∀ (vs : Array Value) (w : World), (callFunc 89 vs).run CX.P w = .ok (.enter 89 vs) w := enters Try.func89 hb89 (by kernel_rfl)
theorem hb90 : Try.f90.body = some code90 := by kernel_rfl
theorem en90 : ∀ (vs : Array Value) (w : World), (callFunc 90 vs).run CX.P w = .ok (.enter 90 vs) w := enters Try.func90 hb90 (by kernel_rfl)
theorem hb91 : Try.f91.body = some code91 := by kernel_rfl
theorem en91 : ∀ (vs : Array Value) (w : World), (callFunc 91 vs).run CX.P w = .ok (.enter 91 vs) w := enters Try.func91 hb91 (by kernel_rfl)
theorem hb92 : Try.f92.body = some code92 := by kernel_rfl
theorem en92 : ∀ (vs : Array Value) (w : World), (callFunc 92 vs).run CX.P w = .ok (.enter 92 vs) w := enters Try.func92 hb92 (by kernel_rfl)
theorem hb93 : Try.f93.body = some code93 := by kernel_rfl
theorem en93 : ∀ (vs : Array Value) (w : World), (callFunc 93 vs).run CX.P w = .ok (.enter 93 vs) w := enters Try.func93 hb93 (by kernel_rfl)
theorem hb94 : Try.f94.body = some code94 := by kernel_rfl
theorem en94 : ∀ (vs : Array Value) (w : World), (callFunc 94 vs).run CX.P w = .ok (.enter 94 vs) w := enters Try.func94 hb94 (by kernel_rfl)
theorem hb95 : Try.f95.body = some code95 := by kernel_rfl
theorem en95 : ∀ (vs : Array Value) (w : World), (callFunc 95 vs).run CX.P w = .ok (.enter 95 vs) w := enters Try.func95 hb95 (by kernel_rfl)
theorem hb96 : Try.f96.body = some code96 := by kernel_rfl
theorem en96 : ∀ (vs : Array Value) (w : World), (callFunc 96 vs).run CX.P w = .ok (.enter 96 vs) w := enters Try.func96 hb96 (by kernel_rfl)
end Go.Proofs.Ytnfmdenclkdmbaa

namespace Go.Proofs.Ytnfmdenclkdmbaa
open Go Go.Eng
set_option maxRecDepth 100000

/-! ### F33: ceiling/num.unary -/
inductive R33 where
  | r (x0 : Bool)
abbrev TF33 := Int → Option R33
def sgF33 : LSh := ⟨[(0, .one (.cell (.int .u8)))], []⟩
def FFF33 (Fx : TF33) (s : St) : Option R33 := Fx ((Eng.look s.env 0).toI)
def valF33 (o : R33) : AV := match o with | .r x0 => .bool x0
def memF33 (o : R33) : List Blk := match o with | .r x0 => []
def elF33 {R : Type} (o : R33) (k : AV → List Blk → Option R) : Option R := match o with | .r x0 => k (.bool x0) []
def RecOkF33 (Fx : TF33) : Prop := ∀ lk M o, FFF33 Fx (canS sgF33 lk M) = some o → FCalls CX 33 0 (argsE 1 (canS sgF33 lk M).env) (canS sgF33 lk M).mem (valF33 o) (memF33 o)
noncomputable def csF33 (N : Nat) (R : Type) : List (CE R) := []
theorem hcsF33 (N : Nat) (R : Type) : AllE (CeOk CX) (csF33 N R) := trivial
noncomputable def T33ur1 (N : Nat) (R : Type) : LTab R := mkTab ⟨9, 511⟩ (csF33 N R) (noY) [] [] []
theorem okT33ur1 (N : Nat) (R : Type) : (T33ur1 N R).Ok CX code33 := mkTab_ok (hcsF33 N R) (noY_ok) (trivial) (trivial) (trivial)
def rsF33 : List ResultVar := [.tmp 2]
def F33 : Nat → TF33
  | 0 => fun _ => none
  | N + 1 => fun x0 =>
    match decide ((16 : Int) ≤ x0) with
    | true =>
      some (.r (decide (x0 ≤ (18 : Int))))
    | false =>
      some (.r false)
def xRF33 : XSh R33 := ⟨[], ⟨[(0, .one (.cell (.bool)))], []⟩, fun _ => [], fun s => .r ((Eng.look s.env 0).toB)⟩
theorem fsF33 : ∀ (N : Nat) (lk : Nat → AV) (M : List Blk), FFF33 (F33 (N + 1)) (canS sgF33 lk M) = evfn CX (T33ur1 N R33) code33 rsF33 (argsE 1 (canS sgF33 lk M).env) (canS sgF33 lk M).mem (goR CX 0 (fun _ => some xRF33)) := by intro N lk M; kernel_rfl
theorem soundF33 : ∀ N, RecOkF33 (F33 N)
  | 0, lk, M, o, h => by cases h
  | N + 1, lk, M, o, h => fn_sound hX (okT33ur1 N R33) Try.func33 hb33 rfl en33 (by kernel_rfl) (ys := fun _ => some xRF33) (fun st y h => by injection h with h; subst h; exact fun lk M => ⟨rfl, rfl⟩) ((fsF33 N lk M).symm.trans h)
def cvce33n0 : List Cv := []
def selce33n0 : St → List Nat := fun _ => []
noncomputable def ce33n0 (Fx : TF33) (R : Type) (test : List AV → List Blk → Bool) : CE R := ⟨33, test, fun args M => some (selce33n0 ⟨argEnv 0 args, M, [], .unk⟩), fun args M k => tst (Nat.beq args.length 1) (callFn CX 0 cvce33n0 sgF33 selce33n0 (FFF33 Fx) elF33 args M k)⟩
theorem okce33n0 (Fx : TF33) (h : RecOkF33 Fx) (R : Type) (test : List AV → List Blk → Bool) : CeOk CX (ce33n0 Fx R test) := ce_ok hX (fun o k => by cases o; rfl) h en33 (fun args M ids h => by injection h with h; exact ⟨rfl, h.symm⟩)
end Go.Proofs.Ytnfmdenclkdmbaa

namespace Go.Proofs.Ytnfmdenclkdmbaa
open Go Go.Eng
set_option maxRecDepth 100000

/-! ### F14: ceiling/num.In -/
inductive R14 where
  | r (x0 : Bool)
abbrev TF14 := Int → Option R14
def sgF14 : LSh := ⟨[(0, .one (.cell (.int .i64)))], []⟩
def FFF14 (Fx : TF14) (s : St) : Option R14 := Fx ((Eng.look s.env 0).toI)
def valF14 (o : R14) : AV := match o with | .r x0 => .bool x0
def memF14 (o : R14) : List Blk := match o with | .r x0 => []
def elF14 {R : Type} (o : R14) (k : AV → List Blk → Option R) : Option R := match o with | .r x0 => k (.bool x0) []
def RecOkF14 (Fx : TF14) : Prop := ∀ lk M o, FFF14 Fx (canS sgF14 lk M) = some o → FCalls CX 14 0 (argsE 1 (canS sgF14 lk M).env) (canS sgF14 lk M).mem (valF14 o) (memF14 o)
noncomputable def csF14 (N : Nat) (R : Type) : List (CE R) := []
theorem hcsF14 (N : Nat) (R : Type) : AllE (CeOk CX) (csF14 N R) := trivial
noncomputable def T14ur1 (N : Nat) (R : Type) : LTab R := mkTab ⟨8, 255⟩ (csF14 N R) (noY) [] [] []
theorem okT14ur1 (N : Nat) (R : Type) : (T14ur1 N R).Ok CX code14 := mkTab_ok (hcsF14 N R) (noY_ok) (trivial) (trivial) (trivial)
def rsF14 : List ResultVar := [.tmp 2]
def F14 : Nat → TF14
  | 0 => fun _ => none
  | N + 1 => fun x0 =>
    some (.r (x0 == (IntKind.wrap .i64 (IntKind.wrap .i32 x0))))
def xRF14 : XSh R14 := ⟨[], ⟨[(0, .one (.cell (.bool)))], []⟩, fun _ => [], fun s => .r ((Eng.look s.env 0).toB)⟩
theorem fsF14 : ∀ (N : Nat) (lk : Nat → AV) (M : List Blk), FFF14 (F14 (N + 1)) (canS sgF14 lk M) = evfn CX (T14ur1 N R14) code14 rsF14 (argsE 1 (canS sgF14 lk M).env) (canS sgF14 lk M).mem (goR CX 0 (fun _ => some xRF14)) := by intro N lk M; kernel_rfl
theorem soundF14 : ∀ N, RecOkF14 (F14 N)
  | 0, lk, M, o, h => by cases h
  | N + 1, lk, M, o, h => fn_sound hX (okT14ur1 N R14) Try.func14 hb14 rfl en14 (by kernel_rfl) (ys := fun _ => some xRF14) (fun st y h => by injection h with h; subst h; exact fun lk M => ⟨rfl, rfl⟩) ((fsF14 N lk M).symm.trans h)
def cvce14n0 : List Cv := []
def selce14n0 : St → List Nat := fun _ => []
noncomputable def ce14n0 (Fx : TF14) (R : Type) (test : List AV → List Blk → Bool) : CE R := ⟨14, test, fun args M => some (selce14n0 ⟨argEnv 0 args, M, [], .unk⟩), fun args M k => tst (Nat.beq args.length 1) (callFn CX 0 cvce14n0 sgF14 selce14n0 (FFF14 Fx) elF14 args M k)⟩
theorem okce14n0 (Fx : TF14) (h : RecOkF14 Fx) (R : Type) (test : List AV → List Blk → Bool) : CeOk CX (ce14n0 Fx R test) := ce_ok hX (fun o k => by cases o; rfl) h en14 (fun args M ids h => by injection h with h; exact ⟨rfl, h.symm⟩)
end Go.Proofs.Ytnfmdenclkdmbaa

namespace Go.Proofs.Ytnfmdenclkdmbaa
open Go Go.Eng
set_option maxRecDepth 100000

/-! ### F67: ceiling/num.always -/
inductive R67 where
  | r
abbrev TF67 := Option R67
def sgF67 : LSh := ⟨[(0, .one (.fn 68))], []⟩
def FFF67 (Fx : TF67) (s : St) : Option R67 := Fx 
def valF67 (o : R67) : AV := match o with | .r => .clos 94 [] [.ptr 0 0 0]
def memF67 (o : R67) : List Blk := match o with | .r => [.var [.any] [.clos 68 [] []]]
def elF67 {R : Type} (o : R67) (k : AV → List Blk → Option R) : Option R := match o with | .r => k (.clos 94 [] [.ptr 0 0 0]) [.var [.any] [.clos 68 [] []]]
def RecOkF67 (Fx : TF67) : Prop := ∀ lk M o, FFF67 Fx (canS sgF67 lk M) = some o → FCalls CX 67 0 (argsE 1 (canS sgF67 lk M).env) (canS sgF67 lk M).mem (valF67 o) (memF67 o)
noncomputable def csF67 (N : Nat) (R : Type) : List (CE R) := []
theorem hcsF67 (N : Nat) (R : Type) : AllE (CeOk CX) (csF67 N R) := trivial
noncomputable def T67ur1 (N : Nat) (R : Type) : LTab R := mkTab ⟨4, 15⟩ (csF67 N R) (noY) [] [] []
theorem okT67ur1 (N : Nat) (R : Type) : (T67ur1 N R).Ok CX code67 := mkTab_ok (hcsF67 N R) (noY_ok) (trivial) (trivial) (trivial)
def rsF67 : List ResultVar := [.tmp 2]
def F67 : Nat → TF67
  | 0 => none
  | N + 1 => 
    some .r
def xRF67 : XSh R67 := ⟨[], ⟨[(0, .one (.cl 94 [(0, 0, 0)]))], [.var [.any] [.fn 68]]⟩, fun st => [((Eng.look st.env 0).caps.getD 0 .top).id], fun s => .r ⟩
theorem fsF67 : ∀ (N : Nat) (lk : Nat → AV) (M : List Blk), FFF67 (F67 (N + 1)) (canS sgF67 lk M) = evfn CX (T67ur1 N R67) code67 rsF67 (argsE 1 (canS sgF67 lk M).env) (canS sgF67 lk M).mem (goR CX 0 (fun _ => some xRF67)) := by intro N lk M; kernel_rfl
theorem soundF67 : ∀ N, RecOkF67 (F67 N)
  | 0, lk, M, o, h => by cases h
  | N + 1, lk, M, o, h => fn_sound hX (okT67ur1 N R67) Try.func67 hb67 rfl en67 (by kernel_rfl) (ys := fun _ => some xRF67) (fun st y h => by injection h with h; subst h; exact fun lk M => ⟨rfl, rfl⟩) ((fsF67 N lk M).symm.trans h)
def cvce67n0 : List Cv := []
def selce67n0 : St → List Nat := fun _ => []
noncomputable def ce67n0 (Fx : TF67) (R : Type) (test : List AV → List Blk → Bool) : CE R := ⟨67, test, fun args M => some (selce67n0 ⟨argEnv 0 args, M, [], .unk⟩), fun args M k => tst (Nat.beq args.length 1) (callFn CX 0 cvce67n0 sgF67 selce67n0 (FFF67 Fx) elF67 args M k)⟩
theorem okce67n0 (Fx : TF67) (h : RecOkF67 Fx) (R : Type) (test : List AV → List Blk → Bool) : CeOk CX (ce67n0 Fx R test) := ce_ok hX (fun o k => by cases o; rfl) h en67 (fun args M ids h => by injection h with h; exact ⟨rfl, h.symm⟩)
end Go.Proofs.Ytnfmdenclkdmbaa

namespace Go.Proofs.Ytnfmdenclkdmbaa
open Go Go.Eng
set_option maxRecDepth 100000

/-! ### F67v1: ceiling/num.always -/
inductive R67v1 where
  | r
abbrev TF67v1 := Option R67v1
def sgF67v1 : LSh := ⟨[(0, .one (.fn 69))], []⟩
def FFF67v1 (Fx : TF67v1) (s : St) : Option R67v1 := Fx 
def valF67v1 (o : R67v1) : AV := match o with | .r => .clos 94 [] [.ptr 0 0 0]
def memF67v1 (o : R67v1) : List Blk := match o with | .r => [.var [.any] [.clos 69 [] []]]
def elF67v1 {R : Type} (o : R67v1) (k : AV → List Blk → Option R) : Option R := match o with | .r => k (.clos 94 [] [.ptr 0 0 0]) [.var [.any] [.clos 69 [] []]]
def RecOkF67v1 (Fx : TF67v1) : Prop := ∀ lk M o, FFF67v1 Fx (canS sgF67v1 lk M) = some o → FCalls CX 67 0 (argsE 1 (canS sgF67v1 lk M).env) (canS sgF67v1 lk M).mem (valF67v1 o) (memF67v1 o)
noncomputable def csF67v1 (N : Nat) (R : Type) : List (CE R) := []
theorem hcsF67v1 (N : Nat) (R : Type) : AllE (CeOk CX) (csF67v1 N R) := trivial
noncomputable def T67v1ur1 (N : Nat) (R : Type) : LTab R := mkTab ⟨4, 15⟩ (csF67v1 N R) (noY) [] [] []
theorem okT67v1ur1 (N : Nat) (R : Type) : (T67v1ur1 N R).Ok CX code67 := mkTab_ok (hcsF67v1 N R) (noY_ok) (trivial) (trivial) (trivial)
def rsF67v1 : List ResultVar := [.tmp 2]
def F67v1 : Nat → TF67v1
  | 0 => none
  | N + 1 => 
    some .r
def xRF67v1 : XSh R67v1 := ⟨[], ⟨[(0, .one (.cl 94 [(0, 0, 0)]))], [.var [.any] [.fn 69]]⟩, fun st => [((Eng.look st.env 0).caps.getD 0 .top).id], fun s => .r ⟩
theorem fsF67v1 : ∀ (N : Nat) (lk : Nat → AV) (M : List Blk), FFF67v1 (F67v1 (N + 1)) (canS sgF67v1 lk M) = evfn CX (T67v1ur1 N R67v1) code67 rsF67v1 (argsE 1 (canS sgF67v1 lk M).env) (canS sgF67v1 lk M).mem (goR CX 0 (fun _ => some xRF67v1)) := by intro N lk M; kernel_rfl
theorem soundF67v1 : ∀ N, RecOkF67v1 (F67v1 N)
  | 0, lk, M, o, h => by cases h
  | N + 1, lk, M, o, h => fn_sound hX (okT67v1ur1 N R67v1) Try.func67 hb67 rfl en67 (by kernel_rfl) (ys := fun _ => some xRF67v1) (fun st y h => by injection h with h; subst h; exact fun lk M => ⟨rfl, rfl⟩) ((fsF67v1 N lk M).symm.trans h)
def cvce67v1n0 : List Cv := []
def selce67v1n0 : St → List Nat := fun _ => []
noncomputable def ce67v1n0 (Fx : TF67v1) (R : Type) (test : List AV → List Blk → Bool) : CE R := ⟨67, test, fun args M => some (selce67v1n0 ⟨argEnv 0 args, M, [], .unk⟩), fun args M k => tst (Nat.beq args.length 1) (callFn CX 0 cvce67v1n0 sgF67v1 selce67v1n0 (FFF67v1 Fx) elF67v1 args M k)⟩
theorem okce67v1n0 (Fx : TF67v1) (h : RecOkF67v1 Fx) (R : Type) (test : List AV → List Blk → Bool) : CeOk CX (ce67v1n0 Fx R test) := ce_ok hX (fun o k => by cases o; rfl) h en67 (fun args M ids h => by injection h with h; exact ⟨rfl, h.symm⟩)
end Go.Proofs.Ytnfmdenclkdmbaa

namespace Go.Proofs.Ytnfmdenclkdmbaa
open Go Go.Eng
set_option maxRecDepth 100000

/-! ### F67v2: ceiling/num.always -/
inductive R67v2 where
  | r
abbrev TF67v2 := Option R67v2
def sgF67v2 : LSh := ⟨[(0, .one (.fn 70))], []⟩
def FFF67v2 (Fx : TF67v2) (s : St) : Option R67v2 := Fx 
def valF67v2 (o : R67v2) : AV := match o with | .r => .clos 94 [] [.ptr 0 0 0]
def memF67v2 (o : R67v2) : List Blk := match o with | .r => [.var [.any] [.clos 70 [] []]]
def elF67v2 {R : Type} (o : R67v2) (k : AV → List Blk → Option R) : Option R := match o with | .r => k (.clos 94 [] [.ptr 0 0 0]) [.var [.any] [.clos 70 [] []]]
def RecOkF67v2 (Fx : TF67v2) : Prop := ∀ lk M o, FFF67v2 Fx (canS sgF67v2 lk M) = some o → FCalls CX 67 0 (argsE 1 (canS sgF67v2 lk M).env) (canS sgF67v2 lk M).mem (valF67v2 o) (memF67v2 o)
noncomputable def csF67v2 (N : Nat) (R : Type) : List (CE R) := []
theorem hcsF67v2 (N : Nat) (R : Type) : AllE (CeOk CX) (csF67v2 N R) := trivial
noncomputable def T67v2ur1 (N : Nat) (R : Type) : LTab R := mkTab ⟨4, 15⟩ (csF67v2 N R) (noY) [] [] []
theorem okT67v2ur1 (N : Nat) (R : Type) : (T67v2ur1 N R).Ok CX code67 := mkTab_ok (hcsF67v2 N R) (noY_ok) (trivial) (trivial) (trivial)
def rsF67v2 : List ResultVar := [.tmp 2]
def F67v2 : Nat → TF67v2
  | 0 => none
  | N + 1 => 
    some .r
def xRF67v2 : XSh R67v2 := ⟨[], ⟨[(0, .one (.cl 94 [(0, 0, 0)]))], [.var [.any] [.fn 70]]⟩, fun st => [((Eng.look st.env 0).caps.getD 0 .top).id], fun s => .r ⟩
theorem fsF67v2 : ∀ (N : Nat) (lk : Nat → AV) (M : List Blk), FFF67v2 (F67v2 (N + 1)) (canS sgF67v2 lk M) = evfn CX (T67v2ur1 N R67v2) code67 rsF67v2 (argsE 1 (canS sgF67v2 lk M).env) (canS sgF67v2 lk M).mem (goR CX 0 (fun _ => some xRF67v2)) := by intro N lk M; kernel_rfl
theorem soundF67v2 : ∀ N, RecOkF67v2 (F67v2 N)
  | 0, lk, M, o, h => by cases h
  | N + 1, lk, M, o, h => fn_sound hX (okT67v2ur1 N R67v2) Try.func67 hb67 rfl en67 (by kernel_rfl) (ys := fun _ => some xRF67v2) (fun st y h => by injection h with h; subst h; exact fun lk M => ⟨rfl, rfl⟩) ((fsF67v2 N lk M).symm.trans h)
def cvce67v2n0 : List Cv := []
def selce67v2n0 : St → List Nat := fun _ => []
noncomputable def ce67v2n0 (Fx : TF67v2) (R : Type) (test : List AV → List Blk → Bool) : CE R := ⟨67, test, fun args M => some (selce67v2n0 ⟨argEnv 0 args, M, [], .unk⟩), fun args M k => tst (Nat.beq args.length 1) (callFn CX 0 cvce67v2n0 sgF67v2 selce67v2n0 (FFF67v2 Fx) elF67v2 args M k)⟩
theorem okce67v2n0 (Fx : TF67v2) (h : RecOkF67v2 Fx) (R : Type) (test : List AV → List Blk → Bool) : CeOk CX (ce67v2n0 Fx R test) := ce_ok hX (fun o k => by cases o; rfl) h en67 (fun args M ids h => by injection h with h; exact ⟨rfl, h.symm⟩)
end Go.Proofs.Ytnfmdenclkdmbaa

namespace Go.Proofs.Ytnfmdenclkdmbaa
open Go Go.Eng
set_option maxRecDepth 100000

/-! ### F71: ceiling/num.division -/
inductive R71 where
  | r
abbrev TF71 := Option R71
def sgF71 : LSh := ⟨[(0, .one (.fn 72))], []⟩
def FFF71 (Fx : TF71) (s : St) : Option R71 := Fx 
def valF71 (o : R71) : AV := match o with | .r => .clos 95 [] [.ptr 0 0 0]
def memF71 (o : R71) : List Blk := match o with | .r => [.var [.any] [.clos 72 [] []]]
def elF71 {R : Type} (o : R71) (k : AV → List Blk → Option R) : Option R := match o with | .r => k (.clos 95 [] [.ptr 0 0 0]) [.var [.any] [.clos 72 [] []]]
def RecOkF71 (Fx : TF71) : Prop := ∀ lk M o, FFF71 Fx (canS sgF71 lk M) = some o → FCalls CX 71 0 (argsE 1 (canS sgF71 lk M).env) (canS sgF71 lk M).mem (valF71 o) (memF71 o)
noncomputable def csF71 (N : Nat) (R : Type) : List (CE R) := []
theorem hcsF71 (N : Nat) (R : Type) : AllE (CeOk CX) (csF71 N R) := trivial
noncomputable def T71ur1 (N : Nat) (R : Type) : LTab R := mkTab ⟨4, 15⟩ (csF71 N R) (noY) [] [] []
theorem okT71ur1 (N : Nat) (R : Type) : (T71ur1 N R).Ok CX code71 := mkTab_ok (hcsF71 N R) (noY_ok) (trivial) (trivial) (trivial)
def rsF71 : List ResultVar := [.tmp 2]
def F71 : Nat → TF71
  | 0 => none
  | N + 1 => 
    some .r
def xRF71 : XSh R71 := ⟨[], ⟨[(0, .one (.cl 95 [(0, 0, 0)]))], [.var [.any] [.fn 72]]⟩, fun st => [((Eng.look st.env 0).caps.getD 0 .top).id], fun s => .r ⟩
theorem fsF71 : ∀ (N : Nat) (lk : Nat → AV) (M : List Blk), FFF71 (F71 (N + 1)) (canS sgF71 lk M) = evfn CX (T71ur1 N R71) code71 rsF71 (argsE 1 (canS sgF71 lk M).env) (canS sgF71 lk M).mem (goR CX 0 (fun _ => some xRF71)) := by intro N lk M; kernel_rfl
theorem soundF71 : ∀ N, RecOkF71 (F71 N)
  | 0, lk, M, o, h => by cases h
  | N + 1, lk, M, o, h => fn_sound hX (okT71ur1 N R71) Try.func71 hb71 rfl en71 (by kernel_rfl) (ys := fun _ => some xRF71) (fun st y h => by injection h with h; subst h; exact fun lk M => ⟨rfl, rfl⟩) ((fsF71 N lk M).symm.trans h)
def cvce71n0 : List Cv := []
def selce71n0 : St → List Nat := fun _ => []
noncomputable def ce71n0 (Fx : TF71) (R : Type) (test : List AV → List Blk → Bool) : CE R := ⟨71, test, fun args M => some (selce71n0 ⟨argEnv 0 args, M, [], .unk⟩), fun args M k => tst (Nat.beq args.length 1) (callFn CX 0 cvce71n0 sgF71 selce71n0 (FFF71 Fx) elF71 args M k)⟩
theorem okce71n0 (Fx : TF71) (h : RecOkF71 Fx) (R : Type) (test : List AV → List Blk → Bool) : CeOk CX (ce71n0 Fx R test) := ce_ok hX (fun o k => by cases o; rfl) h en71 (fun args M ids h => by injection h with h; exact ⟨rfl, h.symm⟩)
end Go.Proofs.Ytnfmdenclkdmbaa

namespace Go.Proofs.Ytnfmdenclkdmbaa
open Go Go.Eng
set_option maxRecDepth 100000

/-! ### F71v1: ceiling/num.division -/
inductive R71v1 where
  | r
abbrev TF71v1 := Option R71v1
def sgF71v1 : LSh := ⟨[(0, .one (.fn 73))], []⟩
def FFF71v1 (Fx : TF71v1) (s : St) : Option R71v1 := Fx 
def valF71v1 (o : R71v1) : AV := match o with | .r => .clos 95 [] [.ptr 0 0 0]
def memF71v1 (o : R71v1) : List Blk := match o with | .r => [.var [.any] [.clos 73 [] []]]
def elF71v1 {R : Type} (o : R71v1) (k : AV → List Blk → Option R) : Option R := match o with | .r => k (.clos 95 [] [.ptr 0 0 0]) [.var [.any] [.clos 73 [] []]]
def RecOkF71v1 (Fx : TF71v1) : Prop := ∀ lk M o, FFF71v1 Fx (canS sgF71v1 lk M) = some o → FCalls CX 71 0 (argsE 1 (canS sgF71v1 lk M).env) (canS sgF71v1 lk M).mem (valF71v1 o) (memF71v1 o)
noncomputable def csF71v1 (N : Nat) (R : Type) : List (CE R) := []
theorem hcsF71v1 (N : Nat) (R : Type) : AllE (CeOk CX) (csF71v1 N R) := trivial
noncomputable def T71v1ur1 (N : Nat) (R : Type) : LTab R := mkTab ⟨4, 15⟩ (csF71v1 N R) (noY) [] [] []
theorem okT71v1ur1 (N : Nat) (R : Type) : (T71v1ur1 N R).Ok CX code71 := mkTab_ok (hcsF71v1 N R) (noY_ok) (trivial) (trivial) (trivial)
def rsF71v1 : List ResultVar := [.tmp 2]
def F71v1 : Nat → TF71v1
  | 0 => none
  | N + 1 => 
    some .r
def xRF71v1 : XSh R71v1 := ⟨[], ⟨[(0, .one (.cl 95 [(0, 0, 0)]))], [.var [.any] [.fn 73]]⟩, fun st => [((Eng.look st.env 0).caps.getD 0 .top).id], fun s => .r ⟩
theorem fsF71v1 : ∀ (N : Nat) (lk : Nat → AV) (M : List Blk), FFF71v1 (F71v1 (N + 1)) (canS sgF71v1 lk M) = evfn CX (T71v1ur1 N R71v1) code71 rsF71v1 (argsE 1 (canS sgF71v1 lk M).env) (canS sgF71v1 lk M).mem (goR CX 0 (fun _ => some xRF71v1)) := by intro N lk M; kernel_rfl
theorem soundF71v1 : ∀ N, RecOkF71v1 (F71v1 N)
  | 0, lk, M, o, h => by cases h
  | N + 1, lk, M, o, h => fn_sound hX (okT71v1ur1 N R71v1) Try.func71 hb71 rfl en71 (by kernel_rfl) (ys := fun _ => some xRF71v1) (fun st y h => by injection h with h; subst h; exact fun lk M => ⟨rfl, rfl⟩) ((fsF71v1 N lk M).symm.trans h)
def cvce71v1n0 : List Cv := []
def selce71v1n0 : St → List Nat := fun _ => []
noncomputable def ce71v1n0 (Fx : TF71v1) (R : Type) (test : List AV → List Blk → Bool) : CE R := ⟨71, test, fun args M => some (selce71v1n0 ⟨argEnv 0 args, M, [], .unk⟩), fun args M k => tst (Nat.beq args.length 1) (callFn CX 0 cvce71v1n0 sgF71v1 selce71v1n0 (FFF71v1 Fx) elF71v1 args M k)⟩
theorem okce71v1n0 (Fx : TF71v1) (h : RecOkF71v1 Fx) (R : Type) (test : List AV → List Blk → Bool) : CeOk CX (ce71v1n0 Fx R test) := ce_ok hX (fun o k => by cases o; rfl) h en71 (fun args M ids h => by injection h with h; exact ⟨rfl, h.symm⟩)
end Go.Proofs.Ytnfmdenclkdmbaa

namespace Go.Proofs.Ytnfmdenclkdmbaa
open Go Go.Eng
set_option maxRecDepth 100000

/-! ### F71v2: ceiling/num.division -/
inductive R71v2 where
  | r
abbrev TF71v2 := Option R71v2
def sgF71v2 : LSh := ⟨[(0, .one (.fn 74))], []⟩
def FFF71v2 (Fx : TF71v2) (s : St) : Option R71v2 := Fx 
def valF71v2 (o : R71v2) : AV := match o with | .r => .clos 95 [] [.ptr 0 0 0]
def memF71v2 (o : R71v2) : List Blk := match o with | .r => [.var [.any] [.clos 74 [] []]]
def elF71v2 {R : Type} (o : R71v2) (k : AV → List Blk → Option R) : Option R := match o with | .r => k (.clos 95 [] [.ptr 0 0 0]) [.var [.any] [.clos 74 [] []]]
def RecOkF71v2 (Fx : TF71v2) : Prop := ∀ lk M o, FFF71v2 Fx (canS sgF71v2 lk M) = some o → FCalls CX 71 0 (argsE 1 (canS sgF71v2 lk M).env) (canS sgF71v2 lk M).mem (valF71v2 o) (memF71v2 o)
noncomputable def csF71v2 (N : Nat) (R : Type) : List (CE R) := []
theorem hcsF71v2 (N : Nat) (R : Type) : AllE (CeOk CX) (csF71v2 N R) := trivial
noncomputable def T71v2ur1 (N : Nat) (R : Type) : LTab R := mkTab ⟨4, 15⟩ (csF71v2 N R) (noY) [] [] []
theorem okT71v2ur1 (N : Nat) (R : Type) : (T71v2ur1 N R).Ok CX code71 := mkTab_ok (hcsF71v2 N R) (noY_ok) (trivial) (trivial) (trivial)
def rsF71v2 : List ResultVar := [.tmp 2]
def F71v2 : Nat → TF71v2
  | 0 => none
  | N + 1 => 
    some .r
def xRF71v2 : XSh R71v2 := ⟨[], ⟨[(0, .one (.cl 95 [(0, 0, 0)]))], [.var [.any] [.fn 74]]⟩, fun st => [((Eng.look st.env 0).caps.getD 0 .top).id], fun s => .r ⟩
theorem fsF71v2 : ∀ (N : Nat) (lk : Nat → AV) (M : List Blk), FFF71v2 (F71v2 (N + 1)) (canS sgF71v2 lk M) = evfn CX (T71v2ur1 N R71v2) code71 rsF71v2 (argsE 1 (canS sgF71v2 lk M).env) (canS sgF71v2 lk M).mem (goR CX 0 (fun _ => some xRF71v2)) := by intro N lk M; kernel_rfl
theorem soundF71v2 : ∀ N, RecOkF71v2 (F71v2 N)
  | 0, lk, M, o, h => by cases h
  | N + 1, lk, M, o, h => fn_sound hX (okT71v2ur1 N R71v2) Try.func71 hb71 rfl en71 (by kernel_rfl) (ys := fun _ => some xRF71v2) (fun st y h => by injection h with h; subst h; exact fun lk M => ⟨rfl, rfl⟩) ((fsF71v2 N lk M).symm.trans h)
def cvce71v2n0 : List Cv := []
def selce71v2n0 : St → List Nat := fun _ => []
noncomputable def ce71v2n0 (Fx : TF71v2) (R : Type) (test : List AV → List Blk → Bool) : CE R := ⟨71, test, fun args M => some (selce71v2n0 ⟨argEnv 0 args, M, [], .unk⟩), fun args M k => tst (Nat.beq args.length 1) (callFn CX 0 cvce71v2n0 sgF71v2 selce71v2n0 (FFF71v2 Fx) elF71v2 args M k)⟩
theorem okce71v2n0 (Fx : TF71v2) (h : RecOkF71v2 Fx) (R : Type) (test : List AV → List Blk → Bool) : CeOk CX (ce71v2n0 Fx R test) := ce_ok hX (fun o k => by cases o; rfl) h en71 (fun args M ids h => by injection h with h; exact ⟨rfl, h.symm⟩)
end Go.Proofs.Ytnfmdenclkdmbaa

namespace Go.Proofs.Ytnfmdenclkdmbaa
open Go Go.Eng
set_option maxRecDepth 100000

/-! ### F75: ceiling/num.relation -/
inductive R75 where
  | r
abbrev TF75 := Option R75
def sgF75 : LSh := ⟨[(0, .one (.fn 76))], []⟩
def FFF75 (Fx : TF75) (s : St) : Option R75 := Fx 
def valF75 (o : R75) : AV := match o with | .r => .clos 96 [] [.ptr 0 0 0]
def memF75 (o : R75) : List Blk := match o with | .r => [.var [.any] [.clos 76 [] []]]
def elF75 {R : Type} (o : R75) (k : AV → List Blk → Option R) : Option R := match o with | .r => k (.clos 96 [] [.ptr 0 0 0]) [.var [.any] [.clos 76 [] []]]
def RecOkF75 (Fx : TF75) : Prop := ∀ lk M o, FFF75 Fx (canS sgF75 lk M) = some o → FCalls CX 75 0 (argsE 1 (canS sgF75 lk M).env) (canS sgF75 lk M).mem (valF75 o) (memF75 o)
noncomputable def csF75 (N : Nat) (R : Type) : List (CE R) := []
theorem hcsF75 (N : Nat) (R : Type) : AllE (CeOk CX) (csF75 N R) := trivial
noncomputable def T75ur1 (N : Nat) (R : Type) : LTab R := mkTab ⟨4, 15⟩ (csF75 N R) (noY) [] [] []
theorem okT75ur1 (N : Nat) (R : Type) : (T75ur1 N R).Ok CX code75 := mkTab_ok (hcsF75 N R) (noY_ok) (trivial) (trivial) (trivial)
def rsF75 : List ResultVar := [.tmp 2]
def F75 : Nat → TF75
  | 0 => none
  | N + 1 => 
    some .r
def xRF75 : XSh R75 := ⟨[], ⟨[(0, .one (.cl 96 [(0, 0, 0)]))], [.var [.any] [.fn 76]]⟩, fun st => [((Eng.look st.env 0).caps.getD 0 .top).id], fun s => .r ⟩
theorem fsF75 : ∀ (N : Nat) (lk : Nat → AV) (M : List Blk), FFF75 (F75 (N + 1)) (canS sgF75 lk M) = evfn CX (T75ur1 N R75) code75 rsF75 (argsE 1 (canS sgF75 lk M).env) (canS sgF75 lk M).mem (goR CX 0 (fun _ => some xRF75)) := by intro N lk M; kernel_rfl
theorem soundF75 : ∀ N, RecOkF75 (F75 N)
  | 0, lk, M, o, h => by cases h
  | N + 1, lk, M, o, h => fn_sound hX (okT75ur1 N R75) Try.func75 hb75 rfl en75 (by kernel_rfl) (ys := fun _ => some xRF75) (fun st y h => by injection h with h; subst h; exact fun lk M => ⟨rfl, rfl⟩) ((fsF75 N lk M).symm.trans h)
def cvce75n0 : List Cv := []
def selce75n0 : St → List Nat := fun _ => []
noncomputable def ce75n0 (Fx : TF75) (R : Type) (test : List AV → List Blk → Bool) : CE R := ⟨75, test, fun args M => some (selce75n0 ⟨argEnv 0 args, M, [], .unk⟩), fun args M k => tst (Nat.beq args.length 1) (callFn CX 0 cvce75n0 sgF75 selce75n0 (FFF75 Fx) elF75 args M k)⟩
theorem okce75n0 (Fx : TF75) (h : RecOkF75 Fx) (R : Type) (test : List AV → List Blk → Bool) : CeOk CX (ce75n0 Fx R test) := ce_ok hX (fun o k => by cases o; rfl) h en75 (fun args M ids h => by injection h with h; exact ⟨rfl, h.symm⟩)
end Go.Proofs.Ytnfmdenclkdmbaa

namespace Go.Proofs.Ytnfmdenclkdmbaa
open Go Go.Eng
set_option maxRecDepth 100000

/-! ### F75v1: ceiling/num.relation -/
inductive R75v1 where
  | r
abbrev TF75v1 := Option R75v1
def sgF75v1 : LSh := ⟨[(0, .one (.fn 77))], []⟩
def FFF75v1 (Fx : TF75v1) (s : St) : Option R75v1 := Fx 
def valF75v1 (o : R75v1) : AV := match o with | .r => .clos 96 [] [.ptr 0 0 0]
def memF75v1 (o : R75v1) : List Blk := match o with | .r => [.var [.any] [.clos 77 [] []]]
def elF75v1 {R : Type} (o : R75v1) (k : AV → List Blk → Option R) : Option R := match o with | .r => k (.clos 96 [] [.ptr 0 0 0]) [.var [.any] [.clos 77 [] []]]
def RecOkF75v1 (Fx : TF75v1) : Prop := ∀ lk M o, FFF75v1 Fx (canS sgF75v1 lk M) = some o → FCalls CX 75 0 (argsE 1 (canS sgF75v1 lk M).env) (canS sgF75v1 lk M).mem (valF75v1 o) (memF75v1 o)
noncomputable def csF75v1 (N : Nat) (R : Type) : List (CE R) := []
theorem hcsF75v1 (N : Nat) (R : Type) : AllE (CeOk CX) (csF75v1 N R) := trivial
noncomputable def T75v1ur1 (N : Nat) (R : Type) : LTab R := mkTab ⟨4, 15⟩ (csF75v1 N R) (noY) [] [] []
theorem okT75v1ur1 (N : Nat) (R : Type) : (T75v1ur1 N R).Ok CX code75 := mkTab_ok (hcsF75v1 N R) (noY_ok) (trivial) (trivial) (trivial)
def rsF75v1 : List ResultVar := [.tmp 2]
def F75v1 : Nat → TF75v1
  | 0 => none
  | N + 1 => 
    some .r
def xRF75v1 : XSh R75v1 := ⟨[], ⟨[(0, .one (.cl 96 [(0, 0, 0)]))], [.var [.any] [.fn 77]]⟩, fun st => [((Eng.look st.env 0).caps.getD 0 .top).id], fun s => .r ⟩
theorem fsF75v1 : ∀ (N : Nat) (lk : Nat → AV) (M : List Blk), FFF75v1 (F75v1 (N + 1)) (canS sgF75v1 lk M) = evfn CX (T75v1ur1 N R75v1) code75 rsF75v1 (argsE 1 (canS sgF75v1 lk M).env) (canS sgF75v1 lk M).mem (goR CX 0 (fun _ => some xRF75v1)) := by intro N lk M; kernel_rfl
theorem soundF75v1 : ∀ N, RecOkF75v1 (F75v1 N)
  | 0, lk, M, o, h => by cases h
  | N + 1, lk, M, o, h => fn_sound hX (okT75v1ur1 N R75v1) Try.func75 hb75 rfl en75 (by kernel_rfl) (ys := fun _ => some xRF75v1) (fun st y h => by injection h with h; subst h; exact fun lk M => ⟨rfl, rfl⟩) ((fsF75v1 N lk M).symm.trans h)
def cvce75v1n0 : List Cv := []
def selce75v1n0 : St → List Nat := fun _ => []
noncomputable def ce75v1n0 (Fx : TF75v1) (R : Type) (test : List AV → List Blk → Bool) : CE R := ⟨75, test, fun args M => some (selce75v1n0 ⟨argEnv 0 args, M, [], .unk⟩), fun args M k => tst (Nat.beq args.length 1) (callFn CX 0 cvce75v1n0 sgF75v1 selce75v1n0 (FFF75v1 Fx) elF75v1 args M k)⟩
theorem okce75v1n0 (Fx : TF75v1) (h : RecOkF75v1 Fx) (R : Type) (test : List AV → List Blk → Bool) : CeOk CX (ce75v1n0 Fx R test) := ce_ok hX (fun o k => by cases o; rfl) h en75 (fun args M ids h => by injection h with h; exact ⟨rfl, h.symm⟩)
end Go.Proofs.Ytnfmdenclkdmbaa

namespace Go.Proofs.Ytnfmdenclkdmbaa
open Go Go.Eng
set_option maxRecDepth 100000

/-! ### F75v2: ceiling/num.relation -/
inductive R75v2 where
  | r
abbrev TF75v2 := Option R75v2
def sgF75v2 : LSh := ⟨[(0, .one (.fn 78))], []⟩
def FFF75v2 (Fx : TF75v2) (s : St) : Option R75v2 := Fx 
def valF75v2 (o : R75v2) : AV := match o with | .r => .clos 96 [] [.ptr 0 0 0]
def memF75v2 (o : R75v2) : List Blk := match o with | .r => [.var [.any] [.clos 78 [] []]]
def elF75v2 {R : Type} (o : R75v2) (k : AV → List Blk → Option R) : Option R := match o with | .r => k (.clos 96 [] [.ptr 0 0 0]) [.var [.any] [.clos 78 [] []]]
def RecOkF75v2 (Fx : TF75v2) : Prop := ∀ lk M o, FFF75v2 Fx (canS sgF75v2 lk M) = some o → FCalls CX 75 0 (argsE 1 (canS sgF75v2 lk M).env) (canS sgF75v2 lk M).mem (valF75v2 o) (memF75v2 o)
noncomputable def csF75v2 (N : Nat) (R : Type) : List (CE R) := []
theorem hcsF75v2 (N : Nat) (R : Type) : AllE (CeOk CX) (csF75v2 N R) := trivial
noncomputable def T75v2ur1 (N : Nat) (R : Type) : LTab R := mkTab ⟨4, 15⟩ (csF75v2 N R) (noY) [] [] []
theorem okT75v2ur1 (N : Nat) (R : Type) : (T75v2ur1 N R).Ok CX code75 := mkTab_ok (hcsF75v2 N R) (noY_ok) (trivial) (trivial) (trivial)
def rsF75v2 : List ResultVar := [.tmp 2]
def F75v2 : Nat → TF75v2
  | 0 => none
  | N + 1 => 
    some .r
def xRF75v2 : XSh R75v2 := ⟨[], ⟨[(0, .one (.cl 96 [(0, 0, 0)]))], [.var [.any] [.fn 78]]⟩, fun st => [((Eng.look st.env 0).caps.getD 0 .top).id], fun s => .r ⟩
theorem fsF75v2 : ∀ (N : Nat) (lk : Nat → AV) (M : List Blk), FFF75v2 (F75v2 (N + 1)) (canS sgF75v2 lk M) = evfn CX (T75v2ur1 N R75v2) code75 rsF75v2 (argsE 1 (canS sgF75v2 lk M).env) (canS sgF75v2 lk M).mem (goR CX 0 (fun _ => some xRF75v2)) := by intro N lk M; kernel_rfl
theorem soundF75v2 : ∀ N, RecOkF75v2 (F75v2 N)
  | 0, lk, M, o, h => by cases h
  | N + 1, lk, M, o, h => fn_sound hX (okT75v2ur1 N R75v2) Try.func75 hb75 rfl en75 (by kernel_rfl) (ys := fun _ => some xRF75v2) (fun st y h => by injection h with h; subst h; exact fun lk M => ⟨rfl, rfl⟩) ((fsF75v2 N lk M).symm.trans h)
def cvce75v2n0 : List Cv := []
def selce75v2n0 : St → List Nat := fun _ => []
noncomputable def ce75v2n0 (Fx : TF75v2) (R : Type) (test : List AV → List Blk → Bool) : CE R := ⟨75, test, fun args M => some (selce75v2n0 ⟨argEnv 0 args, M, [], .unk⟩), fun args M k => tst (Nat.beq args.length 1) (callFn CX 0 cvce75v2n0 sgF75v2 selce75v2n0 (FFF75v2 Fx) elF75v2 args M k)⟩
theorem okce75v2n0 (Fx : TF75v2) (h : RecOkF75v2 Fx) (R : Type) (test : List AV → List Blk → Bool) : CeOk CX (ce75v2n0 Fx R test) := ce_ok hX (fun o k => by cases o; rfl) h en75 (fun args M ids h => by injection h with h; exact ⟨rfl, h.symm⟩)
end Go.Proofs.Ytnfmdenclkdmbaa

namespace Go.Proofs.Ytnfmdenclkdmbaa
open Go Go.Eng
set_option maxRecDepth 100000

/-! ### F75v3: ceiling/num.relation -/
inductive R75v3 where
  | r
abbrev TF75v3 := Option R75v3
def sgF75v3 : LSh := ⟨[(0, .one (.fn 79))], []⟩
def FFF75v3 (Fx : TF75v3) (s : St) : Option R75v3 := Fx 
def valF75v3 (o : R75v3) : AV := match o with | .r => .clos 96 [] [.ptr 0 0 0]
def memF75v3 (o : R75v3) : List Blk := match o with | .r => [.var [.any] [.clos 79 [] []]]
def elF75v3 {R : Type} (o : R75v3) (k : AV → List Blk → Option R) : Option R := match o with | .r => k (.clos 96 [] [.ptr 0 0 0]) [.var [.any] [.clos 79 [] []]]
def RecOkF75v3 (Fx : TF75v3) : Prop := ∀ lk M o, FFF75v3 Fx (canS sgF75v3 lk M) = some o → FCalls CX 75 0 (argsE 1 (canS sgF75v3 lk M).env) (canS sgF75v3 lk M).mem (valF75v3 o) (memF75v3 o)
noncomputable def csF75v3 (N : Nat) (R : Type) : List (CE R) := []
theorem hcsF75v3 (N : Nat) (R : Type) : AllE (CeOk CX) (csF75v3 N R) := trivial
noncomputable def T75v3ur1 (N : Nat) (R : Type) : LTab R := mkTab ⟨4, 15⟩ (csF75v3 N R) (noY) [] [] []
theorem okT75v3ur1 (N : Nat) (R : Type) : (T75v3ur1 N R).Ok CX code75 := mkTab_ok (hcsF75v3 N R) (noY_ok) (trivial) (trivial) (trivial)
def rsF75v3 : List ResultVar := [.tmp 2]
def F75v3 : Nat → TF75v3
  | 0 => none
  | N + 1 => 
    some .r
def xRF75v3 : XSh R75v3 := ⟨[], ⟨[(0, .one (.cl 96 [(0, 0, 0)]))], [.var [.any] [.fn 79]]⟩, fun st => [((Eng.look st.env 0).caps.getD 0 .top).id], fun s => .r ⟩
theorem fsF75v3 : ∀ (N : Nat) (lk : Nat → AV) (M : List Blk), FFF75v3 (F75v3 (N + 1)) (canS sgF75v3 lk M) = evfn CX (T75v3ur1 N R75v3) code75 rsF75v3 (argsE 1 (canS sgF75v3 lk M).env) (canS sgF75v3 lk M).mem (goR CX 0 (fun _ => some xRF75v3)) := by intro N lk M; kernel_rfl
theorem soundF75v3 : ∀ N, RecOkF75v3 (F75v3 N)
  | 0, lk, M, o, h => by cases h
  | N + 1, lk, M, o, h => fn_sound hX (okT75v3ur1 N R75v3) Try.func75 hb75 rfl en75 (by kernel_rfl) (ys := fun _ => some xRF75v3) (fun st y h => by injection h with h; subst h; exact fun lk M => ⟨rfl, rfl⟩) ((fsF75v3 N lk M).symm.trans h)
def cvce75v3n0 : List Cv := []
def selce75v3n0 : St → List Nat := fun _ => []
noncomputable def ce75v3n0 (Fx : TF75v3) (R : Type) (test : List AV → List Blk → Bool) : CE R := ⟨75, test, fun args M => some (selce75v3n0 ⟨argEnv 0 args, M, [], .unk⟩), fun args M k => tst (Nat.beq args.length 1) (callFn CX 0 cvce75v3n0 sgF75v3 selce75v3n0 (FFF75v3 Fx) elF75v3 args M k)⟩
theorem okce75v3n0 (Fx : TF75v3) (h : RecOkF75v3 Fx) (R : Type) (test : List AV → List Blk → Bool) : CeOk CX (ce75v3n0 Fx R test) := ce_ok hX (fun o k => by cases o; rfl) h en75 (fun args M ids h => by injection h with h; exact ⟨rfl, h.symm⟩)
end Go.Proofs.Ytnfmdenclkdmbaa

namespace Go.Proofs.Ytnfmdenclkdmbaa
open Go Go.Eng
set_option maxRecDepth 100000

/-! ### F75v4: ceiling/num.relation -/
inductive R75v4 where
  | r
abbrev TF75v4 := Option R75v4
def sgF75v4 : LSh := ⟨[(0, .one (.fn 80))], []⟩
def FFF75v4 (Fx : TF75v4) (s : St) : Option R75v4 := Fx 
def valF75v4 (o : R75v4) : AV := match o with | .r => .clos 96 [] [.ptr 0 0 0]
def memF75v4 (o : R75v4) : List Blk := match o with | .r => [.var [.any] [.clos 80 [] []]]
def elF75v4 {R : Type} (o : R75v4) (k : AV → List Blk → Option R) : Option R := match o with | .r => k (.clos 96 [] [.ptr 0 0 0]) [.var [.any] [.clos 80 [] []]]
def RecOkF75v4 (Fx : TF75v4) : Prop := ∀ lk M o, FFF75v4 Fx (canS sgF75v4 lk M) = some o → FCalls CX 75 0 (argsE 1 (canS sgF75v4 lk M).env) (canS sgF75v4 lk M).mem (valF75v4 o) (memF75v4 o)
noncomputable def csF75v4 (N : Nat) (R : Type) : List (CE R) := []
theorem hcsF75v4 (N : Nat) (R : Type) : AllE (CeOk CX) (csF75v4 N R) := trivial
noncomputable def T75v4ur1 (N : Nat) (R : Type) : LTab R := mkTab ⟨4, 15⟩ (csF75v4 N R) (noY) [] [] []
theorem okT75v4ur1 (N : Nat) (R : Type) : (T75v4ur1 N R).Ok CX code75 := mkTab_ok (hcsF75v4 N R) (noY_ok) (trivial) (trivial) (trivial)
def rsF75v4 : List ResultVar := [.tmp 2]
def F75v4 : Nat → TF75v4
  | 0 => none
  | N + 1 => 
    some .r
def xRF75v4 : XSh R75v4 := ⟨[], ⟨[(0, .one (.cl 96 [(0, 0, 0)]))], [.var [.any] [.fn 80]]⟩, fun st => [((Eng.look st.env 0).caps.getD 0 .top).id], fun s => .r ⟩
theorem fsF75v4 : ∀ (N : Nat) (lk : Nat → AV) (M : List Blk), FFF75v4 (F75v4 (N + 1)) (canS sgF75v4 lk M) = evfn CX (T75v4ur1 N R75v4) code75 rsF75v4 (argsE 1 (canS sgF75v4 lk M).env) (canS sgF75v4 lk M).mem (goR CX 0 (fun _ => some xRF75v4)) := by intro N lk M; kernel_rfl
theorem soundF75v4 : ∀ N, RecOkF75v4 (F75v4 N)
  | 0, lk, M, o, h => by cases h
  | N + 1, lk, M, o, h => fn_sound hX (okT75v4ur1 N R75v4) Try.func75 hb75 rfl en75 (by kernel_rfl) (ys := fun _ => some xRF75v4) (fun st y h => by injection h with h; subst h; exact fun lk M => ⟨rfl, rfl⟩) ((fsF75v4 N lk M).symm.trans h)
def cvce75v4n0 : List Cv := []
def selce75v4n0 : St → List Nat := fun _ => []
noncomputable def ce75v4n0 (Fx : TF75v4) (R : Type) (test : List AV → List Blk → Bool) : CE R := ⟨75, test, fun args M => some (selce75v4n0 ⟨argEnv 0 args, M, [], .unk⟩), fun args M k => tst (Nat.beq args.length 1) (callFn CX 0 cvce75v4n0 sgF75v4 selce75v4n0 (FFF75v4 Fx) elF75v4 args M k)⟩
theorem okce75v4n0 (Fx : TF75v4) (h : RecOkF75v4 Fx) (R : Type) (test : List AV → List Blk → Bool) : CeOk CX (ce75v4n0 Fx R test) := ce_ok hX (fun o k => by cases o; rfl) h en75 (fun args M ids h => by injection h with h; exact ⟨rfl, h.symm⟩)
end Go.Proofs.Ytnfmdenclkdmbaa

namespace Go.Proofs.Ytnfmdenclkdmbaa
open Go Go.Eng
set_option maxRecDepth 100000

/-! ### F75v5: ceiling/num.relation -/
inductive R75v5 where
  | r
abbrev TF75v5 := Option R75v5
def sgF75v5 : LSh := ⟨[(0, .one (.fn 81))], []⟩
def FFF75v5 (Fx : TF75v5) (s : St) : Option R75v5 := Fx 
def valF75v5 (o : R75v5) : AV := match o with | .r => .clos 96 [] [.ptr 0 0 0]
def memF75v5 (o : R75v5) : List Blk := match o with | .r => [.var [.any] [.clos 81 [] []]]
def elF75v5 {R : Type} (o : R75v5) (k : AV → List Blk → Option R) : Option R := match o with | .r => k (.clos 96 [] [.ptr 0 0 0]) [.var [.any] [.clos 81 [] []]]
def RecOkF75v5 (Fx : TF75v5) : Prop := ∀ lk M o, FFF75v5 Fx (canS sgF75v5 lk M) = some o → FCalls CX 75 0 (argsE 1 (canS sgF75v5 lk M).env) (canS sgF75v5 lk M).mem (valF75v5 o) (memF75v5 o)
noncomputable def csF75v5 (N : Nat) (R : Type) : List (CE R) := []
theorem hcsF75v5 (N : Nat) (R : Type) : AllE (CeOk CX) (csF75v5 N R) := trivial
noncomputable def T75v5ur1 (N : Nat) (R : Type) : LTab R := mkTab ⟨4, 15⟩ (csF75v5 N R) (noY) [] [] []
theorem okT75v5ur1 (N : Nat) (R : Type) : (T75v5ur1 N R).Ok CX code75 := mkTab_ok (hcsF75v5 N R) (noY_ok) (trivial) (trivial) (trivial)
def rsF75v5 : List ResultVar := [.tmp 2]
def F75v5 : Nat → TF75v5
  | 0 => none
  | N + 1 => 
    some .r
def xRF75v5 : XSh R75v5 := ⟨[], ⟨[(0, .one (.cl 96 [(0, 0, 0)]))], [.var [.any] [.fn 81]]⟩, fun st => [((Eng.look st.env 0).caps.getD 0 .top).id], fun s => .r ⟩
theorem fsF75v5 : ∀ (N : Nat) (lk : Nat → AV) (M : List Blk), FFF75v5 (F75v5 (N + 1)) (canS sgF75v5 lk M) = evfn CX (T75v5ur1 N R75v5) code75 rsF75v5 (argsE 1 (canS sgF75v5 lk M).env) (canS sgF75v5 lk M).mem (goR CX 0 (fun _ => some xRF75v5)) := by intro N lk M; kernel_rfl
theorem soundF75v5 : ∀ N, RecOkF75v5 (F75v5 N)
  | 0, lk, M, o, h => by cases h
  | N + 1, lk, M, o, h => fn_sound hX (okT75v5ur1 N R75v5) Try.func75 hb75 rfl en75 (by kernel_rfl) (ys := fun _ => some xRF75v5) (fun st y h => by injection h with h; subst h; exact fun lk M => ⟨rfl, rfl⟩) ((fsF75v5 N lk M).symm.trans h)
def cvce75v5n0 : List Cv := []
def selce75v5n0 : St → List Nat := fun _ => []
noncomputable def ce75v5n0 (Fx : TF75v5) (R : Type) (test : List AV → List Blk → Bool) : CE R := ⟨75, test, fun args M => some (selce75v5n0 ⟨argEnv 0 args, M, [], .unk⟩), fun args M k => tst (Nat.beq args.length 1) (callFn CX 0 cvce75v5n0 sgF75v5 selce75v5n0 (FFF75v5 Fx) elF75v5 args M k)⟩
theorem okce75v5n0 (Fx : TF75v5) (h : RecOkF75v5 Fx) (R : Type) (test : List AV → List Blk → Bool) : CeOk CX (ce75v5n0 Fx R test) := ce_ok hX (fun o k => by cases o; rfl) h en75 (fun args M ids h => by injection h with h; exact ⟨rfl, h.symm⟩)
end Go.Proofs.Ytnfmdenclkdmbaa

namespace Go.Proofs.Ytnfmdenclkdmbaa
open Go Go.Eng
set_option maxRecDepth 100000

/-! ### F67v3: ceiling/num.always -/
inductive R67v3 where
  | r
abbrev TF67v3 := Option R67v3
def sgF67v3 : LSh := ⟨[(0, .one (.fn 82))], []⟩
def FFF67v3 (Fx : TF67v3) (s : St) : Option R67v3 := Fx 
def valF67v3 (o : R67v3) : AV := match o with | .r => .clos 94 [] [.ptr 0 0 0]
def memF67v3 (o : R67v3) : List Blk := match o with | .r => [.var [.any] [.clos 82 [] []]]
def elF67v3 {R : Type} (o : R67v3) (k : AV → List Blk → Option R) : Option R := match o with | .r => k (.clos 94 [] [.ptr 0 0 0]) [.var [.any] [.clos 82 [] []]]
def RecOkF67v3 (Fx : TF67v3) : Prop := ∀ lk M o, FFF67v3 Fx (canS sgF67v3 lk M) = some o → FCalls CX 67 0 (argsE 1 (canS sgF67v3 lk M).env) (canS sgF67v3 lk M).mem (valF67v3 o) (memF67v3 o)
noncomputable def csF67v3 (N : Nat) (R : Type) : List (CE R) := []
theorem hcsF67v3 (N : Nat) (R : Type) : AllE (CeOk CX) (csF67v3 N R) := trivial
noncomputable def T67v3ur1 (N : Nat) (R : Type) : LTab R := mkTab ⟨4, 15⟩ (csF67v3 N R) (noY) [] [] []
theorem okT67v3ur1 (N : Nat) (R : Type) : (T67v3ur1 N R).Ok CX code67 := mkTab_ok (hcsF67v3 N R) (noY_ok) (trivial) (trivial) (trivial)
def rsF67v3 : List ResultVar := [.tmp 2]
def F67v3 : Nat → TF67v3
  | 0 => none
  | N + 1 => 
    some .r
def xRF67v3 : XSh R67v3 := ⟨[], ⟨[(0, .one (.cl 94 [(0, 0, 0)]))], [.var [.any] [.fn 82]]⟩, fun st => [((Eng.look st.env 0).caps.getD 0 .top).id], fun s => .r ⟩
theorem fsF67v3 : ∀ (N : Nat) (lk : Nat → AV) (M : List Blk), FFF67v3 (F67v3 (N + 1)) (canS sgF67v3 lk M) = evfn CX (T67v3ur1 N R67v3) code67 rsF67v3 (argsE 1 (canS sgF67v3 lk M).env) (canS sgF67v3 lk M).mem (goR CX 0 (fun _ => some xRF67v3)) := by intro N lk M; kernel_rfl
theorem soundF67v3 : ∀ N, RecOkF67v3 (F67v3 N)
  | 0, lk, M, o, h => by cases h
  | N + 1, lk, M, o, h => fn_sound hX (okT67v3ur1 N R67v3) Try.func67 hb67 rfl en67 (by kernel_rfl) (ys := fun _ => some xRF67v3) (fun st y h => by injection h with h; subst h; exact fun lk M => ⟨rfl, rfl⟩) ((fsF67v3 N lk M).symm.trans h)
def cvce67v3n0 : List Cv := []
def selce67v3n0 : St → List Nat := fun _ => []
noncomputable def ce67v3n0 (Fx : TF67v3) (R : Type) (test : List AV → List Blk → Bool) : CE R := ⟨67, test, fun args M => some (selce67v3n0 ⟨argEnv 0 args, M, [], .unk⟩), fun args M k => tst (Nat.beq args.length 1) (callFn CX 0 cvce67v3n0 sgF67v3 selce67v3n0 (FFF67v3 Fx) elF67v3 args M k)⟩
theorem okce67v3n0 (Fx : TF67v3) (h : RecOkF67v3 Fx) (R : Type) (test : List AV → List Blk → Bool) : CeOk CX (ce67v3n0 Fx R test) := ce_ok hX (fun o k => by cases o; rfl) h en67 (fun args M ids h => by injection h with h; exact ⟨rfl, h.symm⟩)
end Go.Proofs.Ytnfmdenclkdmbaa

namespace Go.Proofs.Ytnfmdenclkdmbaa
open Go Go.Eng
set_option maxRecDepth 100000

/-! ### F67v4: ceiling/num.always -/
inductive R67v4 where
  | r
abbrev TF67v4 := Option R67v4
def sgF67v4 : LSh := ⟨[(0, .one (.fn 83))], []⟩
def FFF67v4 (Fx : TF67v4) (s : St) : Option R67v4 := Fx 
def valF67v4 (o : R67v4) : AV := match o with | .r => .clos 94 [] [.ptr 0 0 0]
def memF67v4 (o : R67v4) : List Blk := match o with | .r => [.var [.any] [.clos 83 [] []]]
def elF67v4 {R : Type} (o : R67v4) (k : AV → List Blk → Option R) : Option R := match o with | .r => k (.clos 94 [] [.ptr 0 0 0]) [.var [.any] [.clos 83 [] []]]
def RecOkF67v4 (Fx : TF67v4) : Prop := ∀ lk M o, FFF67v4 Fx (canS sgF67v4 lk M) = some o → FCalls CX 67 0 (argsE 1 (canS sgF67v4 lk M).env) (canS sgF67v4 lk M).mem (valF67v4 o) (memF67v4 o)
noncomputable def csF67v4 (N : Nat) (R : Type) : List (CE R) := []
theorem hcsF67v4 (N : Nat) (R : Type) : AllE (CeOk CX) (csF67v4 N R) := trivial
noncomputable def T67v4ur1 (N : Nat) (R : Type) : LTab R := mkTab ⟨4, 15⟩ (csF67v4 N R) (noY) [] [] []
theorem okT67v4ur1 (N : Nat) (R : Type) : (T67v4ur1 N R).Ok CX code67 := mkTab_ok (hcsF67v4 N R) (noY_ok) (trivial) (trivial) (trivial)
def rsF67v4 : List ResultVar := [.tmp 2]
def F67v4 : Nat → TF67v4
  | 0 => none
  | N + 1 => 
    some .r
def xRF67v4 : XSh R67v4 := ⟨[], ⟨[(0, .one (.cl 94 [(0, 0, 0)]))], [.var [.any] [.fn 83]]⟩, fun st => [((Eng.look st.env 0).caps.getD 0 .top).id], fun s => .r ⟩
theorem fsF67v4 : ∀ (N : Nat) (lk : Nat → AV) (M : List Blk), FFF67v4 (F67v4 (N + 1)) (canS sgF67v4 lk M) = evfn CX (T67v4ur1 N R67v4) code67 rsF67v4 (argsE 1 (canS sgF67v4 lk M).env) (canS sgF67v4 lk M).mem (goR CX 0 (fun _ => some xRF67v4)) := by intro N lk M; kernel_rfl
theorem soundF67v4 : ∀ N, RecOkF67v4 (F67v4 N)
  | 0, lk, M, o, h => by cases h
  | N + 1, lk, M, o, h => fn_sound hX (okT67v4ur1 N R67v4) Try.func67 hb67 rfl en67 (by kernel_rfl) (ys := fun _ => some xRF67v4) (fun st y h => by injection h with h; subst h; exact fun lk M => ⟨rfl, rfl⟩) ((fsF67v4 N lk M).symm.trans h)
def cvce67v4n0 : List Cv := []
def selce67v4n0 : St → List Nat := fun _ => []
noncomputable def ce67v4n0 (Fx : TF67v4) (R : Type) (test : List AV → List Blk → Bool) : CE R := ⟨67, test, fun args M => some (selce67v4n0 ⟨argEnv 0 args, M, [], .unk⟩), fun args M k => tst (Nat.beq args.length 1) (callFn CX 0 cvce67v4n0 sgF67v4 selce67v4n0 (FFF67v4 Fx) elF67v4 args M k)⟩
theorem okce67v4n0 (Fx : TF67v4) (h : RecOkF67v4 Fx) (R : Type) (test : List AV → List Blk → Bool) : CeOk CX (ce67v4n0 Fx R test) := ce_ok hX (fun o k => by cases o; rfl) h en67 (fun args M ids h => by injection h with h; exact ⟨rfl, h.symm⟩)
end Go.Proofs.Ytnfmdenclkdmbaa

namespace Go.Proofs.Ytnfmdenclkdmbaa
open Go Go.Eng
set_option maxRecDepth 100000

/-! ### F67v5: ceiling/num.always -/
inductive R67v5 where
  | r
abbrev TF67v5 := Option R67v5
def sgF67v5 : LSh := ⟨[(0, .one (.fn 84))], []⟩
def FFF67v5 (Fx : TF67v5) (s : St) : Option R67v5 := Fx 
def valF67v5 (o : R67v5) : AV := match o with | .r => .clos 94 [] [.ptr 0 0 0]
def memF67v5 (o : R67v5) : List Blk := match o with | .r => [.var [.any] [.clos 84 [] []]]
def elF67v5 {R : Type} (o : R67v5) (k : AV → List Blk → Option R) : Option R := match o with | .r => k (.clos 94 [] [.ptr 0 0 0]) [.var [.any] [.clos 84 [] []]]
def RecOkF67v5 (Fx : TF67v5) : Prop := ∀ lk M o, FFF67v5 Fx (canS sgF67v5 lk M) = some o → FCalls CX 67 0 (argsE 1 (canS sgF67v5 lk M).env) (canS sgF67v5 lk M).mem (valF67v5 o) (memF67v5 o)
noncomputable def csF67v5 (N : Nat) (R : Type) : List (CE R) := []
theorem hcsF67v5 (N : Nat) (R : Type) : AllE (CeOk CX) (csF67v5 N R) := trivial
noncomputable def T67v5ur1 (N : Nat) (R : Type) : LTab R := mkTab ⟨4, 15⟩ (csF67v5 N R) (noY) [] [] []
theorem okT67v5ur1 (N : Nat) (R : Type) : (T67v5ur1 N R).Ok CX code67 := mkTab_ok (hcsF67v5 N R) (noY_ok) (trivial) (trivial) (trivial)
def rsF67v5 : List ResultVar := [.tmp 2]
def F67v5 : Nat → TF67v5
  | 0 => none
  | N + 1 => 
    some .r
def xRF67v5 : XSh R67v5 := ⟨[], ⟨[(0, .one (.cl 94 [(0, 0, 0)]))], [.var [.any] [.fn 84]]⟩, fun st => [((Eng.look st.env 0).caps.getD 0 .top).id], fun s => .r ⟩
theorem fsF67v5 : ∀ (N : Nat) (lk : Nat → AV) (M : List Blk), FFF67v5 (F67v5 (N + 1)) (canS sgF67v5 lk M) = evfn CX (T67v5ur1 N R67v5) code67 rsF67v5 (argsE 1 (canS sgF67v5 lk M).env) (canS sgF67v5 lk M).mem (goR CX 0 (fun _ => some xRF67v5)) := by intro N lk M; kernel_rfl
theorem soundF67v5 : ∀ N, RecOkF67v5 (F67v5 N)
  | 0, lk, M, o, h => by cases h
  | N + 1, lk, M, o, h => fn_sound hX (okT67v5ur1 N R67v5) Try.func67 hb67 rfl en67 (by kernel_rfl) (ys := fun _ => some xRF67v5) (fun st y h => by injection h with h; subst h; exact fun lk M => ⟨rfl, rfl⟩) ((fsF67v5 N lk M).symm.trans h)
def cvce67v5n0 : List Cv := []
def selce67v5n0 : St → List Nat := fun _ => []
noncomputable def ce67v5n0 (Fx : TF67v5) (R : Type) (test : List AV → List Blk → Bool) : CE R := ⟨67, test, fun args M => some (selce67v5n0 ⟨argEnv 0 args, M, [], .unk⟩), fun args M k => tst (Nat.beq args.length 1) (callFn CX 0 cvce67v5n0 sgF67v5 selce67v5n0 (FFF67v5 Fx) elF67v5 args M k)⟩
theorem okce67v5n0 (Fx : TF67v5) (h : RecOkF67v5 Fx) (R : Type) (test : List AV → List Blk → Bool) : CeOk CX (ce67v5n0 Fx R test) := ce_ok hX (fun o k => by cases o; rfl) h en67 (fun args M ids h => by injection h with h; exact ⟨rfl, h.symm⟩)
end Go.Proofs.Ytnfmdenclkdmbaa

namespace Go.Proofs.Ytnfmdenclkdmbaa
open Go Go.Eng
set_option maxRecDepth 100000

/-! ### F67v6: ceiling/num.always -/
inductive R67v6 where
  | r
abbrev TF67v6 := Option R67v6
def sgF67v6 : LSh := ⟨[(0, .one (.fn 85))], []⟩
def FFF67v6 (Fx : TF67v6) (s : St) : Option R67v6 := Fx 
def valF67v6 (o : R67v6) : AV := match o with | .r => .clos 94 [] [.ptr 0 0 0]
def memF67v6 (o : R67v6) : List Blk := match o with | .r => [.var [.any] [.clos 85 [] []]]
def elF67v6 {R : Type} (o : R67v6) (k : AV → List Blk → Option R) : Option R := match o with | .r => k (.clos 94 [] [.ptr 0 0 0]) [.var [.any] [.clos 85 [] []]]
def RecOkF67v6 (Fx : TF67v6) : Prop := ∀ lk M o, FFF67v6 Fx (canS sgF67v6 lk M) = some o → FCalls CX 67 0 (argsE 1 (canS sgF67v6 lk M).env) (canS sgF67v6 lk M).mem (valF67v6 o) (memF67v6 o)
noncomputable def csF67v6 (N : Nat) (R : Type) : List (CE R) := []
theorem hcsF67v6 (N : Nat) (R : Type) : AllE (CeOk CX) (csF67v6 N R) := trivial
noncomputable def T67v6ur1 (N : Nat) (R : Type) : LTab R := mkTab ⟨4, 15⟩ (csF67v6 N R) (noY) [] [] []
theorem okT67v6ur1 (N : Nat) (R : Type) : (T67v6ur1 N R).Ok CX code67 := mkTab_ok (hcsF67v6 N R) (noY_ok) (trivial) (trivial) (trivial)
def rsF67v6 : List ResultVar := [.tmp 2]
def F67v6 : Nat → TF67v6
  | 0 => none
  | N + 1 => 
    some .r
def xRF67v6 : XSh R67v6 := ⟨[], ⟨[(0, .one (.cl 94 [(0, 0, 0)]))], [.var [.any] [.fn 85]]⟩, fun st => [((Eng.look st.env 0).caps.getD 0 .top).id], fun s => .r ⟩
theorem fsF67v6 : ∀ (N : Nat) (lk : Nat → AV) (M : List Blk), FFF67v6 (F67v6 (N + 1)) (canS sgF67v6 lk M) = evfn CX (T67v6ur1 N R67v6) code67 rsF67v6 (argsE 1 (canS sgF67v6 lk M).env) (canS sgF67v6 lk M).mem (goR CX 0 (fun _ => some xRF67v6)) := by intro N lk M; kernel_rfl
theorem soundF67v6 : ∀ N, RecOkF67v6 (F67v6 N)
  | 0, lk, M, o, h => by cases h
  | N + 1, lk, M, o, h => fn_sound hX (okT67v6ur1 N R67v6) Try.func67 hb67 rfl en67 (by kernel_rfl) (ys := fun _ => some xRF67v6) (fun st y h => by injection h with h; subst h; exact fun lk M => ⟨rfl, rfl⟩) ((fsF67v6 N lk M).symm.trans h)
def cvce67v6n0 : List Cv := []
def selce67v6n0 : St → List Nat := fun _ => []
noncomputable def ce67v6n0 (Fx : TF67v6) (R : Type) (test : List AV → List Blk → Bool) : CE R := ⟨67, test, fun args M => some (selce67v6n0 ⟨argEnv 0 args, M, [], .unk⟩), fun args M k => tst (Nat.beq args.length 1) (callFn CX 0 cvce67v6n0 sgF67v6 selce67v6n0 (FFF67v6 Fx) elF67v6 args M k)⟩
theorem okce67v6n0 (Fx : TF67v6) (h : RecOkF67v6 Fx) (R : Type) (test : List AV → List Blk → Bool) : CeOk CX (ce67v6n0 Fx R test) := ce_ok hX (fun o k => by cases o; rfl) h en67 (fun args M ids h => by injection h with h; exact ⟨rfl, h.symm⟩)
end Go.Proofs.Ytnfmdenclkdmbaa

namespace Go.Proofs.Ytnfmdenclkdmbaa
open Go Go.Eng
set_option maxRecDepth 100000

/-! ### F67v7: ceiling/num.always -/
inductive R67v7 where
  | r
abbrev TF67v7 := Option R67v7
def sgF67v7 : LSh := ⟨[(0, .one (.fn 86))], []⟩
def FFF67v7 (Fx : TF67v7) (s : St) : Option R67v7 := Fx 
def valF67v7 (o : R67v7) : AV := match o with | .r => .clos 94 [] [.ptr 0 0 0]
def memF67v7 (o : R67v7) : List Blk := match o with | .r => [.var [.any] [.clos 86 [] []]]
def elF67v7 {R : Type} (o : R67v7) (k : AV → List Blk → Option R) : Option R := match o with | .r => k (.clos 94 [] [.ptr 0 0 0]) [.var [.any] [.clos 86 [] []]]
def RecOkF67v7 (Fx : TF67v7) : Prop := ∀ lk M o, FFF67v7 Fx (canS sgF67v7 lk M) = some o → FCalls CX 67 0 (argsE 1 (canS sgF67v7 lk M).env) (canS sgF67v7 lk M).mem (valF67v7 o) (memF67v7 o)
noncomputable def csF67v7 (N : Nat) (R : Type) : List (CE R) := []
theorem hcsF67v7 (N : Nat) (R : Type) : AllE (CeOk CX) (csF67v7 N R) := trivial
noncomputable def T67v7ur1 (N : Nat) (R : Type) : LTab R := mkTab ⟨4, 15⟩ (csF67v7 N R) (noY) [] [] []
theorem okT67v7ur1 (N : Nat) (R : Type) : (T67v7ur1 N R).Ok CX code67 := mkTab_ok (hcsF67v7 N R) (noY_ok) (trivial) (trivial) (trivial)
def rsF67v7 : List ResultVar := [.tmp 2]
def F67v7 : Nat → TF67v7
  | 0 => none
  | N + 1 => 
    some .r
def xRF67v7 : XSh R67v7 := ⟨[], ⟨[(0, .one (.cl 94 [(0, 0, 0)]))], [.var [.any] [.fn 86]]⟩, fun st => [((Eng.look st.env 0).caps.getD 0 .top).id], fun s => .r ⟩
theorem fsF67v7 : ∀ (N : Nat) (lk : Nat → AV) (M : List Blk), FFF67v7 (F67v7 (N + 1)) (canS sgF67v7 lk M) = evfn CX (T67v7ur1 N R67v7) code67 rsF67v7 (argsE 1 (canS sgF67v7 lk M).env) (canS sgF67v7 lk M).mem (goR CX 0 (fun _ => some xRF67v7)) := by intro N lk M; kernel_rfl
theorem soundF67v7 : ∀ N, RecOkF67v7 (F67v7 N)
  | 0, lk, M, o, h => by cases h
  | N + 1, lk, M, o, h => fn_sound hX (okT67v7ur1 N R67v7) Try.func67 hb67 rfl en67 (by kernel_rfl) (ys := fun _ => some xRF67v7) (fun st y h => by injection h with h; subst h; exact fun lk M => ⟨rfl, rfl⟩) ((fsF67v7 N lk M).symm.trans h)
def cvce67v7n0 : List Cv := []
def selce67v7n0 : St → List Nat := fun _ => []
noncomputable def ce67v7n0 (Fx : TF67v7) (R : Type) (test : List AV → List Blk → Bool) : CE R := ⟨67, test, fun args M => some (selce67v7n0 ⟨argEnv 0 args, M, [], .unk⟩), fun args M k => tst (Nat.beq args.length 1) (callFn CX 0 cvce67v7n0 sgF67v7 selce67v7n0 (FFF67v7 Fx) elF67v7 args M k)⟩
theorem okce67v7n0 (Fx : TF67v7) (h : RecOkF67v7 Fx) (R : Type) (test : List AV → List Blk → Bool) : CeOk CX (ce67v7n0 Fx R test) := ce_ok hX (fun o k => by cases o; rfl) h en67 (fun args M ids h => by injection h with h; exact ⟨rfl, h.symm⟩)
end Go.Proofs.Ytnfmdenclkdmbaa

namespace Go.Proofs.Ytnfmdenclkdmbaa
open Go Go.Eng
set_option maxRecDepth 100000

/-! ### F67v8: ceiling/num.always -/
inductive R67v8 where
  | r
abbrev TF67v8 := Option R67v8
def sgF67v8 : LSh := ⟨[(0, .one (.fn 87))], []⟩
def FFF67v8 (Fx : TF67v8) (s : St) : Option R67v8 := Fx 
def valF67v8 (o : R67v8) : AV := match o with | .r => .clos 94 [] [.ptr 0 0 0]
def memF67v8 (o : R67v8) : List Blk := match o with | .r => [.var [.any] [.clos 87 [] []]]
def elF67v8 {R : Type} (o : R67v8) (k : AV → List Blk → Option R) : Option R := match o with | .r => k (.clos 94 [] [.ptr 0 0 0]) [.var [.any] [.clos 87 [] []]]
def RecOkF67v8 (Fx : TF67v8) : Prop := ∀ lk M o, FFF67v8 Fx (canS sgF67v8 lk M) = some o → FCalls CX 67 0 (argsE 1 (canS sgF67v8 lk M).env) (canS sgF67v8 lk M).mem (valF67v8 o) (memF67v8 o)
noncomputable def csF67v8 (N : Nat) (R : Type) : List (CE R) := []
theorem hcsF67v8 (N : Nat) (R : Type) : AllE (CeOk CX) (csF67v8 N R) := trivial
noncomputable def T67v8ur1 (N : Nat) (R : Type) : LTab R := mkTab ⟨4, 15⟩ (csF67v8 N R) (noY) [] [] []
theorem okT67v8ur1 (N : Nat) (R : Type) : (T67v8ur1 N R).Ok CX code67 := mkTab_ok (hcsF67v8 N R) (noY_ok) (trivial) (trivial) (trivial)
def rsF67v8 : List ResultVar := [.tmp 2]
def F67v8 : Nat → TF67v8
  | 0 => none
  | N + 1 => 
    some .r
def xRF67v8 : XSh R67v8 := ⟨[], ⟨[(0, .one (.cl 94 [(0, 0, 0)]))], [.var [.any] [.fn 87]]⟩, fun st => [((Eng.look st.env 0).caps.getD 0 .top).id], fun s => .r ⟩
theorem fsF67v8 : ∀ (N : Nat) (lk : Nat → AV) (M : List Blk), FFF67v8 (F67v8 (N + 1)) (canS sgF67v8 lk M) = evfn CX (T67v8ur1 N R67v8) code67 rsF67v8 (argsE 1 (canS sgF67v8 lk M).env) (canS sgF67v8 lk M).mem (goR CX 0 (fun _ => some xRF67v8)) := by intro N lk M; kernel_rfl
theorem soundF67v8 : ∀ N, RecOkF67v8 (F67v8 N)
  | 0, lk, M, o, h => by cases h
  | N + 1, lk, M, o, h => fn_sound hX (okT67v8ur1 N R67v8) Try.func67 hb67 rfl en67 (by kernel_rfl) (ys := fun _ => some xRF67v8) (fun st y h => by injection h with h; subst h; exact fun lk M => ⟨rfl, rfl⟩) ((fsF67v8 N lk M).symm.trans h)
def cvce67v8n0 : List Cv := []
def selce67v8n0 : St → List Nat := fun _ => []
noncomputable def ce67v8n0 (Fx : TF67v8) (R : Type) (test : List AV → List Blk → Bool) : CE R := ⟨67, test, fun args M => some (selce67v8n0 ⟨argEnv 0 args, M, [], .unk⟩), fun args M k => tst (Nat.beq args.length 1) (callFn CX 0 cvce67v8n0 sgF67v8 selce67v8n0 (FFF67v8 Fx) elF67v8 args M k)⟩
theorem okce67v8n0 (Fx : TF67v8) (h : RecOkF67v8 Fx) (R : Type) (test : List AV → List Blk → Bool) : CeOk CX (ce67v8n0 Fx R test) := ce_ok hX (fun o k => by cases o; rfl) h en67 (fun args M ids h => by injection h with h; exact ⟨rfl, h.symm⟩)
end Go.Proofs.Ytnfmdenclkdmbaa

namespace Go.Proofs.Ytnfmdenclkdmbaa
open Go Go.Eng
set_option maxRecDepth 100000

/-! ### F68: ceiling/num.operators.1 -/
inductive R68 where
  | r (x0 : Int)
abbrev TF68 := Int → Int → Option R68
def sgF68 : LSh := ⟨[(0, .one (.cell (.int .i64))), (1, .one (.cell (.int .i64)))], []⟩
def FFF68 (Fx : TF68) (s : St) : Option R68 := Fx ((Eng.look s.env 0).toI) ((Eng.look s.env 1).toI)
def valF68 (o : R68) : AV := match o with | .r x0 => .int .i64 x0
def memF68 (o : R68) : List Blk := match o with | .r x0 => []
def elF68 {R : Type} (o : R68) (k : AV → List Blk → Option R) : Option R := match o with | .r x0 => k (.int .i64 x0) []
def RecOkF68 (Fx : TF68) : Prop := ∀ lk M o, FFF68 Fx (canS sgF68 lk M) = some o → FCalls CX 68 0 (argsE 2 (canS sgF68 lk M).env) (canS sgF68 lk M).mem (valF68 o) (memF68 o)
noncomputable def csF68 (N : Nat) (R : Type) : List (CE R) := []
theorem hcsF68 (N : Nat) (R : Type) : AllE (CeOk CX) (csF68 N R) := trivial
noncomputable def T68ur1 (N : Nat) (R : Type) : LTab R := mkTab ⟨8, 255⟩ (csF68 N R) (noY) [] [] []
theorem okT68ur1 (N : Nat) (R : Type) : (T68ur1 N R).Ok CX code68 := mkTab_ok (hcsF68 N R) (noY_ok) (trivial) (trivial) (trivial)
def rsF68 : List ResultVar := [.tmp 4]
def F68 : Nat → TF68
  | 0 => fun _ _ => none
  | N + 1 => fun x0 x1 =>
    some (.r (IntKind.wrap .i64 (x0 + x1)))
def xRF68 : XSh R68 := ⟨[], ⟨[(0, .one (.cell (.int .i64)))], []⟩, fun _ => [], fun s => .r ((Eng.look s.env 0).toI)⟩
theorem fsF68 : ∀ (N : Nat) (lk : Nat → AV) (M : List Blk), FFF68 (F68 (N + 1)) (canS sgF68 lk M) = evfn CX (T68ur1 N R68) code68 rsF68 (argsE 2 (canS sgF68 lk M).env) (canS sgF68 lk M).mem (goR CX 0 (fun _ => some xRF68)) := by intro N lk M; kernel_rfl
theorem soundF68 : ∀ N, RecOkF68 (F68 N)
  | 0, lk, M, o, h => by cases h
  | N + 1, lk, M, o, h => fn_sound hX (okT68ur1 N R68) Try.func68 hb68 rfl en68 (by kernel_rfl) (ys := fun _ => some xRF68) (fun st y h => by injection h with h; subst h; exact fun lk M => ⟨rfl, rfl⟩) ((fsF68 N lk M).symm.trans h)
def cvce68n0 : List Cv := []
def selce68n0 : St → List Nat := fun _ => []
noncomputable def ce68n0 (Fx : TF68) (R : Type) (test : List AV → List Blk → Bool) : CE R := ⟨68, test, fun args M => some (selce68n0 ⟨argEnv 0 args, M, [], .unk⟩), fun args M k => tst (Nat.beq args.length 2) (callFn CX 0 cvce68n0 sgF68 selce68n0 (FFF68 Fx) elF68 args M k)⟩
theorem okce68n0 (Fx : TF68) (h : RecOkF68 Fx) (R : Type) (test : List AV → List Blk → Bool) : CeOk CX (ce68n0 Fx R test) := ce_ok hX (fun o k => by cases o; rfl) h en68 (fun args M ids h => by injection h with h; exact ⟨rfl, h.symm⟩)
end Go.Proofs.Ytnfmdenclkdmbaa

namespace Go.Proofs.Ytnfmdenclkdmbaa
open Go Go.Eng
set_option maxRecDepth 100000

/-! ### F94: ceiling/num.always.1 -/
inductive R94 where
  | r (x0 : Int) (x1 : Bool)
abbrev TF94 := Int → Int → Option R94
def sgF94 : LSh := ⟨[(0, .one (.cell (.int .i64))), (1, .one (.cell (.int .i64))), (2, .one (.ptr 0 0 0))], [.var [.any] [.fn 68]]⟩
def FFF94 (Fx : TF94) (s : St) : Option R94 := Fx ((Eng.look s.env 0).toI) ((Eng.look s.env 1).toI)
def valF94 (o : R94) : AV := match o with | .r x0 x1 => .tup [.int .i64 x0, .bool x1]
def memF94 (o : R94) : List Blk := match o with | .r x0 x1 => [.var [.any] [.clos 68 [] []]]
def elF94 {R : Type} (o : R94) (k : AV → List Blk → Option R) : Option R := match o with | .r x0 x1 => k (.tup [.int .i64 x0, .bool x1]) [.var [.any] [.clos 68 [] []]]
def RecOkF94 (Fx : TF94) : Prop := ∀ lk M o, FFF94 Fx (canS sgF94 lk M) = some o → FCalls CX 94 1 (argsE 3 (canS sgF94 lk M).env) (canS sgF94 lk M).mem (valF94 o) (memF94 o)
noncomputable def csF94 (N : Nat) (R : Type) : List (CE R) := [ce68n0 (F68 N) R (fun _ _ => true)]
theorem hcsF94 (N : Nat) (R : Type) : AllE (CeOk CX) (csF94 N R) := ⟨okce68n0 (F68 N) (soundF68 N) R (fun _ _ => true), trivial⟩
noncomputable def T94ur1 (N : Nat) (R : Type) : LTab R := mkTab ⟨11, 2047⟩ (csF94 N R) (noY) [] [] []
theorem okT94ur1 (N : Nat) (R : Type) : (T94ur1 N R).Ok CX code94 := mkTab_ok (hcsF94 N R) (noY_ok) (trivial) (trivial) (trivial)
def rsF94 : List ResultVar := [.tmp 5, .tmp 6]
def F94 : Nat → TF94
  | 0 => fun _ _ => none
  | N + 1 => fun x0 x1 =>
    match F68 N x0 x1 with
    | none => none
    | some (.r rx0v1) =>
      some (.r rx0v1 true)
def xRF94 : XSh R94 := ⟨[], ⟨[(0, .one (.cell (.int .i64))), (1, .one (.cell (.bool)))], [.var [.any] [.fn 68]]⟩, fun st => [0], fun s => .r ((Eng.look s.env 0).toI) ((Eng.look s.env 1).toB)⟩
theorem fsF94 : ∀ (N : Nat) (lk : Nat → AV) (M : List Blk), FFF94 (F94 (N + 1)) (canS sgF94 lk M) = evfn CX (T94ur1 N R94) code94 rsF94 (argsE 3 (canS sgF94 lk M).env) (canS sgF94 lk M).mem (goRt CX 1 2 (fun _ => some xRF94)) := by intro N lk M; kernel_rfl
theorem soundF94 : ∀ N, RecOkF94 (F94 N)
  | 0, lk, M, o, h => by cases h
  | N + 1, lk, M, o, h => fn_soundt hX (okT94ur1 N R94) Try.func94 hb94 rfl en94 (by kernel_rfl) (ys := fun _ => some xRF94) (fun st y h => by injection h with h; subst h; exact fun lk M => ⟨rfl, rfl⟩) ((fsF94 N lk M).symm.trans h)
def cvce94n0 : List Cv := []
def selce94n0 : St → List Nat := fun st => [(Eng.look st.env 2).id]
noncomputable def ce94n0 (Fx : TF94) (R : Type) (test : List AV → List Blk → Bool) : CE R := ⟨94, test, fun args M => some (selce94n0 ⟨argEnv 0 args, M, [], .unk⟩), fun args M k => tst (Nat.beq args.length 3) (callFn CX 1 cvce94n0 sgF94 selce94n0 (FFF94 Fx) elF94 args M k)⟩
theorem okce94n0 (Fx : TF94) (h : RecOkF94 Fx) (R : Type) (test : List AV → List Blk → Bool) : CeOk CX (ce94n0 Fx R test) := ce_ok hX (fun o k => by cases o; rfl) h en94 (fun args M ids h => by injection h with h; exact ⟨rfl, h.symm⟩)
end Go.Proofs.Ytnfmdenclkdmbaa

namespace Go.Proofs.Ytnfmdenclkdmbaa
open Go Go.Eng
set_option maxRecDepth 100000

/-! ### F69: ceiling/num.operators.2 -/
inductive R69 where
  | r (x0 : Int)
abbrev TF69 := Int → Int → Option R69
def sgF69 : LSh := ⟨[(0, .one (.cell (.int .i64))), (1, .one (.cell (.int .i64)))], []⟩
def FFF69 (Fx : TF69) (s : St) : Option R69 := Fx ((Eng.look s.env 0).toI) ((Eng.look s.env 1).toI)
def valF69 (o : R69) : AV := match o with | .r x0 => .int .i64 x0
def memF69 (o : R69) : List Blk := match o with | .r x0 => []
def elF69 {R : Type} (o : R69) (k : AV → List Blk → Option R) : Option R := match o with | .r x0 => k (.int .i64 x0) []
def RecOkF69 (Fx : TF69) : Prop := ∀ lk M o, FFF69 Fx (canS sgF69 lk M) = some o → FCalls CX 69 0 (argsE 2 (canS sgF69 lk M).env) (canS sgF69 lk M).mem (valF69 o) (memF69 o)
noncomputable def csF69 (N : Nat) (R : Type) : List (CE R) := []
theorem hcsF69 (N : Nat) (R : Type) : AllE (CeOk CX) (csF69 N R) := trivial
noncomputable def T69ur1 (N : Nat) (R : Type) : LTab R := mkTab ⟨8, 255⟩ (csF69 N R) (noY) [] [] []
theorem okT69ur1 (N : Nat) (R : Type) : (T69ur1 N R).Ok CX code69 := mkTab_ok (hcsF69 N R) (noY_ok) (trivial) (trivial) (trivial)
def rsF69 : List ResultVar := [.tmp 4]
def F69 : Nat → TF69
  | 0 => fun _ _ => none
  | N + 1 => fun x0 x1 =>
    some (.r (IntKind.wrap .i64 (x0 - x1)))
def xRF69 : XSh R69 := ⟨[], ⟨[(0, .one (.cell (.int .i64)))], []⟩, fun _ => [], fun s => .r ((Eng.look s.env 0).toI)⟩
theorem fsF69 : ∀ (N : Nat) (lk : Nat → AV) (M : List Blk), FFF69 (F69 (N + 1)) (canS sgF69 lk M) = evfn CX (T69ur1 N R69) code69 rsF69 (argsE 2 (canS sgF69 lk M).env) (canS sgF69 lk M).mem (goR CX 0 (fun _ => some xRF69)) := by intro N lk M; kernel_rfl
theorem soundF69 : ∀ N, RecOkF69 (F69 N)
  | 0, lk, M, o, h => by cases h
  | N + 1, lk, M, o, h => fn_sound hX (okT69ur1 N R69) Try.func69 hb69 rfl en69 (by kernel_rfl) (ys := fun _ => some xRF69) (fun st y h => by injection h with h; subst h; exact fun lk M => ⟨rfl, rfl⟩) ((fsF69 N lk M).symm.trans h)
def cvce69n0 : List Cv := []
def selce69n0 : St → List Nat := fun _ => []
noncomputable def ce69n0 (Fx : TF69) (R : Type) (test : List AV → List Blk → Bool) : CE R := ⟨69, test, fun args M => some (selce69n0 ⟨argEnv 0 args, M, [], .unk⟩), fun args M k => tst (Nat.beq args.length 2) (callFn CX 0 cvce69n0 sgF69 selce69n0 (FFF69 Fx) elF69 args M k)⟩
theorem okce69n0 (Fx : TF69) (h : RecOkF69 Fx) (R : Type) (test : List AV → List Blk → Bool) : CeOk CX (ce69n0 Fx R test) := ce_ok hX (fun o k => by cases o; rfl) h en69 (fun args M ids h => by injection h with h; exact ⟨rfl, h.symm⟩)
end Go.Proofs.Ytnfmdenclkdmbaa

namespace Go.Proofs.Ytnfmdenclkdmbaa
open Go Go.Eng
set_option maxRecDepth 100000

/-! ### F94v1: ceiling/num.always.1 -/
inductive R94v1 where
  | r (x0 : Int) (x1 : Bool)
abbrev TF94v1 := Int → Int → Option R94v1
def sgF94v1 : LSh := ⟨[(0, .one (.cell (.int .i64))), (1, .one (.cell (.int .i64))), (2, .one (.ptr 0 0 0))], [.var [.any] [.fn 69]]⟩
def FFF94v1 (Fx : TF94v1) (s : St) : Option R94v1 := Fx ((Eng.look s.env 0).toI) ((Eng.look s.env 1).toI)
def valF94v1 (o : R94v1) : AV := match o with | .r x0 x1 => .tup [.int .i64 x0, .bool x1]
def memF94v1 (o : R94v1) : List Blk := match o with | .r x0 x1 => [.var [.any] [.clos 69 [] []]]
def elF94v1 {R : Type} (o : R94v1) (k : AV → List Blk → Option R) : Option R := match o with | .r x0 x1 => k (.tup [.int .i64 x0, .bool x1]) [.var [.any] [.clos 69 [] []]]
def RecOkF94v1 (Fx : TF94v1) : Prop := ∀ lk M o, FFF94v1 Fx (canS sgF94v1 lk M) = some o → FCalls CX 94 1 (argsE 3 (canS sgF94v1 lk M).env) (canS sgF94v1 lk M).mem (valF94v1 o) (memF94v1 o)
noncomputable def csF94v1 (N : Nat) (R : Type) : List (CE R) := [ce69n0 (F69 N) R (fun _ _ => true)]
theorem hcsF94v1 (N : Nat) (R : Type) : AllE (CeOk CX) (csF94v1 N R) := ⟨okce69n0 (F69 N) (soundF69 N) R (fun _ _ => true), trivial⟩
noncomputable def T94v1ur1 (N : Nat) (R : Type) : LTab R := mkTab ⟨11, 2047⟩ (csF94v1 N R) (noY) [] [] []
theorem okT94v1ur1 (N : Nat) (R : Type) : (T94v1ur1 N R).Ok CX code94 := mkTab_ok (hcsF94v1 N R) (noY_ok) (trivial) (trivial) (trivial)
def rsF94v1 : List ResultVar := [.tmp 5, .tmp 6]
def F94v1 : Nat → TF94v1
  | 0 => fun _ _ => none
  | N + 1 => fun x0 x1 =>
    match F69 N x0 x1 with
    | none => none
    | some (.r rx0v1) =>
      some (.r rx0v1 true)
def xRF94v1 : XSh R94v1 := ⟨[], ⟨[(0, .one (.cell (.int .i64))), (1, .one (.cell (.bool)))], [.var [.any] [.fn 69]]⟩, fun st => [0], fun s => .r ((Eng.look s.env 0).toI) ((Eng.look s.env 1).toB)⟩
theorem fsF94v1 : ∀ (N : Nat) (lk : Nat → AV) (M : List Blk), FFF94v1 (F94v1 (N + 1)) (canS sgF94v1 lk M) = evfn CX (T94v1ur1 N R94v1) code94 rsF94v1 (argsE 3 (canS sgF94v1 lk M).env) (canS sgF94v1 lk M).mem (goRt CX 1 2 (fun _ => some xRF94v1)) := by intro N lk M; kernel_rfl
theorem soundF94v1 : ∀ N, RecOkF94v1 (F94v1 N)
  | 0, lk, M, o, h => by cases h
  | N + 1, lk, M, o, h => fn_soundt hX (okT94v1ur1 N R94v1) Try.func94 hb94 rfl en94 (by kernel_rfl) (ys := fun _ => some xRF94v1) (fun st y h => by injection h with h; subst h; exact fun lk M => ⟨rfl, rfl⟩) ((fsF94v1 N lk M).symm.trans h)
def cvce94v1n0 : List Cv := []
def selce94v1n0 : St → List Nat := fun st => [(Eng.look st.env 2).id]
noncomputable def ce94v1n0 (Fx : TF94v1) (R : Type) (test : List AV → List Blk → Bool) : CE R := ⟨94, test, fun args M => some (selce94v1n0 ⟨argEnv 0 args, M, [], .unk⟩), fun args M k => tst (Nat.beq args.length 3) (callFn CX 1 cvce94v1n0 sgF94v1 selce94v1n0 (FFF94v1 Fx) elF94v1 args M k)⟩
theorem okce94v1n0 (Fx : TF94v1) (h : RecOkF94v1 Fx) (R : Type) (test : List AV → List Blk → Bool) : CeOk CX (ce94v1n0 Fx R test) := ce_ok hX (fun o k => by cases o; rfl) h en94 (fun args M ids h => by injection h with h; exact ⟨rfl, h.symm⟩)
end Go.Proofs.Ytnfmdenclkdmbaa

namespace Go.Proofs.Ytnfmdenclkdmbaa
open Go Go.Eng
set_option maxRecDepth 100000

/-! ### F70: ceiling/num.operators.3 -/
inductive R70 where
  | r (x0 : Int)
abbrev TF70 := Int → Int → Option R70
def sgF70 : LSh := ⟨[(0, .one (.cell (.int .i64))), (1, .one (.cell (.int .i64)))], []⟩
def FFF70 (Fx : TF70) (s : St) : Option R70 := Fx ((Eng.look s.env 0).toI) ((Eng.look s.env 1).toI)
def valF70 (o : R70) : AV := match o with | .r x0 => .int .i64 x0
def memF70 (o : R70) : List Blk := match o with | .r x0 => []
def elF70 {R : Type} (o : R70) (k : AV → List Blk → Option R) : Option R := match o with | .r x0 => k (.int .i64 x0) []
def RecOkF70 (Fx : TF70) : Prop := ∀ lk M o, FFF70 Fx (canS sgF70 lk M) = some o → FCalls CX 70 0 (argsE 2 (canS sgF70 lk M).env) (canS sgF70 lk M).mem (valF70 o) (memF70 o)
noncomputable def csF70 (N : Nat) (R : Type) : List (CE R) := []
theorem hcsF70 (N : Nat) (R : Type) : AllE (CeOk CX) (csF70 N R) := trivial
noncomputable def T70ur1 (N : Nat) (R : Type) : LTab R := mkTab ⟨8, 255⟩ (csF70 N R) (noY) [] [] []
theorem okT70ur1 (N : Nat) (R : Type) : (T70ur1 N R).Ok CX code70 := mkTab_ok (hcsF70 N R) (noY_ok) (trivial) (trivial) (trivial)
def rsF70 : List ResultVar := [.tmp 4]
def F70 : Nat → TF70
  | 0 => fun _ _ => none
  | N + 1 => fun x0 x1 =>
    some (.r (IntKind.wrap .i64 (x0 * x1)))
def xRF70 : XSh R70 := ⟨[], ⟨[(0, .one (.cell (.int .i64)))], []⟩, fun _ => [], fun s => .r ((Eng.look s.env 0).toI)⟩
theorem fsF70 : ∀ (N : Nat) (lk : Nat → AV) (M : List Blk), FFF70 (F70 (N + 1)) (canS sgF70 lk M) = evfn CX (T70ur1 N R70) code70 rsF70 (argsE 2 (canS sgF70 lk M).env) (canS sgF70 lk M).mem (goR CX 0 (fun _ => some xRF70)) := by intro N lk M; kernel_rfl
theorem soundF70 : ∀ N, RecOkF70 (F70 N)
  | 0, lk, M, o, h => by cases h
  | N + 1, lk, M, o, h => fn_sound hX (okT70ur1 N R70) Try.func70 hb70 rfl en70 (by kernel_rfl) (ys := fun _ => some xRF70) (fun st y h => by injection h with h; subst h; exact fun lk M => ⟨rfl, rfl⟩) ((fsF70 N lk M).symm.trans h)
def cvce70n0 : List Cv := []
def selce70n0 : St → List Nat := fun _ => []
noncomputable def ce70n0 (Fx : TF70) (R : Type) (test : List AV → List Blk → Bool) : CE R := ⟨70, test, fun args M => some (selce70n0 ⟨argEnv 0 args, M, [], .unk⟩), fun args M k => tst (Nat.beq args.length 2) (callFn CX 0 cvce70n0 sgF70 selce70n0 (FFF70 Fx) elF70 args M k)⟩
theorem okce70n0 (Fx : TF70) (h : RecOkF70 Fx) (R : Type) (test : List AV → List Blk → Bool) : CeOk CX (ce70n0 Fx R test) := ce_ok hX (fun o k => by cases o; rfl) h en70 (fun args M ids h => by injection h with h; exact ⟨rfl, h.symm⟩)
end Go.Proofs.Ytnfmdenclkdmbaa

namespace Go.Proofs.Ytnfmdenclkdmbaa
open Go Go.Eng
set_option maxRecDepth 100000

/-! ### F94v2: ceiling/num.always.1 -/
inductive R94v2 where
  | r (x0 : Int) (x1 : Bool)
abbrev TF94v2 := Int → Int → Option R94v2
def sgF94v2 : LSh := ⟨[(0, .one (.cell (.int .i64))), (1, .one (.cell (.int .i64))), (2, .one (.ptr 0 0 0))], [.var [.any] [.fn 70]]⟩
def FFF94v2 (Fx : TF94v2) (s : St) : Option R94v2 := Fx ((Eng.look s.env 0).toI) ((Eng.look s.env 1).toI)
def valF94v2 (o : R94v2) : AV := match o with | .r x0 x1 => .tup [.int .i64 x0, .bool x1]
def memF94v2 (o : R94v2) : List Blk := match o with | .r x0 x1 => [.var [.any] [.clos 70 [] []]]
def elF94v2 {R : Type} (o : R94v2) (k : AV → List Blk → Option R) : Option R := match o with | .r x0 x1 => k (.tup [.int .i64 x0, .bool x1]) [.var [.any] [.clos 70 [] []]]
def RecOkF94v2 (Fx : TF94v2) : Prop := ∀ lk M o, FFF94v2 Fx (canS sgF94v2 lk M) = some o → FCalls CX 94 1 (argsE 3 (canS sgF94v2 lk M).env) (canS sgF94v2 lk M).mem (valF94v2 o) (memF94v2 o)
noncomputable def csF94v2 (N : Nat) (R : Type) : List (CE R) := [ce70n0 (F70 N) R (fun _ _ => true)]
theorem hcsF94v2 (N : Nat) (R : Type) : AllE (CeOk CX) (csF94v2 N R) := ⟨okce70n0 (F70 N) (soundF70 N) R (fun _ _ => true), trivial⟩
noncomputable def T94v2ur1 (N : Nat) (R : Type) : LTab R := mkTab ⟨11, 2047⟩ (csF94v2 N R) (noY) [] [] []
theorem okT94v2ur1 (N : Nat) (R : Type) : (T94v2ur1 N R).Ok CX code94 := mkTab_ok (hcsF94v2 N R) (noY_ok) (trivial) (trivial) (trivial)
def rsF94v2 : List ResultVar := [.tmp 5, .tmp 6]
def F94v2 : Nat → TF94v2
  | 0 => fun _ _ => none
  | N + 1 => fun x0 x1 =>
    match F70 N x0 x1 with
    | none => none
    | some (.r rx0v1) =>
      some (.r rx0v1 true)
def xRF94v2 : XSh R94v2 := ⟨[], ⟨[(0, .one (.cell (.int .i64))), (1, .one (.cell (.bool)))], [.var [.any] [.fn 70]]⟩, fun st => [0], fun s => .r ((Eng.look s.env 0).toI) ((Eng.look s.env 1).toB)⟩
theorem fsF94v2 : ∀ (N : Nat) (lk : Nat → AV) (M : List Blk), FFF94v2 (F94v2 (N + 1)) (canS sgF94v2 lk M) = evfn CX (T94v2ur1 N R94v2) code94 rsF94v2 (argsE 3 (canS sgF94v2 lk M).env) (canS sgF94v2 lk M).mem (goRt CX 1 2 (fun _ => some xRF94v2)) := by intro N lk M; kernel_rfl
theorem soundF94v2 : ∀ N, RecOkF94v2 (F94v2 N)
  | 0, lk, M, o, h => by cases h
  | N + 1, lk, M, o, h => fn_soundt hX (okT94v2ur1 N R94v2) Try.func94 hb94 rfl en94 (by kernel_rfl) (ys := fun _ => some xRF94v2) (fun st y h => by injection h with h; subst h; exact fun lk M => ⟨rfl, rfl⟩) ((fsF94v2 N lk M).symm.trans h)
def cvce94v2n0 : List Cv := []
def selce94v2n0 : St → List Nat := fun st => [(Eng.look st.env 2).id]
noncomputable def ce94v2n0 (Fx : TF94v2) (R : Type) (test : List AV → List Blk → Bool) : CE R := ⟨94, test, fun args M => some (selce94v2n0 ⟨argEnv 0 args, M, [], .unk⟩), fun args M k => tst (Nat.beq args.length 3) (callFn CX 1 cvce94v2n0 sgF94v2 selce94v2n0 (FFF94v2 Fx) elF94v2 args M k)⟩
theorem okce94v2n0 (Fx : TF94v2) (h : RecOkF94v2 Fx) (R : Type) (test : List AV → List Blk → Bool) : CeOk CX (ce94v2n0 Fx R test) := ce_ok hX (fun o k => by cases o; rfl) h en94 (fun args M ids h => by injection h with h; exact ⟨rfl, h.symm⟩)
end Go.Proofs.Ytnfmdenclkdmbaa

namespace Go.Proofs.Ytnfmdenclkdmbaa
open Go Go.Eng
set_option maxRecDepth 100000

/-! ### F72: ceiling/num.operators.4 -/
inductive R72 where
  | r (x0 : Int)
abbrev TF72 := Int → Int → Option R72
def sgF72 : LSh := ⟨[(0, .one (.cell (.int .i64))), (1, .one (.cell (.int .i64)))], []⟩
def FFF72 (Fx : TF72) (s : St) : Option R72 := Fx ((Eng.look s.env 0).toI) ((Eng.look s.env 1).toI)
def valF72 (o : R72) : AV := match o with | .r x0 => .int .i64 x0
def memF72 (o : R72) : List Blk := match o with | .r x0 => []
def elF72 {R : Type} (o : R72) (k : AV → List Blk → Option R) : Option R := match o with | .r x0 => k (.int .i64 x0) []
def RecOkF72 (Fx : TF72) : Prop := ∀ lk M o, FFF72 Fx (canS sgF72 lk M) = some o → FCalls CX 72 0 (argsE 2 (canS sgF72 lk M).env) (canS sgF72 lk M).mem (valF72 o) (memF72 o)
noncomputable def csF72 (N : Nat) (R : Type) : List (CE R) := []
theorem hcsF72 (N : Nat) (R : Type) : AllE (CeOk CX) (csF72 N R) := trivial
noncomputable def T72ur1 (N : Nat) (R : Type) : LTab R := mkTab ⟨8, 255⟩ (csF72 N R) (noY) [] [] []
theorem okT72ur1 (N : Nat) (R : Type) : (T72ur1 N R).Ok CX code72 := mkTab_ok (hcsF72 N R) (noY_ok) (trivial) (trivial) (trivial)
def rsF72 : List ResultVar := [.tmp 4]
def F72 : Nat → TF72
  | 0 => fun _ _ => none
  | N + 1 => fun x0 x1 =>
    tst (!(x1 == 0)) <|
    some (.r (IntKind.wrap .i64 (Int.tdiv x0 x1)))
def xRF72 : XSh R72 := ⟨[], ⟨[(0, .one (.cell (.int .i64)))], []⟩, fun _ => [], fun s => .r ((Eng.look s.env 0).toI)⟩
theorem fsF72 : ∀ (N : Nat) (lk : Nat → AV) (M : List Blk), FFF72 (F72 (N + 1)) (canS sgF72 lk M) = evfn CX (T72ur1 N R72) code72 rsF72 (argsE 2 (canS sgF72 lk M).env) (canS sgF72 lk M).mem (goR CX 0 (fun _ => some xRF72)) := by intro N lk M; kernel_rfl
theorem soundF72 : ∀ N, RecOkF72 (F72 N)
  | 0, lk, M, o, h => by cases h
  | N + 1, lk, M, o, h => fn_sound hX (okT72ur1 N R72) Try.func72 hb72 rfl en72 (by kernel_rfl) (ys := fun _ => some xRF72) (fun st y h => by injection h with h; subst h; exact fun lk M => ⟨rfl, rfl⟩) ((fsF72 N lk M).symm.trans h)
def cvce72n0 : List Cv := []
def selce72n0 : St → List Nat := fun _ => []
noncomputable def ce72n0 (Fx : TF72) (R : Type) (test : List AV → List Blk → Bool) : CE R := ⟨72, test, fun args M => some (selce72n0 ⟨argEnv 0 args, M, [], .unk⟩), fun args M k => tst (Nat.beq args.length 2) (callFn CX 0 cvce72n0 sgF72 selce72n0 (FFF72 Fx) elF72 args M k)⟩
theorem okce72n0 (Fx : TF72) (h : RecOkF72 Fx) (R : Type) (test : List AV → List Blk → Bool) : CeOk CX (ce72n0 Fx R test) := ce_ok hX (fun o k => by cases o; rfl) h en72 (fun args M ids h => by injection h with h; exact ⟨rfl, h.symm⟩)
end Go.Proofs.Ytnfmdenclkdmbaa

namespace Go.Proofs.Ytnfmdenclkdmbaa
open Go Go.Eng
set_option maxRecDepth 100000

/-! ### F95: ceiling/num.division.1 -/
inductive R95 where
  | r (x0 : Int) (x1 : Bool)
abbrev TF95 := Int → Int → Option R95
def sgF95 : LSh := ⟨[(0, .one (.cell (.int .i64))), (1, .one (.cell (.int .i64))), (2, .one (.ptr 0 0 0))], [.var [.any] [.fn 72]]⟩
def FFF95 (Fx : TF95) (s : St) : Option R95 := Fx ((Eng.look s.env 0).toI) ((Eng.look s.env 1).toI)
def valF95 (o : R95) : AV := match o with | .r x0 x1 => .tup [.int .i64 x0, .bool x1]
def memF95 (o : R95) : List Blk := match o with | .r x0 x1 => [.var [.any] [.clos 72 [] []]]
def elF95 {R : Type} (o : R95) (k : AV → List Blk → Option R) : Option R := match o with | .r x0 x1 => k (.tup [.int .i64 x0, .bool x1]) [.var [.any] [.clos 72 [] []]]
def RecOkF95 (Fx : TF95) : Prop := ∀ lk M o, FFF95 Fx (canS sgF95 lk M) = some o → FCalls CX 95 1 (argsE 3 (canS sgF95 lk M).env) (canS sgF95 lk M).mem (valF95 o) (memF95 o)
noncomputable def csF95 (N : Nat) (R : Type) : List (CE R) := [ce72n0 (F72 N) R (fun _ _ => true)]
theorem hcsF95 (N : Nat) (R : Type) : AllE (CeOk CX) (csF95 N R) := ⟨okce72n0 (F72 N) (soundF72 N) R (fun _ _ => true), trivial⟩
noncomputable def T95ur1 (N : Nat) (R : Type) : LTab R := mkTab ⟨13, 8191⟩ (csF95 N R) (noY) [] [] []
theorem okT95ur1 (N : Nat) (R : Type) : (T95ur1 N R).Ok CX code95 := mkTab_ok (hcsF95 N R) (noY_ok) (trivial) (trivial) (trivial)
def rsF95 : List ResultVar := [.tmp 5, .tmp 6]
def F95 : Nat → TF95
  | 0 => fun _ _ => none
  | N + 1 => fun x0 x1 =>
    match x1 == (0 : Int) with
    | true =>
      some (.r 0 false)
    | false =>
      match F72 N x0 x1 with
      | none => none
      | some (.r rx0v1) =>
        some (.r rx0v1 true)
def xRF95 : XSh R95 := ⟨[], ⟨[(0, .one (.cell (.int .i64))), (1, .one (.cell (.bool)))], [.var [.any] [.fn 72]]⟩, fun st => [0], fun s => .r ((Eng.look s.env 0).toI) ((Eng.look s.env 1).toB)⟩
theorem fsF95 : ∀ (N : Nat) (lk : Nat → AV) (M : List Blk), FFF95 (F95 (N + 1)) (canS sgF95 lk M) = evfn CX (T95ur1 N R95) code95 rsF95 (argsE 3 (canS sgF95 lk M).env) (canS sgF95 lk M).mem (goRt CX 1 2 (fun _ => some xRF95)) := by intro N lk M; kernel_rfl
theorem soundF95 : ∀ N, RecOkF95 (F95 N)
  | 0, lk, M, o, h => by cases h
  | N + 1, lk, M, o, h => fn_soundt hX (okT95ur1 N R95) Try.func95 hb95 rfl en95 (by kernel_rfl) (ys := fun _ => some xRF95) (fun st y h => by injection h with h; subst h; exact fun lk M => ⟨rfl, rfl⟩) ((fsF95 N lk M).symm.trans h)
def cvce95n0 : List Cv := []
def selce95n0 : St → List Nat := fun st => [(Eng.look st.env 2).id]
noncomputable def ce95n0 (Fx : TF95) (R : Type) (test : List AV → List Blk → Bool) : CE R := ⟨95, test, fun args M => some (selce95n0 ⟨argEnv 0 args, M, [], .unk⟩), fun args M k => tst (Nat.beq args.length 3) (callFn CX 1 cvce95n0 sgF95 selce95n0 (FFF95 Fx) elF95 args M k)⟩
theorem okce95n0 (Fx : TF95) (h : RecOkF95 Fx) (R : Type) (test : List AV → List Blk → Bool) : CeOk CX (ce95n0 Fx R test) := ce_ok hX (fun o k => by cases o; rfl) h en95 (fun args M ids h => by injection h with h; exact ⟨rfl, h.symm⟩)
end Go.Proofs.Ytnfmdenclkdmbaa

namespace Go.Proofs.Ytnfmdenclkdmbaa
open Go Go.Eng
set_option maxRecDepth 100000

/-! ### F73: ceiling/num.operators.5 -/
inductive R73 where
  | r (x0 : Int)
abbrev TF73 := Int → Int → Option R73
def sgF73 : LSh := ⟨[(0, .one (.cell (.int .i64))), (1, .one (.cell (.int .i64)))], []⟩
def FFF73 (Fx : TF73) (s : St) : Option R73 := Fx ((Eng.look s.env 0).toI) ((Eng.look s.env 1).toI)
def valF73 (o : R73) : AV := match o with | .r x0 => .int .i64 x0
def memF73 (o : R73) : List Blk := match o with | .r x0 => []
def elF73 {R : Type} (o : R73) (k : AV → List Blk → Option R) : Option R := match o with | .r x0 => k (.int .i64 x0) []
def RecOkF73 (Fx : TF73) : Prop := ∀ lk M o, FFF73 Fx (canS sgF73 lk M) = some o → FCalls CX 73 0 (argsE 2 (canS sgF73 lk M).env) (canS sgF73 lk M).mem (valF73 o) (memF73 o)
noncomputable def csF73 (N : Nat) (R : Type) : List (CE R) := []
theorem hcsF73 (N : Nat) (R : Type) : AllE (CeOk CX) (csF73 N R) := trivial
noncomputable def T73ur1 (N : Nat) (R : Type) : LTab R := mkTab ⟨8, 255⟩ (csF73 N R) (noY) [] [] []
theorem okT73ur1 (N : Nat) (R : Type) : (T73ur1 N R).Ok CX code73 := mkTab_ok (hcsF73 N R) (noY_ok) (trivial) (trivial) (trivial)
def rsF73 : List ResultVar := [.tmp 4]
def F73 : Nat → TF73
  | 0 => fun _ _ => none
  | N + 1 => fun x0 x1 =>
    tst (!(x1 == 0)) <|
    some (.r (Int.tmod x0 x1))
def xRF73 : XSh R73 := ⟨[], ⟨[(0, .one (.cell (.int .i64)))], []⟩, fun _ => [], fun s => .r ((Eng.look s.env 0).toI)⟩
theorem fsF73 : ∀ (N : Nat) (lk : Nat → AV) (M : List Blk), FFF73 (F73 (N + 1)) (canS sgF73 lk M) = evfn CX (T73ur1 N R73) code73 rsF73 (argsE 2 (canS sgF73 lk M).env) (canS sgF73 lk M).mem (goR CX 0 (fun _ => some xRF73)) := by intro N lk M; kernel_rfl
theorem soundF73 : ∀ N, RecOkF73 (F73 N)
  | 0, lk, M, o, h => by cases h
  | N + 1, lk, M, o, h => fn_sound hX (okT73ur1 N R73) Try.func73 hb73 rfl en73 (by kernel_rfl) (ys := fun _ => some xRF73) (fun st y h => by injection h with h; subst h; exact fun lk M => ⟨rfl, rfl⟩) ((fsF73 N lk M).symm.trans h)
def cvce73n0 : List Cv := []
def selce73n0 : St → List Nat := fun _ => []
noncomputable def ce73n0 (Fx : TF73) (R : Type) (test : List AV → List Blk → Bool) : CE R := ⟨73, test, fun args M => some (selce73n0 ⟨argEnv 0 args, M, [], .unk⟩), fun args M k => tst (Nat.beq args.length 2) (callFn CX 0 cvce73n0 sgF73 selce73n0 (FFF73 Fx) elF73 args M k)⟩
theorem okce73n0 (Fx : TF73) (h : RecOkF73 Fx) (R : Type) (test : List AV → List Blk → Bool) : CeOk CX (ce73n0 Fx R test) := ce_ok hX (fun o k => by cases o; rfl) h en73 (fun args M ids h => by injection h with h; exact ⟨rfl, h.symm⟩)
end Go.Proofs.Ytnfmdenclkdmbaa

namespace Go.Proofs.Ytnfmdenclkdmbaa
open Go Go.Eng
set_option maxRecDepth 100000

/-! ### F95v1: ceiling/num.division.1 -/
inductive R95v1 where
  | r (x0 : Int) (x1 : Bool)
abbrev TF95v1 := Int → Int → Option R95v1
def sgF95v1 : LSh := ⟨[(0, .one (.cell (.int .i64))), (1, .one (.cell (.int .i64))), (2, .one (.ptr 0 0 0))], [.var [.any] [.fn 73]]⟩
def FFF95v1 (Fx : TF95v1) (s : St) : Option R95v1 := Fx ((Eng.look s.env 0).toI) ((Eng.look s.env 1).toI)
def valF95v1 (o : R95v1) : AV := match o with | .r x0 x1 => .tup [.int .i64 x0, .bool x1]
def memF95v1 (o : R95v1) : List Blk := match o with | .r x0 x1 => [.var [.any] [.clos 73 [] []]]
def elF95v1 {R : Type} (o : R95v1) (k : AV → List Blk → Option R) : Option R := match o with | .r x0 x1 => k (.tup [.int .i64 x0, .bool x1]) [.var [.any] [.clos 73 [] []]]
def RecOkF95v1 (Fx : TF95v1) : Prop := ∀ lk M o, FFF95v1 Fx (canS sgF95v1 lk M) = some o → FCalls CX 95 1 (argsE 3 (canS sgF95v1 lk M).env) (canS sgF95v1 lk M).mem (valF95v1 o) (memF95v1 o)
noncomputable def csF95v1 (N : Nat) (R : Type) : List (CE R) := [ce73n0 (F73 N) R (fun _ _ => true)]
theorem hcsF95v1 (N : Nat) (R : Type) : AllE (CeOk CX) (csF95v1 N R) := ⟨okce73n0 (F73 N) (soundF73 N) R (fun _ _ => true), trivial⟩
noncomputable def T95v1ur1 (N : Nat) (R : Type) : LTab R := mkTab ⟨13, 8191⟩ (csF95v1 N R) (noY) [] [] []
theorem okT95v1ur1 (N : Nat) (R : Type) : (T95v1ur1 N R).Ok CX code95 := mkTab_ok (hcsF95v1 N R) (noY_ok) (trivial) (trivial) (trivial)
def rsF95v1 : List ResultVar := [.tmp 5, .tmp 6]
def F95v1 : Nat → TF95v1
  | 0 => fun _ _ => none
  | N + 1 => fun x0 x1 =>
    match x1 == (0 : Int) with
    | true =>
      some (.r 0 false)
    | false =>
      match F73 N x0 x1 with
      | none => none
      | some (.r rx0v1) =>
        some (.r rx0v1 true)
def xRF95v1 : XSh R95v1 := ⟨[], ⟨[(0, .one (.cell (.int .i64))), (1, .one (.cell (.bool)))], [.var [.any] [.fn 73]]⟩, fun st => [0], fun s => .r ((Eng.look s.env 0).toI) ((Eng.look s.env 1).toB)⟩
theorem fsF95v1 : ∀ (N : Nat) (lk : Nat → AV) (M : List Blk), FFF95v1 (F95v1 (N + 1)) (canS sgF95v1 lk M) = evfn CX (T95v1ur1 N R95v1) code95 rsF95v1 (argsE 3 (canS sgF95v1 lk M).env) (canS sgF95v1 lk M).mem (goRt CX 1 2 (fun _ => some xRF95v1)) := by intro N lk M; kernel_rfl
theorem soundF95v1 : ∀ N, RecOkF95v1 (F95v1 N)
  | 0, lk, M, o, h => by cases h
  | N + 1, lk, M, o, h => fn_soundt hX (okT95v1ur1 N R95v1) Try.func95 hb95 rfl en95 (by kernel_rfl) (ys := fun _ => some xRF95v1) (fun st y h => by injection h with h; subst h; exact fun lk M => ⟨rfl, rfl⟩) ((fsF95v1 N lk M).symm.trans h)
def cvce95v1n0 : List Cv := []
def selce95v1n0 : St → List Nat := fun st => [(Eng.look st.env 2).id]
noncomputable def ce95v1n0 (Fx : TF95v1) (R : Type) (test : List AV → List Blk → Bool) : CE R := ⟨95, test, fun args M => some (selce95v1n0 ⟨argEnv 0 args, M, [], .unk⟩), fun args M k => tst (Nat.beq args.length 3) (callFn CX 1 cvce95v1n0 sgF95v1 selce95v1n0 (FFF95v1 Fx) elF95v1 args M k)⟩
theorem okce95v1n0 (Fx : TF95v1) (h : RecOkF95v1 Fx) (R : Type) (test : List AV → List Blk → Bool) : CeOk CX (ce95v1n0 Fx R test) := ce_ok hX (fun o k => by cases o; rfl) h en95 (fun args M ids h => by injection h with h; exact ⟨rfl, h.symm⟩)
end Go.Proofs.Ytnfmdenclkdmbaa

namespace Go.Proofs.Ytnfmdenclkdmbaa
open Go Go.Eng
set_option maxRecDepth 100000

/-! ### F74: ceiling/num.modulus -/
inductive R74 where
  | r (x0 : Int)
abbrev TF74 := Int → Int → Option R74
def sgF74 : LSh := ⟨[(0, .one (.cell (.int .i64))), (1, .one (.cell (.int .i64)))], []⟩
def FFF74 (Fx : TF74) (s : St) : Option R74 := Fx ((Eng.look s.env 0).toI) ((Eng.look s.env 1).toI)
def valF74 (o : R74) : AV := match o with | .r x0 => .int .i64 x0
def memF74 (o : R74) : List Blk := match o with | .r x0 => []
def elF74 {R : Type} (o : R74) (k : AV → List Blk → Option R) : Option R := match o with | .r x0 => k (.int .i64 x0) []
def RecOkF74 (Fx : TF74) : Prop := ∀ lk M o, FFF74 Fx (canS sgF74 lk M) = some o → FCalls CX 74 0 (argsE 2 (canS sgF74 lk M).env) (canS sgF74 lk M).mem (valF74 o) (memF74 o)
noncomputable def csF74 (N : Nat) (R : Type) : List (CE R) := []
theorem hcsF74 (N : Nat) (R : Type) : AllE (CeOk CX) (csF74 N R) := trivial
noncomputable def T74ur1 (N : Nat) (R : Type) : LTab R := mkTab ⟨23, 8388607⟩ (csF74 N R) (noY) [] [] []
theorem okT74ur1 (N : Nat) (R : Type) : (T74ur1 N R).Ok CX code74 := mkTab_ok (hcsF74 N R) (noY_ok) (trivial) (trivial) (trivial)
def rsF74 : List ResultVar := [.tmp 4]
def F74 : Nat → TF74
  | 0 => fun _ _ => none
  | N + 1 => fun x0 x1 =>
    tst (!(x1 == 0)) <|
    match (Int.tmod x0 x1) == (0 : Int) with
    | true =>
      some (.r (Int.tmod x0 x1))
    | false =>
      match decide ((0 : Int) ≤ (IntKind.wrap .i64 ((BitVec.ofInt 64 (Int.tmod x0 x1) ^^^ BitVec.ofInt 64 x1).toNat : Int))) with
      | true =>
        some (.r (Int.tmod x0 x1))
      | false =>
        tst (!(x1 == 0)) <|
        some (.r (IntKind.wrap .i64 ((Int.tmod x0 x1) + x1)))
def xRF74 : XSh R74 := ⟨[], ⟨[(0, .one (.cell (.int .i64)))], []⟩, fun _ => [], fun s => .r ((Eng.look s.env 0).toI)⟩
theorem fsF74 : ∀ (N : Nat) (lk : Nat → AV) (M : List Blk), FFF74 (F74 (N + 1)) (canS sgF74 lk M) = evfn CX (T74ur1 N R74) code74 rsF74 (argsE 2 (canS sgF74 lk M).env) (canS sgF74 lk M).mem (goR CX 0 (fun _ => some xRF74)) := by intro N lk M; kernel_rfl
theorem soundF74 : ∀ N, RecOkF74 (F74 N)
  | 0, lk, M, o, h => by cases h
  | N + 1, lk, M, o, h => fn_sound hX (okT74ur1 N R74) Try.func74 hb74 rfl en74 (by kernel_rfl) (ys := fun _ => some xRF74) (fun st y h => by injection h with h; subst h; exact fun lk M => ⟨rfl, rfl⟩) ((fsF74 N lk M).symm.trans h)
def cvce74n0 : List Cv := []
def selce74n0 : St → List Nat := fun _ => []
noncomputable def ce74n0 (Fx : TF74) (R : Type) (test : List AV → List Blk → Bool) : CE R := ⟨74, test, fun args M => some (selce74n0 ⟨argEnv 0 args, M, [], .unk⟩), fun args M k => tst (Nat.beq args.length 2) (callFn CX 0 cvce74n0 sgF74 selce74n0 (FFF74 Fx) elF74 args M k)⟩
theorem okce74n0 (Fx : TF74) (h : RecOkF74 Fx) (R : Type) (test : List AV → List Blk → Bool) : CeOk CX (ce74n0 Fx R test) := ce_ok hX (fun o k => by cases o; rfl) h en74 (fun args M ids h => by injection h with h; exact ⟨rfl, h.symm⟩)
end Go.Proofs.Ytnfmdenclkdmbaa

namespace Go.Proofs.Ytnfmdenclkdmbaa
open Go Go.Eng
set_option maxRecDepth 100000

/-! ### F95v2: ceiling/num.division.1 -/
inductive R95v2 where
  | r (x0 : Int) (x1 : Bool)
abbrev TF95v2 := Int → Int → Option R95v2
def sgF95v2 : LSh := ⟨[(0, .one (.cell (.int .i64))), (1, .one (.cell (.int .i64))), (2, .one (.ptr 0 0 0))], [.var [.any] [.fn 74]]⟩
def FFF95v2 (Fx : TF95v2) (s : St) : Option R95v2 := Fx ((Eng.look s.env 0).toI) ((Eng.look s.env 1).toI)
def valF95v2 (o : R95v2) : AV := match o with | .r x0 x1 => .tup [.int .i64 x0, .bool x1]
def memF95v2 (o : R95v2) : List Blk := match o with | .r x0 x1 => [.var [.any] [.clos 74 [] []]]
def elF95v2 {R : Type} (o : R95v2) (k : AV → List Blk → Option R) : Option R := match o with | .r x0 x1 => k (.tup [.int .i64 x0, .bool x1]) [.var [.any] [.clos 74 [] []]]
def RecOkF95v2 (Fx : TF95v2) : Prop := ∀ lk M o, FFF95v2 Fx (canS sgF95v2 lk M) = some o → FCalls CX 95 1 (argsE 3 (canS sgF95v2 lk M).env) (canS sgF95v2 lk M).mem (valF95v2 o) (memF95v2 o)
noncomputable def csF95v2 (N : Nat) (R : Type) : List (CE R) := [ce74n0 (F74 N) R (fun _ _ => true)]
theorem hcsF95v2 (N : Nat) (R : Type) : AllE (CeOk CX) (csF95v2 N R) := ⟨okce74n0 (F74 N) (soundF74 N) R (fun _ _ => true), trivial⟩
noncomputable def T95v2ur1 (N : Nat) (R : Type) : LTab R := mkTab ⟨13, 8191⟩ (csF95v2 N R) (noY) [] [] []
theorem okT95v2ur1 (N : Nat) (R : Type) : (T95v2ur1 N R).Ok CX code95 := mkTab_ok (hcsF95v2 N R) (noY_ok) (trivial) (trivial) (trivial)
def rsF95v2 : List ResultVar := [.tmp 5, .tmp 6]
def F95v2 : Nat → TF95v2
  | 0 => fun _ _ => none
  | N + 1 => fun x0 x1 =>
    match x1 == (0 : Int) with
    | true =>
      some (.r 0 false)
    | false =>
      match F74 N x0 x1 with
      | none => none
      | some (.r rx0v1) =>
        some (.r rx0v1 true)
def xRF95v2 : XSh R95v2 := ⟨[], ⟨[(0, .one (.cell (.int .i64))), (1, .one (.cell (.bool)))], [.var [.any] [.fn 74]]⟩, fun st => [0], fun s => .r ((Eng.look s.env 0).toI) ((Eng.look s.env 1).toB)⟩
theorem fsF95v2 : ∀ (N : Nat) (lk : Nat → AV) (M : List Blk), FFF95v2 (F95v2 (N + 1)) (canS sgF95v2 lk M) = evfn CX (T95v2ur1 N R95v2) code95 rsF95v2 (argsE 3 (canS sgF95v2 lk M).env) (canS sgF95v2 lk M).mem (goRt CX 1 2 (fun _ => some xRF95v2)) := by intro N lk M; kernel_rfl
theorem soundF95v2 : ∀ N, RecOkF95v2 (F95v2 N)
  | 0, lk, M, o, h => by cases h
  | N + 1, lk, M, o, h => fn_soundt hX (okT95v2ur1 N R95v2) Try.func95 hb95 rfl en95 (by kernel_rfl) (ys := fun _ => some xRF95v2) (fun st y h => by injection h with h; subst h; exact fun lk M => ⟨rfl, rfl⟩) ((fsF95v2 N lk M).symm.trans h)
def cvce95v2n0 : List Cv := []
def selce95v2n0 : St → List Nat := fun st => [(Eng.look st.env 2).id]
noncomputable def ce95v2n0 (Fx : TF95v2) (R : Type) (test : List AV → List Blk → Bool) : CE R := ⟨95, test, fun args M => some (selce95v2n0 ⟨argEnv 0 args, M, [], .unk⟩), fun args M k => tst (Nat.beq args.length 3) (callFn CX 1 cvce95v2n0 sgF95v2 selce95v2n0 (FFF95v2 Fx) elF95v2 args M k)⟩
theorem okce95v2n0 (Fx : TF95v2) (h : RecOkF95v2 Fx) (R : Type) (test : List AV → List Blk → Bool) : CeOk CX (ce95v2n0 Fx R test) := ce_ok hX (fun o k => by cases o; rfl) h en95 (fun args M ids h => by injection h with h; exact ⟨rfl, h.symm⟩)
end Go.Proofs.Ytnfmdenclkdmbaa

namespace Go.Proofs.Ytnfmdenclkdmbaa
open Go Go.Eng
set_option maxRecDepth 100000

/-! ### F76: ceiling/num.operators.6 -/
inductive R76 where
  | r (x0 : Bool)
abbrev TF76 := Int → Int → Option R76
def sgF76 : LSh := ⟨[(0, .one (.cell (.int .i64))), (1, .one (.cell (.int .i64)))], []⟩
def FFF76 (Fx : TF76) (s : St) : Option R76 := Fx ((Eng.look s.env 0).toI) ((Eng.look s.env 1).toI)
def valF76 (o : R76) : AV := match o with | .r x0 => .bool x0
def memF76 (o : R76) : List Blk := match o with | .r x0 => []
def elF76 {R : Type} (o : R76) (k : AV → List Blk → Option R) : Option R := match o with | .r x0 => k (.bool x0) []
def RecOkF76 (Fx : TF76) : Prop := ∀ lk M o, FFF76 Fx (canS sgF76 lk M) = some o → FCalls CX 76 0 (argsE 2 (canS sgF76 lk M).env) (canS sgF76 lk M).mem (valF76 o) (memF76 o)
noncomputable def csF76 (N : Nat) (R : Type) : List (CE R) := []
theorem hcsF76 (N : Nat) (R : Type) : AllE (CeOk CX) (csF76 N R) := trivial
noncomputable def T76ur1 (N : Nat) (R : Type) : LTab R := mkTab ⟨8, 255⟩ (csF76 N R) (noY) [] [] []
theorem okT76ur1 (N : Nat) (R : Type) : (T76ur1 N R).Ok CX code76 := mkTab_ok (hcsF76 N R) (noY_ok) (trivial) (trivial) (trivial)
def rsF76 : List ResultVar := [.tmp 4]
def F76 : Nat → TF76
  | 0 => fun _ _ => none
  | N + 1 => fun x0 x1 =>
    some (.r (x0 == x1))
def xRF76 : XSh R76 := ⟨[], ⟨[(0, .one (.cell (.bool)))], []⟩, fun _ => [], fun s => .r ((Eng.look s.env 0).toB)⟩
theorem fsF76 : ∀ (N : Nat) (lk : Nat → AV) (M : List Blk), FFF76 (F76 (N + 1)) (canS sgF76 lk M) = evfn CX (T76ur1 N R76) code76 rsF76 (argsE 2 (canS sgF76 lk M).env) (canS sgF76 lk M).mem (goR CX 0 (fun _ => some xRF76)) := by intro N lk M; kernel_rfl
theorem soundF76 : ∀ N, RecOkF76 (F76 N)
  | 0, lk, M, o, h => by cases h
  | N + 1, lk, M, o, h => fn_sound hX (okT76ur1 N R76) Try.func76 hb76 rfl en76 (by kernel_rfl) (ys := fun _ => some xRF76) (fun st y h => by injection h with h; subst h; exact fun lk M => ⟨rfl, rfl⟩) ((fsF76 N lk M).symm.trans h)
def cvce76n0 : List Cv := []
def selce76n0 : St → List Nat := fun _ => []
noncomputable def ce76n0 (Fx : TF76) (R : Type) (test : List AV → List Blk → Bool) : CE R := ⟨76, test, fun args M => some (selce76n0 ⟨argEnv 0 args, M, [], .unk⟩), fun args M k => tst (Nat.beq args.length 2) (callFn CX 0 cvce76n0 sgF76 selce76n0 (FFF76 Fx) elF76 args M k)⟩
theorem okce76n0 (Fx : TF76) (h : RecOkF76 Fx) (R : Type) (test : List AV → List Blk → Bool) : CeOk CX (ce76n0 Fx R test) := ce_ok hX (fun o k => by cases o; rfl) h en76 (fun args M ids h => by injection h with h; exact ⟨rfl, h.symm⟩)
end Go.Proofs.Ytnfmdenclkdmbaa

namespace Go.Proofs.Ytnfmdenclkdmbaa
open Go Go.Eng
set_option maxRecDepth 100000

/-! ### F91: ceiling/num.truth -/
inductive R91 where
  | r (x0 : Int)
abbrev TF91 := Bool → Option R91
def sgF91 : LSh := ⟨[(0, .one (.cell (.bool)))], []⟩
def FFF91 (Fx : TF91) (s : St) : Option R91 := Fx ((Eng.look s.env 0).toB)
def valF91 (o : R91) : AV := match o with | .r x0 => .int .i64 x0
def memF91 (o : R91) : List Blk := match o with | .r x0 => []
def elF91 {R : Type} (o : R91) (k : AV → List Blk → Option R) : Option R := match o with | .r x0 => k (.int .i64 x0) []
def RecOkF91 (Fx : TF91) : Prop := ∀ lk M o, FFF91 Fx (canS sgF91 lk M) = some o → FCalls CX 91 0 (argsE 1 (canS sgF91 lk M).env) (canS sgF91 lk M).mem (valF91 o) (memF91 o)
noncomputable def csF91 (N : Nat) (R : Type) : List (CE R) := []
theorem hcsF91 (N : Nat) (R : Type) : AllE (CeOk CX) (csF91 N R) := trivial
noncomputable def T91ur1 (N : Nat) (R : Type) : LTab R := mkTab ⟨4, 15⟩ (csF91 N R) (noY) [] [] []
theorem okT91ur1 (N : Nat) (R : Type) : (T91ur1 N R).Ok CX code91 := mkTab_ok (hcsF91 N R) (noY_ok) (trivial) (trivial) (trivial)
def rsF91 : List ResultVar := [.tmp 2]
def F91 : Nat → TF91
  | 0 => fun _ => none
  | N + 1 => fun x0 =>
    match x0 with
    | true =>
      some (.r 1)
    | false =>
      some (.r 0)
def xRF91 : XSh R91 := ⟨[], ⟨[(0, .one (.cell (.int .i64)))], []⟩, fun _ => [], fun s => .r ((Eng.look s.env 0).toI)⟩
theorem fsF91 : ∀ (N : Nat) (lk : Nat → AV) (M : List Blk), FFF91 (F91 (N + 1)) (canS sgF91 lk M) = evfn CX (T91ur1 N R91) code91 rsF91 (argsE 1 (canS sgF91 lk M).env) (canS sgF91 lk M).mem (goR CX 0 (fun _ => some xRF91)) := by intro N lk M; kernel_rfl
theorem soundF91 : ∀ N, RecOkF91 (F91 N)
  | 0, lk, M, o, h => by cases h
  | N + 1, lk, M, o, h => fn_sound hX (okT91ur1 N R91) Try.func91 hb91 rfl en91 (by kernel_rfl) (ys := fun _ => some xRF91) (fun st y h => by injection h with h; subst h; exact fun lk M => ⟨rfl, rfl⟩) ((fsF91 N lk M).symm.trans h)
def cvce91n0 : List Cv := []
def selce91n0 : St → List Nat := fun _ => []
noncomputable def ce91n0 (Fx : TF91) (R : Type) (test : List AV → List Blk → Bool) : CE R := ⟨91, test, fun args M => some (selce91n0 ⟨argEnv 0 args, M, [], .unk⟩), fun args M k => tst (Nat.beq args.length 1) (callFn CX 0 cvce91n0 sgF91 selce91n0 (FFF91 Fx) elF91 args M k)⟩
theorem okce91n0 (Fx : TF91) (h : RecOkF91 Fx) (R : Type) (test : List AV → List Blk → Bool) : CeOk CX (ce91n0 Fx R test) := ce_ok hX (fun o k => by cases o; rfl) h en91 (fun args M ids h => by injection h with h; exact ⟨rfl, h.symm⟩)
end Go.Proofs.Ytnfmdenclkdmbaa

namespace Go.Proofs.Ytnfmdenclkdmbaa
open Go Go.Eng
set_option maxRecDepth 100000

/-! ### F96: ceiling/num.relation.1 -/
inductive R96 where
  | r (x0 : Int) (x1 : Bool)
abbrev TF96 := Int → Int → Option R96
def sgF96 : LSh := ⟨[(0, .one (.cell (.int .i64))), (1, .one (.cell (.int .i64))), (2, .one (.ptr 0 0 0))], [.var [.any] [.fn 76]]⟩
def FFF96 (Fx : TF96) (s : St) : Option R96 := Fx ((Eng.look s.env 0).toI) ((Eng.look s.env 1).toI)
def valF96 (o : R96) : AV := match o with | .r x0 x1 => .tup [.int .i64 x0, .bool x1]
def memF96 (o : R96) : List Blk := match o with | .r x0 x1 => [.var [.any] [.clos 76 [] []]]
def elF96 {R : Type} (o : R96) (k : AV → List Blk → Option R) : Option R := match o with | .r x0 x1 => k (.tup [.int .i64 x0, .bool x1]) [.var [.any] [.clos 76 [] []]]
def RecOkF96 (Fx : TF96) : Prop := ∀ lk M o, FFF96 Fx (canS sgF96 lk M) = some o → FCalls CX 96 1 (argsE 3 (canS sgF96 lk M).env) (canS sgF96 lk M).mem (valF96 o) (memF96 o)
noncomputable def csF96 (N : Nat) (R : Type) : List (CE R) := [ce76n0 (F76 N) R (fun _ _ => true), ce91n0 (F91 N) R (fun _ _ => true)]
theorem hcsF96 (N : Nat) (R : Type) : AllE (CeOk CX) (csF96 N R) := ⟨okce76n0 (F76 N) (soundF76 N) R (fun _ _ => true), okce91n0 (F91 N) (soundF91 N) R (fun _ _ => true), trivial⟩
noncomputable def T96ur1 (N : Nat) (R : Type) : LTab R := mkTab ⟨12, 4095⟩ (csF96 N R) (noY) [] [] []
theorem okT96ur1 (N : Nat) (R : Type) : (T96ur1 N R).Ok CX code96 := mkTab_ok (hcsF96 N R) (noY_ok) (trivial) (trivial) (trivial)
def rsF96 : List ResultVar := [.tmp 5, .tmp 6]
def F96 : Nat → TF96
  | 0 => fun _ _ => none
  | N + 1 => fun x0 x1 =>
    match F76 N x0 x1 with
    | none => none
    | some (.r rx0v1) =>
      match F91 N rx0v1 with
      | none => none
      | some (.r rx0v2) =>
        some (.r rx0v2 true)
def xRF96 : XSh R96 := ⟨[], ⟨[(0, .one (.cell (.int .i64))), (1, .one (.cell (.bool)))], [.var [.any] [.fn 76]]⟩, fun st => [0], fun s => .r ((Eng.look s.env 0).toI) ((Eng.look s.env 1).toB)⟩
theorem fsF96 : ∀ (N : Nat) (lk : Nat → AV) (M : List Blk), FFF96 (F96 (N + 1)) (canS sgF96 lk M) = evfn CX (T96ur1 N R96) code96 rsF96 (argsE 3 (canS sgF96 lk M).env) (canS sgF96 lk M).mem (goRt CX 1 2 (fun _ => some xRF96)) := by intro N lk M; kernel_rfl
theorem soundF96 : ∀ N, RecOkF96 (F96 N)
  | 0, lk, M, o, h => by cases h
  | N + 1, lk, M, o, h => fn_soundt hX (okT96ur1 N R96) Try.func96 hb96 rfl en96 (by kernel_rfl) (ys := fun _ => some xRF96) (fun st y h => by injection h with h; subst h; exact fun lk M => ⟨rfl, rfl⟩) ((fsF96 N lk M).symm.trans h)
def cvce96n0 : List Cv := []
def selce96n0 : St → List Nat := fun st => [(Eng.look st.env 2).id]
noncomputable def ce96n0 (Fx : TF96) (R : Type) (test : List AV → List Blk → Bool) : CE R := ⟨96, test, fun args M => some (selce96n0 ⟨argEnv 0 args, M, [], .unk⟩), fun args M k => tst (Nat.beq args.length 3) (callFn CX 1 cvce96n0 sgF96 selce96n0 (FFF96 Fx) elF96 args M k)⟩
theorem okce96n0 (Fx : TF96) (h : RecOkF96 Fx) (R : Type) (test : List AV → List Blk → Bool) : CeOk CX (ce96n0 Fx R test) := ce_ok hX (fun o k => by cases o; rfl) h en96 (fun args M ids h => by injection h with h; exact ⟨rfl, h.symm⟩)
end Go.Proofs.Ytnfmdenclkdmbaa

namespace Go.Proofs.Ytnfmdenclkdmbaa
open Go Go.Eng
set_option maxRecDepth 100000

/-! ### F77: ceiling/num.operators.7 -/
inductive R77 where
  | r (x0 : Bool)
abbrev TF77 := Int → Int → Option R77
def sgF77 : LSh := ⟨[(0, .one (.cell (.int .i64))), (1, .one (.cell (.int .i64)))], []⟩
def FFF77 (Fx : TF77) (s : St) : Option R77 := Fx ((Eng.look s.env 0).toI) ((Eng.look s.env 1).toI)
def valF77 (o : R77) : AV := match o with | .r x0 => .bool x0
def memF77 (o : R77) : List Blk := match o with | .r x0 => []
def elF77 {R : Type} (o : R77) (k : AV → List Blk → Option R) : Option R := match o with | .r x0 => k (.bool x0) []
def RecOkF77 (Fx : TF77) : Prop := ∀ lk M o, FFF77 Fx (canS sgF77 lk M) = some o → FCalls CX 77 0 (argsE 2 (canS sgF77 lk M).env) (canS sgF77 lk M).mem (valF77 o) (memF77 o)
noncomputable def csF77 (N : Nat) (R : Type) : List (CE R) := []
theorem hcsF77 (N : Nat) (R : Type) : AllE (CeOk CX) (csF77 N R) := trivial
noncomputable def T77ur1 (N : Nat) (R : Type) : LTab R := mkTab ⟨8, 255⟩ (csF77 N R) (noY) [] [] []
theorem okT77ur1 (N : Nat) (R : Type) : (T77ur1 N R).Ok CX code77 := mkTab_ok (hcsF77 N R) (noY_ok) (trivial) (trivial) (trivial)
def rsF77 : List ResultVar := [.tmp 4]
def F77 : Nat → TF77
  | 0 => fun _ _ => none
  | N + 1 => fun x0 x1 =>
    some (.r (x0 != x1))
def xRF77 : XSh R77 := ⟨[], ⟨[(0, .one (.cell (.bool)))], []⟩, fun _ => [], fun s => .r ((Eng.look s.env 0).toB)⟩
theorem fsF77 : ∀ (N : Nat) (lk : Nat → AV) (M : List Blk), FFF77 (F77 (N + 1)) (canS sgF77 lk M) = evfn CX (T77ur1 N R77) code77 rsF77 (argsE 2 (canS sgF77 lk M).env) (canS sgF77 lk M).mem (goR CX 0 (fun _ => some xRF77)) := by intro N lk M; kernel_rfl
theorem soundF77 : ∀ N, RecOkF77 (F77 N)
  | 0, lk, M, o, h => by cases h
  | N + 1, lk, M, o, h => fn_sound hX (okT77ur1 N R77) Try.func77 hb77 rfl en77 (by kernel_rfl) (ys := fun _ => some xRF77) (fun st y h => by injection h with h; subst h; exact fun lk M => ⟨rfl, rfl⟩) ((fsF77 N lk M).symm.trans h)
def cvce77n0 : List Cv := []
def selce77n0 : St → List Nat := fun _ => []
noncomputable def ce77n0 (Fx : TF77) (R : Type) (test : List AV → List Blk → Bool) : CE R := ⟨77, test, fun args M => some (selce77n0 ⟨argEnv 0 args, M, [], .unk⟩), fun args M k => tst (Nat.beq args.length 2) (callFn CX 0 cvce77n0 sgF77 selce77n0 (FFF77 Fx) elF77 args M k)⟩
theorem okce77n0 (Fx : TF77) (h : RecOkF77 Fx) (R : Type) (test : List AV → List Blk → Bool) : CeOk CX (ce77n0 Fx R test) := ce_ok hX (fun o k => by cases o; rfl) h en77 (fun args M ids h => by injection h with h; exact ⟨rfl, h.symm⟩)
end Go.Proofs.Ytnfmdenclkdmbaa

namespace Go.Proofs.Ytnfmdenclkdmbaa
open Go Go.Eng
set_option maxRecDepth 100000

/-! ### F96v1: ceiling/num.relation.1 -/
inductive R96v1 where
  | r (x0 : Int) (x1 : Bool)
abbrev TF96v1 := Int → Int → Option R96v1
def sgF96v1 : LSh := ⟨[(0, .one (.cell (.int .i64))), (1, .one (.cell (.int .i64))), (2, .one (.ptr 0 0 0))], [.var [.any] [.fn 77]]⟩
def FFF96v1 (Fx : TF96v1) (s : St) : Option R96v1 := Fx ((Eng.look s.env 0).toI) ((Eng.look s.env 1).toI)
def valF96v1 (o : R96v1) : AV := match o with | .r x0 x1 => .tup [.int .i64 x0, .bool x1]
def memF96v1 (o : R96v1) : List Blk := match o with | .r x0 x1 => [.var [.any] [.clos 77 [] []]]
def elF96v1 {R : Type} (o : R96v1) (k : AV → List Blk → Option R) : Option R := match o with | .r x0 x1 => k (.tup [.int .i64 x0, .bool x1]) [.var [.any] [.clos 77 [] []]]
def RecOkF96v1 (Fx : TF96v1) : Prop := ∀ lk M o, FFF96v1 Fx (canS sgF96v1 lk M) = some o → FCalls CX 96 1 (argsE 3 (canS sgF96v1 lk M).env) (canS sgF96v1 lk M).mem (valF96v1 o) (memF96v1 o)
noncomputable def csF96v1 (N : Nat) (R : Type) : List (CE R) := [ce77n0 (F77 N) R (fun _ _ => true), ce91n0 (F91 N) R (fun _ _ => true)]
theorem hcsF96v1 (N : Nat) (R : Type) : AllE (CeOk CX) (csF96v1 N R) := ⟨okce77n0 (F77 N) (soundF77 N) R (fun _ _ => true), okce91n0 (F91 N) (soundF91 N) R (fun _ _ => true), trivial⟩
noncomputable def T96v1ur1 (N : Nat) (R : Type) : LTab R := mkTab ⟨12, 4095⟩ (csF96v1 N R) (noY) [] [] []
theorem okT96v1ur1 (N : Nat) (R : Type) : (T96v1ur1 N R).Ok CX code96 := mkTab_ok (hcsF96v1 N R) (noY_ok) (trivial) (trivial) (trivial)
def rsF96v1 : List ResultVar := [.tmp 5, .tmp 6]
def F96v1 : Nat → TF96v1
  | 0 => fun _ _ => none
  | N + 1 => fun x0 x1 =>
    match F77 N x0 x1 with
    | none => none
    | some (.r rx0v1) =>
      match F91 N rx0v1 with
      | none => none
      | some (.r rx0v2) =>
        some (.r rx0v2 true)
def xRF96v1 : XSh R96v1 := ⟨[], ⟨[(0, .one (.cell (.int .i64))), (1, .one (.cell (.bool)))], [.var [.any] [.fn 77]]⟩, fun st => [0], fun s => .r ((Eng.look s.env 0).toI) ((Eng.look s.env 1).toB)⟩
theorem fsF96v1 : ∀ (N : Nat) (lk : Nat → AV) (M : List Blk), FFF96v1 (F96v1 (N + 1)) (canS sgF96v1 lk M) = evfn CX (T96v1ur1 N R96v1) code96 rsF96v1 (argsE 3 (canS sgF96v1 lk M).env) (canS sgF96v1 lk M).mem (goRt CX 1 2 (fun _ => some xRF96v1)) := by intro N lk M; kernel_rfl
theorem soundF96v1 : ∀ N, RecOkF96v1 (F96v1 N)
  | 0, lk, M, o, h => by cases h
  | N + 1, lk, M, o, h => fn_soundt hX (okT96v1ur1 N R96v1) Try.func96 hb96 rfl en96 (by kernel_rfl) (ys := fun _ => some xRF96v1) (fun st y h => by injection h with h; subst h; exact fun lk M => ⟨rfl, rfl⟩) ((fsF96v1 N lk M).symm.trans h)
def cvce96v1n0 : List Cv := []
def selce96v1n0 : St → List Nat := fun st => [(Eng.look st.env 2).id]
noncomputable def ce96v1n0 (Fx : TF96v1) (R : Type) (test : List AV → List Blk → Bool) : CE R := ⟨96, test, fun args M => some (selce96v1n0 ⟨argEnv 0 args, M, [], .unk⟩), fun args M k => tst (Nat.beq args.length 3) (callFn CX 1 cvce96v1n0 sgF96v1 selce96v1n0 (FFF96v1 Fx) elF96v1 args M k)⟩
theorem okce96v1n0 (Fx : TF96v1) (h : RecOkF96v1 Fx) (R : Type) (test : List AV → List Blk → Bool) : CeOk CX (ce96v1n0 Fx R test) := ce_ok hX (fun o k => by cases o; rfl) h en96 (fun args M ids h => by injection h with h; exact ⟨rfl, h.symm⟩)
end Go.Proofs.Ytnfmdenclkdmbaa

namespace Go.Proofs.Ytnfmdenclkdmbaa
open Go Go.Eng
set_option maxRecDepth 100000

/-! ### F78: ceiling/num.operators.8 -/
inductive R78 where
  | r (x0 : Bool)
abbrev TF78 := Int → Int → Option R78
def sgF78 : LSh := ⟨[(0, .one (.cell (.int .i64))), (1, .one (.cell (.int .i64)))], []⟩
def FFF78 (Fx : TF78) (s : St) : Option R78 := Fx ((Eng.look s.env 0).toI) ((Eng.look s.env 1).toI)
def valF78 (o : R78) : AV := match o with | .r x0 => .bool x0
def memF78 (o : R78) : List Blk := match o with | .r x0 => []
def elF78 {R : Type} (o : R78) (k : AV → List Blk → Option R) : Option R := match o with | .r x0 => k (.bool x0) []
def RecOkF78 (Fx : TF78) : Prop := ∀ lk M o, FFF78 Fx (canS sgF78 lk M) = some o → FCalls CX 78 0 (argsE 2 (canS sgF78 lk M).env) (canS sgF78 lk M).mem (valF78 o) (memF78 o)
noncomputable def csF78 (N : Nat) (R : Type) : List (CE R) := []
theorem hcsF78 (N : Nat) (R : Type) : AllE (CeOk CX) (csF78 N R) := trivial
noncomputable def T78ur1 (N : Nat) (R : Type) : LTab R := mkTab ⟨8, 255⟩ (csF78 N R) (noY) [] [] []
theorem okT78ur1 (N : Nat) (R : Type) : (T78ur1 N R).Ok CX code78 := mkTab_ok (hcsF78 N R) (noY_ok) (trivial) (trivial) (trivial)
def rsF78 : List ResultVar := [.tmp 4]
def F78 : Nat → TF78
  | 0 => fun _ _ => none
  | N + 1 => fun x0 x1 =>
    some (.r (decide (x0 < x1)))
def xRF78 : XSh R78 := ⟨[], ⟨[(0, .one (.cell (.bool)))], []⟩, fun _ => [], fun s => .r ((Eng.look s.env 0).toB)⟩
theorem fsF78 : ∀ (N : Nat) (lk : Nat → AV) (M : List Blk), FFF78 (F78 (N + 1)) (canS sgF78 lk M) = evfn CX (T78ur1 N R78) code78 rsF78 (argsE 2 (canS sgF78 lk M).env) (canS sgF78 lk M).mem (goR CX 0 (fun _ => some xRF78)) := by intro N lk M; kernel_rfl
theorem soundF78 : ∀ N, RecOkF78 (F78 N)
  | 0, lk, M, o, h => by cases h
  | N + 1, lk, M, o, h => fn_sound hX (okT78ur1 N R78) Try.func78 hb78 rfl en78 (by kernel_rfl) (ys := fun _ => some xRF78) (fun st y h => by injection h with h; subst h; exact fun lk M => ⟨rfl, rfl⟩) ((fsF78 N lk M).symm.trans h)
def cvce78n0 : List Cv := []
def selce78n0 : St → List Nat := fun _ => []
noncomputable def ce78n0 (Fx : TF78) (R : Type) (test : List AV → List Blk → Bool) : CE R := ⟨78, test, fun args M => some (selce78n0 ⟨argEnv 0 args, M, [], .unk⟩), fun args M k => tst (Nat.beq args.length 2) (callFn CX 0 cvce78n0 sgF78 selce78n0 (FFF78 Fx) elF78 args M k)⟩
theorem okce78n0 (Fx : TF78) (h : RecOkF78 Fx) (R : Type) (test : List AV → List Blk → Bool) : CeOk CX (ce78n0 Fx R test) := ce_ok hX (fun o k => by cases o; rfl) h en78 (fun args M ids h => by injection h with h; exact ⟨rfl, h.symm⟩)
end Go.Proofs.Ytnfmdenclkdmbaa

namespace Go.Proofs.Ytnfmdenclkdmbaa
open Go Go.Eng
set_option maxRecDepth 100000

/-! ### F96v2: ceiling/num.relation.1 -/
inductive R96v2 where
  | r (x0 : Int) (x1 : Bool)
abbrev TF96v2 := Int → Int → Option R96v2
def sgF96v2 : LSh := ⟨[(0, .one (.cell (.int .i64))), (1, .one (.cell (.int .i64))), (2, .one (.ptr 0 0 0))], [.var [.any] [.fn 78]]⟩
def FFF96v2 (Fx : TF96v2) (s : St) : Option R96v2 := Fx ((Eng.look s.env 0).toI) ((Eng.look s.env 1).toI)
def valF96v2 (o : R96v2) : AV := match o with | .r x0 x1 => .tup [.int .i64 x0, .bool x1]
def memF96v2 (o : R96v2) : List Blk := match o with | .r x0 x1 => [.var [.any] [.clos 78 [] []]]
def elF96v2 {R : Type} (o : R96v2) (k : AV → List Blk → Option R) : Option R := match o with | .r x0 x1 => k (.tup [.int .i64 x0, .bool x1]) [.var [.any] [.clos 78 [] []]]
def RecOkF96v2 (Fx : TF96v2) : Prop := ∀ lk M o, FFF96v2 Fx (canS sgF96v2 lk M) = some o → FCalls CX 96 1 (argsE 3 (canS sgF96v2 lk M).env) (canS sgF96v2 lk M).mem (valF96v2 o) (memF96v2 o)
noncomputable def csF96v2 (N : Nat) (R : Type) : List (CE R) := [ce78n0 (F78 N) R (fun _ _ => true), ce91n0 (F91 N) R (fun _ _ => true)]
theorem hcsF96v2 (N : Nat) (R : Type) : AllE (CeOk CX) (csF96v2 N R) := ⟨okce78n0 (F78 N) (soundF78 N) R (fun _ _ => true), okce91n0 (F91 N) (soundF91 N) R (fun _ _ => true), trivial⟩
noncomputable def T96v2ur1 (N : Nat) (R : Type) : LTab R := mkTab ⟨12, 4095⟩ (csF96v2 N R) (noY) [] [] []
theorem okT96v2ur1 (N : Nat) (R : Type) : (T96v2ur1 N R).Ok CX code96 := mkTab_ok (hcsF96v2 N R) (noY_ok) (trivial) (trivial) (trivial)
def rsF96v2 : List ResultVar := [.tmp 5, .tmp 6]
def F96v2 : Nat → TF96v2
  | 0 => fun _ _ => none
  | N + 1 => fun x0 x1 =>
    match F78 N x0 x1 with
    | none => none
    | some (.r rx0v1) =>
      match F91 N rx0v1 with
      | none => none
      | some (.r rx0v2) =>
        some (.r rx0v2 true)
def xRF96v2 : XSh R96v2 := ⟨[], ⟨[(0, .one (.cell (.int .i64))), (1, .one (.cell (.bool)))], [.var [.any] [.fn 78]]⟩, fun st => [0], fun s => .r ((Eng.look s.env 0).toI) ((Eng.look s.env 1).toB)⟩
theorem fsF96v2 : ∀ (N : Nat) (lk : Nat → AV) (M : List Blk), FFF96v2 (F96v2 (N + 1)) (canS sgF96v2 lk M) = evfn CX (T96v2ur1 N R96v2) code96 rsF96v2 (argsE 3 (canS sgF96v2 lk M).env) (canS sgF96v2 lk M).mem (goRt CX 1 2 (fun _ => some xRF96v2)) := by intro N lk M; kernel_rfl
theorem soundF96v2 : ∀ N, RecOkF96v2 (F96v2 N)
  | 0, lk, M, o, h => by cases h
  | N + 1, lk, M, o, h => fn_soundt hX (okT96v2ur1 N R96v2) Try.func96 hb96 rfl en96 (by kernel_rfl) (ys := fun _ => some xRF96v2) (fun st y h => by injection h with h; subst h; exact fun lk M => ⟨rfl, rfl⟩) ((fsF96v2 N lk M).symm.trans h)
def cvce96v2n0 : List Cv := []
def selce96v2n0 : St → List Nat := fun st => [(Eng.look st.env 2).id]
noncomputable def ce96v2n0 (Fx : TF96v2) (R : Type) (test : List AV → List Blk → Bool) : CE R := ⟨96, test, fun args M => some (selce96v2n0 ⟨argEnv 0 args, M, [], .unk⟩), fun args M k => tst (Nat.beq args.length 3) (callFn CX 1 cvce96v2n0 sgF96v2 selce96v2n0 (FFF96v2 Fx) elF96v2 args M k)⟩
theorem okce96v2n0 (Fx : TF96v2) (h : RecOkF96v2 Fx) (R : Type) (test : List AV → List Blk → Bool) : CeOk CX (ce96v2n0 Fx R test) := ce_ok hX (fun o k => by cases o; rfl) h en96 (fun args M ids h => by injection h with h; exact ⟨rfl, h.symm⟩)
end Go.Proofs.Ytnfmdenclkdmbaa

namespace Go.Proofs.Ytnfmdenclkdmbaa
open Go Go.Eng
set_option maxRecDepth 100000

/-! ### F79: ceiling/num.operators.9 -/
inductive R79 where
  | r (x0 : Bool)
abbrev TF79 := Int → Int → Option R79
def sgF79 : LSh := ⟨[(0, .one (.cell (.int .i64))), (1, .one (.cell (.int .i64)))], []⟩
def FFF79 (Fx : TF79) (s : St) : Option R79 := Fx ((Eng.look s.env 0).toI) ((Eng.look s.env 1).toI)
def valF79 (o : R79) : AV := match o with | .r x0 => .bool x0
def memF79 (o : R79) : List Blk := match o with | .r x0 => []
def elF79 {R : Type} (o : R79) (k : AV → List Blk → Option R) : Option R := match o with | .r x0 => k (.bool x0) []
def RecOkF79 (Fx : TF79) : Prop := ∀ lk M o, FFF79 Fx (canS sgF79 lk M) = some o → FCalls CX 79 0 (argsE 2 (canS sgF79 lk M).env) (canS sgF79 lk M).mem (valF79 o) (memF79 o)
noncomputable def csF79 (N : Nat) (R : Type) : List (CE R) := []
theorem hcsF79 (N : Nat) (R : Type) : AllE (CeOk CX) (csF79 N R) := trivial
noncomputable def T79ur1 (N : Nat) (R : Type) : LTab R := mkTab ⟨8, 255⟩ (csF79 N R) (noY) [] [] []
theorem okT79ur1 (N : Nat) (R : Type) : (T79ur1 N R).Ok CX code79 := mkTab_ok (hcsF79 N R) (noY_ok) (trivial) (trivial) (trivial)
def rsF79 : List ResultVar := [.tmp 4]
def F79 : Nat → TF79
  | 0 => fun _ _ => none
  | N + 1 => fun x0 x1 =>
    some (.r (decide (x0 ≤ x1)))
def xRF79 : XSh R79 := ⟨[], ⟨[(0, .one (.cell (.bool)))], []⟩, fun _ => [], fun s => .r ((Eng.look s.env 0).toB)⟩
theorem fsF79 : ∀ (N : Nat) (lk : Nat → AV) (M : List Blk), FFF79 (F79 (N + 1)) (canS sgF79 lk M) = evfn CX (T79ur1 N R79) code79 rsF79 (argsE 2 (canS sgF79 lk M).env) (canS sgF79 lk M).mem (goR CX 0 (fun _ => some xRF79)) := by intro N lk M; kernel_rfl
theorem soundF79 : ∀ N, RecOkF79 (F79 N)
  | 0, lk, M, o, h => by cases h
  | N + 1, lk, M, o, h => fn_sound hX (okT79ur1 N R79) Try.func79 hb79 rfl en79 (by kernel_rfl) (ys := fun _ => some xRF79) (fun st y h => by injection h with h; subst h; exact fun lk M => ⟨rfl, rfl⟩) ((fsF79 N lk M).symm.trans h)
def cvce79n0 : List Cv := []
def selce79n0 : St → List Nat := fun _ => []
noncomputable def ce79n0 (Fx : TF79) (R : Type) (test : List AV → List Blk → Bool) : CE R := ⟨79, test, fun args M => some (selce79n0 ⟨argEnv 0 args, M, [], .unk⟩), fun args M k => tst (Nat.beq args.length 2) (callFn CX 0 cvce79n0 sgF79 selce79n0 (FFF79 Fx) elF79 args M k)⟩
theorem okce79n0 (Fx : TF79) (h : RecOkF79 Fx) (R : Type) (test : List AV → List Blk → Bool) : CeOk CX (ce79n0 Fx R test) := ce_ok hX (fun o k => by cases o; rfl) h en79 (fun args M ids h => by injection h with h; exact ⟨rfl, h.symm⟩)
end Go.Proofs.Ytnfmdenclkdmbaa

namespace Go.Proofs.Ytnfmdenclkdmbaa
open Go Go.Eng
set_option maxRecDepth 100000

/-! ### F96v3: ceiling/num.relation.1 -/
inductive R96v3 where
  | r (x0 : Int) (x1 : Bool)
abbrev TF96v3 := Int → Int → Option R96v3
def sgF96v3 : LSh := ⟨[(0, .one (.cell (.int .i64))), (1, .one (.cell (.int .i64))), (2, .one (.ptr 0 0 0))], [.var [.any] [.fn 79]]⟩
def FFF96v3 (Fx : TF96v3) (s : St) : Option R96v3 := Fx ((Eng.look s.env 0).toI) ((Eng.look s.env 1).toI)
def valF96v3 (o : R96v3) : AV := match o with | .r x0 x1 => .tup [.int .i64 x0, .bool x1]
def memF96v3 (o : R96v3) : List Blk := match o with | .r x0 x1 => [.var [.any] [.clos 79 [] []]]
def elF96v3 {R : Type} (o : R96v3) (k : AV → List Blk → Option R) : Option R := match o with | .r x0 x1 => k (.tup [.int .i64 x0, .bool x1]) [.var [.any] [.clos 79 [] []]]
def RecOkF96v3 (Fx : TF96v3) : Prop := ∀ lk M o, FFF96v3 Fx (canS sgF96v3 lk M) = some o → FCalls CX 96 1 (argsE 3 (canS sgF96v3 lk M).env) (canS sgF96v3 lk M).mem (valF96v3 o) (memF96v3 o)
noncomputable def csF96v3 (N : Nat) (R : Type) : List (CE R) := [ce79n0 (F79 N) R (fun _ _ => true), ce91n0 (F91 N) R (fun _ _ => true)]
theorem hcsF96v3 (N : Nat) (R : Type) : AllE (CeOk CX) (csF96v3 N R) := ⟨okce79n0 (F79 N) (soundF79 N) R (fun _ _ => true), okce91n0 (F91 N) (soundF91 N) R (fun _ _ => true), trivial⟩
noncomputable def T96v3ur1 (N : Nat) (R : Type) : LTab R := mkTab ⟨12, 4095⟩ (csF96v3 N R) (noY) [] [] []
theorem okT96v3ur1 (N : Nat) (R : Type) : (T96v3ur1 N R).Ok CX code96 := mkTab_ok (hcsF96v3 N R) (noY_ok) (trivial) (trivial) (trivial)
def rsF96v3 : List ResultVar := [.tmp 5, .tmp 6]
def F96v3 : Nat → TF96v3
  | 0 => fun _ _ => none
  | N + 1 => fun x0 x1 =>
    match F79 N x0 x1 with
    | none => none
    | some (.r rx0v1) =>
      match F91 N rx0v1 with
      | none => none
      | some (.r rx0v2) =>
        some (.r rx0v2 true)
def xRF96v3 : XSh R96v3 := ⟨[], ⟨[(0, .one (.cell (.int .i64))), (1, .one (.cell (.bool)))], [.var [.any] [.fn 79]]⟩, fun st => [0], fun s => .r ((Eng.look s.env 0).toI) ((Eng.look s.env 1).toB)⟩
theorem fsF96v3 : ∀ (N : Nat) (lk : Nat → AV) (M : List Blk), FFF96v3 (F96v3 (N + 1)) (canS sgF96v3 lk M) = evfn CX (T96v3ur1 N R96v3) code96 rsF96v3 (argsE 3 (canS sgF96v3 lk M).env) (canS sgF96v3 lk M).mem (goRt CX 1 2 (fun _ => some xRF96v3)) := by intro N lk M; kernel_rfl
theorem soundF96v3 : ∀ N, RecOkF96v3 (F96v3 N)
  | 0, lk, M, o, h => by cases h
  | N + 1, lk, M, o, h => fn_soundt hX (okT96v3ur1 N R96v3) Try.func96 hb96 rfl en96 (by kernel_rfl) (ys := fun _ => some xRF96v3) (fun st y h => by injection h with h; subst h; exact fun lk M => ⟨rfl, rfl⟩) ((fsF96v3 N lk M).symm.trans h)
def cvce96v3n0 : List Cv := []
def selce96v3n0 : St → List Nat := fun st => [(Eng.look st.env 2).id]
noncomputable def ce96v3n0 (Fx : TF96v3) (R : Type) (test : List AV → List Blk → Bool) : CE R := ⟨96, test, fun args M => some (selce96v3n0 ⟨argEnv 0 args, M, [], .unk⟩), fun args M k => tst (Nat.beq args.length 3) (callFn CX 1 cvce96v3n0 sgF96v3 selce96v3n0 (FFF96v3 Fx) elF96v3 args M k)⟩
theorem okce96v3n0 (Fx : TF96v3) (h : RecOkF96v3 Fx) (R : Type) (test : List AV → List Blk → Bool) : CeOk CX (ce96v3n0 Fx R test) := ce_ok hX (fun o k => by cases o; rfl) h en96 (fun args M ids h => by injection h with h; exact ⟨rfl, h.symm⟩)
end Go.Proofs.Ytnfmdenclkdmbaa

namespace Go.Proofs.Ytnfmdenclkdmbaa
open Go Go.Eng
set_option maxRecDepth 100000

/-! ### F80: ceiling/num.operators.10 -/
inductive R80 where
  | r (x0 : Bool)
abbrev TF80 := Int → Int → Option R80
def sgF80 : LSh := ⟨[(0, .one (.cell (.int .i64))), (1, .one (.cell (.int .i64)))], []⟩
def FFF80 (Fx : TF80) (s : St) : Option R80 := Fx ((Eng.look s.env 0).toI) ((Eng.look s.env 1).toI)
def valF80 (o : R80) : AV := match o with | .r x0 => .bool x0
def memF80 (o : R80) : List Blk := match o with | .r x0 => []
def elF80 {R : Type} (o : R80) (k : AV → List Blk → Option R) : Option R := match o with | .r x0 => k (.bool x0) []
def RecOkF80 (Fx : TF80) : Prop := ∀ lk M o, FFF80 Fx (canS sgF80 lk M) = some o → FCalls CX 80 0 (argsE 2 (canS sgF80 lk M).env) (canS sgF80 lk M).mem (valF80 o) (memF80 o)
noncomputable def csF80 (N : Nat) (R : Type) : List (CE R) := []
theorem hcsF80 (N : Nat) (R : Type) : AllE (CeOk CX) (csF80 N R) := trivial
noncomputable def T80ur1 (N : Nat) (R : Type) : LTab R := mkTab ⟨8, 255⟩ (csF80 N R) (noY) [] [] []
theorem okT80ur1 (N : Nat) (R : Type) : (T80ur1 N R).Ok CX code80 := mkTab_ok (hcsF80 N R) (noY_ok) (trivial) (trivial) (trivial)
def rsF80 : List ResultVar := [.tmp 4]
def F80 : Nat → TF80
  | 0 => fun _ _ => none
  | N + 1 => fun x0 x1 =>
    some (.r (decide (x1 < x0)))
def xRF80 : XSh R80 := ⟨[], ⟨[(0, .one (.cell (.bool)))], []⟩, fun _ => [], fun s => .r ((Eng.look s.env 0).toB)⟩
theorem fsF80 : ∀ (N : Nat) (lk : Nat → AV) (M : List Blk), FFF80 (F80 (N + 1)) (canS sgF80 lk M) = evfn CX (T80ur1 N R80) code80 rsF80 (argsE 2 (canS sgF80 lk M).env) (canS sgF80 lk M).mem (goR CX 0 (fun _ => some xRF80)) := by intro N lk M; kernel_rfl
theorem soundF80 : ∀ N, RecOkF80 (F80 N)
  | 0, lk, M, o, h => by cases h
  | N + 1, lk, M, o, h => fn_sound hX (okT80ur1 N R80) Try.func80 hb80 rfl en80 (by kernel_rfl) (ys := fun _ => some xRF80) (fun st y h => by injection h with h; subst h; exact fun lk M => ⟨rfl, rfl⟩) ((fsF80 N lk M).symm.trans h)
def cvce80n0 : List Cv := []
def selce80n0 : St → List Nat := fun _ => []
noncomputable def ce80n0 (Fx : TF80) (R : Type) (test : List AV → List Blk → Bool) : CE R := ⟨80, test, fun args M => some (selce80n0 ⟨argEnv 0 args, M, [], .unk⟩), fun args M k => tst (Nat.beq args.length 2) (callFn CX 0 cvce80n0 sgF80 selce80n0 (FFF80 Fx) elF80 args M k)⟩
theorem okce80n0 (Fx : TF80) (h : RecOkF80 Fx) (R : Type) (test : List AV → List Blk → Bool) : CeOk CX (ce80n0 Fx R test) := ce_ok hX (fun o k => by cases o; rfl) h en80 (fun args M ids h => by injection h with h; exact ⟨rfl, h.symm⟩)
end Go.Proofs.Ytnfmdenclkdmbaa

namespace Go.Proofs.Ytnfmdenclkdmbaa
open Go Go.Eng
set_option maxRecDepth 100000

/-! ### F96v4: ceiling/num.relation.1 -/
inductive R96v4 where
  | r (x0 : Int) (x1 : Bool)
abbrev TF96v4 := Int → Int → Option R96v4
def sgF96v4 : LSh := ⟨[(0, .one (.cell (.int .i64))), (1, .one (.cell (.int .i64))), (2, .one (.ptr 0 0 0))], [.var [.any] [.fn 80]]⟩
def FFF96v4 (Fx : TF96v4) (s : St) : Option R96v4 := Fx ((Eng.look s.env 0).toI) ((Eng.look s.env 1).toI)
def valF96v4 (o : R96v4) : AV := match o with | .r x0 x1 => .tup [.int .i64 x0, .bool x1]
def memF96v4 (o : R96v4) : List Blk := match o with | .r x0 x1 => [.var [.any] [.clos 80 [] []]]
def elF96v4 {R : Type} (o : R96v4) (k : AV → List Blk → Option R) : Option R := match o with | .r x0 x1 => k (.tup [.int .i64 x0, .bool x1]) [.var [.any] [.clos 80 [] []]]
def RecOkF96v4 (Fx : TF96v4) : Prop := ∀ lk M o, FFF96v4 Fx (canS sgF96v4 lk M) = some o → FCalls CX 96 1 (argsE 3 (canS sgF96v4 lk M).env) (canS sgF96v4 lk M).mem (valF96v4 o) (memF96v4 o)
noncomputable def csF96v4 (N : Nat) (R : Type) : List (CE R) := [ce80n0 (F80 N) R (fun _ _ => true), ce91n0 (F91 N) R (fun _ _ => true)]
theorem hcsF96v4 (N : Nat) (R : Type) : AllE (CeOk CX) (csF96v4 N R) := ⟨okce80n0 (F80 N) (soundF80 N) R (fun _ _ => true), okce91n0 (F91 N) (soundF91 N) R (fun _ _ => true), trivial⟩
noncomputable def T96v4ur1 (N : Nat) (R : Type) : LTab R := mkTab ⟨12, 4095⟩ (csF96v4 N R) (noY) [] [] []
theorem okT96v4ur1 (N : Nat) (R : Type) : (T96v4ur1 N R).Ok CX code96 := mkTab_ok (hcsF96v4 N R) (noY_ok) (trivial) (trivial) (trivial)
def rsF96v4 : List ResultVar := [.tmp 5, .tmp 6]
def F96v4 : Nat → TF96v4
  | 0 => fun _ _ => none
  | N + 1 => fun x0 x1 =>
    match F80 N x0 x1 with
    | none => none
    | some (.r rx0v1) =>
      match F91 N rx0v1 with
      | none => none
      | some (.r rx0v2) =>
        some (.r rx0v2 true)
def xRF96v4 : XSh R96v4 := ⟨[], ⟨[(0, .one (.cell (.int .i64))), (1, .one (.cell (.bool)))], [.var [.any] [.fn 80]]⟩, fun st => [0], fun s => .r ((Eng.look s.env 0).toI) ((Eng.look s.env 1).toB)⟩
theorem fsF96v4 : ∀ (N : Nat) (lk : Nat → AV) (M : List Blk), FFF96v4 (F96v4 (N + 1)) (canS sgF96v4 lk M) = evfn CX (T96v4ur1 N R96v4) code96 rsF96v4 (argsE 3 (canS sgF96v4 lk M).env) (canS sgF96v4 lk M).mem (goRt CX 1 2 (fun _ => some xRF96v4)) := by intro N lk M; kernel_rfl
theorem soundF96v4 : ∀ N, RecOkF96v4 (F96v4 N)
  | 0, lk, M, o, h => by cases h
  | N + 1, lk, M, o, h => fn_soundt hX (okT96v4ur1 N R96v4) Try.func96 hb96 rfl en96 (by kernel_rfl) (ys := fun _ => some xRF96v4) (fun st y h => by injection h with h; subst h; exact fun lk M => ⟨rfl, rfl⟩) ((fsF96v4 N lk M).symm.trans h)
def cvce96v4n0 : List Cv := []
def selce96v4n0 : St → List Nat := fun st => [(Eng.look st.env 2).id]
noncomputable def ce96v4n0 (Fx : TF96v4) (R : Type) (test : List AV → List Blk → Bool) : CE R := ⟨96, test, fun args M => some (selce96v4n0 ⟨argEnv 0 args, M, [], .unk⟩), fun args M k => tst (Nat.beq args.length 3) (callFn CX 1 cvce96v4n0 sgF96v4 selce96v4n0 (FFF96v4 Fx) elF96v4 args M k)⟩
theorem okce96v4n0 (Fx : TF96v4) (h : RecOkF96v4 Fx) (R : Type) (test : List AV → List Blk → Bool) : CeOk CX (ce96v4n0 Fx R test) := ce_ok hX (fun o k => by cases o; rfl) h en96 (fun args M ids h => by injection h with h; exact ⟨rfl, h.symm⟩)
end Go.Proofs.Ytnfmdenclkdmbaa

namespace Go.Proofs.Ytnfmdenclkdmbaa
open Go Go.Eng
set_option maxRecDepth 100000

/-! ### F81: ceiling/num.operators.11 -/
inductive R81 where
  | r (x0 : Bool)
abbrev TF81 := Int → Int → Option R81
def sgF81 : LSh := ⟨[(0, .one (.cell (.int .i64))), (1, .one (.cell (.int .i64)))], []⟩
def FFF81 (Fx : TF81) (s : St) : Option R81 := Fx ((Eng.look s.env 0).toI) ((Eng.look s.env 1).toI)
def valF81 (o : R81) : AV := match o with | .r x0 => .bool x0
def memF81 (o : R81) : List Blk := match o with | .r x0 => []
def elF81 {R : Type} (o : R81) (k : AV → List Blk → Option R) : Option R := match o with | .r x0 => k (.bool x0) []
def RecOkF81 (Fx : TF81) : Prop := ∀ lk M o, FFF81 Fx (canS sgF81 lk M) = some o → FCalls CX 81 0 (argsE 2 (canS sgF81 lk M).env) (canS sgF81 lk M).mem (valF81 o) (memF81 o)
noncomputable def csF81 (N : Nat) (R : Type) : List (CE R) := []
theorem hcsF81 (N : Nat) (R : Type) : AllE (CeOk CX) (csF81 N R) := trivial
noncomputable def T81ur1 (N : Nat) (R : Type) : LTab R := mkTab ⟨8, 255⟩ (csF81 N R) (noY) [] [] []
theorem okT81ur1 (N : Nat) (R : Type) : (T81ur1 N R).Ok CX code81 := mkTab_ok (hcsF81 N R) (noY_ok) (trivial) (trivial) (trivial)
def rsF81 : List ResultVar := [.tmp 4]
def F81 : Nat → TF81
  | 0 => fun _ _ => none
  | N + 1 => fun x0 x1 =>
    some (.r (decide (x1 ≤ x0)))
def xRF81 : XSh R81 := ⟨[], ⟨[(0, .one (.cell (.bool)))], []⟩, fun _ => [], fun s => .r ((Eng.look s.env 0).toB)⟩
theorem fsF81 : ∀ (N : Nat) (lk : Nat → AV) (M : List Blk), FFF81 (F81 (N + 1)) (canS sgF81 lk M) = evfn CX (T81ur1 N R81) code81 rsF81 (argsE 2 (canS sgF81 lk M).env) (canS sgF81 lk M).mem (goR CX 0 (fun _ => some xRF81)) := by intro N lk M; kernel_rfl
theorem soundF81 : ∀ N, RecOkF81 (F81 N)
  | 0, lk, M, o, h => by cases h
  | N + 1, lk, M, o, h => fn_sound hX (okT81ur1 N R81) Try.func81 hb81 rfl en81 (by kernel_rfl) (ys := fun _ => some xRF81) (fun st y h => by injection h with h; subst h; exact fun lk M => ⟨rfl, rfl⟩) ((fsF81 N lk M).symm.trans h)
def cvce81n0 : List Cv := []
def selce81n0 : St → List Nat := fun _ => []
noncomputable def ce81n0 (Fx : TF81) (R : Type) (test : List AV → List Blk → Bool) : CE R := ⟨81, test, fun args M => some (selce81n0 ⟨argEnv 0 args, M, [], .unk⟩), fun args M k => tst (Nat.beq args.length 2) (callFn CX 0 cvce81n0 sgF81 selce81n0 (FFF81 Fx) elF81 args M k)⟩
theorem okce81n0 (Fx : TF81) (h : RecOkF81 Fx) (R : Type) (test : List AV → List Blk → Bool) : CeOk CX (ce81n0 Fx R test) := ce_ok hX (fun o k => by cases o; rfl) h en81 (fun args M ids h => by injection h with h; exact ⟨rfl, h.symm⟩)
end Go.Proofs.Ytnfmdenclkdmbaa

namespace Go.Proofs.Ytnfmdenclkdmbaa
open Go Go.Eng
set_option maxRecDepth 100000

/-! ### F96v5: ceiling/num.relation.1 -/
inductive R96v5 where
  | r (x0 : Int) (x1 : Bool)
abbrev TF96v5 := Int → Int → Option R96v5
def sgF96v5 : LSh := ⟨[(0, .one (.cell (.int .i64))), (1, .one (.cell (.int .i64))), (2, .one (.ptr 0 0 0))], [.var [.any] [.fn 81]]⟩
def FFF96v5 (Fx : TF96v5) (s : St) : Option R96v5 := Fx ((Eng.look s.env 0).toI) ((Eng.look s.env 1).toI)
def valF96v5 (o : R96v5) : AV := match o with | .r x0 x1 => .tup [.int .i64 x0, .bool x1]
def memF96v5 (o : R96v5) : List Blk := match o with | .r x0 x1 => [.var [.any] [.clos 81 [] []]]
def elF96v5 {R : Type} (o : R96v5) (k : AV → List Blk → Option R) : Option R := match o with | .r x0 x1 => k (.tup [.int .i64 x0, .bool x1]) [.var [.any] [.clos 81 [] []]]
def RecOkF96v5 (Fx : TF96v5) : Prop := ∀ lk M o, FFF96v5 Fx (canS sgF96v5 lk M) = some o → FCalls CX 96 1 (argsE 3 (canS sgF96v5 lk M).env) (canS sgF96v5 lk M).mem (valF96v5 o) (memF96v5 o)
noncomputable def csF96v5 (N : Nat) (R : Type) : List (CE R) := [ce81n0 (F81 N) R (fun _ _ => true), ce91n0 (F91 N) R (fun _ _ => true)]
theorem hcsF96v5 (N : Nat) (R : Type) : AllE (CeOk CX) (csF96v5 N R) := ⟨okce81n0 (F81 N) (soundF81 N) R (fun _ _ => true), okce91n0 (F91 N) (soundF91 N) R (fun _ _ => true), trivial⟩
noncomputable def T96v5ur1 (N : Nat) (R : Type) : LTab R := mkTab ⟨12, 4095⟩ (csF96v5 N R) (noY) [] [] []
theorem okT96v5ur1 (N : Nat) (R : Type) : (T96v5ur1 N R).Ok CX code96 := mkTab_ok (hcsF96v5 N R) (noY_ok) (trivial) (trivial) (trivial)
def rsF96v5 : List ResultVar := [.tmp 5, .tmp 6]
def F96v5 : Nat → TF96v5
  | 0 => fun _ _ => none
  | N + 1 => fun x0 x1 =>
    match F81 N x0 x1 with
    | none => none
    | some (.r rx0v1) =>
      match F91 N rx0v1 with
      | none => none
      | some (.r rx0v2) =>
        some (.r rx0v2 true)
def xRF96v5 : XSh R96v5 := ⟨[], ⟨[(0, .one (.cell (.int .i64))), (1, .one (.cell (.bool)))], [.var [.any] [.fn 81]]⟩, fun st => [0], fun s => .r ((Eng.look s.env 0).toI) ((Eng.look s.env 1).toB)⟩
theorem fsF96v5 : ∀ (N : Nat) (lk : Nat → AV) (M : List Blk), FFF96v5 (F96v5 (N + 1)) (canS sgF96v5 lk M) = evfn CX (T96v5ur1 N R96v5) code96 rsF96v5 (argsE 3 (canS sgF96v5 lk M).env) (canS sgF96v5 lk M).mem (goRt CX 1 2 (fun _ => some xRF96v5)) := by intro N lk M; kernel_rfl
theorem soundF96v5 : ∀ N, RecOkF96v5 (F96v5 N)
  | 0, lk, M, o, h => by cases h
  | N + 1, lk, M, o, h => fn_soundt hX (okT96v5ur1 N R96v5) Try.func96 hb96 rfl en96 (by kernel_rfl) (ys := fun _ => some xRF96v5) (fun st y h => by injection h with h; subst h; exact fun lk M => ⟨rfl, rfl⟩) ((fsF96v5 N lk M).symm.trans h)
def cvce96v5n0 : List Cv := []
def selce96v5n0 : St → List Nat := fun st => [(Eng.look st.env 2).id]
noncomputable def ce96v5n0 (Fx : TF96v5) (R : Type) (test : List AV → List Blk → Bool) : CE R := ⟨96, test, fun args M => some (selce96v5n0 ⟨argEnv 0 args, M, [], .unk⟩), fun args M k => tst (Nat.beq args.length 3) (callFn CX 1 cvce96v5n0 sgF96v5 selce96v5n0 (FFF96v5 Fx) elF96v5 args M k)⟩
theorem okce96v5n0 (Fx : TF96v5) (h : RecOkF96v5 Fx) (R : Type) (test : List AV → List Blk → Bool) : CeOk CX (ce96v5n0 Fx R test) := ce_ok hX (fun o k => by cases o; rfl) h en96 (fun args M ids h => by injection h with h; exact ⟨rfl, h.symm⟩)
end Go.Proofs.Ytnfmdenclkdmbaa

namespace Go.Proofs.Ytnfmdenclkdmbaa
open Go Go.Eng
set_option maxRecDepth 100000

/-! ### F82: ceiling/num.operators.12 -/
inductive R82 where
  | r (x0 : Int)
abbrev TF82 := Int → Int → Option R82
def sgF82 : LSh := ⟨[(0, .one (.cell (.int .i64))), (1, .one (.cell (.int .i64)))], []⟩
def FFF82 (Fx : TF82) (s : St) : Option R82 := Fx ((Eng.look s.env 0).toI) ((Eng.look s.env 1).toI)
def valF82 (o : R82) : AV := match o with | .r x0 => .int .i64 x0
def memF82 (o : R82) : List Blk := match o with | .r x0 => []
def elF82 {R : Type} (o : R82) (k : AV → List Blk → Option R) : Option R := match o with | .r x0 => k (.int .i64 x0) []
def RecOkF82 (Fx : TF82) : Prop := ∀ lk M o, FFF82 Fx (canS sgF82 lk M) = some o → FCalls CX 82 0 (argsE 2 (canS sgF82 lk M).env) (canS sgF82 lk M).mem (valF82 o) (memF82 o)
noncomputable def csF82 (N : Nat) (R : Type) : List (CE R) := []
theorem hcsF82 (N : Nat) (R : Type) : AllE (CeOk CX) (csF82 N R) := trivial
noncomputable def T82ur1 (N : Nat) (R : Type) : LTab R := mkTab ⟨8, 255⟩ (csF82 N R) (noY) [] [] []
theorem okT82ur1 (N : Nat) (R : Type) : (T82ur1 N R).Ok CX code82 := mkTab_ok (hcsF82 N R) (noY_ok) (trivial) (trivial) (trivial)
def rsF82 : List ResultVar := [.tmp 4]
def F82 : Nat → TF82
  | 0 => fun _ _ => none
  | N + 1 => fun x0 x1 =>
    some (.r (IntKind.wrap .i64 ((BitVec.ofInt 64 x0 &&& BitVec.ofInt 64 x1).toNat : Int)))
def xRF82 : XSh R82 := ⟨[], ⟨[(0, .one (.cell (.int .i64)))], []⟩, fun _ => [], fun s => .r ((Eng.look s.env 0).toI)⟩
theorem fsF82 : ∀ (N : Nat) (lk : Nat → AV) (M : List Blk), FFF82 (F82 (N + 1)) (canS sgF82 lk M) = evfn CX (T82ur1 N R82) code82 rsF82 (argsE 2 (canS sgF82 lk M).env) (canS sgF82 lk M).mem (goR CX 0 (fun _ => some xRF82)) := by intro N lk M; kernel_rfl
theorem soundF82 : ∀ N, RecOkF82 (F82 N)
  | 0, lk, M, o, h => by cases h
  | N + 1, lk, M, o, h => fn_sound hX (okT82ur1 N R82) Try.func82 hb82 rfl en82 (by kernel_rfl) (ys := fun _ => some xRF82) (fun st y h => by injection h with h; subst h; exact fun lk M => ⟨rfl, rfl⟩) ((fsF82 N lk M).symm.trans h)
def cvce82n0 : List Cv := []
def selce82n0 : St → List Nat := fun _ => []
noncomputable def ce82n0 (Fx : TF82) (R : Type) (test : List AV → List Blk → Bool) : CE R := ⟨82, test, fun args M => some (selce82n0 ⟨argEnv 0 args, M, [], .unk⟩), fun args M k => tst (Nat.beq args.length 2) (callFn CX 0 cvce82n0 sgF82 selce82n0 (FFF82 Fx) elF82 args M k)⟩
theorem okce82n0 (Fx : TF82) (h : RecOkF82 Fx) (R : Type) (test : List AV → List Blk → Bool) : CeOk CX (ce82n0 Fx R test) := ce_ok hX (fun o k => by cases o; rfl) h en82 (fun args M ids h => by injection h with h; exact ⟨rfl, h.symm⟩)
end Go.Proofs.Ytnfmdenclkdmbaa

namespace Go.Proofs.Ytnfmdenclkdmbaa
open Go Go.Eng
set_option maxRecDepth 100000

/-! ### F94v3: ceiling/num.always.1 -/
inductive R94v3 where
  | r (x0 : Int) (x1 : Bool)
abbrev TF94v3 := Int → Int → Option R94v3
def sgF94v3 : LSh := ⟨[(0, .one (.cell (.int .i64))), (1, .one (.cell (.int .i64))), (2, .one (.ptr 0 0 0))], [.var [.any] [.fn 82]]⟩
def FFF94v3 (Fx : TF94v3) (s : St) : Option R94v3 := Fx ((Eng.look s.env 0).toI) ((Eng.look s.env 1).toI)
def valF94v3 (o : R94v3) : AV := match o with | .r x0 x1 => .tup [.int .i64 x0, .bool x1]
def memF94v3 (o : R94v3) : List Blk := match o with | .r x0 x1 => [.var [.any] [.clos 82 [] []]]
def elF94v3 {R : Type} (o : R94v3) (k : AV → List Blk → Option R) : Option R := match o with | .r x0 x1 => k (.tup [.int .i64 x0, .bool x1]) [.var [.any] [.clos 82 [] []]]
def RecOkF94v3 (Fx : TF94v3) : Prop := ∀ lk M o, FFF94v3 Fx (canS sgF94v3 lk M) = some o → FCalls CX 94 1 (argsE 3 (canS sgF94v3 lk M).env) (canS sgF94v3 lk M).mem (valF94v3 o) (memF94v3 o)
noncomputable def csF94v3 (N : Nat) (R : Type) : List (CE R) := [ce82n0 (F82 N) R (fun _ _ => true)]
theorem hcsF94v3 (N : Nat) (R : Type) : AllE (CeOk CX) (csF94v3 N R) := ⟨okce82n0 (F82 N) (soundF82 N) R (fun _ _ => true), trivial⟩
noncomputable def T94v3ur1 (N : Nat) (R : Type) : LTab R := mkTab ⟨11, 2047⟩ (csF94v3 N R) (noY) [] [] []
theorem okT94v3ur1 (N : Nat) (R : Type) : (T94v3ur1 N R).Ok CX code94 := mkTab_ok (hcsF94v3 N R) (noY_ok) (trivial) (trivial) (trivial)
def rsF94v3 : List ResultVar := [.tmp 5, .tmp 6]
def F94v3 : Nat → TF94v3
  | 0 => fun _ _ => none
  | N + 1 => fun x0 x1 =>
    match F82 N x0 x1 with
    | none => none
    | some (.r rx0v1) =>
      some (.r rx0v1 true)
def xRF94v3 : XSh R94v3 := ⟨[], ⟨[(0, .one (.cell (.int .i64))), (1, .one (.cell (.bool)))], [.var [.any] [.fn 82]]⟩, fun st => [0], fun s => .r ((Eng.look s.env 0).toI) ((Eng.look s.env 1).toB)⟩
theorem fsF94v3 : ∀ (N : Nat) (lk : Nat → AV) (M : List Blk), FFF94v3 (F94v3 (N + 1)) (canS sgF94v3 lk M) = evfn CX (T94v3ur1 N R94v3) code94 rsF94v3 (argsE 3 (canS sgF94v3 lk M).env) (canS sgF94v3 lk M).mem (goRt CX 1 2 (fun _ => some xRF94v3)) := by intro N lk M; kernel_rfl
theorem soundF94v3 : ∀ N, RecOkF94v3 (F94v3 N)
  | 0, lk, M, o, h => by cases h
  | N + 1, lk, M, o, h => fn_soundt hX (okT94v3ur1 N R94v3) Try.func94 hb94 rfl en94 (by kernel_rfl) (ys := fun _ => some xRF94v3) (fun st y h => by injection h with h; subst h; exact fun lk M => ⟨rfl, rfl⟩) ((fsF94v3 N lk M).symm.trans h)
def cvce94v3n0 : List Cv := []
def selce94v3n0 : St → List Nat := fun st => [(Eng.look st.env 2).id]
noncomputable def ce94v3n0 (Fx : TF94v3) (R : Type) (test : List AV → List Blk → Bool) : CE R := ⟨94, test, fun args M => some (selce94v3n0 ⟨argEnv 0 args, M, [], .unk⟩), fun args M k => tst (Nat.beq args.length 3) (callFn CX 1 cvce94v3n0 sgF94v3 selce94v3n0 (FFF94v3 Fx) elF94v3 args M k)⟩
theorem okce94v3n0 (Fx : TF94v3) (h : RecOkF94v3 Fx) (R : Type) (test : List AV → List Blk → Bool) : CeOk CX (ce94v3n0 Fx R test) := ce_ok hX (fun o k => by cases o; rfl) h en94 (fun args M ids h => by injection h with h; exact ⟨rfl, h.symm⟩)
end Go.Proofs.Ytnfmdenclkdmbaa

namespace Go.Proofs.Ytnfmdenclkdmbaa
open Go Go.Eng
set_option maxRecDepth 100000

/-! ### F83: ceiling/num.operators.13 -/
inductive R83 where
  | r (x0 : Int)
abbrev TF83 := Int → Int → Option R83
def sgF83 : LSh := ⟨[(0, .one (.cell (.int .i64))), (1, .one (.cell (.int .i64)))], []⟩
def FFF83 (Fx : TF83) (s : St) : Option R83 := Fx ((Eng.look s.env 0).toI) ((Eng.look s.env 1).toI)
def valF83 (o : R83) : AV := match o with | .r x0 => .int .i64 x0
def memF83 (o : R83) : List Blk := match o with | .r x0 => []
def elF83 {R : Type} (o : R83) (k : AV → List Blk → Option R) : Option R := match o with | .r x0 => k (.int .i64 x0) []
def RecOkF83 (Fx : TF83) : Prop := ∀ lk M o, FFF83 Fx (canS sgF83 lk M) = some o → FCalls CX 83 0 (argsE 2 (canS sgF83 lk M).env) (canS sgF83 lk M).mem (valF83 o) (memF83 o)
noncomputable def csF83 (N : Nat) (R : Type) : List (CE R) := []
theorem hcsF83 (N : Nat) (R : Type) : AllE (CeOk CX) (csF83 N R) := trivial
noncomputable def T83ur1 (N : Nat) (R : Type) : LTab R := mkTab ⟨8, 255⟩ (csF83 N R) (noY) [] [] []
theorem okT83ur1 (N : Nat) (R : Type) : (T83ur1 N R).Ok CX code83 := mkTab_ok (hcsF83 N R) (noY_ok) (trivial) (trivial) (trivial)
def rsF83 : List ResultVar := [.tmp 4]
def F83 : Nat → TF83
  | 0 => fun _ _ => none
  | N + 1 => fun x0 x1 =>
    some (.r (IntKind.wrap .i64 ((BitVec.ofInt 64 x0 ||| BitVec.ofInt 64 x1).toNat : Int)))
def xRF83 : XSh R83 := ⟨[], ⟨[(0, .one (.cell (.int .i64)))], []⟩, fun _ => [], fun s => .r ((Eng.look s.env 0).toI)⟩
theorem fsF83 : ∀ (N : Nat) (lk : Nat → AV) (M : List Blk), FFF83 (F83 (N + 1)) (canS sgF83 lk M) = evfn CX (T83ur1 N R83) code83 rsF83 (argsE 2 (canS sgF83 lk M).env) (canS sgF83 lk M).mem (goR CX 0 (fun _ => some xRF83)) := by intro N lk M; kernel_rfl
theorem soundF83 : ∀ N, RecOkF83 (F83 N)
  | 0, lk, M, o, h => by cases h
  | N + 1, lk, M, o, h => fn_sound hX (okT83ur1 N R83) Try.func83 hb83 rfl en83 (by kernel_rfl) (ys := fun _ => some xRF83) (fun st y h => by injection h with h; subst h; exact fun lk M => ⟨rfl, rfl⟩) ((fsF83 N lk M).symm.trans h)
def cvce83n0 : List Cv := []
def selce83n0 : St → List Nat := fun _ => []
noncomputable def ce83n0 (Fx : TF83) (R : Type) (test : List AV → List Blk → Bool) : CE R := ⟨83, test, fun args M => some (selce83n0 ⟨argEnv 0 args, M, [], .unk⟩), fun args M k => tst (Nat.beq args.length 2) (callFn CX 0 cvce83n0 sgF83 selce83n0 (FFF83 Fx) elF83 args M k)⟩
theorem okce83n0 (Fx : TF83) (h : RecOkF83 Fx) (R : Type) (test : List AV → List Blk → Bool) : CeOk CX (ce83n0 Fx R test) := ce_ok hX (fun o k => by cases o; rfl) h en83 (fun args M ids h => by injection h with h; exact ⟨rfl, h.symm⟩)
end Go.Proofs.Ytnfmdenclkdmbaa

namespace Go.Proofs.Ytnfmdenclkdmbaa
open Go Go.Eng
set_option maxRecDepth 100000

/-! ### F94v4: ceiling/num.always.1 -/
inductive R94v4 where
  | r (x0 : Int) (x1 : Bool)
abbrev TF94v4 := Int → Int → Option R94v4
def sgF94v4 : LSh := ⟨[(0, .one (.cell (.int .i64))), (1, .one (.cell (.int .i64))), (2, .one (.ptr 0 0 0))], [.var [.any] [.fn 83]]⟩
def FFF94v4 (Fx : TF94v4) (s : St) : Option R94v4 := Fx ((Eng.look s.env 0).toI) ((Eng.look s.env 1).toI)
def valF94v4 (o : R94v4) : AV := match o with | .r x0 x1 => .tup [.int .i64 x0, .bool x1]
def memF94v4 (o : R94v4) : List Blk := match o with | .r x0 x1 => [.var [.any] [.clos 83 [] []]]
def elF94v4 {R : Type} (o : R94v4) (k : AV → List Blk → Option R) : Option R := match o with | .r x0 x1 => k (.tup [.int .i64 x0, .bool x1]) [.var [.any] [.clos 83 [] []]]
def RecOkF94v4 (Fx : TF94v4) : Prop := ∀ lk M o, FFF94v4 Fx (canS sgF94v4 lk M) = some o → FCalls CX 94 1 (argsE 3 (canS sgF94v4 lk M).env) (canS sgF94v4 lk M).mem (valF94v4 o) (memF94v4 o)
noncomputable def csF94v4 (N : Nat) (R : Type) : List (CE R) := [ce83n0 (F83 N) R (fun _ _ => true)]
theorem hcsF94v4 (N : Nat) (R : Type) : AllE (CeOk CX) (csF94v4 N R) := ⟨okce83n0 (F83 N) (soundF83 N) R (fun _ _ => true), trivial⟩
noncomputable def T94v4ur1 (N : Nat) (R : Type) : LTab R := mkTab ⟨11, 2047⟩ (csF94v4 N R) (noY) [] [] []
theorem okT94v4ur1 (N : Nat) (R : Type) : (T94v4ur1 N R).Ok CX code94 := mkTab_ok (hcsF94v4 N R) (noY_ok) (trivial) (trivial) (trivial)
def rsF94v4 : List ResultVar := [.tmp 5, .tmp 6]
def F94v4 : Nat → TF94v4
  | 0 => fun _ _ => none
  | N + 1 => fun x0 x1 =>
    match F83 N x0 x1 with
    | none => none
    | some (.r rx0v1) =>
      some (.r rx0v1 true)
def xRF94v4 : XSh R94v4 := ⟨[], ⟨[(0, .one (.cell (.int .i64))), (1, .one (.cell (.bool)))], [.var [.any] [.fn 83]]⟩, fun st => [0], fun s => .r ((Eng.look s.env 0).toI) ((Eng.look s.env 1).toB)⟩
theorem fsF94v4 : ∀ (N : Nat) (lk : Nat → AV) (M : List Blk), FFF94v4 (F94v4 (N + 1)) (canS sgF94v4 lk M) = evfn CX (T94v4ur1 N R94v4) code94 rsF94v4 (argsE 3 (canS sgF94v4 lk M).env) (canS sgF94v4 lk M).mem (goRt CX 1 2 (fun _ => some xRF94v4)) := by intro N lk M; kernel_rfl
theorem soundF94v4 : ∀ N, RecOkF94v4 (F94v4 N)
  | 0, lk, M, o, h => by cases h
  | N + 1, lk, M, o, h => fn_soundt hX (okT94v4ur1 N R94v4) Try.func94 hb94 rfl en94 (by kernel_rfl) (ys := fun _ => some xRF94v4) (fun st y h => by injection h with h; subst h; exact fun lk M => ⟨rfl, rfl⟩) ((fsF94v4 N lk M).symm.trans h)
def cvce94v4n0 : List Cv := []
def selce94v4n0 : St → List Nat := fun st => [(Eng.look st.env 2).id]
noncomputable def ce94v4n0 (Fx : TF94v4) (R : Type) (test : List AV → List Blk → Bool) : CE R := ⟨94, test, fun args M => some (selce94v4n0 ⟨argEnv 0 args, M, [], .unk⟩), fun args M k => tst (Nat.beq args.length 3) (callFn CX 1 cvce94v4n0 sgF94v4 selce94v4n0 (FFF94v4 Fx) elF94v4 args M k)⟩
theorem okce94v4n0 (Fx : TF94v4) (h : RecOkF94v4 Fx) (R : Type) (test : List AV → List Blk → Bool) : CeOk CX (ce94v4n0 Fx R test) := ce_ok hX (fun o k => by cases o; rfl) h en94 (fun args M ids h => by injection h with h; exact ⟨rfl, h.symm⟩)
end Go.Proofs.Ytnfmdenclkdmbaa

namespace Go.Proofs.Ytnfmdenclkdmbaa
open Go Go.Eng
set_option maxRecDepth 100000

/-! ### F84: ceiling/num.operators.14 -/
inductive R84 where
  | r (x0 : Int)
abbrev TF84 := Int → Int → Option R84
def sgF84 : LSh := ⟨[(0, .one (.cell (.int .i64))), (1, .one (.cell (.int .i64)))], []⟩
def FFF84 (Fx : TF84) (s : St) : Option R84 := Fx ((Eng.look s.env 0).toI) ((Eng.look s.env 1).toI)
def valF84 (o : R84) : AV := match o with | .r x0 => .int .i64 x0
def memF84 (o : R84) : List Blk := match o with | .r x0 => []
def elF84 {R : Type} (o : R84) (k : AV → List Blk → Option R) : Option R := match o with | .r x0 => k (.int .i64 x0) []
def RecOkF84 (Fx : TF84) : Prop := ∀ lk M o, FFF84 Fx (canS sgF84 lk M) = some o → FCalls CX 84 0 (argsE 2 (canS sgF84 lk M).env) (canS sgF84 lk M).mem (valF84 o) (memF84 o)
noncomputable def csF84 (N : Nat) (R : Type) : List (CE R) := []
theorem hcsF84 (N : Nat) (R : Type) : AllE (CeOk CX) (csF84 N R) := trivial
noncomputable def T84ur1 (N : Nat) (R : Type) : LTab R := mkTab ⟨8, 255⟩ (csF84 N R) (noY) [] [] []
theorem okT84ur1 (N : Nat) (R : Type) : (T84ur1 N R).Ok CX code84 := mkTab_ok (hcsF84 N R) (noY_ok) (trivial) (trivial) (trivial)
def rsF84 : List ResultVar := [.tmp 4]
def F84 : Nat → TF84
  | 0 => fun _ _ => none
  | N + 1 => fun x0 x1 =>
    some (.r (IntKind.wrap .i64 ((BitVec.ofInt 64 x0 ^^^ BitVec.ofInt 64 x1).toNat : Int)))
def xRF84 : XSh R84 := ⟨[], ⟨[(0, .one (.cell (.int .i64)))], []⟩, fun _ => [], fun s => .r ((Eng.look s.env 0).toI)⟩
theorem fsF84 : ∀ (N : Nat) (lk : Nat → AV) (M : List Blk), FFF84 (F84 (N + 1)) (canS sgF84 lk M) = evfn CX (T84ur1 N R84) code84 rsF84 (argsE 2 (canS sgF84 lk M).env) (canS sgF84 lk M).mem (goR CX 0 (fun _ => some xRF84)) := by intro N lk M; kernel_rfl
theorem soundF84 : ∀ N, RecOkF84 (F84 N)
  | 0, lk, M, o, h => by cases h
  | N + 1, lk, M, o, h => fn_sound hX (okT84ur1 N R84) Try.func84 hb84 rfl en84 (by kernel_rfl) (ys := fun _ => some xRF84) (fun st y h => by injection h with h; subst h; exact fun lk M => ⟨rfl, rfl⟩) ((fsF84 N lk M).symm.trans h)
def cvce84n0 : List Cv := []
def selce84n0 : St → List Nat := fun _ => []
noncomputable def ce84n0 (Fx : TF84) (R : Type) (test : List AV → List Blk → Bool) : CE R := ⟨84, test, fun args M => some (selce84n0 ⟨argEnv 0 args, M, [], .unk⟩), fun args M k => tst (Nat.beq args.length 2) (callFn CX 0 cvce84n0 sgF84 selce84n0 (FFF84 Fx) elF84 args M k)⟩
theorem okce84n0 (Fx : TF84) (h : RecOkF84 Fx) (R : Type) (test : List AV → List Blk → Bool) : CeOk CX (ce84n0 Fx R test) := ce_ok hX (fun o k => by cases o; rfl) h en84 (fun args M ids h => by injection h with h; exact ⟨rfl, h.symm⟩)
end Go.Proofs.Ytnfmdenclkdmbaa

namespace Go.Proofs.Ytnfmdenclkdmbaa
open Go Go.Eng
set_option maxRecDepth 100000

/-! ### F94v5: ceiling/num.always.1 -/
inductive R94v5 where
  | r (x0 : Int) (x1 : Bool)
abbrev TF94v5 := Int → Int → Option R94v5
def sgF94v5 : LSh := ⟨[(0, .one (.cell (.int .i64))), (1, .one (.cell (.int .i64))), (2, .one (.ptr 0 0 0))], [.var [.any] [.fn 84]]⟩
def FFF94v5 (Fx : TF94v5) (s : St) : Option R94v5 := Fx ((Eng.look s.env 0).toI) ((Eng.look s.env 1).toI)
def valF94v5 (o : R94v5) : AV := match o with | .r x0 x1 => .tup [.int .i64 x0, .bool x1]
def memF94v5 (o : R94v5) : List Blk := match o with | .r x0 x1 => [.var [.any] [.clos 84 [] []]]
def elF94v5 {R : Type} (o : R94v5) (k : AV → List Blk → Option R) : Option R := match o with | .r x0 x1 => k (.tup [.int .i64 x0, .bool x1]) [.var [.any] [.clos 84 [] []]]
def RecOkF94v5 (Fx : TF94v5) : Prop := ∀ lk M o, FFF94v5 Fx (canS sgF94v5 lk M) = some o → FCalls CX 94 1 (argsE 3 (canS sgF94v5 lk M).env) (canS sgF94v5 lk M).mem (valF94v5 o) (memF94v5 o)
noncomputable def csF94v5 (N : Nat) (R : Type) : List (CE R) := [ce84n0 (F84 N) R (fun _ _ => true)]
theorem hcsF94v5 (N : Nat) (R : Type) : AllE (CeOk CX) (csF94v5 N R) := ⟨okce84n0 (F84 N) (soundF84 N) R (fun _ _ => true), trivial⟩
noncomputable def T94v5ur1 (N : Nat) (R : Type) : LTab R := mkTab ⟨11, 2047⟩ (csF94v5 N R) (noY) [] [] []
theorem okT94v5ur1 (N : Nat) (R : Type) : (T94v5ur1 N R).Ok CX code94 := mkTab_ok (hcsF94v5 N R) (noY_ok) (trivial) (trivial) (trivial)
def rsF94v5 : List ResultVar := [.tmp 5, .tmp 6]
def F94v5 : Nat → TF94v5
  | 0 => fun _ _ => none
  | N + 1 => fun x0 x1 =>
    match F84 N x0 x1 with
    | none => none
    | some (.r rx0v1) =>
      some (.r rx0v1 true)
def xRF94v5 : XSh R94v5 := ⟨[], ⟨[(0, .one (.cell (.int .i64))), (1, .one (.cell (.bool)))], [.var [.any] [.fn 84]]⟩, fun st => [0], fun s => .r ((Eng.look s.env 0).toI) ((Eng.look s.env 1).toB)⟩
theorem fsF94v5 : ∀ (N : Nat) (lk : Nat → AV) (M : List Blk), FFF94v5 (F94v5 (N + 1)) (canS sgF94v5 lk M) = evfn CX (T94v5ur1 N R94v5) code94 rsF94v5 (argsE 3 (canS sgF94v5 lk M).env) (canS sgF94v5 lk M).mem (goRt CX 1 2 (fun _ => some xRF94v5)) := by intro N lk M; kernel_rfl
theorem soundF94v5 : ∀ N, RecOkF94v5 (F94v5 N)
  | 0, lk, M, o, h => by cases h
  | N + 1, lk, M, o, h => fn_soundt hX (okT94v5ur1 N R94v5) Try.func94 hb94 rfl en94 (by kernel_rfl) (ys := fun _ => some xRF94v5) (fun st y h => by injection h with h; subst h; exact fun lk M => ⟨rfl, rfl⟩) ((fsF94v5 N lk M).symm.trans h)
def cvce94v5n0 : List Cv := []
def selce94v5n0 : St → List Nat := fun st => [(Eng.look st.env 2).id]
noncomputable def ce94v5n0 (Fx : TF94v5) (R : Type) (test : List AV → List Blk → Bool) : CE R := ⟨94, test, fun args M => some (selce94v5n0 ⟨argEnv 0 args, M, [], .unk⟩), fun args M k => tst (Nat.beq args.length 3) (callFn CX 1 cvce94v5n0 sgF94v5 selce94v5n0 (FFF94v5 Fx) elF94v5 args M k)⟩
theorem okce94v5n0 (Fx : TF94v5) (h : RecOkF94v5 Fx) (R : Type) (test : List AV → List Blk → Bool) : CeOk CX (ce94v5n0 Fx R test) := ce_ok hX (fun o k => by cases o; rfl) h en94 (fun args M ids h => by injection h with h; exact ⟨rfl, h.symm⟩)
end Go.Proofs.Ytnfmdenclkdmbaa

namespace Go.Proofs.Ytnfmdenclkdmbaa
open Go Go.Eng
set_option maxRecDepth 100000

/-! ### F85: ceiling/num.operators.15 -/
inductive R85 where
  | r (x0 : Int)
abbrev TF85 := Int → Int → Option R85
def sgF85 : LSh := ⟨[(0, .one (.cell (.int .i64))), (1, .one (.cell (.int .i64)))], []⟩
def FFF85 (Fx : TF85) (s : St) : Option R85 := Fx ((Eng.look s.env 0).toI) ((Eng.look s.env 1).toI)
def valF85 (o : R85) : AV := match o with | .r x0 => .int .i64 x0
def memF85 (o : R85) : List Blk := match o with | .r x0 => []
def elF85 {R : Type} (o : R85) (k : AV → List Blk → Option R) : Option R := match o with | .r x0 => k (.int .i64 x0) []
def RecOkF85 (Fx : TF85) : Prop := ∀ lk M o, FFF85 Fx (canS sgF85 lk M) = some o → FCalls CX 85 0 (argsE 2 (canS sgF85 lk M).env) (canS sgF85 lk M).mem (valF85 o) (memF85 o)
noncomputable def csF85 (N : Nat) (R : Type) : List (CE R) := []
theorem hcsF85 (N : Nat) (R : Type) : AllE (CeOk CX) (csF85 N R) := trivial
noncomputable def T85ur1 (N : Nat) (R : Type) : LTab R := mkTab ⟨7, 127⟩ (csF85 N R) (noY) [] [] []
theorem okT85ur1 (N : Nat) (R : Type) : (T85ur1 N R).Ok CX code85 := mkTab_ok (hcsF85 N R) (noY_ok) (trivial) (trivial) (trivial)
def rsF85 : List ResultVar := [.tmp 4]
def F85 : Nat → TF85
  | 0 => fun _ _ => none
  | N + 1 => fun x0 x1 =>
    some (.r (IntKind.wrap .i64 (0 - x0)))
def xRF85 : XSh R85 := ⟨[], ⟨[(0, .one (.cell (.int .i64)))], []⟩, fun _ => [], fun s => .r ((Eng.look s.env 0).toI)⟩
theorem fsF85 : ∀ (N : Nat) (lk : Nat → AV) (M : List Blk), FFF85 (F85 (N + 1)) (canS sgF85 lk M) = evfn CX (T85ur1 N R85) code85 rsF85 (argsE 2 (canS sgF85 lk M).env) (canS sgF85 lk M).mem (goR CX 0 (fun _ => some xRF85)) := by intro N lk M; kernel_rfl
theorem soundF85 : ∀ N, RecOkF85 (F85 N)
  | 0, lk, M, o, h => by cases h
  | N + 1, lk, M, o, h => fn_sound hX (okT85ur1 N R85) Try.func85 hb85 rfl en85 (by kernel_rfl) (ys := fun _ => some xRF85) (fun st y h => by injection h with h; subst h; exact fun lk M => ⟨rfl, rfl⟩) ((fsF85 N lk M).symm.trans h)
def cvce85n0 : List Cv := []
def selce85n0 : St → List Nat := fun _ => []
noncomputable def ce85n0 (Fx : TF85) (R : Type) (test : List AV → List Blk → Bool) : CE R := ⟨85, test, fun args M => some (selce85n0 ⟨argEnv 0 args, M, [], .unk⟩), fun args M k => tst (Nat.beq args.length 2) (callFn CX 0 cvce85n0 sgF85 selce85n0 (FFF85 Fx) elF85 args M k)⟩
theorem okce85n0 (Fx : TF85) (h : RecOkF85 Fx) (R : Type) (test : List AV → List Blk → Bool) : CeOk CX (ce85n0 Fx R test) := ce_ok hX (fun o k => by cases o; rfl) h en85 (fun args M ids h => by injection h with h; exact ⟨rfl, h.symm⟩)
end Go.Proofs.Ytnfmdenclkdmbaa

namespace Go.Proofs.Ytnfmdenclkdmbaa
open Go Go.Eng
set_option maxRecDepth 100000

/-! ### F94v6: ceiling/num.always.1 -/
inductive R94v6 where
  | r (x0 : Int) (x1 : Bool)
abbrev TF94v6 := Int → Int → Option R94v6
def sgF94v6 : LSh := ⟨[(0, .one (.cell (.int .i64))), (1, .one (.cell (.int .i64))), (2, .one (.ptr 0 0 0))], [.var [.any] [.fn 85]]⟩
def FFF94v6 (Fx : TF94v6) (s : St) : Option R94v6 := Fx ((Eng.look s.env 0).toI) ((Eng.look s.env 1).toI)
def valF94v6 (o : R94v6) : AV := match o with | .r x0 x1 => .tup [.int .i64 x0, .bool x1]
def memF94v6 (o : R94v6) : List Blk := match o with | .r x0 x1 => [.var [.any] [.clos 85 [] []]]
def elF94v6 {R : Type} (o : R94v6) (k : AV → List Blk → Option R) : Option R := match o with | .r x0 x1 => k (.tup [.int .i64 x0, .bool x1]) [.var [.any] [.clos 85 [] []]]
def RecOkF94v6 (Fx : TF94v6) : Prop := ∀ lk M o, FFF94v6 Fx (canS sgF94v6 lk M) = some o → FCalls CX 94 1 (argsE 3 (canS sgF94v6 lk M).env) (canS sgF94v6 lk M).mem (valF94v6 o) (memF94v6 o)
noncomputable def csF94v6 (N : Nat) (R : Type) : List (CE R) := [ce85n0 (F85 N) R (fun _ _ => true)]
theorem hcsF94v6 (N : Nat) (R : Type) : AllE (CeOk CX) (csF94v6 N R) := ⟨okce85n0 (F85 N) (soundF85 N) R (fun _ _ => true), trivial⟩
noncomputable def T94v6ur1 (N : Nat) (R : Type) : LTab R := mkTab ⟨11, 2047⟩ (csF94v6 N R) (noY) [] [] []
theorem okT94v6ur1 (N : Nat) (R : Type) : (T94v6ur1 N R).Ok CX code94 := mkTab_ok (hcsF94v6 N R) (noY_ok) (trivial) (trivial) (trivial)
def rsF94v6 : List ResultVar := [.tmp 5, .tmp 6]
def F94v6 : Nat → TF94v6
  | 0 => fun _ _ => none
  | N + 1 => fun x0 x1 =>
    match F85 N x0 x1 with
    | none => none
    | some (.r rx0v1) =>
      some (.r rx0v1 true)
def xRF94v6 : XSh R94v6 := ⟨[], ⟨[(0, .one (.cell (.int .i64))), (1, .one (.cell (.bool)))], [.var [.any] [.fn 85]]⟩, fun st => [0], fun s => .r ((Eng.look s.env 0).toI) ((Eng.look s.env 1).toB)⟩
theorem fsF94v6 : ∀ (N : Nat) (lk : Nat → AV) (M : List Blk), FFF94v6 (F94v6 (N + 1)) (canS sgF94v6 lk M) = evfn CX (T94v6ur1 N R94v6) code94 rsF94v6 (argsE 3 (canS sgF94v6 lk M).env) (canS sgF94v6 lk M).mem (goRt CX 1 2 (fun _ => some xRF94v6)) := by intro N lk M; kernel_rfl
theorem soundF94v6 : ∀ N, RecOkF94v6 (F94v6 N)
  | 0, lk, M, o, h => by cases h
  | N + 1, lk, M, o, h => fn_soundt hX (okT94v6ur1 N R94v6) Try.func94 hb94 rfl en94 (by kernel_rfl) (ys := fun _ => some xRF94v6) (fun st y h => by injection h with h; subst h; exact fun lk M => ⟨rfl, rfl⟩) ((fsF94v6 N lk M).symm.trans h)
def cvce94v6n0 : List Cv := []
def selce94v6n0 : St → List Nat := fun st => [(Eng.look st.env 2).id]
noncomputable def ce94v6n0 (Fx : TF94v6) (R : Type) (test : List AV → List Blk → Bool) : CE R := ⟨94, test, fun args M => some (selce94v6n0 ⟨argEnv 0 args, M, [], .unk⟩), fun args M k => tst (Nat.beq args.length 3) (callFn CX 1 cvce94v6n0 sgF94v6 selce94v6n0 (FFF94v6 Fx) elF94v6 args M k)⟩
theorem okce94v6n0 (Fx : TF94v6) (h : RecOkF94v6 Fx) (R : Type) (test : List AV → List Blk → Bool) : CeOk CX (ce94v6n0 Fx R test) := ce_ok hX (fun o k => by cases o; rfl) h en94 (fun args M ids h => by injection h with h; exact ⟨rfl, h.symm⟩)
end Go.Proofs.Ytnfmdenclkdmbaa

namespace Go.Proofs.Ytnfmdenclkdmbaa
open Go Go.Eng
set_option maxRecDepth 100000

/-! ### F86: ceiling/num.operators.16 -/
inductive R86 where
  | r (x0 : Int)
abbrev TF86 := Int → Int → Option R86
def sgF86 : LSh := ⟨[(0, .one (.cell (.int .i64))), (1, .one (.cell (.int .i64)))], []⟩
def FFF86 (Fx : TF86) (s : St) : Option R86 := Fx ((Eng.look s.env 0).toI) ((Eng.look s.env 1).toI)
def valF86 (o : R86) : AV := match o with | .r x0 => .int .i64 x0
def memF86 (o : R86) : List Blk := match o with | .r x0 => []
def elF86 {R : Type} (o : R86) (k : AV → List Blk → Option R) : Option R := match o with | .r x0 => k (.int .i64 x0) []
def RecOkF86 (Fx : TF86) : Prop := ∀ lk M o, FFF86 Fx (canS sgF86 lk M) = some o → FCalls CX 86 0 (argsE 2 (canS sgF86 lk M).env) (canS sgF86 lk M).mem (valF86 o) (memF86 o)
noncomputable def csF86 (N : Nat) (R : Type) : List (CE R) := []
theorem hcsF86 (N : Nat) (R : Type) : AllE (CeOk CX) (csF86 N R) := trivial
noncomputable def T86ur1 (N : Nat) (R : Type) : LTab R := mkTab ⟨9, 511⟩ (csF86 N R) (noY) [] [] []
theorem okT86ur1 (N : Nat) (R : Type) : (T86ur1 N R).Ok CX code86 := mkTab_ok (hcsF86 N R) (noY_ok) (trivial) (trivial) (trivial)
def rsF86 : List ResultVar := [.tmp 4]
def F86 : Nat → TF86
  | 0 => fun _ _ => none
  | N + 1 => fun x0 x1 =>
    some (.r (Eng.imax x0 (IntKind.wrap .i64 (0 - x0))))
def xRF86 : XSh R86 := ⟨[], ⟨[(0, .one (.cell (.int .i64)))], []⟩, fun _ => [], fun s => .r ((Eng.look s.env 0).toI)⟩
theorem fsF86 : ∀ (N : Nat) (lk : Nat → AV) (M : List Blk), FFF86 (F86 (N + 1)) (canS sgF86 lk M) = evfn CX (T86ur1 N R86) code86 rsF86 (argsE 2 (canS sgF86 lk M).env) (canS sgF86 lk M).mem (goR CX 0 (fun _ => some xRF86)) := by intro N lk M; kernel_rfl
theorem soundF86 : ∀ N, RecOkF86 (F86 N)
  | 0, lk, M, o, h => by cases h
  | N + 1, lk, M, o, h => fn_sound hX (okT86ur1 N R86) Try.func86 hb86 rfl en86 (by kernel_rfl) (ys := fun _ => some xRF86) (fun st y h => by injection h with h; subst h; exact fun lk M => ⟨rfl, rfl⟩) ((fsF86 N lk M).symm.trans h)
def cvce86n0 : List Cv := []
def selce86n0 : St → List Nat := fun _ => []
noncomputable def ce86n0 (Fx : TF86) (R : Type) (test : List AV → List Blk → Bool) : CE R := ⟨86, test, fun args M => some (selce86n0 ⟨argEnv 0 args, M, [], .unk⟩), fun args M k => tst (Nat.beq args.length 2) (callFn CX 0 cvce86n0 sgF86 selce86n0 (FFF86 Fx) elF86 args M k)⟩
theorem okce86n0 (Fx : TF86) (h : RecOkF86 Fx) (R : Type) (test : List AV → List Blk → Bool) : CeOk CX (ce86n0 Fx R test) := ce_ok hX (fun o k => by cases o; rfl) h en86 (fun args M ids h => by injection h with h; exact ⟨rfl, h.symm⟩)
end Go.Proofs.Ytnfmdenclkdmbaa

namespace Go.Proofs.Ytnfmdenclkdmbaa
open Go Go.Eng
set_option maxRecDepth 100000

/-! ### F94v7: ceiling/num.always.1 -/
inductive R94v7 where
  | r (x0 : Int) (x1 : Bool)
abbrev TF94v7 := Int → Int → Option R94v7
def sgF94v7 : LSh := ⟨[(0, .one (.cell (.int .i64))), (1, .one (.cell (.int .i64))), (2, .one (.ptr 0 0 0))], [.var [.any] [.fn 86]]⟩
def FFF94v7 (Fx : TF94v7) (s : St) : Option R94v7 := Fx ((Eng.look s.env 0).toI) ((Eng.look s.env 1).toI)
def valF94v7 (o : R94v7) : AV := match o with | .r x0 x1 => .tup [.int .i64 x0, .bool x1]
def memF94v7 (o : R94v7) : List Blk := match o with | .r x0 x1 => [.var [.any] [.clos 86 [] []]]
def elF94v7 {R : Type} (o : R94v7) (k : AV → List Blk → Option R) : Option R := match o with | .r x0 x1 => k (.tup [.int .i64 x0, .bool x1]) [.var [.any] [.clos 86 [] []]]
def RecOkF94v7 (Fx : TF94v7) : Prop := ∀ lk M o, FFF94v7 Fx (canS sgF94v7 lk M) = some o → FCalls CX 94 1 (argsE 3 (canS sgF94v7 lk M).env) (canS sgF94v7 lk M).mem (valF94v7 o) (memF94v7 o)
noncomputable def csF94v7 (N : Nat) (R : Type) : List (CE R) := [ce86n0 (F86 N) R (fun _ _ => true)]
theorem hcsF94v7 (N : Nat) (R : Type) : AllE (CeOk CX) (csF94v7 N R) := ⟨okce86n0 (F86 N) (soundF86 N) R (fun _ _ => true), trivial⟩
noncomputable def T94v7ur1 (N : Nat) (R : Type) : LTab R := mkTab ⟨11, 2047⟩ (csF94v7 N R) (noY) [] [] []
theorem okT94v7ur1 (N : Nat) (R : Type) : (T94v7ur1 N R).Ok CX code94 := mkTab_ok (hcsF94v7 N R) (noY_ok) (trivial) (trivial) (trivial)
def rsF94v7 : List ResultVar := [.tmp 5, .tmp 6]
def F94v7 : Nat → TF94v7
  | 0 => fun _ _ => none
  | N + 1 => fun x0 x1 =>
    match F86 N x0 x1 with
    | none => none
    | some (.r rx0v1) =>
      some (.r rx0v1 true)
def xRF94v7 : XSh R94v7 := ⟨[], ⟨[(0, .one (.cell (.int .i64))), (1, .one (.cell (.bool)))], [.var [.any] [.fn 86]]⟩, fun st => [0], fun s => .r ((Eng.look s.env 0).toI) ((Eng.look s.env 1).toB)⟩
theorem fsF94v7 : ∀ (N : Nat) (lk : Nat → AV) (M : List Blk), FFF94v7 (F94v7 (N + 1)) (canS sgF94v7 lk M) = evfn CX (T94v7ur1 N R94v7) code94 rsF94v7 (argsE 3 (canS sgF94v7 lk M).env) (canS sgF94v7 lk M).mem (goRt CX 1 2 (fun _ => some xRF94v7)) := by intro N lk M; kernel_rfl
theorem soundF94v7 : ∀ N, RecOkF94v7 (F94v7 N)
  | 0, lk, M, o, h => by cases h
  | N + 1, lk, M, o, h => fn_soundt hX (okT94v7ur1 N R94v7) Try.func94 hb94 rfl en94 (by kernel_rfl) (ys := fun _ => some xRF94v7) (fun st y h => by injection h with h; subst h; exact fun lk M => ⟨rfl, rfl⟩) ((fsF94v7 N lk M).symm.trans h)
def cvce94v7n0 : List Cv := []
def selce94v7n0 : St → List Nat := fun st => [(Eng.look st.env 2).id]
noncomputable def ce94v7n0 (Fx : TF94v7) (R : Type) (test : List AV → List Blk → Bool) : CE R := ⟨94, test, fun args M => some (selce94v7n0 ⟨argEnv 0 args, M, [], .unk⟩), fun args M k => tst (Nat.beq args.length 3) (callFn CX 1 cvce94v7n0 sgF94v7 selce94v7n0 (FFF94v7 Fx) elF94v7 args M k)⟩
theorem okce94v7n0 (Fx : TF94v7) (h : RecOkF94v7 Fx) (R : Type) (test : List AV → List Blk → Bool) : CeOk CX (ce94v7n0 Fx R test) := ce_ok hX (fun o k => by cases o; rfl) h en94 (fun args M ids h => by injection h with h; exact ⟨rfl, h.symm⟩)
end Go.Proofs.Ytnfmdenclkdmbaa

namespace Go.Proofs.Ytnfmdenclkdmbaa
open Go Go.Eng
set_option maxRecDepth 100000

/-! ### F87: ceiling/num.operators.17 -/
inductive R87 where
  | r (x0 : Int)
abbrev TF87 := Int → Int → Option R87
def sgF87 : LSh := ⟨[(0, .one (.cell (.int .i64))), (1, .one (.cell (.int .i64)))], []⟩
def FFF87 (Fx : TF87) (s : St) : Option R87 := Fx ((Eng.look s.env 0).toI) ((Eng.look s.env 1).toI)
def valF87 (o : R87) : AV := match o with | .r x0 => .int .i64 x0
def memF87 (o : R87) : List Blk := match o with | .r x0 => []
def elF87 {R : Type} (o : R87) (k : AV → List Blk → Option R) : Option R := match o with | .r x0 => k (.int .i64 x0) []
def RecOkF87 (Fx : TF87) : Prop := ∀ lk M o, FFF87 Fx (canS sgF87 lk M) = some o → FCalls CX 87 0 (argsE 2 (canS sgF87 lk M).env) (canS sgF87 lk M).mem (valF87 o) (memF87 o)
noncomputable def csF87 (N : Nat) (R : Type) : List (CE R) := []
theorem hcsF87 (N : Nat) (R : Type) : AllE (CeOk CX) (csF87 N R) := trivial
noncomputable def T87ur1 (N : Nat) (R : Type) : LTab R := mkTab ⟨7, 127⟩ (csF87 N R) (noY) [] [] []
theorem okT87ur1 (N : Nat) (R : Type) : (T87ur1 N R).Ok CX code87 := mkTab_ok (hcsF87 N R) (noY_ok) (trivial) (trivial) (trivial)
def rsF87 : List ResultVar := [.tmp 4]
def F87 : Nat → TF87
  | 0 => fun _ _ => none
  | N + 1 => fun x0 x1 =>
    some (.r (IntKind.wrap .i64 ((1 : Int) - x0)))
def xRF87 : XSh R87 := ⟨[], ⟨[(0, .one (.cell (.int .i64)))], []⟩, fun _ => [], fun s => .r ((Eng.look s.env 0).toI)⟩
theorem fsF87 : ∀ (N : Nat) (lk : Nat → AV) (M : List Blk), FFF87 (F87 (N + 1)) (canS sgF87 lk M) = evfn CX (T87ur1 N R87) code87 rsF87 (argsE 2 (canS sgF87 lk M).env) (canS sgF87 lk M).mem (goR CX 0 (fun _ => some xRF87)) := by intro N lk M; kernel_rfl
theorem soundF87 : ∀ N, RecOkF87 (F87 N)
  | 0, lk, M, o, h => by cases h
  | N + 1, lk, M, o, h => fn_sound hX (okT87ur1 N R87) Try.func87 hb87 rfl en87 (by kernel_rfl) (ys := fun _ => some xRF87) (fun st y h => by injection h with h; subst h; exact fun lk M => ⟨rfl, rfl⟩) ((fsF87 N lk M).symm.trans h)
def cvce87n0 : List Cv := []
def selce87n0 : St → List Nat := fun _ => []
noncomputable def ce87n0 (Fx : TF87) (R : Type) (test : List AV → List Blk → Bool) : CE R := ⟨87, test, fun args M => some (selce87n0 ⟨argEnv 0 args, M, [], .unk⟩), fun args M k => tst (Nat.beq args.length 2) (callFn CX 0 cvce87n0 sgF87 selce87n0 (FFF87 Fx) elF87 args M k)⟩
theorem okce87n0 (Fx : TF87) (h : RecOkF87 Fx) (R : Type) (test : List AV → List Blk → Bool) : CeOk CX (ce87n0 Fx R test) := ce_ok hX (fun o k => by cases o; rfl) h en87 (fun args M ids h => by injection h with h; exact ⟨rfl, h.symm⟩)
end Go.Proofs.Ytnfmdenclkdmbaa

namespace Go.Proofs.Ytnfmdenclkdmbaa
open Go Go.Eng
set_option maxRecDepth 100000

/-! ### F94v8: ceiling/num.always.1 -/
inductive R94v8 where
  | r (x0 : Int) (x1 : Bool)
abbrev TF94v8 := Int → Int → Option R94v8
def sgF94v8 : LSh := ⟨[(0, .one (.cell (.int .i64))), (1, .one (.cell (.int .i64))), (2, .one (.ptr 0 0 0))], [.var [.any] [.fn 87]]⟩
def FFF94v8 (Fx : TF94v8) (s : St) : Option R94v8 := Fx ((Eng.look s.env 0).toI) ((Eng.look s.env 1).toI)
def valF94v8 (o : R94v8) : AV := match o with | .r x0 x1 => .tup [.int .i64 x0, .bool x1]
def memF94v8 (o : R94v8) : List Blk := match o with | .r x0 x1 => [.var [.any] [.clos 87 [] []]]
def elF94v8 {R : Type} (o : R94v8) (k : AV → List Blk → Option R) : Option R := match o with | .r x0 x1 => k (.tup [.int .i64 x0, .bool x1]) [.var [.any] [.clos 87 [] []]]
def RecOkF94v8 (Fx : TF94v8) : Prop := ∀ lk M o, FFF94v8 Fx (canS sgF94v8 lk M) = some o → FCalls CX 94 1 (argsE 3 (canS sgF94v8 lk M).env) (canS sgF94v8 lk M).mem (valF94v8 o) (memF94v8 o)
noncomputable def csF94v8 (N : Nat) (R : Type) : List (CE R) := [ce87n0 (F87 N) R (fun _ _ => true)]
theorem hcsF94v8 (N : Nat) (R : Type) : AllE (CeOk CX) (csF94v8 N R) := ⟨okce87n0 (F87 N) (soundF87 N) R (fun _ _ => true), trivial⟩
noncomputable def T94v8ur1 (N : Nat) (R : Type) : LTab R := mkTab ⟨11, 2047⟩ (csF94v8 N R) (noY) [] [] []
theorem okT94v8ur1 (N : Nat) (R : Type) : (T94v8ur1 N R).Ok CX code94 := mkTab_ok (hcsF94v8 N R) (noY_ok) (trivial) (trivial) (trivial)
def rsF94v8 : List ResultVar := [.tmp 5, .tmp 6]
def F94v8 : Nat → TF94v8
  | 0 => fun _ _ => none
  | N + 1 => fun x0 x1 =>
    match F87 N x0 x1 with
    | none => none
    | some (.r rx0v1) =>
      some (.r rx0v1 true)
def xRF94v8 : XSh R94v8 := ⟨[], ⟨[(0, .one (.cell (.int .i64))), (1, .one (.cell (.bool)))], [.var [.any] [.fn 87]]⟩, fun st => [0], fun s => .r ((Eng.look s.env 0).toI) ((Eng.look s.env 1).toB)⟩
theorem fsF94v8 : ∀ (N : Nat) (lk : Nat → AV) (M : List Blk), FFF94v8 (F94v8 (N + 1)) (canS sgF94v8 lk M) = evfn CX (T94v8ur1 N R94v8) code94 rsF94v8 (argsE 3 (canS sgF94v8 lk M).env) (canS sgF94v8 lk M).mem (goRt CX 1 2 (fun _ => some xRF94v8)) := by intro N lk M; kernel_rfl
theorem soundF94v8 : ∀ N, RecOkF94v8 (F94v8 N)
  | 0, lk, M, o, h => by cases h
  | N + 1, lk, M, o, h => fn_soundt hX (okT94v8ur1 N R94v8) Try.func94 hb94 rfl en94 (by kernel_rfl) (ys := fun _ => some xRF94v8) (fun st y h => by injection h with h; subst h; exact fun lk M => ⟨rfl, rfl⟩) ((fsF94v8 N lk M).symm.trans h)
def cvce94v8n0 : List Cv := []
def selce94v8n0 : St → List Nat := fun st => [(Eng.look st.env 2).id]
noncomputable def ce94v8n0 (Fx : TF94v8) (R : Type) (test : List AV → List Blk → Bool) : CE R := ⟨94, test, fun args M => some (selce94v8n0 ⟨argEnv 0 args, M, [], .unk⟩), fun args M k => tst (Nat.beq args.length 3) (callFn CX 1 cvce94v8n0 sgF94v8 selce94v8n0 (FFF94v8 Fx) elF94v8 args M k)⟩
theorem okce94v8n0 (Fx : TF94v8) (h : RecOkF94v8 Fx) (R : Type) (test : List AV → List Blk → Bool) : CeOk CX (ce94v8n0 Fx R test) := ce_ok hX (fun o k => by cases o; rfl) h en94 (fun args M ids h => by injection h with h; exact ⟨rfl, h.symm⟩)
end Go.Proofs.Ytnfmdenclkdmbaa

namespace Go.Proofs.Ytnfmdenclkdmbaa
open Go Go.Eng
set_option maxRecDepth 100000

/-! ### F17: ceiling/num.Wrap -/
inductive R17 where
  | r (x0 : Int) (x1 : Bool)
abbrev TF17 := Int → Int → Int → Option R17
def sgF17 : LSh := ⟨[(0, .one (.cell (.int .u8))), (1, .one (.cell (.int .i64))), (2, .one (.cell (.int .i64)))], []⟩
def FFF17 (Fx : TF17) (s : St) : Option R17 := Fx ((Eng.look s.env 0).toI) ((Eng.look s.env 1).toI) ((Eng.look s.env 2).toI)
def valF17 (o : R17) : AV := match o with | .r x0 x1 => .tup [.int .i64 x0, .bool x1]
def memF17 (o : R17) : List Blk := match o with | .r x0 x1 => []
def elF17 {R : Type} (o : R17) (k : AV → List Blk → Option R) : Option R := match o with | .r x0 x1 => k (.tup [.int .i64 x0, .bool x1]) []
def RecOkF17 (Fx : TF17) : Prop := ∀ lk M o, FFF17 Fx (canS sgF17 lk M) = some o → FCalls CX 17 0 (argsE 3 (canS sgF17 lk M).env) (canS sgF17 lk M).mem (valF17 o) (memF17 o)
noncomputable def csF17b (N : Nat) (R : Type) : List (CE R) := [ce67n0 (F67 N) R (testV CX cvce67n0 sgF67 selce67n0), ce67v1n0 (F67v1 N) R (testV CX cvce67v1n0 sgF67v1 selce67v1n0), ce67v2n0 (F67v2 N) R (testV CX cvce67v2n0 sgF67v2 selce67v2n0), ce67v3n0 (F67v3 N) R (testV CX cvce67v3n0 sgF67v3 selce67v3n0), ce67v4n0 (F67v4 N) R (testV CX cvce67v4n0 sgF67v4 selce67v4n0), ce67v5n0 (F67v5 N) R (testV CX cvce67v5n0 sgF67v5 selce67v5n0), ce67v6n0 (F67v6 N) R (testV CX cvce67v6n0 sgF67v6 selce67v6n0), ce67v7n0 (F67v7 N) R (testV CX cvce67v7n0 sgF67v7 selce67v7n0), ce67v8n0 (F67v8 N) R (testV CX cvce67v8n0 sgF67v8 selce67v8n0), ce71n0 (F71 N) R (testV CX cvce71n0 sgF71 selce71n0), ce71v1n0 (F71v1 N) R (testV CX cvce71v1n0 sgF71v1 selce71v1n0), ce71v2n0 (F71v2 N) R (testV CX cvce71v2n0 sgF71v2 selce71v2n0), ce75n0 (F75 N) R (testV CX cvce75n0 sgF75 selce75n0), ce75v1n0 (F75v1 N) R (testV CX cvce75v1n0 sgF75v1 selce75v1n0), ce75v2n0 (F75v2 N) R (testV CX cvce75v2n0 sgF75v2 selce75v2n0), ce75v3n0 (F75v3 N) R (testV CX cvce75v3n0 sgF75v3 selce75v3n0), ce75v4n0 (F75v4 N) R (testV CX cvce75v4n0 sgF75v4 selce75v4n0), ce75v5n0 (F75v5 N) R (testV CX cvce75v5n0 sgF75v5 selce75v5n0), ce94n0 (F94 N) R (testV CX cvce94n0 sgF94 selce94n0), ce94v1n0 (F94v1 N) R (testV CX cvce94v1n0 sgF94v1 selce94v1n0), ce94v2n0 (F94v2 N) R (testV CX cvce94v2n0 sgF94v2 selce94v2n0), ce94v3n0 (F94v3 N) R (testV CX cvce94v3n0 sgF94v3 selce94v3n0), ce94v4n0 (F94v4 N) R (testV CX cvce94v4n0 sgF94v4 selce94v4n0), ce94v5n0 (F94v5 N) R (testV CX cvce94v5n0 sgF94v5 selce94v5n0), ce94v6n0 (F94v6 N) R (testV CX cvce94v6n0 sgF94v6 selce94v6n0), ce94v7n0 (F94v7 N) R (testV CX cvce94v7n0 sgF94v7 selce94v7n0), ce94v8n0 (F94v8 N) R (testV CX cvce94v8n0 sgF94v8 selce94v8n0), ce95n0 (F95 N) R (testV CX cvce95n0 sgF95 selce95n0), ce95v1n0 (F95v1 N) R (testV CX cvce95v1n0 sgF95v1 selce95v1n0), ce95v2n0 (F95v2 N) R (testV CX cvce95v2n0 sgF95v2 selce95v2n0), ce96n0 (F96 N) R (testV CX cvce96n0 sgF96 selce96n0), ce96v1n0 (F96v1 N) R (testV CX cvce96v1n0 sgF96v1 selce96v1n0), ce96v2n0 (F96v2 N) R (testV CX cvce96v2n0 sgF96v2 selce96v2n0), ce96v3n0 (F96v3 N) R (testV CX cvce96v3n0 sgF96v3 selce96v3n0), ce96v4n0 (F96v4 N) R (testV CX cvce96v4n0 sgF96v4 selce96v4n0), ce96v5n0 (F96v5 N) R (testV CX cvce96v5n0 sgF96v5 selce96v5n0)]
theorem hcsF17b (N : Nat) (R : Type) : AllE (CeOk CX) (csF17b N R) := ⟨okce67n0 (F67 N) (soundF67 N) R (testV CX cvce67n0 sgF67 selce67n0), okce67v1n0 (F67v1 N) (soundF67v1 N) R (testV CX cvce67v1n0 sgF67v1 selce67v1n0), okce67v2n0 (F67v2 N) (soundF67v2 N) R (testV CX cvce67v2n0 sgF67v2 selce67v2n0), okce67v3n0 (F67v3 N) (soundF67v3 N) R (testV CX cvce67v3n0 sgF67v3 selce67v3n0), okce67v4n0 (F67v4 N) (soundF67v4 N) R (testV CX cvce67v4n0 sgF67v4 selce67v4n0), okce67v5n0 (F67v5 N) (soundF67v5 N) R (testV CX cvce67v5n0 sgF67v5 selce67v5n0), okce67v6n0 (F67v6 N) (soundF67v6 N) R (testV CX cvce67v6n0 sgF67v6 selce67v6n0), okce67v7n0 (F67v7 N) (soundF67v7 N) R (testV CX cvce67v7n0 sgF67v7 selce67v7n0), okce67v8n0 (F67v8 N) (soundF67v8 N) R (testV CX cvce67v8n0 sgF67v8 selce67v8n0), okce71n0 (F71 N) (soundF71 N) R (testV CX cvce71n0 sgF71 selce71n0), okce71v1n0 (F71v1 N) (soundF71v1 N) R (testV CX cvce71v1n0 sgF71v1 selce71v1n0), okce71v2n0 (F71v2 N) (soundF71v2 N) R (testV CX cvce71v2n0 sgF71v2 selce71v2n0), okce75n0 (F75 N) (soundF75 N) R (testV CX cvce75n0 sgF75 selce75n0), okce75v1n0 (F75v1 N) (soundF75v1 N) R (testV CX cvce75v1n0 sgF75v1 selce75v1n0), okce75v2n0 (F75v2 N) (soundF75v2 N) R (testV CX cvce75v2n0 sgF75v2 selce75v2n0), okce75v3n0 (F75v3 N) (soundF75v3 N) R (testV CX cvce75v3n0 sgF75v3 selce75v3n0), okce75v4n0 (F75v4 N) (soundF75v4 N) R (testV CX cvce75v4n0 sgF75v4 selce75v4n0), okce75v5n0 (F75v5 N) (soundF75v5 N) R (testV CX cvce75v5n0 sgF75v5 selce75v5n0), okce94n0 (F94 N) (soundF94 N) R (testV CX cvce94n0 sgF94 selce94n0), okce94v1n0 (F94v1 N) (soundF94v1 N) R (testV CX cvce94v1n0 sgF94v1 selce94v1n0), okce94v2n0 (F94v2 N) (soundF94v2 N) R (testV CX cvce94v2n0 sgF94v2 selce94v2n0), okce94v3n0 (F94v3 N) (soundF94v3 N) R (testV CX cvce94v3n0 sgF94v3 selce94v3n0), okce94v4n0 (F94v4 N) (soundF94v4 N) R (testV CX cvce94v4n0 sgF94v4 selce94v4n0), okce94v5n0 (F94v5 N) (soundF94v5 N) R (testV CX cvce94v5n0 sgF94v5 selce94v5n0), okce94v6n0 (F94v6 N) (soundF94v6 N) R (testV CX cvce94v6n0 sgF94v6 selce94v6n0), okce94v7n0 (F94v7 N) (soundF94v7 N) R (testV CX cvce94v7n0 sgF94v7 selce94v7n0), okce94v8n0 (F94v8 N) (soundF94v8 N) R (testV CX cvce94v8n0 sgF94v8 selce94v8n0), okce95n0 (F95 N) (soundF95 N) R (testV CX cvce95n0 sgF95 selce95n0), okce95v1n0 (F95v1 N) (soundF95v1 N) R (testV CX cvce95v1n0 sgF95v1 selce95v1n0), okce95v2n0 (F95v2 N) (soundF95v2 N) R (testV CX cvce95v2n0 sgF95v2 selce95v2n0), okce96n0 (F96 N) (soundF96 N) R (testV CX cvce96n0 sgF96 selce96n0), okce96v1n0 (F96v1 N) (soundF96v1 N) R (testV CX cvce96v1n0 sgF96v1 selce96v1n0), okce96v2n0 (F96v2 N) (soundF96v2 N) R (testV CX cvce96v2n0 sgF96v2 selce96v2n0), okce96v3n0 (F96v3 N) (soundF96v3 N) R (testV CX cvce96v3n0 sgF96v3 selce96v3n0), okce96v4n0 (F96v4 N) (soundF96v4 N) R (testV CX cvce96v4n0 sgF96v4 selce96v4n0), okce96v5n0 (F96v5 N) (soundF96v5 N) R (testV CX cvce96v5n0 sgF96v5 selce96v5n0), trivial⟩
def rs17n38 : List ResultVar := [.tmp 0]
noncomputable def T17n38ur1 (N : Nat) (R : Type) : LTab R := mkTab ⟨21, 2097151⟩ (csF17b N R) (noY) [] [] []
theorem okT17n38ur1 (N : Nat) (R : Type) : (T17n38ur1 N R).Ok CX code38 := mkTab_ok (hcsF17b N R) (noY_ok) (trivial) (trivial) (trivial)
noncomputable def csF17 (N : Nat) (R : Type) : List (CE R) := ⟨38, fun _ _ => true, fun _ M => some (List.range M.length), fun args M k => evfn CX (T17n38ur1 N R) code38 rs17n38 args M fun x M' => tst (Nat.ble M.length M'.length) (k x M')⟩ :: csF17b N R
theorem hcsF17 (N : Nat) (R : Type) : AllE (CeOk CX) (csF17 N R) := ⟨inl1_ok (run := fun args M k => evfn CX (T17n38ur1 N R) code38 rs17n38 args M k) fun {args M k r} h => evfn_sound hX (okT17n38ur1 N R) Try.func38 hb38 rfl en38 (by kernel_rfl) h, hcsF17b N R⟩
noncomputable def T17ur1 (N : Nat) (R : Type) : LTab R := mkTab ⟨35, 34359738367⟩ (csF17 N R) (noY) [] [] []
theorem okT17ur1 (N : Nat) (R : Type) : (T17ur1 N R).Ok CX code17 := mkTab_ok (hcsF17 N R) (noY_ok) (trivial) (trivial) (trivial)
def rsF17 : List ResultVar := [.tmp 6, .tmp 7]
def F17 : Nat → TF17
  | 0 => fun _ _ _ => none
  | N + 1 => fun x0 x1 x2 =>
    match x0 == (1 : Int) with
    | true =>
      some (.r (IntKind.wrap .i64 (x1 + x2)) true)
    | false =>
      match x0 == (2 : Int) with
      | true =>
        some (.r (IntKind.wrap .i64 (x1 - x2)) true)
      | false =>
        match F67 N  with
        | none => none
        | some (.r) =>
          match F67v1 N  with
          | none => none
          | some (.r) =>
            match F67v2 N  with
            | none => none
            | some (.r) =>
              match F71 N  with
              | none => none
              | some (.r) =>
                match F71v1 N  with
                | none => none
                | some (.r) =>
                  match F71v2 N  with
                  | none => none
                  | some (.r) =>
                    match F75 N  with
                    | none => none
                    | some (.r) =>
                      match F75v1 N  with
                      | none => none
                      | some (.r) =>
                        match F75v2 N  with
                        | none => none
                        | some (.r) =>
                          match F75v3 N  with
                          | none => none
                          | some (.r) =>
                            match F75v4 N  with
                            | none => none
                            | some (.r) =>
                              match F75v5 N  with
                              | none => none
                              | some (.r) =>
                                match F67v3 N  with
                                | none => none
                                | some (.r) =>
                                  match F67v4 N  with
                                  | none => none
                                  | some (.r) =>
                                    match F67v5 N  with
                                    | none => none
                                    | some (.r) =>
                                      match F67v6 N  with
                                      | none => none
                                      | some (.r) =>
                                        match F67v7 N  with
                                        | none => none
                                        | some (.r) =>
                                          match F67v8 N  with
                                          | none => none
                                          | some (.r) =>
                                            match x0 == (1 : Int) with
                                            | true =>
                                              match F94 N x1 x2 with
                                              | none => none
                                              | some (.r rx0v19 rx1v19) =>
                                                some (.r rx0v19 rx1v19)
                                            | false =>
                                              match x0 == (2 : Int) with
                                              | true =>
                                                match F94v1 N x1 x2 with
                                                | none => none
                                                | some (.r rx0v20 rx1v20) =>
                                                  some (.r rx0v20 rx1v20)
                                              | false =>
                                                match x0 == (3 : Int) with
                                                | true =>
                                                  match F94v2 N x1 x2 with
                                                  | none => none
                                                  | some (.r rx0v21 rx1v21) =>
                                                    some (.r rx0v21 rx1v21)
                                                | false =>
                                                  match x0 == (4 : Int) with
                                                  | true =>
                                                    match F95 N x1 x2 with
                                                    | none => none
                                                    | some (.r rx0v22 rx1v22) =>
                                                      some (.r rx0v22 rx1v22)
                                                  | false =>
                                                    match x0 == (5 : Int) with
                                                    | true =>
                                                      match F95v1 N x1 x2 with
                                                      | none => none
                                                      | some (.r rx0v23 rx1v23) =>
                                                        some (.r rx0v23 rx1v23)
                                                    | false =>
                                                      match x0 == (6 : Int) with
                                                      | true =>
                                                        match F95v2 N x1 x2 with
                                                        | none => none
                                                        | some (.r rx0v24 rx1v24) =>
                                                          some (.r rx0v24 rx1v24)
                                                      | false =>
                                                        match x0 == (7 : Int) with
                                                        | true =>
                                                          match F96 N x1 x2 with
                                                          | none => none
                                                          | some (.r rx0v25 rx1v25) =>
                                                            some (.r rx0v25 rx1v25)
                                                        | false =>
                                                          match x0 == (8 : Int) with
                                                          | true =>
                                                            match F96v1 N x1 x2 with
                                                            | none => none
                                                            | some (.r rx0v26 rx1v26) =>
                                                              some (.r rx0v26 rx1v26)
                                                          | false =>
                                                            match x0 == (9 : Int) with
                                                            | true =>
                                                              match F96v2 N x1 x2 with
                                                              | none => none
                                                              | some (.r rx0v27 rx1v27) =>
                                                                some (.r rx0v27 rx1v27)
                                                            | false =>
                                                              match x0 == (10 : Int) with
                                                              | true =>
                                                                match F96v3 N x1 x2 with
                                                                | none => none
                                                                | some (.r rx0v28 rx1v28) =>
                                                                  some (.r rx0v28 rx1v28)
                                                              | false =>
                                                                match x0 == (11 : Int) with
                                                                | true =>
                                                                  match F96v4 N x1 x2 with
                                                                  | none => none
                                                                  | some (.r rx0v29 rx1v29) =>
                                                                    some (.r rx0v29 rx1v29)
                                                                | false =>
                                                                  match x0 == (12 : Int) with
                                                                  | true =>
                                                                    match F96v5 N x1 x2 with
                                                                    | none => none
                                                                    | some (.r rx0v30 rx1v30) =>
                                                                      some (.r rx0v30 rx1v30)
                                                                  | false =>
                                                                    match x0 == (13 : Int) with
                                                                    | true =>
                                                                      match F94v3 N x1 x2 with
                                                                      | none => none
                                                                      | some (.r rx0v31 rx1v31) =>
                                                                        some (.r rx0v31 rx1v31)
                                                                    | false =>
                                                                      match x0 == (14 : Int) with
                                                                      | true =>
                                                                        match F94v4 N x1 x2 with
                                                                        | none => none
                                                                        | some (.r rx0v32 rx1v32) =>
                                                                          some (.r rx0v32 rx1v32)
                                                                      | false =>
                                                                        match x0 == (15 : Int) with
                                                                        | true =>
                                                                          match F94v5 N x1 x2 with
                                                                          | none => none
                                                                          | some (.r rx0v33 rx1v33) =>
                                                                            some (.r rx0v33 rx1v33)
                                                                        | false =>
                                                                          match x0 == (16 : Int) with
                                                                          | true =>
                                                                            match F94v6 N x1 x2 with
                                                                            | none => none
                                                                            | some (.r rx0v34 rx1v34) =>
                                                                              some (.r rx0v34 rx1v34)
                                                                          | false =>
                                                                            match x0 == (17 : Int) with
                                                                            | true =>
                                                                              match F94v7 N x1 x2 with
                                                                              | none => none
                                                                              | some (.r rx0v35 rx1v35) =>
                                                                                some (.r rx0v35 rx1v35)
                                                                            | false =>
                                                                              match x0 == (18 : Int) with
                                                                              | true =>
                                                                                match F94v8 N x1 x2 with
                                                                                | none => none
                                                                                | some (.r rx0v36 rx1v36) =>
                                                                                  some (.r rx0v36 rx1v36)
                                                                              | false =>
                                                                                some (.r 0 false)
def xRF17 : XSh R17 := ⟨[], ⟨[(0, .one (.cell (.int .i64))), (1, .one (.cell (.bool)))], []⟩, fun _ => [], fun s => .r ((Eng.look s.env 0).toI) ((Eng.look s.env 1).toB)⟩
theorem fsF17 : ∀ (N : Nat) (lk : Nat → AV) (M : List Blk), FFF17 (F17 (N + 1)) (canS sgF17 lk M) = evfn CX (T17ur1 N R17) code17 rsF17 (argsE 3 (canS sgF17 lk M).env) (canS sgF17 lk M).mem (goRt CX 0 2 (fun _ => some xRF17)) := by intro N lk M; kernel_rfl
theorem soundF17 : ∀ N, RecOkF17 (F17 N)
  | 0, lk, M, o, h => by cases h
  | N + 1, lk, M, o, h => fn_soundt hX (okT17ur1 N R17) Try.func17 hb17 rfl en17 (by kernel_rfl) (ys := fun _ => some xRF17) (fun st y h => by injection h with h; subst h; exact fun lk M => ⟨rfl, rfl⟩) ((fsF17 N lk M).symm.trans h)
def cvce17n0 : List Cv := []
def selce17n0 : St → List Nat := fun _ => []
noncomputable def ce17n0 (Fx : TF17) (R : Type) (test : List AV → List Blk → Bool) : CE R := ⟨17, test, fun args M => some (selce17n0 ⟨argEnv 0 args, M, [], .unk⟩), fun args M k => tst (Nat.beq args.length 3) (callFn CX 0 cvce17n0 sgF17 selce17n0 (FFF17 Fx) elF17 args M k)⟩
theorem okce17n0 (Fx : TF17) (h : RecOkF17 Fx) (R : Type) (test : List AV → List Blk → Bool) : CeOk CX (ce17n0 Fx R test) := ce_ok hX (fun o k => by cases o; rfl) h en17 (fun args M ids h => by injection h with h; exact ⟨rfl, h.symm⟩)
end Go.Proofs.Ytnfmdenclkdmbaa

namespace Go.Proofs.Ytnfmdenclkdmbaa
open Go Go.Eng
set_option maxRecDepth 100000

/-! ### F12: ceiling/num.Apply -/
inductive R12 where
  | r (x0 : Int) (x1 : Bool)
abbrev TF12 := Int → Int → Int → Option R12
def sgF12 : LSh := ⟨[(0, .one (.cell (.int .u8))), (1, .one (.cell (.int .i64))), (2, .one (.cell (.int .i64)))], []⟩
def FFF12 (Fx : TF12) (s : St) : Option R12 := Fx ((Eng.look s.env 0).toI) ((Eng.look s.env 1).toI) ((Eng.look s.env 2).toI)
def valF12 (o : R12) : AV := match o with | .r x0 x1 => .tup [.int .i64 x0, .bool x1]
def memF12 (o : R12) : List Blk := match o with | .r x0 x1 => []
def elF12 {R : Type} (o : R12) (k : AV → List Blk → Option R) : Option R := match o with | .r x0 x1 => k (.tup [.int .i64 x0, .bool x1]) []
def RecOkF12 (Fx : TF12) : Prop := ∀ lk M o, FFF12 Fx (canS sgF12 lk M) = some o → FCalls CX 12 0 (argsE 3 (canS sgF12 lk M).env) (canS sgF12 lk M).mem (valF12 o) (memF12 o)
noncomputable def csF12 (N : Nat) (R : Type) : List (CE R) := [ce14n0 (F14 N) R (fun _ _ => true), ce17n0 (F17 N) R (fun _ _ => true), ce33n0 (F33 N) R (fun _ _ => true)]
theorem hcsF12 (N : Nat) (R : Type) : AllE (CeOk CX) (csF12 N R) := ⟨okce14n0 (F14 N) (soundF14 N) R (fun _ _ => true), okce17n0 (F17 N) (soundF17 N) R (fun _ _ => true), okce33n0 (F33 N) (soundF33 N) R (fun _ _ => true), trivial⟩
inductive OJ12a6 where
  | nx (x2 : Int)
def J12a6 (N : Nat) : Int → Int → Option OJ12a6 := fun x0 x2 =>
    match F33 N x0 with
    | none => none
    | some (.r rx0v1) =>
      match rx0v1 with
      | true =>
        some (.nx 0)
      | false =>
        some (.nx x2)
def LFJ12a6 (N : Nat) (s : St) : Option OJ12a6 := J12a6 N ((Eng.look s.env 0).toI) ((Eng.look s.env 2).toI)
def sgJ12a6 : LSh := ⟨[(0, .one (.cell (.int .u8))), (2, .one (.cell (.int .i64)))], []⟩
def ceJ12a6 : List Cv := []
def seJ12a6 : St → List Nat := fun _ => []
def xJ12a6wnx : XSh OJ12a6 := ⟨[], ⟨[(2, .one (.cell (.int .i64)))], []⟩, fun _ => [], fun s => .nx ((Eng.look s.env 2).toI)⟩
def xsJ12a6 : Ex → St → Option (XSh OJ12a6) := fun e st => match e with
  | .normal => some xJ12a6wnx
  | _ => none
def exJ12a6 (o : OJ12a6) : Ex := match o with | .nx x2 => .normal
def stJ12a6 (o : OJ12a6) : St := match o with | .nx x2 => ⟨[(2, .int .i64 x2)], [], [], .unk⟩
def elJ12a6 {R : Type} (o : OJ12a6) (k : Ex → St → Option R) : Option R := match o with | .nx x2 => k .normal ⟨[(2, .int .i64 x2)], [], [], .unk⟩
theorem heJ12a6 {R : Type} (o : OJ12a6) (k : Ex → St → Option R) : elJ12a6 o k = k (exJ12a6 o) (stJ12a6 o) := by cases o <;> rfl
theorem hxJ12a6 : ∀ e st x, xsJ12a6 e st = some x → outOk x e exJ12a6 stJ12a6 := by
  intro e st x h
  unfold xsJ12a6 at h
  repeat' split at h
  all_goals first
    | (injection h with h; subst h; exact fun lk M => ⟨rfl, rfl⟩)
    | cases h
noncomputable def T12uc6 (N : Nat) (R : Type) : LTab R := mkTab ⟨54, 6148⟩ (csF12 N R) (noY) [] [] []
theorem okT12uc6 (N : Nat) (R : Type) : (T12uc6 N R).Ok CX code12 := mkTab_ok (hcsF12 N R) (noY_ok) (trivial) (trivial) (trivial)
noncomputable def bdJ12a6 : Code := (codeAt code12 [false, true]).getD .skip
theorem hsJ12a6 (N : Nat) : ∀ (lk : Nat → AV) (M : List Blk), LFJ12a6 N (canS sgJ12a6 lk M) = evk CX (T12uc6 N OJ12a6) bdJ12a6 6 (canS sgJ12a6 lk M) (kontX CX 0 xsJ12a6) := by intro lk M; kernel_rfl
inductive OJ12a14 where
  | nx (x8 : Bool)
def J12a14 (N : Nat) : Int → Option OJ12a14 := fun x0 =>
    match decide ((13 : Int) ≤ x0) with
    | true =>
      match decide (x0 ≤ (15 : Int)) with
      | true =>
        some (.nx true)
      | false =>
        some (.nx (x0 == (18 : Int)))
    | false =>
      some (.nx (x0 == (18 : Int)))
def LFJ12a14 (N : Nat) (s : St) : Option OJ12a14 := J12a14 N ((Eng.look s.env 0).toI)
def sgJ12a14 : LSh := ⟨[(0, .one (.cell (.int .u8)))], []⟩
def ceJ12a14 : List Cv := []
def seJ12a14 : St → List Nat := fun _ => []
def xJ12a14wnx : XSh OJ12a14 := ⟨[], ⟨[(8, .one (.cell (.bool)))], []⟩, fun _ => [], fun s => .nx ((Eng.look s.env 8).toB)⟩
def xsJ12a14 : Ex → St → Option (XSh OJ12a14) := fun e st => match e with
  | .normal => some xJ12a14wnx
  | _ => none
def exJ12a14 (o : OJ12a14) : Ex := match o with | .nx x8 => .normal
def stJ12a14 (o : OJ12a14) : St := match o with | .nx x8 => ⟨[(8, .bool x8)], [], [], .unk⟩
def elJ12a14 {R : Type} (o : OJ12a14) (k : Ex → St → Option R) : Option R := match o with | .nx x8 => k .normal ⟨[(8, .bool x8)], [], [], .unk⟩
theorem heJ12a14 {R : Type} (o : OJ12a14) (k : Ex → St → Option R) : elJ12a14 o k = k (exJ12a14 o) (stJ12a14 o) := by cases o <;> rfl
theorem hxJ12a14 : ∀ e st x, xsJ12a14 e st = some x → outOk x e exJ12a14 stJ12a14 := by
  intro e st x h
  unfold xsJ12a14 at h
  repeat' split at h
  all_goals first
    | (injection h with h; subst h; exact fun lk M => ⟨rfl, rfl⟩)
    | cases h
noncomputable def T12uc14 (N : Nat) (R : Type) : LTab R := mkTab ⟨54, 8380672⟩ (csF12 N R) (noY) [] [] []
theorem okT12uc14 (N : Nat) (R : Type) : (T12uc14 N R).Ok CX code12 := mkTab_ok (hcsF12 N R) (noY_ok) (trivial) (trivial) (trivial)
noncomputable def bdJ12a14 : Code := (codeAt code12 [false, true, true]).getD .skip
theorem hsJ12a14 (N : Nat) : ∀ (lk : Nat → AV) (M : List Blk), LFJ12a14 N (canS sgJ12a14 lk M) = evk CX (T12uc14 N OJ12a14) bdJ12a14 14 (canS sgJ12a14 lk M) (kontX CX 0 xsJ12a14) := by intro lk M; kernel_rfl
inductive OJ12a30 where
  | nx
  | ret (x6 : Int) (x7 : Bool)
def J12a30 (N : Nat) : Int → Int → Bool → Option OJ12a30 := fun x1 x2 x8 =>
    match F14 N x1 with
    | none => none
    | some (.r rx0v4) =>
      match !rx0v4 with
      | true =>
        some (.ret 0 false)
      | false =>
        match F14 N x2 with
        | none => none
        | some (.r rx0v5) =>
          match !rx0v5 with
          | true =>
            some (.ret 0 false)
          | false =>
            match x8 with
            | true =>
              match (IntKind.wrap .i64 ((BitVec.ofInt 64 (IntKind.wrap .i64 ((BitVec.ofInt 64 x1 ||| BitVec.ofInt 64 x2).toNat : Int)) &&& ~~~ BitVec.ofInt 64 (1 : Int)).toNat : Int)) != (0 : Int) with
              | true =>
                some (.ret 0 false)
              | false =>
                some .nx
            | false =>
              some .nx
def LFJ12a30 (N : Nat) (s : St) : Option OJ12a30 := J12a30 N ((Eng.look s.env 1).toI) ((Eng.look s.env 2).toI) ((Eng.look s.env 8).toB)
def sgJ12a30 : LSh := ⟨[(1, .one (.cell (.int .i64))), (2, .one (.cell (.int .i64))), (8, .one (.cell (.bool)))], []⟩
def ceJ12a30 : List Cv := []
def seJ12a30 : St → List Nat := fun _ => []
def xJ12a30wnx : XSh OJ12a30 := ⟨[], ⟨[], []⟩, fun _ => [], fun s => .nx ⟩
def xJ12a30wret : XSh OJ12a30 := ⟨[], ⟨[(6, .one (.cell (.int .i64))), (7, .one (.cell (.bool)))], []⟩, fun _ => [], fun s => .ret ((Eng.look s.env 6).toI) ((Eng.look s.env 7).toB)⟩
def xsJ12a30 : Ex → St → Option (XSh OJ12a30) := fun e st => match e with
  | .normal => some xJ12a30wnx
  | .ret => some xJ12a30wret
  | _ => none
def exJ12a30 (o : OJ12a30) : Ex := match o with | .nx => .normal | .ret x6 x7 => .ret
def stJ12a30 (o : OJ12a30) : St := match o with | .nx => ⟨[], [], [], .unk⟩ | .ret x6 x7 => ⟨[(6, .int .i64 x6), (7, .bool x7)], [], [], .unk⟩
def elJ12a30 {R : Type} (o : OJ12a30) (k : Ex → St → Option R) : Option R := match o with | .nx => k .normal ⟨[], [], [], .unk⟩ | .ret x6 x7 => k .ret ⟨[(6, .int .i64 x6), (7, .bool x7)], [], [], .unk⟩
theorem heJ12a30 {R : Type} (o : OJ12a30) (k : Ex → St → Option R) : elJ12a30 o k = k (exJ12a30 o) (stJ12a30 o) := by cases o <;> rfl
theorem hxJ12a30 : ∀ e st x, xsJ12a30 e st = some x → outOk x e exJ12a30 stJ12a30 := by
  intro e st x h
  unfold xsJ12a30 at h
  repeat' split at h
  all_goals first
    | (injection h with h; subst h; exact fun lk M => ⟨rfl, rfl⟩)
    | cases h
noncomputable def T12uc30 (N : Nat) (R : Type) : LTab R := mkTab ⟨54, 2199014867136⟩ (csF12 N R) (noY) [] [] []
theorem okT12uc30 (N : Nat) (R : Type) : (T12uc30 N R).Ok CX code12 := mkTab_ok (hcsF12 N R) (noY_ok) (trivial) (trivial) (trivial)
noncomputable def bdJ12a30 : Code := (codeAt code12 [false, true, true, true]).getD .skip
theorem hsJ12a30 (N : Nat) : ∀ (lk : Nat → AV) (M : List Blk), LFJ12a30 N (canS sgJ12a30 lk M) = evk CX (T12uc30 N OJ12a30) bdJ12a30 30 (canS sgJ12a30 lk M) (kontX CX 0 xsJ12a30) := by intro lk M; kernel_rfl
noncomputable def T12ur1 (N : Nat) (R : Type) : LTab R := mkTab ⟨54, 18014398509481983⟩ (csF12 N R) (noY) [] [] [(6, fun st k => callLoop CX 0 6148 ceJ12a6 sgJ12a6 seJ12a6 ⟨54, 18014398509481983⟩ (LFJ12a6 N) elJ12a6 st k), (14, fun st k => callLoop CX 0 8380672 ceJ12a14 sgJ12a14 seJ12a14 ⟨54, 18014398509481983⟩ (LFJ12a14 N) elJ12a14 st k), (30, fun st k => callLoop CX 0 2199014867136 ceJ12a30 sgJ12a30 seJ12a30 ⟨54, 18014398509481983⟩ (LFJ12a30 N) elJ12a30 st k)]
theorem okT12ur1 (N : Nat) (R : Type) : (T12ur1 N R).Ok CX code12 := mkTab_ok (hcsF12 N R) (noY_ok) (trivial) (trivial) (⟨cut_ok hX (path := [false, true]) (by kernel_rfl) (by rfl) (okT12uc6 N OJ12a6) (hsJ12a6 N) hxJ12a6 rfl heJ12a6, cut_ok hX (path := [false, true, true]) (by kernel_rfl) (by rfl) (okT12uc14 N OJ12a14) (hsJ12a14 N) hxJ12a14 rfl heJ12a14, cut_ok hX (path := [false, true, true, true]) (by kernel_rfl) (by rfl) (okT12uc30 N OJ12a30) (hsJ12a30 N) hxJ12a30 rfl heJ12a30, trivial⟩)
def rsF12 : List ResultVar := [.tmp 6, .tmp 7]
def F12 : Nat → TF12
  | 0 => fun _ _ _ => none
  | N + 1 => fun x0 x1 x2 =>
    match J12a6 N x0 x2 with
    | none => none
    | some (.nx x2v2) =>
      match J12a14 N x0 with
      | none => none
      | some (.nx x8v3) =>
        match J12a30 N x1 x2v2 x8v3 with
        | none => none
        | some (.nx) =>
          match F17 N x0 x1 x2v2 with
          | none => none
          | some (.r rx0v7 rx1v7) =>
            match rx1v7 with
            | true =>
              match F14 N rx0v7 with
              | none => none
              | some (.r rx0v8) =>
                match rx0v8 with
                | true =>
                  some (.r rx0v7 true)
                | false =>
                  some (.r 0 false)
            | false =>
              some (.r 0 false)
        | some (.ret x6v9 x7v9) =>
          some (.r x6v9 x7v9)
def xRF12 : XSh R12 := ⟨[], ⟨[(0, .one (.cell (.int .i64))), (1, .one (.cell (.bool)))], []⟩, fun _ => [], fun s => .r ((Eng.look s.env 0).toI) ((Eng.look s.env 1).toB)⟩
theorem fsF12 : ∀ (N : Nat) (lk : Nat → AV) (M : List Blk), FFF12 (F12 (N + 1)) (canS sgF12 lk M) = evfn CX (T12ur1 N R12) code12 rsF12 (argsE 3 (canS sgF12 lk M).env) (canS sgF12 lk M).mem (goRt CX 0 2 (fun _ => some xRF12)) := by intro N lk M; kernel_rfl
theorem soundF12 : ∀ N, RecOkF12 (F12 N)
  | 0, lk, M, o, h => by cases h
  | N + 1, lk, M, o, h => fn_soundt hX (okT12ur1 N R12) Try.func12 hb12 rfl en12 (by kernel_rfl) (ys := fun _ => some xRF12) (fun st y h => by injection h with h; subst h; exact fun lk M => ⟨rfl, rfl⟩) ((fsF12 N lk M).symm.trans h)
def cvce12n0 : List Cv := []
def selce12n0 : St → List Nat := fun _ => []
noncomputable def ce12n0 (Fx : TF12) (R : Type) (test : List AV → List Blk → Bool) : CE R := ⟨12, test, fun args M => some (selce12n0 ⟨argEnv 0 args, M, [], .unk⟩), fun args M k => tst (Nat.beq args.length 3) (callFn CX 0 cvce12n0 sgF12 selce12n0 (FFF12 Fx) elF12 args M k)⟩
theorem okce12n0 (Fx : TF12) (h : RecOkF12 Fx) (R : Type) (test : List AV → List Blk → Bool) : CeOk CX (ce12n0 Fx R test) := ce_ok hX (fun o k => by cases o; rfl) h en12 (fun args M ids h => by injection h with h; exact ⟨rfl, h.symm⟩)
end Go.Proofs.Ytnfmdenclkdmbaa
