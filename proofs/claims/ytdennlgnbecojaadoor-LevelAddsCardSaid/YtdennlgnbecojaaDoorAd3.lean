/-
  The engine, part Aa: pieces of code cut out; tables made of lists.
  The engine, part Ab: tables of types and places; entering a function.
  The engine, part Ac: what is read of the arguments, as abstract values; from a function's contract to a law's row.
  The functions of the code as typed functions, and that the code runs so. Printed by gen2.py.
  The functions of the code as typed functions, and that the code runs so. Printed by gen2.py.
  The functions of the code as typed functions, and that the code runs so. Printed by gen2.py.
  The functions of the code as typed functions, and that the code runs so. Printed by gen2.py.
  The functions of the code as typed functions, and that the code runs so. Printed by gen2.py.
  The functions of the code as typed functions, and that the code runs so. Printed by gen2.py.
  The functions of the code as typed functions, and that the code runs so. Printed by gen2.py.
  The functions of the code as typed functions, and that the code runs so. Printed by gen2.py.
  The functions of the code as typed functions, and that the code runs so. Printed by gen2.py.
  The functions of the code as typed functions, and that the code runs so. Printed by gen2.py.
  The functions of the code as typed functions, and that the code runs so. Printed by gen2.py.
  The functions of the code as typed functions, and that the code runs so. Printed by gen2.py.
  The functions of the code as typed functions, and that the code runs so. Printed by gen2.py.
  The functions of the code as typed functions, and that the code runs so. Printed by gen2.py.
  The functions of the code as typed functions, and that the code runs so. Printed by gen2.py.
  The functions of the code as typed functions, and that the code runs so. Printed by gen2.py.
-/
import Derived.Test.YtdennlgnbecojaaDoorAd2
import Derived.ProofKit
import Derived.OpenShut
import Derived.Carry
import Derived.ChangeArms
import Derived.Test.YtdennlgnbecojaaDoorChecked
import Derived.KernelRfl
set_option linter.all false
set_option linter.deprecated false
namespace Go.Eng
open Go

variable {X : Cx} {R O : Type}

def kontX (X : Cx) (m : Nat) (xs : Ex → St → Option (XSh O)) (e : Ex) (st : St) : Option O :=
  match xs e st with
  | some x => goS X m x.cv x.σ x.sel st fun s => some (x.out s)
  | none => none

theorem callCut_sound (hX : X.Ok) {root c : Code} {p : Nat} {L : LTab O} (hL : L.Ok X root) (hat : At root p c) {m mask : Nat} {cv' : List Cv} {σ : LSh} {sel' : St → List Nat} {xs : Ex → St → Option (XSh O)} {JF : St → Option O} {exOf : O → Ex} {stOf : O → St}
    (hstep : ∀ lk M, JF (canS σ lk M) = evk X L c p (canS σ lk M) (kontX X m xs)) (hx : ∀ e st x, xs e st = some x → outOk x e exOf stOf)
    {nt : Nt} (hnt : L.tab.nt = ⟨nt.n, mask⟩) {elim : O → (Ex → St → Option R) → Option R} (helim : ∀ o k, elim o k = k (exOf o) (stOf o)) {st : St} {k : Ex → St → Option R} {r : R}
    (h : callLoop X m mask cv' σ sel' nt JF elim st k = some r) : ∃ e st', CodeRuns X nt c st (Ex.exit' e) st' ∧ k e st' = some r := by
  unfold callLoop at h
  obtain ⟨st1, h, e1, e2, hcv⟩ := evcv_sound hX cv' h
  replace h := tst_some h
  obtain ⟨h1, h⟩ := h
  rw [Bool.and_eq_true, Bool.and_eq_true] at h1
  obtain ⟨⟨h1, hmask⟩, hdf1⟩ := h1
  have hdf1 : st1.dfs = [] := by simpa using hdf1
  have hmask : nt.mask &&& mask = mask := Nat.eq_of_beq_eq_true hmask
  split at h
  · cases h
  · rename_i o ho
    rw [helim] at h
    replace h := tst_some h
    obtain ⟨h2, h⟩ := h
    rw [Bool.and_eq_true] at h2
    obtain ⟨hm, hdfs⟩ := h2
    have hdfs : (stOf o).dfs = [] := by simpa using hdfs
    refine ⟨_, _, fun {rdc n w0 S F ρ a w Q} hI hs hq => ?_, h⟩
    obtain ⟨F1, ρ1, i1, s1, g1⟩ := hcv (nt := nt) (rdc := rdc) (a := a) hI hs
    obtain ⟨hok, hmem, _⟩ := enter_facts h1
    have hsub := i1.sub hX hok hd0
    have ho' : evk X L c p (canS σ (fun t => ren (idx (sel' st1)) 4 (look st1.env t)) (subM st1.mem (sel' st1))) (kontX X m xs) = some o := (hstep _ _).symm.trans ho
    obtain ⟨e, st2, hrun, hk⟩ := evk_sound hX hL c hat ho'
    have hout : exOf o = e ∧ ∀ {nt : Nt} {rdc : Cy} {w0 : World} {S : Sc} {F : Addr → Prop} {ρ : List Hd} {a : Act} {w : World}, Inv X w0 S F ρ st2.mem w → Sim X nt st2 rdc F ρ a w →
        ∃ F' ρ', Inv X w0 S F' ρ' (stOf o).mem w ∧ Sim X nt (stOf o) rdc F' ρ' a w ∧ GrowF m F F' ρ ρ' w w := by
      unfold kontX at hk
      split at hk
      case h_2 => cases hk
      rename_i x hxe
      obtain ⟨lk, M, ho2, hr⟩ := goS_sound hX hk
      injection ho2 with ho2
      obtain ⟨q1, q2⟩ := hx e st2 x hxe lk M
      rw [ho2] at q1 q2
      refine ⟨q1, fun {nt rdc w0 S F ρ a w} hI hs => ?_⟩
      rw [q2]
      exact hr hI hs
    refine hrun (rdc := ⟨rdc.r, rdc.db, fun t => a.tmps.getD t undef⟩) (n := n) (w0 := w) (S := hand ρ1 st1.mem (sel' st1) F1) (F := F1) (ρ := sub hd0 ρ1 (sel' st1)) (a := a) (w := w)
      (by have : (canS σ (fun t => ren (idx (sel' st1)) 4 (look st1.env t)) (subM st1.mem (sel' st1))).mem = subM st1.mem (sel' st1) := hmem
          rw [this]; exact hsub)
      ⟨enter_env hX h1 i1 s1.env, by rw [hnt]; exact s1.size, by have := s1.defs; rw [hdf1] at this; exact this, s1.rd, fun _ _ => rfl⟩ ?_
    intro a' w' F0 ρ0 hI0 hs0 hg0
    obtain ⟨F', ρ', hI', hs', hg1⟩ := hout.2 hI0 hs0
    have hg' := (hg0.toF m).trans hg1
    rw [← hout.1]
    obtain ⟨i3, g3, r3⟩ := i1.merge hX hok hd0 hI' hg' hm
    refine hq a' w' F' _ i3 ⟨fun t => ?_, by have := hs'.size; rw [hnt] at this; exact this, ?_, hs'.rd, fun t ht => ?_⟩ (g1.trans g3)
    · rcases look_append (renE (rno m (sel' st1) st1.mem.length) 4 (stOf o).env) (st1.env.filter (fun p => !mask.testBit p.1)) t with e | e
      · simp only [leaveS]; rw [e]; exact (hs'.env.ren hX r3 4) t
      · simp only [leaveS]; rw [e]
        rcases look_mask mask st1.env t with e' | ⟨hb, e'⟩
        · rw [e']; exact .top _
        · rw [e']
          have hk := hs'.kept t (by rw [hnt]; exact hb)
          rw [hk]
          exact (s1.env t).grow g3
    · have hd := hs'.defs
      rw [hdfs] at hd
      simp only [leaveS]
      rw [hdf1]
      exact hd
    · have hb : mask.testBit t = false := by
        rw [← hmask, Nat.testBit_and, ht, Bool.false_and]
      have hk := hs'.kept t (by rw [hnt]; exact hb)
      rw [hk]
      exact s1.kept t ht

/-! ### Tables out of lists -/

abbrev Ent1 (R : Type) := St → (Ex → St → Option R) → Option R

def pickE : List (Nat × Ent1 R) → Nat → Ent1 R
  | [], _ => fun _ _ => none
  | e :: es, p => match Nat.beq p e.1 with | true => e.2 | false => pickE es p
def pickO : List (Nat × Ent1 R) → Nat → Option (Ent1 R)
  | [], _ => none
  | e :: es, p => match Nat.beq p e.1 with | true => some e.2 | false => pickO es p

def AllE {α : Type} (P : α → Prop) : List α → Prop
  | [] => True
  | e :: es => P e ∧ AllE P es

theorem pickE_some {es : List (Nat × Ent1 R)} {P : Nat × Ent1 R → Prop} (hP : AllE P es) {p : Nat} {st : St} {k : Ex → St → Option R} {r : R} (h : pickE es p st k = some r) : ∃ f, P (p, f) ∧ f st k = some r := by
  induction es with
  | nil => simp [pickE] at h
  | cons e es ih =>
    simp only [pickE] at h
    cases hb : Nat.beq p e.1 with
    | true =>
      simp only [hb] at h
      have := Nat.eq_of_beq_eq_true hb
      subst this
      exact ⟨e.2, hP.1, h⟩
    | false => simp only [hb] at h; exact ih hP.2 h
theorem pickO_some {es : List (Nat × Ent1 R)} {P : Nat × Ent1 R → Prop} (hP : AllE P es) {p : Nat} {f : Ent1 R} (h : pickO es p = some f) : P (p, f) := by
  induction es with
  | nil => simp [pickO] at h
  | cons e es ih =>
    simp only [pickO] at h
    split at h
    · rename_i hb
      have := Nat.eq_of_beq_eq_true hb
      subst this
      injection h with h
      subst h
      exact hP.1
    · exact ih hP.2 h

/-- An entry for a loop, a range over a function, a piece cut out. -/
def LoopOk (X : Cx) (root : Code) (nt : Nt) (e : Nat × Ent1 R) : Prop := ∀ {c st k r}, At root e.1 (.loop c) → e.2 st k = some r → ∃ x st', CodeRuns X nt (.loop c) st (Ex.exit' x) st' ∧ k x st' = some r
def RangeOk (X : Cx) (root : Code) (nt : Nt) (e : Nat × Ent1 R) : Prop := ∀ {g ps a b st k r}, At root e.1 (.rangeFunc g ps a b) → e.2 st k = some r → ∃ x st', CodeRuns X nt (.rangeFunc g ps a b) st (Ex.exit' x) st' ∧ k x st' = some r
def CutOk (X : Cx) (root : Code) (nt : Nt) (e : Nat × Ent1 R) : Prop := ∀ {c st k r}, At root e.1 c → e.2 st k = some r → ∃ x st', CodeRuns X nt c st (Ex.exit' x) st' ∧ k x st' = some r

/-- An entry for the call of a function at arguments of some shape. -/
structure CE (R : Type) where
  f : FuncId
  test : List AV → List Blk → Bool
  wr : List AV → List Blk → Option (List Nat)
  run : List AV → List Blk → (AV → List Blk → Option R) → Option R

def pickC : List (CE R) → FuncId → List AV → List Blk → (AV → List Blk → Option R) → Option R
  | [], _, _, _, _ => none
  | e :: es, f, args, M, k => match Nat.beq f e.f && e.test args M with | true => e.run args M k | false => pickC es f args M k
def pickW : List (CE R) → FuncId → List AV → List Blk → Option (List Nat)
  | [], _, _, _ => none
  | e :: es, f, args, M => match Nat.beq f e.f && e.test args M with | true => e.wr args M | false => pickW es f args M

def CeOk (X : Cx) (e : CE R) : Prop := ∀ {args M k r}, e.run args M k = some r → ∃ x M', ACalls X e.f args M x M' ∧ k x M' = some r ∧ ∀ ids, e.wr args M = some ids → Agree ids M M'

theorem pickC_some {es : List (CE R)} (hP : AllE (CeOk X) es) {f : FuncId} {args : List AV} {M : List Blk} {k : AV → List Blk → Option R} {r : R} (h : pickC es f args M k = some r) :
    ∃ x M', ACalls X f args M x M' ∧ k x M' = some r ∧ ∀ ids, pickW es f args M = some ids → Agree ids M M' := by
  induction es with
  | nil => simp [pickC] at h
  | cons e es ih =>
    simp only [pickC] at h
    split at h
    · rename_i hb
      have hb' := hb
      rw [Bool.and_eq_true] at hb
      have := Nat.eq_of_beq_eq_true hb.1
      subst this
      obtain ⟨x, M', h1, h2, h3⟩ := hP.1 h
      refine ⟨x, M', h1, h2, fun ids hi => ?_⟩
      simp only [pickW, hb'] at hi
      exact h3 ids hi
    · rename_i hb
      obtain ⟨x, M', h1, h2, h3⟩ := ih hP.2 h
      refine ⟨x, M', h1, h2, fun ids hi => ?_⟩
      simp only [pickW, hb] at hi
      exact h3 ids hi

def mkTab (nt : Nt) (cs : List (CE R)) (y : Nat → List AV → List Blk → (AV → List Blk → Option R) → Option R) (ls rs ks : List (Nat × Ent1 R)) : LTab R :=
  ⟨⟨nt, pickW cs, pickC cs, y⟩, pickE ls, pickE rs, pickO ks⟩
def YOk (X : Cx) (y : Nat → List AV → List Blk → (AV → List Blk → Option R) → Option R) : Prop := ∀ {id args M k r}, y id args M k = some r → ∃ x M', AYields X id args M x M' ∧ k x M' = some r
def noY : Nat → List AV → List Blk → (AV → List Blk → Option R) → Option R := fun _ _ _ _ => none
theorem noY_ok : YOk X (noY (R := R)) := fun {_ _ _ _ _} h => by cases h

theorem mkTab_ok {root : Code} {nt : Nt} {cs : List (CE R)} {y : Nat → List AV → List Blk → (AV → List Blk → Option R) → Option R} {ls rs ks : List (Nat × Ent1 R)} (hc : AllE (CeOk X) cs) (hy : YOk X y)
    (hl : AllE (LoopOk X root nt) ls) (hr : AllE (RangeOk X root nt) rs) (hk : AllE (CutOk X root nt) ks) : (mkTab nt cs y ls rs ks).Ok X root where
  tab := ⟨fun {f args M k r} h => pickC_some hc h, fun {id args M k r} h => hy h⟩
  loop := fun {p c st k r} hat h => by
    obtain ⟨f, h1, h2⟩ := pickE_some hl h
    exact h1 hat h2
  range := fun {p g ps a b st k r} hat h => by
    obtain ⟨f, h1, h2⟩ := pickE_some hr h
    exact h1 hat h2
  cut := fun {p c f st k r} hat hf h => pickO_some hk hf hat h

/-- A loop's entry is right. -/
theorem loop_ok (hX : X.Ok) {root c0 : Code} {path : List Bool} (hc0 : codeAt root path = some (.loop c0)) {p : Nat} (hp : enc path = p) {L : LTab O} (hL : L.Ok X root) {m mask : Nat} {cv cv' : List Cv} {σ : LSh} {sel sel' : St → List Nat} {xs : Ex → St → Option (XSh O)} {LF : Nat → St → Option O} {exOf : O → Ex} {stOf : O → St}
    (h0 : ∀ lk M, LF 0 (canS σ lk M) = none) (hstep : ∀ n lk M, LF (n + 1) (canS σ lk M) = evk X L c0 (2 * p) (canS σ lk M) (kont X m cv σ sel xs (LF n))) (hx : ∀ e st x, xs e st = some x → outOk x e exOf stOf)
    {nt : Nt} (hnt : L.tab.nt = ⟨nt.n, mask⟩) {elim : O → (Ex → St → Option R) → Option R} (helim : ∀ o k, elim o k = k (exOf o) (stOf o)) {fuel : Nat} :
    LoopOk X root nt (p, fun st k => callLoop X m mask cv' σ sel' nt (LF fuel) elim st k) := by
  intro c st k r hat h
  have hd := hat.det path hp
  rw [hc0] at hd
  injection hd with hd; injection hd with hd; subst hd
  exact callLoop_sound hX hL hat h0 hstep hx hnt helim h

/-- A loop, run round by round in place. -/
def unroll (X : Cx) (L : LTab R) (c : Code) (p : Nat) : Nat → St → (Ex → St → Option R) → Option R
  | 0, _, _ => none
  | n + 1, st, k => evk X L c p st fun e st' => match e with | .normal => unroll X L c p n st' k | .exit i => k (.exit i) st' | .ret => k .ret st'
theorem unroll_sound (hX : X.Ok) {root c : Code} {p : Nat} {L : LTab R} (hL : L.Ok X root) (hat : At root p (.loop c)) : ∀ (fuel : Nat) {st : St} {k : Ex → St → Option R} {r : R}, unroll X L c (2 * p) fuel st k = some r →
    ∃ e st', k e st' = some r ∧ ∀ {rdc : Cy} {n : Nat} {w0 : World} {S : Sc} {F : Addr → Prop} {ρ : List Hd} {a : Act} {w : World} {Q : Exit → Act → World → Prop}, Inv X w0 S F ρ st.mem w → Sim X L.tab.nt st rdc F ρ a w →
      (∀ a' w' F' ρ', Inv X w0 S F' ρ' st'.mem w' → Sim X L.tab.nt st' rdc F' ρ' a' w' → Grow F F' ρ ρ' w w' → Q (Ex.exit' e) a' w') → Code.roundsIn (fen rdc.r) n X.P c Q fuel a w
  | 0, st, k, r, h => by cases h
  | fuel + 1, st, k, r, h => by
    simp only [unroll] at h
    obtain ⟨e, st1, hrun, h⟩ := evk_sound hX hL c (hat.down false fun l hl => by simp [codeAt, hl]) h
    cases e with
    | normal =>
      obtain ⟨e', st', hk, hr⟩ := unroll_sound hX hL hat fuel h
      refine ⟨e', st', hk, fun {rdc n w0 S F ρ a w Q} hI hs hq => ?_⟩
      rw [roundsIn_succ]
      refine hrun hI hs fun a' w' F' ρ' hI' hs' hg => ?_
      exact hr hI' hs' fun a'' w'' F'' ρ'' hI'' hs'' hg'' => hq a'' w'' F'' ρ'' hI'' hs'' (hg.trans hg'')
    | exit i =>
      refine ⟨.exit i, st1, h, fun {rdc n w0 S F ρ a w Q} hI hs hq => ?_⟩
      rw [roundsIn_succ]
      exact hrun hI hs fun a' w' F' ρ' hI' hs' hg => hq a' w' F' ρ' hI' hs' hg
    | ret =>
      refine ⟨.ret, st1, h, fun {rdc n w0 S F ρ a w Q} hI hs hq => ?_⟩
      rw [roundsIn_succ]
      exact hrun hI hs fun a' w' F' ρ' hI' hs' hg => hq a' w' F' ρ' hI' hs' hg
theorem unroll_ok (hX : X.Ok) {root c0 : Code} {path : List Bool} (hc0 : codeAt root path = some (.loop c0)) {p : Nat} (hp : enc path = p) {L : LTab R} (hL : L.Ok X root) {nt : Nt} (hnt : L.tab.nt = nt) {fuel : Nat} :
    LoopOk X root nt (p, fun st k => unroll X L c0 (2 * p) fuel st k) := by
  intro c st k r hat h
  have hd := hat.det path hp
  rw [hc0] at hd
  injection hd with hd; injection hd with hd; subst hd
  obtain ⟨e, st', hk, hr⟩ := unroll_sound hX hL hat fuel h
  subst hnt
  exact ⟨e, st', fun {rdc n w0 S F ρ a w Q} hI hs hq => wpIn_loop_rounds fuel (hr hI hs hq), hk⟩

theorem cut_ok (hX : X.Ok) {root c0 : Code} {path : List Bool} (hc0 : codeAt root path = some c0) {p : Nat} (hp : enc path = p) {L : LTab O} (hL : L.Ok X root) {m mask : Nat} {cv' : List Cv} {σ : LSh} {sel' : St → List Nat} {xs : Ex → St → Option (XSh O)} {JF : St → Option O} {exOf : O → Ex} {stOf : O → St}
    (hstep : ∀ lk M, JF (canS σ lk M) = evk X L c0 p (canS σ lk M) (kontX X m xs)) (hx : ∀ e st x, xs e st = some x → outOk x e exOf stOf)
    {nt : Nt} (hnt : L.tab.nt = ⟨nt.n, mask⟩) {elim : O → (Ex → St → Option R) → Option R} (helim : ∀ o k, elim o k = k (exOf o) (stOf o)) :
    CutOk X root nt (p, fun st k => callLoop X m mask cv' σ sel' nt JF elim st k) := by
  intro c st k r hat h
  have hd := hat.det path hp
  rw [hc0] at hd
  injection hd with hd; subst hd
  exact callCut_sound hX hL hat hstep hx hnt helim h

/-- A range's entry is right: the function that is ranged over, run in line. -/
def inl (g : FuncId) (run : List AV → List Blk → (AV → List Blk → Option R) → Option R) : List (CE R) := [⟨g, fun _ _ => true, fun _ _ => none, run⟩]
def oneTab (nt : Nt) (cs : List (CE R)) : Tab R := ⟨nt, pickW cs, pickC cs, noY⟩
theorem oneTab_ok {nt : Nt} {cs : List (CE R)} (hc : AllE (CeOk X) cs) : (oneTab nt cs).CallOk X := ⟨fun {f args M k r} h => pickC_some hc h, fun {_ _ _ _ _} h => by cases h⟩

theorem range_ok (hX : X.Ok) {root : Code} {path : List Bool} {g0 : Operand} {ps0 : Array Tmp} {a0 b0 : Code} (hc0 : codeAt root path = some (.rangeFunc g0 ps0 a0 b0)) {p : Nat} (hp : enc path = p) {nt : Nt} {cs : List (CE R)} (hc : AllE (CeOk X) cs) {s : Nat} {keep : List Nat}
    (hsite : X.site s = ⟨nt.n, ps0, a0, b0⟩) : RangeOk X root nt (p, fun st k => evrange X (oneTab nt cs) s keep g0 st k) := by
  intro g ps a b st k r hat h
  have hd := hat.det path hp
  rw [hc0] at hd
  injection hd with hd; injection hd with h1 h2 h3 h4; subst h1; subst h2; subst h3; subst h4
  exact evrange_sound hX (T := oneTab nt cs) (oneTab_ok hc) hsite h

theorem inl_ok {g : FuncId} {run : List AV → List Blk → (AV → List Blk → Option R) → Option R} (h : ∀ {args M k r}, run args M k = some r → ∃ x M', ACalls X g args M x M' ∧ k x M' = some r) : AllE (CeOk X) (inl g run) :=
  ⟨fun {args M k r} hr => by
    obtain ⟨x, M', h1, h2⟩ := h hr
    exact ⟨x, M', h1, h2, fun ids hi => by cases hi⟩, trivial⟩

/-- Which entry of a list of places the loop of a range is at: the yields of several places. -/
def pickY : List (Nat × (Nat → List AV → List Blk → (AV → List Blk → Option R) → Option R)) → Nat → List AV → List Blk → (AV → List Blk → Option R) → Option R
  | [], _, _, _, _ => none
  | e :: es, id, args, M, k =>
    match M[id]? with
    | some (.loop s _ _ _) => (match Nat.beq s e.1 with | true => e.2 id args M k | false => pickY es id args M k)
    | _ => none
theorem pickY_ok {es : List (Nat × (Nat → List AV → List Blk → (AV → List Blk → Option R) → Option R))} (h : AllE (fun e => YOk X e.2) es) : YOk X (pickY es) := by
  induction es with
  | nil => intro id args M k r h; cases h
  | cons e es ih =>
    intro id args M k r hk
    simp only [pickY] at hk
    split at hk
    · split at hk
      · exact h.1 hk
      · exact ih h.2 hk
    · cases hk

/-- A call, cut down to a contract's shape, as an entry. -/
theorem ce_ok (hX : X.Ok) {f : FuncId} {m na : Nat} {cv : List Cv} {σ : LSh} {sel : St → List Nat} {FFn : St → Option O} {valOf : O → AV} {memOf : O → List Blk} {elim : O → (AV → List Blk → Option R) → Option R} (helim : ∀ o k, elim o k = k (valOf o) (memOf o))
    (hf : ∀ lk M o, FFn (canS σ lk M) = some o → FCalls X f m (argsE na (canS σ lk M).env) (canS σ lk M).mem (valOf o) (memOf o)) (hc : ∀ (vs : Array Value) (w : World), (callFunc f vs).run X.P w = .ok (.enter f vs) w)
    {test : List AV → List Blk → Bool} {wr : List AV → List Blk → Option (List Nat)} (hwr : ∀ args M ids, wr args M = some ids → cv = [] ∧ ids = sel ⟨argEnv 0 args, M, [], .unk⟩) :
    CeOk X ⟨f, test, wr, fun args M k => tst (Nat.beq args.length na) (callFn X m cv σ sel FFn elim args M k)⟩ := by
  intro args M k r h
  replace h := tst_some h
  obtain ⟨hna, h⟩ := h
  obtain ⟨x, M', h1, h2, h3⟩ := callFn_sound hX helim hf hc (Nat.eq_of_beq_eq_true hna) h
  refine ⟨x, M', h1, h2, fun ids hi => ?_⟩
  obtain ⟨e1, e2⟩ := hwr args M ids hi
  rw [e2]; exact h3 e1

/-- A call whose entry changes blocks: all of them may be written. -/
theorem ce_okc (hX : X.Ok) {f : FuncId} {m na : Nat} {cv : List Cv} {σ : LSh} {sel : St → List Nat} {FFn : St → Option O} {valOf : O → AV} {memOf : O → List Blk} {elim : O → (AV → List Blk → Option R) → Option R} (helim : ∀ o k, elim o k = k (valOf o) (memOf o))
    (hf : ∀ lk M o, FFn (canS σ lk M) = some o → FCalls X f m (argsE na (canS σ lk M).env) (canS σ lk M).mem (valOf o) (memOf o)) (hc : ∀ (vs : Array Value) (w : World), (callFunc f vs).run X.P w = .ok (.enter f vs) w)
    {test : List AV → List Blk → Bool} :
    CeOk X ⟨f, test, fun _ M => some (List.range M.length), fun args M k => tst (Nat.beq args.length na) (callFn X m cv σ sel FFn elim args M fun x M' => tst (Nat.ble M.length M'.length) (k x M'))⟩ := by
  intro args M k r h
  replace h := tst_some h
  obtain ⟨hna, h⟩ := h
  obtain ⟨x, M', h1, h2, h3⟩ := callFn_sound hX helim hf hc (Nat.eq_of_beq_eq_true hna) h
  replace h2 := tst_some h2
  obtain ⟨hle, h2⟩ := h2
  refine ⟨x, M', h1, h2, fun ids hi => ?_⟩
  injection hi with hi
  subst hi
  exact ⟨Nat.le_of_ble_eq_true hle, fun i hi hn => absurd (List.mem_range.2 hi) hn⟩

/-- A call whose code is run in place. -/
theorem inl1_ok {g : FuncId} {test : List AV → List Blk → Bool} {run : List AV → List Blk → (AV → List Blk → Option R) → Option R} (h : ∀ {args M k r}, run args M k = some r → ∃ x M', ACalls X g args M x M' ∧ k x M' = some r) :
    CeOk X ⟨g, test, fun _ M => some (List.range M.length), fun args M k => run args M fun x M' => tst (Nat.ble M.length M'.length) (k x M')⟩ := by
  intro args M k r hr
  obtain ⟨x, M', h1, h2⟩ := h hr
  replace h2 := tst_some h2
  obtain ⟨hle, h2⟩ := h2
  refine ⟨x, M', h1, h2, fun ids hi => ?_⟩
  injection hi with hi
  subst hi
  exact ⟨Nat.le_of_ble_eq_true hle, fun i hi hn => absurd (List.mem_range.2 hi) hn⟩

/-- Nil slices handed on as slices that nobody writes. -/
def nilfix : List (Nat × TypeId) → List AV → List AV
  | [], xs => xs
  | p :: ps, xs => nilfix ps (match xs[p.1]? with | some .nilsl => xs.set p.1 (.list p.2 []) | _ => xs)
theorem repL_nilfix {ρ : List Hd} {F : Addr → Prop} {w : World} {vs : List Value} : ∀ (ps : List (Nat × TypeId)) {xs : List AV}, RepL X.K ρ F w xs vs → RepL X.K ρ F w (nilfix ps xs) vs
  | [], xs, h => h
  | p :: ps, xs, h => by
    refine repL_nilfix ps ?_
    split
    · rename_i hx
      refine ⟨by simp [h.1], fun j y v hy hv => ?_⟩
      by_cases e : j = p.1
      · subst e
        have hlt : p.1 < xs.length := (List.getElem?_eq_some_iff.1 hx).1
        rw [List.getElem?_set_self hlt] at hy
        injection hy with hy
        subst hy
        have := h.2 p.1 _ v hx hv
        cases this
        exact .list0 _
      · rw [List.getElem?_set_ne (Ne.symm e)] at hy
        exact h.2 j y v hy hv
    · exact h
theorem nil_ok {e : CE R} (h : CeOk X e) (ps : List (Nat × TypeId)) (test : List AV → List Blk → Bool) : CeOk X ⟨e.f, test, fun args M => e.wr (nilfix ps args) M, fun args M k => e.run (nilfix ps args) M k⟩ := by
  intro args M k r hr
  obtain ⟨x, M', h1, h2, h3⟩ := h hr
  exact ⟨x, M', ⟨h1.1, fun {w0 S F ρ w vs} hI hv => h1.2 hI (repL_nilfix ps hv)⟩, h2, h3⟩

def testV (X : Cx) (cv : List Cv) (σ : LSh) (sel : St → List Nat) (args : List AV) (M : List Blk) : Bool :=
  match evcv X cv ⟨argEnv 0 args, M, [], .unk⟩ (fun st1 => some (enterOk σ (sel st1) st1)) with
  | some true => true
  | _ => false

/-- A function's contract out of its code: the last step. -/
theorem fn_sound (hX : X.Ok) {f : FuncId} {fn : Func} {c : Code} {L : LTab O} (hL : L.Ok X c) (hf : X.P.funcs[f]? = some fn) (hb : fn.body = some c) (hn : fn.ntmps = L.tab.nt.n)
    (hc : ∀ (vs : Array Value) (w : World), (callFunc f vs).run X.P w = .ok (.enter f vs) w) {rs : List ResultVar} (hrs : fn.results.toList = rs) {m : Nat} {ys : St → Option (XSh O)} {valOf : O → AV} {memOf : O → List Blk} (hys : ∀ st y, ys st = some y → retOk y valOf memOf)
    {args : List AV} {M : List Blk} {o : O} (h : evfn X L c rs args M (goR X m ys) = some o) : FCalls X f m args M (valOf o) (memOf o) := by
  obtain ⟨x, M', h1, h2⟩ := evfn_sound hX hL hf hb hn hc hrs h
  exact goR_sound hX hys h1 h2
theorem fn_soundt (hX : X.Ok) {f : FuncId} {fn : Func} {c : Code} {L : LTab O} (hL : L.Ok X c) (hf : X.P.funcs[f]? = some fn) (hb : fn.body = some c) (hn : fn.ntmps = L.tab.nt.n)
    (hc : ∀ (vs : Array Value) (w : World), (callFunc f vs).run X.P w = .ok (.enter f vs) w) {rs : List ResultVar} (hrs : fn.results.toList = rs) {m n : Nat} {ys : St → Option (XSh O)} {valOf : O → AV} {memOf : O → List Blk} (hys : ∀ st y, ys st = some y → retOkt n y valOf memOf)
    {args : List AV} {M : List Blk} {o : O} (h : evfn X L c rs args M (goRt X m n ys) = some o) : FCalls X f m args M (valOf o) (memOf o) := by
  obtain ⟨x, M', h1, h2⟩ := evfn_sound hX hL hf hb hn hc hrs h
  exact goRt_sound hX hys h1 h2

end Go.Eng

namespace Go.Eng
open Go

variable {X : Cx}

def badTI : TI := ⟨false, .other, 0, 0, [], []⟩
def lookTI : List (Nat × TI) → Nat → TI
  | [], _ => badTI
  | e :: es, t => match Nat.beq t e.1 with | true => e.2 | false => lookTI es t
def lookS : List (Nat × Site) → Nat → Site
  | [], _ => ⟨0, #[], .skip, .skip⟩
  | e :: es, t => match Nat.beq t e.1 with | true => e.2 | false => lookS es t

theorem lookTI_ok {P : Program} {l : List (Nat × TI)} (h : AllE (fun e => e.2 = tiOf P e.1 ∧ e.2.ok = true) l) (t : Nat) : ((lookTI l t).ok = true → lookTI l t = tiOf P t) ∧ ((lookTI l t).ok = false → (lookTI l t).ks = []) := by
  induction l with
  | nil => exact ⟨fun h => (by cases h), fun _ => rfl⟩
  | cons e es ih =>
    simp only [lookTI]
    cases hb : Nat.beq t e.1 with
    | true =>
      have := Nat.eq_of_beq_eq_true hb
      subst this
      exact ⟨fun _ => h.1.1, fun hf => (by have := h.1.2; rw [hf] at this; cases this)⟩
    | false => exact ih h.2

def lookE : List Nat → Nat → Bool
  | [], _ => false
  | e :: es, t => match Nat.beq t e with | true => true | false => lookE es t
theorem lookE_ok {P : Program} {l : List Nat} (h : AllE (fun e => eqOk P e = true) l) (t : Nat) (ht : lookE l t = true) : eqOk P t = true := by
  induction l with
  | nil => cases ht
  | cons e es ih =>
    simp only [lookE] at ht
    cases hb : Nat.beq t e with
    | true =>
      have := Nat.eq_of_beq_eq_true hb
      subst this
      exact h.1
    | false => rw [hb] at ht; exact ih h.2 ht
theorem cx_ok {P : Program} {l : List (Nat × TI)} {s : Nat → Site} {el : List Nat} {gl : Nat → AV} (hgl : ∀ g, gl g = .top ∨ (gl g).pure = true) (hm : P.follows .mixedOrders = true) (h : AllE (fun e => e.2 = tiOf P e.1 ∧ e.2.ok = true) l) (he : AllE (fun e => eqOk P e = true) el) : (⟨P, lookTI l, s, gl, lookE el⟩ : Cx).Ok where
  eqs := lookE_ok he
  ti := fun t => (lookTI_ok h t).1
  mixed := hm
  bad := fun t => (lookTI_ok h t).2
  glob := hgl

theorem enters {P : Program} {f : FuncId} {fn : Func} {c : Code} (hf : P.funcs[f]? = some fn) (hb : fn.body = some c) (hn : (fn.name == "runtime.NumGoroutine") = false) (vs : Array Value) (w : World) : (callFunc f vs).run P w = .ok (.enter f vs) w := by
  have hp : (program).run P w = .ok P w := rfl
  have hn' : fn.name ≠ "runtime.NumGoroutine" := by simpa using hn
  simp [callFunc, Sem.run_bind, hp, Result.andThen, hf, hn', hb]

end Go.Eng

namespace Go.Eng
open Go Go.ChangeShapes Go.WideShapes Go.ChangeAt Go.RowKit

variable {X : Cx}

/-- Integers within their kinds; slices and strings not too long. -/
inductive Wf (K : TypeId → List Kind) : AV → Prop
  | int (k : IntKind) (n : Int) (h : (Lit.int k n).wf = true) : Wf K (.int k n)
  | bool (b : Bool) : Wf K (.bool b)
  | str (s : ByteArray) (h : s.size ≤ maxLen) : Wf K (.str s)
  | list (t : TypeId) (xs : List Row) (hl : xs.length ≤ maxLen) (hk : ∀ row ∈ xs, koks (K t) row = true) (h : ∀ row ∈ xs, ∀ x ∈ row, Wf K x) : Wf K (.list t xs)
def WfL (K : TypeId → List Kind) (row : Row) : Prop := ∀ x ∈ row, Wf K x

def offsOk (X : Cx) : Nat → List (Nat × TypeId) → Nat → Bool
  | o, [], n => o == n
  | o, f :: fs, n => f.1 == o && offsOk X (o + (X.ti f.2).size) fs n
/-- A type whose data can be read so, if those of the list's types can. -/
def rd1 (X : Cx) (S : List TypeId) (t : TypeId) : Bool :=
  (X.ti t).ok && match (X.ti t).u with
    | .int k => (X.ti t).ks == [.int k]
    | .bool => (X.ti t).ks == [.bool]
    | .str => (X.ti t).ks == [.str]
    | .slice e => (X.ti t).ks == [.slice e] && S.contains e && Nat.blt 0 (X.ti e).size
    | .struct fs => (X.ti t).ks == fs.flatMap (fun f => (X.ti f.2).ks) && offsOk X 0 fs (X.ti t).size && fs.all (fun f => S.contains f.2)
    | .array m e => (X.ti t).ks == (List.replicate m (X.ti e).ks).flatten && S.contains e && (m * (X.ti e).size == (X.ti t).size)
    | _ => false
/-- All of the list can be read. -/
def rdS (X : Cx) (S : List TypeId) : Bool := S.all (rd1 X S)
theorem rd1_of {S : List TypeId} (h : rdS X S = true) {t : TypeId} (ht : S.contains t = true) : rd1 X S t = true := by
  unfold rdS at h
  exact List.all_eq_true.1 h t (by simpa using ht)

theorem koks_append : ∀ {ks ls : List Kind} {r s : Row}, koks ks r = true → koks ls s = true → koks (ks ++ ls) (r ++ s) = true
  | [], _, [], _, _, h => h
  | k :: ks, ls, x :: r, s, h, h' => by
    simp only [koks, Bool.and_eq_true] at h
    simp only [List.cons_append, koks, Bool.and_eq_true]
    exact ⟨h.1, koks_append h.2 h'⟩
  | [], _, _ :: _, _, h, _ => by simp [koks] at h
  | _ :: _, _, [], _, h, _ => by simp [koks] at h

section
variable {w : World} {ρ : List Hd}

/-- The cells that were there. -/
def there (w : World) (a : Addr) : Prop := a.block < w.heap.size

def Reads (X : Cx) (ρ : List Hd) (w : World) (ks : List Kind) (cs : List Value) (row : Row) : Prop := RepL X.K ρ (there w) w row cs ∧ koks ks row = true ∧ WfL X.K row

theorem reads_fields {cs : List Value} : ∀ (fs : List (Nat × TypeId)) (o : Nat), o ≤ cs.length → offsOk X o fs cs.length = true → (∀ f ∈ fs, (X.ti f.2).ks.length = (X.ti f.2).size) →
    (∀ f ∈ fs, ∃ row, Reads X ρ w (X.ti f.2).ks ((cs.drop f.1).take (X.ti f.2).size) row) → ∃ row, Reads X ρ w (fs.flatMap fun f => (X.ti f.2).ks) (cs.drop o) row
  | [], o, ho, h, _, _ => by
    have : o = cs.length := by simpa [offsOk] using h
    subst this
    exact ⟨[], ⟨by simp [RepL], rfl, fun x hx => by simp at hx⟩⟩
  | f :: fs, o, ho, h, hks, hr => by
    simp only [offsOk, Bool.and_eq_true, beq_iff_eq] at h
    obtain ⟨h1, h2⟩ := h
    obtain ⟨r1, a1, a2, a3⟩ := hr f (by simp)
    rw [h1] at a1
    have hl1 : ((cs.drop o).take (X.ti f.2).size).length = (X.ti f.2).size := by rw [a1.1, koks_length a2]; exact hks f (by simp)
    have ho2 : o + (X.ti f.2).size ≤ cs.length := by simp at hl1; omega
    obtain ⟨r2, b1, b2, b3⟩ := reads_fields fs (o + (X.ti f.2).size) ho2 h2 (fun g hg => hks g (by simp [hg])) (fun g hg => hr g (by simp [hg]))
    refine ⟨r1 ++ r2, ?_, ?_, fun x hx => ?_⟩
    · have := RepL.append a1 b1
      rwa [← List.drop_drop, List.take_append_drop] at this
    · simp only [List.flatMap_cons]; exact koks_append a2 b2
    · rw [List.mem_append] at hx
      rcases hx with hx | hx
      · exact a3 x hx
      · exact b3 x hx

theorem reads_elems {cs : List Value} {ks : List Kind} {sz : Nat} (hks : ks.length = sz) : ∀ (m o : Nat), o + m * sz = cs.length → (∀ i, i < m → ∃ row, Reads X ρ w ks ((cs.drop (o + i * sz)).take sz) row) → ∃ row, Reads X ρ w (List.replicate m ks).flatten (cs.drop o) row
  | 0, o, ho, _ => by
    have : o = cs.length := by simpa using ho
    subst this
    exact ⟨[], ⟨by simp [RepL], rfl, fun x hx => by simp at hx⟩⟩
  | m + 1, o, ho, hr => by
    obtain ⟨r1, a1, a2, a3⟩ := hr 0 (by omega)
    simp only [Nat.zero_mul, Nat.add_zero] at a1
    have e1 : (m + 1) * sz = m * sz + sz := Nat.succ_mul m sz
    obtain ⟨r2, b1, b2, b3⟩ := reads_elems (cs := cs) hks m (o + sz) (by omega) (fun i hi => by
      have := hr (i + 1) (by omega)
      have e2 : (i + 1) * sz = i * sz + sz := Nat.succ_mul i sz
      rw [e2, show o + (i * sz + sz) = o + sz + i * sz by omega] at this
      exact this)
    refine ⟨r1 ++ r2, ?_, ?_, fun x hx => ?_⟩
    · have := RepL.append a1 b1
      rwa [← List.drop_drop, List.take_append_drop] at this
    · simp only [List.replicate_succ, List.flatten_cons]; exact koks_append a2 b2
    · rw [List.mem_append] at hx
      rcases hx with hx | hx
      · exact a3 x hx
      · exact b3 x hx

theorem reads_one {k : Kind} {x : AV} {v : Value} (hr : Rep X.K ρ (there w) w x v) (hk : kok k x = true) (hw : Wf X.K x) : Reads X ρ w [k] [v] [x] :=
  ⟨⟨rfl, fun j y u hy hu => by
    cases j with
    | zero => simp at hy hu; subst hy; subst hu; exact hr
    | succ j => simp at hy⟩, by simp [koks, hk], fun y hy => by simp at hy; subst hy; exact hw⟩

theorem reads_of_trod (hX : X.Ok) {S : List TypeId} (hS : rdS X S = true) {H : Type} {enc : TypeId × Value → H} : ∀ (n : Nat) {fuel : Nat} {t : TypeId} {cs : List Value} {x : DataW H × List MemPlace}, fuel < n → S.contains t = true →
    DataW.trod enc X.P w 0 (fun _ => true) true fuel t cs = some x → ∃ row, Reads X ρ w (X.ti t).ks cs row
  | 0, _, _, _, _, h, _, _ => absurd h (Nat.not_lt_zero _)
  | n + 1, fuel, t, cs, x, hfu, ht, hx => by
    have h := rd1_of hS ht
    simp only [rd1, Bool.and_eq_true] at h
    obtain ⟨hok, h⟩ := h
    obtain ⟨i, d, z, f⟩ := hX.facts hok
    have hcell : ∀ t', (X.ti t').ok = true → X.P.cellsOf t' = (X.ti t').size := fun t' hok' => by
      obtain ⟨i', d', z', f'⟩ := hX.facts hok'
      simp [Program.cellsOf, f'.info, f'.size]
    have hlen : ∀ t', (X.ti t').ok = true → (X.ti t').ks.length = (X.ti t').size := fun t' hok' => by
      obtain ⟨i', d', z', f'⟩ := hX.facts hok'
      rw [f'.ks, f'.size]
    have okof : ∀ {t'}, S.contains t' = true → (X.ti t').ok = true := fun {t'} hm => by
      have := rd1_of hS hm
      simp only [rd1, Bool.and_eq_true] at this
      exact this.1
    split at h
    · rename_i k hu
      have hk : (X.ti t).ks = [.int k] := by simpa using h
      obtain ⟨m, rfl, _, hwf⟩ := DataW.trod_int (f.intK hu) hx
      rw [hk]
      exact ⟨_, reads_one (.int k m) (by simp [kok]) (.int k m hwf)⟩
    · rename_i hu
      have hk : (X.ti t).ks = [.bool] := by simpa using h
      have hund : X.P.underlying t = some .bool := by
        have := f.und; rw [f.u] at hu
        cases d <;> simp_all [tyOf]
      obtain ⟨b, rfl, _⟩ := DataW.trod_bool hund hx
      rw [hk]
      exact ⟨_, reads_one (.bool b) rfl (.bool b)⟩
    · rename_i hu
      have hk : (X.ti t).ks = [.str] := by simpa using h
      have hund : X.P.underlying t = some .string := by
        have := f.und; rw [f.u] at hu
        cases d <;> simp_all [tyOf]
      obtain ⟨s, rfl, _, hs⟩ := DataW.trod_string hund hx
      rw [hk]
      exact ⟨_, reads_one (.str s) rfl (.str s hs)⟩
    · rename_i e hu
      simp only [Bool.and_eq_true, beq_iff_eq] at h
      obtain ⟨⟨hk, hrd⟩, hpos⟩ := h
      have hpos : 0 < (X.ti e).size := by simpa using hpos
      have hoke := okof hrd
      rcases DataW.trod_slice (f.slice hu) hx with ⟨rfl, _⟩ | ⟨a, len, cap, elems, rest, m, hfm, rfl, _, _, hlc, hcm, hel, hread, _, _⟩
      · rw [hk]
        exact ⟨_, reads_one (.list0 e) (by simp [kok]) (.list e [] (by simp) (fun row h => by simp at h) (fun row h => by simp at h))⟩
      · rw [hk]
        have each : ∀ i, i < len → ∃ vs row, w.cells? 0 (a.add (i * (X.ti e).size)) (X.ti e).size = some vs ∧ Reads X ρ w (X.ti e).ks vs row := by
          intro i hi
          have := hread i hi
          rw [hcell e hoke, List.getElem?_eq_getElem (by omega)] at this
          rw [Option.bind_eq_some_iff] at this
          obtain ⟨vs, h1, h2⟩ := this
          obtain ⟨row, h3⟩ := reads_of_trod hX hS n (by omega) hrd h2
          exact ⟨vs, row, h1, h3⟩
        have hch : ∃ g : Nat → List Value × Row, ∀ i, i < len → w.cells? 0 (a.add (i * (X.ti e).size)) (X.ti e).size = some (g i).1 ∧ Reads X ρ w (X.ti e).ks (g i).1 (g i).2 := by
          refine ⟨fun i => if hi : i < len then ((each i hi).choose, (each i hi).choose_spec.choose) else ([], []), fun i hi => ?_⟩
          simp only [hi, dif_pos]
          exact (each i hi).choose_spec.choose_spec
        obtain ⟨g, hg⟩ := hch
        have hkl := hlen e hoke
        have hxs : ((List.range len).map fun i => (g i).2).length = len := by simp
        have rep := Rep.list (K := X.K) (ρ := ρ) (F := there w) (w := w) e ((List.range len).map fun i => (g i).2) a cap ((List.range len).map fun i => (g i).1) (by simp) (by simpa using hlc) hcm
          (fun i row hi => by
            have hlt : i < len := by have := (List.getElem?_eq_some_iff.1 hi).1; simpa using this
            simp only [List.getElem?_map, List.getElem?_range hlt, Option.map_some, Option.some.injEq] at hi
            subst hi
            exact (hg i hlt).2.2.1)
          (fun i vs hi => by
            have hlt : i < len := by have := (List.getElem?_eq_some_iff.1 hi).1; simpa using this
            simp only [List.getElem?_map, List.getElem?_range hlt, Option.map_some, Option.some.injEq] at hi
            subst hi
            obtain ⟨c1, c2⟩ := hg i hlt
            have hvl : (g i).1.length = (X.K e).length := by rw [c2.1.1, koks_length c2.2.1]; rfl
            refine ⟨hvl, fun j v hj => ?_⟩
            have hjl : j < (X.ti e).size := by have := (List.getElem?_eq_some_iff.1 hj).1; rw [hvl] at this; rw [← hkl]; exact this
            have hcell' : w.cell? (a.add (i * (X.K e).length + j)) = some v := by
              have hsome := World.cells?_some c1
              obtain ⟨_, hsome⟩ := hsome
              have := hsome.2 j hjl
              rw [hj] at this
              have e2 : (X.K e).length = (X.ti e).size := hkl
              rw [e2]
              rwa [Addr.add_add] at this
            exact ⟨hcell', World.block_lt_of_cell? w _ hcell'⟩)
          (fun i row vs hi hvs j y v hy hv => by
            have hlt : i < len := by have := (List.getElem?_eq_some_iff.1 hi).1; simpa using this
            simp only [List.getElem?_map, List.getElem?_range hlt, Option.map_some, Option.some.injEq] at hi hvs
            subst hi; subst hvs
            exact (hg i hlt).2.1.2 j y v hy hv)
        rw [hxs] at rep
        refine ⟨_, reads_one rep (by simp [kok]) (.list e _ (by rw [hxs]; omega) (fun row hrow => ?_) fun row hrow y hy => ?_)⟩
        · obtain ⟨i, hi, rfl⟩ := List.mem_map.1 hrow
          exact (hg i (List.mem_range.1 hi)).2.2.1
        · obtain ⟨i, hi, rfl⟩ := List.mem_map.1 hrow
          exact (hg i (List.mem_range.1 hi)).2.2.2 y hy
    · rename_i fs hu
      simp only [Bool.and_eq_true, beq_iff_eq] at h
      obtain ⟨⟨hk, hoff⟩, hall⟩ := h
      obtain ⟨gs, hund, rfl⟩ := f.struct hu
      obtain ⟨xs, m, hfm, _, hcl, hxl, hfield⟩ := DataW.trod_struct hund hx
      rw [hk]
      rw [hcell t hok] at hcl
      have := reads_fields (X := X) (ρ := ρ) (w := w) (cs := cs) (gs.toList.map fun f => (f.offset, f.type)) 0 (Nat.zero_le _) (by rw [hcl]; exact hoff)
        (fun g hg => hlen _ (okof (List.all_eq_true.1 hall g hg))) (fun g hg => by
          have hrd := List.all_eq_true.1 hall g hg
          obtain ⟨q, hq, rfl⟩ := List.mem_map.1 hg
          obtain ⟨j, hj, hq⟩ := List.mem_iff_getElem.1 hq
          have hj' : gs[j]? = some q := by rw [← hq]; simp [Array.length_toList ▸ hj]
          have hf := hfield j q hj'
          rw [hcell _ (okof hrd)] at hf
          have hjx : j < xs.length := by rw [hxl]; simpa using hj
          rw [List.getElem?_eq_getElem hjx] at hf
          exact reads_of_trod hX hS n (by omega) hrd hf)
      simpa using this
    · rename_i m e hu
      simp only [Bool.and_eq_true, beq_iff_eq] at h
      obtain ⟨⟨hk, hrd⟩, hmul⟩ := h
      have hoke := okof hrd
      obtain ⟨xs, m', hfm, _, hcl, hxl, hread⟩ := DataW.trod_array (f.array hu) hx
      rw [hk]
      rw [hcell t hok] at hcl
      have := reads_elems (X := X) (ρ := ρ) (w := w) (cs := cs) (hlen e hoke) m 0 (by omega) (fun i hi => by
        have hf := hread i hi
        rw [hcell _ hoke, List.getElem?_eq_getElem (by omega)] at hf
        simpa using reads_of_trod hX hS n (by omega) hrd hf)
      simpa using this
    · cases h

end

/-- An argument of a type, as an abstract value. -/
def ArgAV (X : Cx) (t : TypeId) (x : AV) : Prop := ((X.ti t).u.agg = true ∧ ∃ row, x = .agg row ∧ koks (X.ti t).ks row = true ∧ WfL X.K row) ∨ ((X.ti t).u.agg = false ∧ koks (X.ti t).ks [x] = true ∧ Wf X.K x)

theorem argAV_of_trod (hX : X.Ok) {S : List TypeId} (hS : rdS X S = true) {w : World} {base : Nat} {ρ : List Hd} {H : Type} {enc : TypeId × Value → H} {t : TypeId} {v : Value} {d : DataW H} {ps : List MemPlace} (hrd : S.contains t = true) (h : DataW.Trod enc X.P w 0 (fun _ => true) true t v d ps)
    (hok : Value.okWide X.P w .any base t v) : ∃ x, ArgAV X t x ∧ Rep X.K ρ (there w) w x v := by
  obtain ⟨fuel, h⟩ := h
  obtain ⟨row, hr⟩ := reads_of_trod hX hS (ρ := ρ) (fuel + 1) (by omega) hrd h
  have hr1 := rd1_of hS hrd
  have hto : (X.ti t).ok = true := by
    simp only [rd1, Bool.and_eq_true] at hr1
    exact hr1.1
  obtain ⟨i, dd, z, f⟩ := hX.facts hto
  cases hag : (X.ti t).u.agg with
  | true =>
    have hv : ∃ cs, v = .agg cs := by
      unfold Value.okWide at hok
      rw [f.und] at hok
      rw [f.u] at hag
      cases dd <;> simp [tyOf, TyI.agg] at hag
      · obtain ⟨cs, h1, _⟩ := hok; exact ⟨cs, h1⟩
      · obtain ⟨cs, h1, _⟩ := hok; exact ⟨cs, h1⟩
    obtain ⟨cs, rfl⟩ := hv
    have hc : (Value.agg cs).cells.toList = cs.toList := rfl
    rw [hc] at hr
    refine ⟨.agg row, .inl ⟨hag, row, rfl, hr.2.1, hr.2.2⟩, ?_⟩
    have := Rep.agg (K := X.K) (ρ := ρ) (F := there w) (w := w) row cs.toList hr.1.1 hr.1.2
    simpa using this
  | false =>
    have hkl : (X.ti t).ks.length = 1 := by
      simp only [rd1, Bool.and_eq_true] at hr1
      have h2 := hr1.2
      split at h2
      · rename_i k hu
        have : (X.ti t).ks = [.int k] := by simpa using h2
        rw [this]; rfl
      · have : (X.ti t).ks = [.bool] := by simpa using h2
        rw [this]; rfl
      · have : (X.ti t).ks = [.str] := by simpa using h2
        rw [this]; rfl
      · simp only [Bool.and_eq_true, beq_iff_eq] at h2
        rw [h2.1.1]; rfl
      · rename_i hu; rw [hu] at hag; simp [TyI.agg] at hag
      · rename_i hu; rw [hu] at hag; simp [TyI.agg] at hag
      · cases h2
    have hrl := koks_length hr.2.1
    rw [hkl] at hrl
    obtain ⟨x, rfl⟩ := List.length_eq_one_iff.1 hrl
    have hcl : v.cells.toList.length = 1 := by rw [hr.1.1, hrl]
    have hv : v.cells.toList = [v] := by
      cases v with
      | agg cs =>
        exfalso
        unfold Value.okWide at hok
        rw [f.und] at hok
        rw [f.u] at hag
        cases dd <;> simp [tyOf, TyI.agg] at hag <;> simp [Cell.okWide, Cell.ok, f.und] at hok
      | _ => rfl
    rw [hv] at hr
    exact ⟨x, .inr ⟨hag, hr.2.1, hr.2.2 x (by simp)⟩, hr.1.2 0 x v rfl rfl⟩

/-! ### A law's row -/

theorem below_of_inv {w0 w : World} {F : Addr → Prop} {ρ : List Hd} {M : List Blk} {F0 : Addr → Prop} (hI : Inv X w0 ⟨fun _ => False, F0⟩ F ρ M w) : Below w0.heap.size w0 w :=
  ⟨hI.os, hI.tape, hI.output, hI.size, fun k hk => hI.frame k hk (fun h => h)⟩

theorem kept_of_below {w w' : World} (h : Below w.heap.size w w') (may : MemPlace → Prop) : w.keptBut w' may := by
  refine ⟨h.os, h.output, fun i hi => ?_⟩
  rw [h.block i hi]
  exact (World.keptBut_refl w may).2.2 i hi

theorem inv_start (hX : X.Ok) (w : World) (hg : ∀ g, Rep X.K [] (there w) w (X.glob g) (.pointer (some ⟨g, 0, none⟩))) : Inv X w ⟨fun _ => False, there w⟩ (there w) [] [] w where
  os := rfl
  tape := rfl
  output := rfl
  size := Nat.le_refl _
  frame := fun _ _ _ => rfl
  len := rfl
  rep := fun id b hd hb _ => by simp at hb
  sep := fun id b hd g hb _ _ _ => by simp at hb
  disj := fun id id' b b' hd hd' g _ hb _ _ _ _ _ _ => by simp at hb
  fz := fun a ha => ha
  glob := hg
  one := fun id hd hh => by simp at hh
  old := fun a ha => .inl ha
  fin := fun a ha => ha

def ArgsAV (X : Cx) : List TypeId → List AV → Prop
  | [], [] => True
  | t :: ts, x :: xs => ArgAV X t x ∧ ArgsAV X ts xs
  | _, _ => False

theorem argsAV_of_trod (hX : X.Ok) {S : List TypeId} (hS : rdS X S = true) {w : World} {base : Nat} {ρ : List Hd} {H : Type} {enc : TypeId × Value → H} : ∀ {ts : List TypeId} {vs : List Value} {ds : List (DataW H)} {ps : List MemPlace}, (ts.all S.contains) = true →
    DataW.TrodAll enc X.P w 0 (fun _ => true) true ts vs ds ps → (∀ (j : Nat) t v, ts[j]? = some t → vs[j]? = some v → Value.okWide X.P w .any base t v) → ∃ xs, ArgsAV X ts xs ∧ RepL X.K ρ (there w) w xs vs
  | [], [], [], ps, _, _, _ => ⟨[], trivial, by simp [RepL]⟩
  | t :: ts, v :: vs, d :: ds, ps, hrd, h, hok => by
    obtain ⟨p, q, h1, h2, _⟩ := h
    simp only [List.all_cons, Bool.and_eq_true] at hrd
    obtain ⟨x, hx, hr⟩ := argAV_of_trod hX hS (ρ := ρ) hrd.1 h1 (hok 0 t v rfl rfl)
    obtain ⟨xs, hxs, hrs⟩ := argsAV_of_trod hX hS (ρ := ρ) (ts := ts) (vs := vs) hrd.2 h2 (fun j t' v' ht hv => hok (j + 1) t' v' (by simpa using ht) (by simpa using hv))
    refine ⟨x :: xs, ⟨hx, hxs⟩, by simp [hrs.1], fun j y u hy hu => ?_⟩
    cases j with
    | zero => simp at hy hu; subst hy; subst hu; exact hr
    | succ j => simp at hy hu; exact hrs.2 j y u hy hu
  | [], [], _ :: _, _, _, h, _ => by simp [DataW.TrodAll] at h
  | [], _ :: _, _, _, _, h, _ => by simp [DataW.TrodAll] at h
  | _ :: _, [], _, _, _, h, _ => by simp [DataW.TrodAll] at h
  | _ :: _, _ :: _, [], _, _, h, _ => by simp [DataW.TrodAll] at h

theorem trodAll_behind {P : Program} {H : Type} {enc : TypeId × Value → H} (hl : laidOutB P = true) {w w' : World} (hb : Below w.heap.size w w') : ∀ {ts : List TypeId} {vs : List Value} {ds : List (DataW H)} {ps : List MemPlace}, (ts.all fun t => P.readableRec t && Nat.blt t P.types.size) = true →
    DataW.TrodAll enc P w 0 (fun _ => true) true ts vs ds ps → (∀ x ∈ ps, x.block < w.heap.size) → DataW.TrodAll enc P w' 0 (fun b => decide (b < w.heap.size)) true ts vs ds ps
  | [], [], [], ps, _, h, _ => h
  | t :: ts, v :: vs, d :: ds, ps, hrd, h, hlt => by
    obtain ⟨p, q, h1, h2, rfl⟩ := h
    simp only [List.all_cons, Bool.and_eq_true] at hrd
    exact ⟨p, q, Below.trod hl hrd.1.1 (by simpa using hrd.1.2) h1 hb (fun x hx => hlt x (by simp [hx])), trodAll_behind hl hb (ts := ts) (vs := vs) hrd.2 h2 (fun x hx => hlt x (by simp [hx])), rfl⟩
  | [], [], _ :: _, _, _, h, _ => by simp [DataW.TrodAll] at h
  | [], _ :: _, _, _, _, h, _ => by simp [DataW.TrodAll] at h
  | _ :: _, [], _, _, _, h, _ => by simp [DataW.TrodAll] at h
  | _ :: _, _ :: _, [], _, _, h, _ => by simp [DataW.TrodAll] at h

/-- The cells of a variable of the package that holds an array of numbers. -/
theorem rep_table {w : World} {t : TypeId} {row : Row} {g : Nat} (hk : koks (X.K t) row = true) (hc : ∀ j x, row[j]? = some x → ∃ k n, x = .int k n ∧ w.cell? ⟨g, j, none⟩ = some (.int k n)) (hb : g < w.heap.size) : Rep X.K [] (there w) w (.iptr t row 0) (.pointer (some ⟨g, 0, none⟩)) := by
  have hv : ∀ (j : Nat) v, (row.map fun x => match x with | .int k n => Value.int k n | _ => .bool false)[j]? = some v → ∃ k n, row[j]? = some (.int k n) ∧ v = .int k n := by
    intro j v hj
    rw [List.getElem?_map] at hj
    cases hx : row[j]? with
    | none => rw [hx] at hj; cases hj
    | some x =>
      obtain ⟨k, n, rfl, _⟩ := hc j x hx
      rw [hx] at hj
      exact ⟨k, n, rfl, by simpa using hj.symm⟩
  have := Rep.iptr (K := X.K) (ρ := []) (F := there w) (w := w) t row 0 ⟨g, 0, none⟩ (row.map fun x => match x with | .int k n => Value.int k n | _ => .bool false) hk (by simp) (fun j v hj => by
      obtain ⟨k, n, hr, rfl⟩ := hv j v hj
      obtain ⟨k', n', e, h⟩ := hc j _ hr
      cases e
      have e : (⟨g, 0, none⟩ : Addr).add j = ⟨g, j, none⟩ := by
        unfold Addr.add
        by_cases hj0 : j = 0
        · subst hj0; simp
        · simp [hj0]
      rw [e]
      exact ⟨h, hb⟩) (fun j x v hx hj => by
      obtain ⟨k, n, hr, rfl⟩ := hv j v hj
      rw [hx] at hr
      cases hr
      exact .int k n)
  simpa [Addr.add] using this

/-- What a law's row asks of the function: from its contract at all that can be read. -/
theorem law_contract' (hX : X.Ok) (hl : laidOutB X.P = true) {f : FuncId} {fn : Func} {s : ChangeSpec} {ts : List TypeId} {tb : TypeId} (hts : fn.params.toList = ts) (hrt : fn.resultTypes = #[tb]) (htb : X.P.underlying tb = some .bool)
    {S : List TypeId} (hS : rdS X S = true) (hrd : (ts.all S.contains) = true) (hrr : (ts.all fun t => X.P.readableRec t && Nat.blt t X.P.types.size) = true) (hv : s.vars = []) {H : Type} {enc : TypeId × Value → H}
    (hs : ∀ ds : List (DataW H), ds.length = ts.length → s.fn H ds = { results := [.lit (.bool true)], args := ds })
    (hlaw : ∀ xs, ArgsAV X ts xs → ∃ m M', FCalls X f m xs [] (.bool true) M')
    (W : World) (hg : ∀ g, Rep X.K [] (there W) W (X.glob g) (.pointer (some ⟨g, 0, none⟩))) (base : Nat) (args : Array Value) (ds gs : List (DataW H)) (before : List MemPlace) (hval : ∀ (j : Nat) t v, fn.params[j]? = some t → args[j]? = some v → Value.okWide X.P W .any base t v)
    (hW : DataW.Whole enc X.P fn.params.toList s.vars false W args.toList ds gs before) :
    Calls X.P f args W fun e W' => ∃ v, e = .returned v ∧ s.post enc X.P fn false true false false W args v W' := by
  have hW' := hW
  obtain ⟨p, q, hA, hV, hpq, hfz, hnd⟩ := hW
  rw [hv] at hV
  obtain ⟨rfl, rfl⟩ := trodVars_none hV
  rw [List.append_nil] at hpq
  have hpq' : p = before := hpq.symm
  subst hpq'
  have hA0 := hA
  rw [hts] at hA
  have hlen : ds.length = ts.length := by
    have : ∀ (ts : List TypeId) (vs : List Value) (ds : List (DataW H)) (ps : List MemPlace), DataW.TrodAll enc X.P W 0 (fun _ => true) true ts vs ds ps → ds.length = ts.length := by
      intro ts
      induction ts with
      | nil => intro vs ds ps h; cases vs <;> cases ds <;> simp_all [DataW.TrodAll]
      | cons t ts ih =>
        intro vs ds ps h
        cases vs with
        | nil => cases ds <;> simp [DataW.TrodAll] at h
        | cons v vs =>
          cases ds with
          | nil => simp [DataW.TrodAll] at h
          | cons d ds => obtain ⟨_, _, _, h2, _⟩ := h; simp [ih _ _ _ h2]
    exact this _ _ _ _ hA
  obtain ⟨xs, hxs, hrep⟩ := argsAV_of_trod hX hS (ρ := []) hrd hA (fun j t v ht hv => hval j t v (by rw [← hts] at ht; simpa using ht) (by simpa using hv))
  obtain ⟨m, M', hcall⟩ := hlaw xs hxs
  have := hcall (inv_start hX W hg) hrep
  refine this.mono ?_
  rintro e W' ⟨v, ρ', F', rfl, hI, _, hr⟩
  refine ⟨v, rfl, ?_⟩
  cases hr
  have hb := below_of_inv hI
  have hlt : ∀ x ∈ p, x.block < W.heap.size := fun x hx => by simpa using hW'.lt x hx
  have hfn : s.fn H (ds ++ []) = { results := [.lit (.bool true)], args := ds } := by rw [List.append_nil]; exact hs ds hlen
  refine ⟨ds, [], p, [], p, [], hW', ?_, ?_, ?_, kept_of_below hb _, fun h => by cases h⟩
  · rw [hfn, hrt]
    exact trodAll_mk1 (shut_bool htb true)
  · rw [hfn]
    rw [hts]
    exact trodAll_behind hl hb hrr hA hlt
  · rw [hfn, hv]; exact rfl

theorem law_contract (hX : X.Ok) (hg : ∀ g, X.glob g = .top) (hl : laidOutB X.P = true) {f : FuncId} {fn : Func} {s : ChangeSpec} {ts : List TypeId} {tb : TypeId} (hts : fn.params.toList = ts) (hrt : fn.resultTypes = #[tb]) (htb : X.P.underlying tb = some .bool)
    {S : List TypeId} (hS : rdS X S = true) (hrd : (ts.all S.contains) = true) (hrr : (ts.all fun t => X.P.readableRec t && Nat.blt t X.P.types.size) = true) (hv : s.vars = []) {H : Type} {enc : TypeId × Value → H}
    (hs : ∀ ds : List (DataW H), ds.length = ts.length → s.fn H ds = { results := [.lit (.bool true)], args := ds })
    (hlaw : ∀ xs, ArgsAV X ts xs → ∃ m M', FCalls X f m xs [] (.bool true) M')
    (W : World) (base : Nat) (args : Array Value) (ds gs : List (DataW H)) (before : List MemPlace) (hval : ∀ (j : Nat) t v, fn.params[j]? = some t → args[j]? = some v → Value.okWide X.P W .any base t v)
    (hW : DataW.Whole enc X.P fn.params.toList s.vars false W args.toList ds gs before) :
    Calls X.P f args W fun e W' => ∃ v, e = .returned v ∧ s.post enc X.P fn false true false false W args v W' :=
  law_contract' hX hl hts hrt htb hS hrd hrr hv hs hlaw W (fun g => by rw [hg]; exact .top _) base args ds gs before hval hW

end Go.Eng

namespace Go.Proofs.YtdennlgnbecojaaDoor
open Go Go.Eng
set_option maxRecDepth 100000
noncomputable def code3 : Code := (Tryd.f3.body).getD .skip
noncomputable def code4 : Code := (Tryd.f4.body).getD .skip
noncomputable def code5 : Code := (Tryd.f5.body).getD .skip
noncomputable def code6 : Code := (Tryd.f6.body).getD .skip
noncomputable def code7 : Code := (Tryd.f7.body).getD .skip
noncomputable def code8 : Code := (Tryd.f8.body).getD .skip
noncomputable def code9 : Code := (Tryd.f9.body).getD .skip
noncomputable def code10 : Code := (Tryd.f10.body).getD .skip
noncomputable def code11 : Code := (Tryd.f11.body).getD .skip
noncomputable def code12 : Code := (Tryd.f12.body).getD .skip
noncomputable def code13 : Code := (Tryd.f13.body).getD .skip
noncomputable def code14 : Code := (Tryd.f14.body).getD .skip
noncomputable def code15 : Code := (Tryd.f15.body).getD .skip
noncomputable def code16 : Code := (Tryd.f16.body).getD .skip
noncomputable def code17 : Code := (Tryd.f17.body).getD .skip
noncomputable def code18 : Code := (Tryd.f18.body).getD .skip
noncomputable def code19 : Code := (Tryd.f19.body).getD .skip
noncomputable def code20 : Code := (Tryd.f20.body).getD .skip
noncomputable def code21 : Code := (Tryd.f21.body).getD .skip
noncomputable def code22 : Code := (Tryd.f22.body).getD .skip
noncomputable def code23 : Code := (Tryd.f23.body).getD .skip
noncomputable def code24 : Code := (Tryd.f24.body).getD .skip
noncomputable def code25 : Code := (Tryd.f25.body).getD .skip
noncomputable def code26 : Code := (Tryd.f26.body).getD .skip
noncomputable def code27 : Code := (Tryd.f27.body).getD .skip
noncomputable def code28 : Code := (Tryd.f28.body).getD .skip
noncomputable def code29 : Code := (Tryd.f29.body).getD .skip
noncomputable def code30 : Code := (Tryd.f30.body).getD .skip
noncomputable def code31 : Code := (Tryd.f31.body).getD .skip
noncomputable def code32 : Code := (Tryd.f32.body).getD .skip
noncomputable def code33 : Code := (Tryd.f33.body).getD .skip
noncomputable def code34 : Code := (Tryd.f34.body).getD .skip
noncomputable def code35 : Code := (Tryd.f35.body).getD .skip
noncomputable def code36 : Code := (Tryd.f36.body).getD .skip
noncomputable def code37 : Code := (Tryd.f37.body).getD .skip
noncomputable def code38 : Code := (Tryd.f38.body).getD .skip
noncomputable def code39 : Code := (Tryd.f39.body).getD .skip
noncomputable def code40 : Code := (Tryd.f40.body).getD .skip
noncomputable def code41 : Code := (Tryd.f41.body).getD .skip
noncomputable def code42 : Code := (Tryd.f42.body).getD .skip
noncomputable def code43 : Code := (Tryd.f43.body).getD .skip
noncomputable def code44 : Code := (Tryd.f44.body).getD .skip
noncomputable def code45 : Code := (Tryd.f45.body).getD .skip
noncomputable def code46 : Code := (Tryd.f46.body).getD .skip
noncomputable def code47 : Code := (Tryd.f47.body).getD .skip
noncomputable def code48 : Code := (Tryd.f48.body).getD .skip
noncomputable def code49 : Code := (Tryd.f49.body).getD .skip
noncomputable def code50 : Code := (Tryd.f50.body).getD .skip
noncomputable def code51 : Code := (Tryd.f51.body).getD .skip
noncomputable def code52 : Code := (Tryd.f52.body).getD .skip
noncomputable def code53 : Code := (Tryd.f53.body).getD .skip
noncomputable def code54 : Code := (Tryd.f54.body).getD .skip
noncomputable def code55 : Code := (Tryd.f55.body).getD .skip
noncomputable def nd0 : Operand × Array Tmp × Code × Code := match codeAt code10 [false, true, false, true, true] with | some (.rangeFunc g ps a b) => (g, ps, a, b) | _ => (.func 0, #[], .skip, .skip)
noncomputable def nd1 : Operand × Array Tmp × Code × Code := match codeAt code12 [false, true, false, true, false, true] with | some (.rangeFunc g ps a b) => (g, ps, a, b) | _ => (.func 0, #[], .skip, .skip)
noncomputable def nd2 : Operand × Array Tmp × Code × Code := match codeAt code10 [false, true, false, true, true] with | some (.rangeFunc g ps a b) => (g, ps, a, b) | _ => (.func 0, #[], .skip, .skip)
noncomputable def nd3 : Operand × Array Tmp × Code × Code := match codeAt code12 [false, true, false, true, false, true] with | some (.rangeFunc g ps a b) => (g, ps, a, b) | _ => (.func 0, #[], .skip, .skip)
noncomputable def nd4 : Operand × Array Tmp × Code × Code := match codeAt code10 [false, true, false, true, true] with | some (.rangeFunc g ps a b) => (g, ps, a, b) | _ => (.func 0, #[], .skip, .skip)
noncomputable def siteL : List (Nat × Site) := [(0, ⟨31, nd0.2.1, nd0.2.2.1, nd0.2.2.2⟩), (1, ⟨27, nd1.2.1, nd1.2.2.1, nd1.2.2.2⟩), (2, ⟨31, nd2.2.1, nd2.2.2.1, nd2.2.2.2⟩), (3, ⟨27, nd3.2.1, nd3.2.2.1, nd3.2.2.2⟩), (4, ⟨31, nd4.2.1, nd4.2.2.1, nd4.2.2.2⟩)]
def tiL : List (Nat × TI) := [
  (2, ⟨true, .int .i64, 1, 8, [.int .i64 0], [.int .i64]⟩),
  (3, ⟨true, .int .i64, 1, 8, [.int .i64 0], [.int .i64]⟩),
  (4, ⟨true, .bool, 1, 1, [.bool false], [.bool]⟩),
  (9, ⟨true, .str, 1, 16, [.str ByteArray.empty], [.str]⟩),
  (22, ⟨true, .slice 58, 1, 24, [.nilsl], [.slice 58]⟩),
  (23, ⟨true, .slice 74, 1, 24, [.nilsl], [.slice 74]⟩),
  (24, ⟨true, .slice 45, 1, 24, [.nilsl], [.slice 45]⟩),
  (25, ⟨true, .slice 113, 1, 24, [.nilsl], [.slice 113]⟩),
  (26, ⟨true, .slice 117, 1, 24, [.nilsl], [.slice 117]⟩),
  (28, ⟨true, .struct [(0, 22), (1, 23), (2, 24), (3, 25), (4, 26)], 5, 120, [.nilsl, .nilsl, .nilsl, .nilsl, .nilsl], [.slice 58, .slice 74, .slice 45, .slice 113, .slice 117]⟩),
  (30, ⟨true, .other, 1, 8, [.nilfn], [.raw]⟩),
  (33, ⟨true, .int .i64, 1, 8, [.int .i64 0], [.int .i64]⟩),
  (39, ⟨true, .int .u8, 1, 1, [.int .u8 0], [.int .u8]⟩),
  (40, ⟨true, .int .u8, 1, 1, [.int .u8 0], [.int .u8]⟩),
  (41, ⟨true, .slice 90, 1, 24, [.nilsl], [.slice 90]⟩),
  (42, ⟨true, .int .u8, 1, 1, [.int .u8 0], [.int .u8]⟩),
  (43, ⟨true, .array 3 2, 3, 24, [.int .i64 0, .int .i64 0, .int .i64 0], [.int .i64, .int .i64, .int .i64]⟩),
  (45, ⟨true, .struct [(0, 39), (1, 9), (2, 3), (3, 40), (4, 3), (5, 3), (6, 41), (7, 3), (8, 4), (9, 3), (10, 2), (11, 4), (12, 4), (13, 42), (14, 43), (17, 4), (18, 4), (19, 3), (20, 3), (21, 3)], 22, 176, [.int .u8 0, .str ByteArray.empty, .int .i64 0, .int .u8 0, .int .i64 0, .int .i64 0, .nilsl, .int .i64 0, .bool false, .int .i64 0, .int .i64 0, .bool false, .bool false, .int .u8 0, .int .i64 0, .int .i64 0, .int .i64 0, .bool false, .bool false, .int .i64 0, .int .i64 0, .int .i64 0], [.int .u8, .str, .int .i64, .int .u8, .int .i64, .int .i64, .slice 90, .int .i64, .bool, .int .i64, .int .i64, .bool, .bool, .int .u8, .int .i64, .int .i64, .int .i64, .bool, .bool, .int .i64, .int .i64, .int .i64]⟩),
  (49, ⟨true, .other, 1, 8, [.nilfn], [.raw]⟩),
  (51, ⟨true, .array 256 3, 256, 2048, [.int .i64 0, .int .i64 0, .int .i64 0, .int .i64 0, .int .i64 0, .int .i64 0, .int .i64 0, .int .i64 0, .int .i64 0, .int .i64 0, .int .i64 0, .int .i64 0, .int .i64 0, .int .i64 0, .int .i64 0, .int .i64 0, .int .i64 0, .int .i64 0, .int .i64 0, .int .i64 0, .int .i64 0, .int .i64 0, .int .i64 0, .int .i64 0, .int .i64 0, .int .i64 0, .int .i64 0, .int .i64 0, .int .i64 0, .int .i64 0, .int .i64 0, .int .i64 0, .int .i64 0, .int .i64 0, .int .i64 0, .int .i64 0, .int .i64 0, .int .i64 0, .int .i64 0, .int .i64 0, .int .i64 0, .int .i64 0, .int .i64 0, .int .i64 0, .int .i64 0, .int .i64 0, .int .i64 0, .int .i64 0, .int .i64 0, .int .i64 0, .int .i64 0, .int .i64 0, .int .i64 0, .int .i64 0, .int .i64 0, .int .i64 0, .int .i64 0, .int .i64 0, .int .i64 0, .int .i64 0, .int .i64 0, .int .i64 0, .int .i64 0, .int .i64 0, .int .i64 0, .int .i64 0, .int .i64 0, .int .i64 0, .int .i64 0, .int .i64 0, .int .i64 0, .int .i64 0, .int .i64 0, .int .i64 0, .int .i64 0, .int .i64 0, .int .i64 0, .int .i64 0, .int .i64 0, .int .i64 0, .int .i64 0, .int .i64 0, .int .i64 0, .int .i64 0, .int .i64 0, .int .i64 0, .int .i64 0, .int .i64 0, .int .i64 0, .int .i64 0, .int .i64 0, .int .i64 0, .int .i64 0, .int .i64 0, .int .i64 0, .int .i64 0, .int .i64 0, .int .i64 0, .int .i64 0, .int .i64 0, .int .i64 0, .int .i64 0, .int .i64 0, .int .i64 0, .int .i64 0, .int .i64 0, .int .i64 0, .int .i64 0, .int .i64 0, .int .i64 0, .int .i64 0, .int .i64 0, .int .i64 0, .int .i64 0, .int .i64 0, .int .i64 0, .int .i64 0, .int .i64 0, .int .i64 0, .int .i64 0, .int .i64 0, .int .i64 0, .int .i64 0, .int .i64 0, .int .i64 0, .int .i64 0, .int .i64 0, .int .i64 0, .int .i64 0, .int .i64 0, .int .i64 0, .int .i64 0, .int .i64 0, .int .i64 0, .int .i64 0, .int .i64 0, .int .i64 0, .int .i64 0, .int .i64 0, .int .i64 0, .int .i64 0, .int .i64 0, .int .i64 0, .int .i64 0, .int .i64 0, .int .i64 0, .int .i64 0, .int .i64 0, .int .i64 0, .int .i64 0, .int .i64 0, .int .i64 0, .int .i64 0, .int .i64 0, .int .i64 0, .int .i64 0, .int .i64 0, .int .i64 0, .int .i64 0, .int .i64 0, .int .i64 0, .int .i64 0, .int .i64 0, .int .i64 0, .int .i64 0, .int .i64 0, .int .i64 0, .int .i64 0, .int .i64 0, .int .i64 0, .int .i64 0, .int .i64 0, .int .i64 0, .int .i64 0, .int .i64 0, .int .i64 0, .int .i64 0, .int .i64 0, .int .i64 0, .int .i64 0, .int .i64 0, .int .i64 0, .int .i64 0, .int .i64 0, .int .i64 0, .int .i64 0, .int .i64 0, .int .i64 0, .int .i64 0, .int .i64 0, .int .i64 0, .int .i64 0, .int .i64 0, .int .i64 0, .int .i64 0, .int .i64 0, .int .i64 0, .int .i64 0, .int .i64 0, .int .i64 0, .int .i64 0, .int .i64 0, .int .i64 0, .int .i64 0, .int .i64 0, .int .i64 0, .int .i64 0, .int .i64 0, .int .i64 0, .int .i64 0, .int .i64 0, .int .i64 0, .int .i64 0, .int .i64 0, .int .i64 0, .int .i64 0, .int .i64 0, .int .i64 0, .int .i64 0, .int .i64 0, .int .i64 0, .int .i64 0, .int .i64 0, .int .i64 0, .int .i64 0, .int .i64 0, .int .i64 0, .int .i64 0, .int .i64 0, .int .i64 0, .int .i64 0, .int .i64 0, .int .i64 0, .int .i64 0, .int .i64 0, .int .i64 0, .int .i64 0, .int .i64 0, .int .i64 0, .int .i64 0, .int .i64 0, .int .i64 0, .int .i64 0, .int .i64 0, .int .i64 0, .int .i64 0, .int .i64 0, .int .i64 0, .int .i64 0, .int .i64 0, .int .i64 0, .int .i64 0, .int .i64 0, .int .i64 0, .int .i64 0, .int .i64 0], [.int .i64, .int .i64, .int .i64, .int .i64, .int .i64, .int .i64, .int .i64, .int .i64, .int .i64, .int .i64, .int .i64, .int .i64, .int .i64, .int .i64, .int .i64, .int .i64, .int .i64, .int .i64, .int .i64, .int .i64, .int .i64, .int .i64, .int .i64, .int .i64, .int .i64, .int .i64, .int .i64, .int .i64, .int .i64, .int .i64, .int .i64, .int .i64, .int .i64, .int .i64, .int .i64, .int .i64, .int .i64, .int .i64, .int .i64, .int .i64, .int .i64, .int .i64, .int .i64, .int .i64, .int .i64, .int .i64, .int .i64, .int .i64, .int .i64, .int .i64, .int .i64, .int .i64, .int .i64, .int .i64, .int .i64, .int .i64, .int .i64, .int .i64, .int .i64, .int .i64, .int .i64, .int .i64, .int .i64, .int .i64, .int .i64, .int .i64, .int .i64, .int .i64, .int .i64, .int .i64, .int .i64, .int .i64, .int .i64, .int .i64, .int .i64, .int .i64, .int .i64, .int .i64, .int .i64, .int .i64, .int .i64, .int .i64, .int .i64, .int .i64, .int .i64, .int .i64, .int .i64, .int .i64, .int .i64, .int .i64, .int .i64, .int .i64, .int .i64, .int .i64, .int .i64, .int .i64, .int .i64, .int .i64, .int .i64, .int .i64, .int .i64, .int .i64, .int .i64, .int .i64, .int .i64, .int .i64, .int .i64, .int .i64, .int .i64, .int .i64, .int .i64, .int .i64, .int .i64, .int .i64, .int .i64, .int .i64, .int .i64, .int .i64, .int .i64, .int .i64, .int .i64, .int .i64, .int .i64, .int .i64, .int .i64, .int .i64, .int .i64, .int .i64, .int .i64, .int .i64, .int .i64, .int .i64, .int .i64, .int .i64, .int .i64, .int .i64, .int .i64, .int .i64, .int .i64, .int .i64, .int .i64, .int .i64, .int .i64, .int .i64, .int .i64, .int .i64, .int .i64, .int .i64, .int .i64, .int .i64, .int .i64, .int .i64, .int .i64, .int .i64, .int .i64, .int .i64, .int .i64, .int .i64, .int .i64, .int .i64, .int .i64, .int .i64, .int .i64, .int .i64, .int .i64, .int .i64, .int .i64, .int .i64, .int .i64, .int .i64, .int .i64, .int .i64, .int .i64, .int .i64, .int .i64, .int .i64, .int .i64, .int .i64, .int .i64, .int .i64, .int .i64, .int .i64, .int .i64, .int .i64, .int .i64, .int .i64, .int .i64, .int .i64, .int .i64, .int .i64, .int .i64, .int .i64, .int .i64, .int .i64, .int .i64, .int .i64, .int .i64, .int .i64, .int .i64, .int .i64, .int .i64, .int .i64, .int .i64, .int .i64, .int .i64, .int .i64, .int .i64, .int .i64, .int .i64, .int .i64, .int .i64, .int .i64, .int .i64, .int .i64, .int .i64, .int .i64, .int .i64, .int .i64, .int .i64, .int .i64, .int .i64, .int .i64, .int .i64, .int .i64, .int .i64, .int .i64, .int .i64, .int .i64, .int .i64, .int .i64, .int .i64, .int .i64, .int .i64, .int .i64, .int .i64, .int .i64, .int .i64, .int .i64, .int .i64, .int .i64, .int .i64, .int .i64, .int .i64, .int .i64, .int .i64, .int .i64, .int .i64, .int .i64, .int .i64, .int .i64, .int .i64, .int .i64, .int .i64, .int .i64, .int .i64, .int .i64]⟩),
  (53, ⟨true, .int .u8, 1, 1, [.int .u8 0], [.int .u8]⟩),
  (54, ⟨true, .slice 9, 1, 24, [.nilsl], [.slice 9]⟩),
  (55, ⟨true, .slice 120, 1, 24, [.nilsl], [.slice 120]⟩),
  (56, ⟨true, .int .u8, 1, 1, [.int .u8 0], [.int .u8]⟩),
  (58, ⟨true, .struct [(0, 53), (1, 9), (2, 3), (3, 3), (4, 54), (5, 3), (6, 3), (7, 3), (8, 9), (9, 4), (10, 2), (11, 55), (12, 3), (13, 56), (14, 4), (15, 3), (16, 3), (17, 3)], 18, 184, [.int .u8 0, .str ByteArray.empty, .int .i64 0, .int .i64 0, .nilsl, .int .i64 0, .int .i64 0, .int .i64 0, .str ByteArray.empty, .bool false, .int .i64 0, .nilsl, .int .i64 0, .int .u8 0, .bool false, .int .i64 0, .int .i64 0, .int .i64 0], [.int .u8, .str, .int .i64, .int .i64, .slice 9, .int .i64, .int .i64, .int .i64, .str, .bool, .int .i64, .slice 120, .int .i64, .int .u8, .bool, .int .i64, .int .i64, .int .i64]⟩),
  (61, ⟨true, .struct [(0, 30), (1, 33)], 2, 16, [.nilfn, .int .i64 0], [.raw, .int .i64]⟩),
  (62, ⟨true, .other, 1, 0, [.top], [.raw]⟩),
  (65, ⟨true, .slice 3, 1, 24, [.nilsl], [.slice 3]⟩),
  (68, ⟨true, .other, 1, 0, [.top], [.raw]⟩),
  (70, ⟨true, .struct [(0, 28)], 5, 120, [.nilsl, .nilsl, .nilsl, .nilsl, .nilsl], [.slice 58, .slice 74, .slice 45, .slice 113, .slice 117]⟩),
  (72, ⟨true, .slice 61, 1, 24, [.nilsl], [.slice 61]⟩),
  (74, ⟨true, .struct [(0, 3), (1, 2), (2, 2)], 3, 24, [.int .i64 0, .int .i64 0, .int .i64 0], [.int .i64, .int .i64, .int .i64]⟩),
  (75, ⟨true, .other, 1, 0, [.top], [.raw]⟩),
  (78, ⟨true, .other, 1, 0, [.top], [.raw]⟩),
  (83, ⟨true, .int .u8, 1, 1, [.int .u8 0], [.int .u8]⟩),
  (84, ⟨true, .int .u8, 1, 1, [.int .u8 0], [.int .u8]⟩),
  (85, ⟨true, .slice 88, 1, 24, [.nilsl], [.slice 88]⟩),
  (86, ⟨true, .slice 124, 1, 24, [.nilsl], [.slice 124]⟩),
  (88, ⟨true, .struct [(0, 83), (1, 84), (2, 2), (3, 9), (4, 85), (5, 86), (6, 3), (7, 3), (8, 3)], 9, 104, [.int .u8 0, .int .u8 0, .int .i64 0, .str ByteArray.empty, .nilsl, .nilsl, .int .i64 0, .int .i64 0, .int .i64 0], [.int .u8, .int .u8, .int .i64, .str, .slice 88, .slice 124, .int .i64, .int .i64, .int .i64]⟩),
  (90, ⟨true, .struct [(0, 9), (1, 42), (2, 3), (3, 88), (12, 3)], 13, 144, [.str ByteArray.empty, .int .u8 0, .int .i64 0, .int .u8 0, .int .u8 0, .int .i64 0, .str ByteArray.empty, .nilsl, .nilsl, .int .i64 0, .int .i64 0, .int .i64 0, .int .i64 0], [.str, .int .u8, .int .i64, .int .u8, .int .u8, .int .i64, .str, .slice 88, .slice 124, .int .i64, .int .i64, .int .i64, .int .i64]⟩),
  (107, ⟨true, .slice 127, 1, 24, [.nilsl], [.slice 127]⟩),
  (109, ⟨true, .struct [(0, 3), (1, 3)], 2, 16, [.int .i64 0, .int .i64 0], [.int .i64, .int .i64]⟩),
  (111, ⟨true, .struct [(0, 109), (2, 109), (4, 109)], 6, 48, [.int .i64 0, .int .i64 0, .int .i64 0, .int .i64 0, .int .i64 0, .int .i64 0], [.int .i64, .int .i64, .int .i64, .int .i64, .int .i64, .int .i64]⟩),
  (113, ⟨true, .struct [(0, 3), (1, 107), (2, 111), (8, 111)], 14, 128, [.int .i64 0, .nilsl, .int .i64 0, .int .i64 0, .int .i64 0, .int .i64 0, .int .i64 0, .int .i64 0, .int .i64 0, .int .i64 0, .int .i64 0, .int .i64 0, .int .i64 0, .int .i64 0], [.int .i64, .slice 127, .int .i64, .int .i64, .int .i64, .int .i64, .int .i64, .int .i64, .int .i64, .int .i64, .int .i64, .int .i64, .int .i64, .int .i64]⟩),
  (114, ⟨true, .slice 129, 1, 24, [.nilsl], [.slice 129]⟩),
  (115, ⟨true, .slice 132, 1, 24, [.nilsl], [.slice 132]⟩),
  (117, ⟨true, .struct [(0, 3), (1, 3), (2, 114), (3, 115)], 4, 64, [.int .i64 0, .int .i64 0, .nilsl, .nilsl], [.int .i64, .int .i64, .slice 129, .slice 132]⟩),
  (118, ⟨true, .slice 2, 1, 24, [.nilsl], [.slice 2]⟩),
  (120, ⟨true, .struct [(0, 9), (1, 3), (2, 4), (3, 2), (4, 4), (5, 118)], 6, 72, [.str ByteArray.empty, .int .i64 0, .bool false, .int .i64 0, .bool false, .nilsl], [.str, .int .i64, .bool, .int .i64, .bool, .slice 2]⟩),
  (122, ⟨true, .slice 135, 1, 24, [.nilsl], [.slice 135]⟩),
  (124, ⟨true, .struct [(0, 122), (1, 88)], 10, 128, [.nilsl, .int .u8 0, .int .u8 0, .int .i64 0, .str ByteArray.empty, .nilsl, .nilsl, .int .i64 0, .int .i64 0, .int .i64 0], [.slice 135, .int .u8, .int .u8, .int .i64, .str, .slice 88, .slice 124, .int .i64, .int .i64, .int .i64]⟩),
  (127, ⟨true, .struct [(0, 88), (9, 4)], 10, 112, [.int .u8 0, .int .u8 0, .int .i64 0, .str ByteArray.empty, .nilsl, .nilsl, .int .i64 0, .int .i64 0, .int .i64 0, .bool false], [.int .u8, .int .u8, .int .i64, .str, .slice 88, .slice 124, .int .i64, .int .i64, .int .i64, .bool]⟩),
  (129, ⟨true, .struct [(0, 3), (1, 3), (2, 3), (3, 88)], 12, 128, [.int .i64 0, .int .i64 0, .int .i64 0, .int .u8 0, .int .u8 0, .int .i64 0, .str ByteArray.empty, .nilsl, .nilsl, .int .i64 0, .int .i64 0, .int .i64 0], [.int .i64, .int .i64, .int .i64, .int .u8, .int .u8, .int .i64, .str, .slice 88, .slice 124, .int .i64, .int .i64, .int .i64]⟩),
  (130, ⟨true, .array 3 3, 3, 24, [.int .i64 0, .int .i64 0, .int .i64 0], [.int .i64, .int .i64, .int .i64]⟩),
  (132, ⟨true, .struct [(0, 111), (6, 130)], 9, 72, [.int .i64 0, .int .i64 0, .int .i64 0, .int .i64 0, .int .i64 0, .int .i64 0, .int .i64 0, .int .i64 0, .int .i64 0], [.int .i64, .int .i64, .int .i64, .int .i64, .int .i64, .int .i64, .int .i64, .int .i64, .int .i64]⟩),
  (133, ⟨true, .int .u8, 1, 1, [.int .u8 0], [.int .u8]⟩),
  (135, ⟨true, .struct [(0, 133), (1, 85)], 2, 32, [.int .u8 0, .nilsl], [.int .u8, .slice 88]⟩)]
def rdL : List TypeId := [2, 3, 4, 9, 22, 23, 24, 25, 26, 28, 39, 40, 41, 42, 43, 45, 53, 54, 55, 56, 58, 74, 83, 84, 85, 86, 88, 90, 107, 109, 111, 113, 114, 115, 117, 118, 120, 122, 124, 127, 129, 130, 132, 133, 135]
def gl0 : Row := [.int .i64 0, .int .i64 0, .int .i64 1, .int .i64 2, .int .i64 2, .int .i64 0, .int .i64 0, .int .i64 0, .int .i64 0, .int .i64 0, .int .i64 0, .int .i64 0, .int .i64 2, .int .i64 1, .int .i64 2, .int .i64 0, .int .i64 0, .int .i64 2, .int .i64 2, .int .i64 0, .int .i64 0, .int .i64 0, .int .i64 0, .int .i64 0, .int .i64 0, .int .i64 0, .int .i64 0, .int .i64 0, .int .i64 0, .int .i64 0, .int .i64 0, .int .i64 0, .int .i64 0, .int .i64 0, .int .i64 0, .int .i64 0, .int .i64 0, .int .i64 0, .int .i64 0, .int .i64 0, .int .i64 0, .int .i64 0, .int .i64 0, .int .i64 0, .int .i64 0, .int .i64 0, .int .i64 0, .int .i64 0, .int .i64 0, .int .i64 0, .int .i64 0, .int .i64 0, .int .i64 0, .int .i64 0, .int .i64 0, .int .i64 0, .int .i64 0, .int .i64 0, .int .i64 0, .int .i64 0, .int .i64 0, .int .i64 0, .int .i64 0, .int .i64 0, .int .i64 0, .int .i64 0, .int .i64 0, .int .i64 0, .int .i64 0, .int .i64 0, .int .i64 0, .int .i64 0, .int .i64 0, .int .i64 0, .int .i64 0, .int .i64 0, .int .i64 0, .int .i64 0, .int .i64 0, .int .i64 0, .int .i64 0, .int .i64 0, .int .i64 0, .int .i64 0, .int .i64 0, .int .i64 0, .int .i64 0, .int .i64 0, .int .i64 0, .int .i64 0, .int .i64 0, .int .i64 0, .int .i64 0, .int .i64 0, .int .i64 0, .int .i64 0, .int .i64 0, .int .i64 0, .int .i64 0, .int .i64 0, .int .i64 0, .int .i64 0, .int .i64 0, .int .i64 0, .int .i64 0, .int .i64 0, .int .i64 0, .int .i64 0, .int .i64 0, .int .i64 0, .int .i64 0, .int .i64 0, .int .i64 0, .int .i64 0, .int .i64 0, .int .i64 0, .int .i64 0, .int .i64 0, .int .i64 0, .int .i64 0, .int .i64 0, .int .i64 0, .int .i64 0, .int .i64 0, .int .i64 0, .int .i64 0, .int .i64 0, .int .i64 0, .int .i64 0, .int .i64 0, .int .i64 0, .int .i64 0, .int .i64 0, .int .i64 0, .int .i64 0, .int .i64 0, .int .i64 0, .int .i64 0, .int .i64 0, .int .i64 0, .int .i64 0, .int .i64 0, .int .i64 0, .int .i64 0, .int .i64 0, .int .i64 0, .int .i64 0, .int .i64 0, .int .i64 0, .int .i64 0, .int .i64 0, .int .i64 0, .int .i64 0, .int .i64 0, .int .i64 0, .int .i64 0, .int .i64 0, .int .i64 0, .int .i64 0, .int .i64 0, .int .i64 0, .int .i64 0, .int .i64 0, .int .i64 0, .int .i64 0, .int .i64 0, .int .i64 0, .int .i64 0, .int .i64 0, .int .i64 0, .int .i64 0, .int .i64 0, .int .i64 0, .int .i64 0, .int .i64 0, .int .i64 0, .int .i64 0, .int .i64 0, .int .i64 0, .int .i64 0, .int .i64 0, .int .i64 0, .int .i64 0, .int .i64 0, .int .i64 0, .int .i64 0, .int .i64 0, .int .i64 0, .int .i64 0, .int .i64 0, .int .i64 0, .int .i64 0, .int .i64 0, .int .i64 0, .int .i64 0, .int .i64 0, .int .i64 0, .int .i64 0, .int .i64 0, .int .i64 0, .int .i64 0, .int .i64 0, .int .i64 0, .int .i64 0, .int .i64 0, .int .i64 0, .int .i64 0, .int .i64 0, .int .i64 0, .int .i64 0, .int .i64 0, .int .i64 0, .int .i64 0, .int .i64 0, .int .i64 0, .int .i64 0, .int .i64 0, .int .i64 0, .int .i64 0, .int .i64 0, .int .i64 0, .int .i64 0, .int .i64 0, .int .i64 0, .int .i64 0, .int .i64 0, .int .i64 0, .int .i64 0, .int .i64 0, .int .i64 0, .int .i64 0, .int .i64 0, .int .i64 0, .int .i64 0, .int .i64 0, .int .i64 0, .int .i64 0, .int .i64 0, .int .i64 0, .int .i64 0, .int .i64 0, .int .i64 0, .int .i64 0, .int .i64 0, .int .i64 0, .int .i64 0, .int .i64 0, .int .i64 0, .int .i64 0, .int .i64 0, .int .i64 0, .int .i64 0, .int .i64 0, .int .i64 0, .int .i64 0, .int .i64 0]
def glF : Nat → AV := fun g => match g with | 0 => .iptr 51 gl0 0 | _ => .top
theorem glF_ok : ∀ g, glF g = .top ∨ (glF g).pure = true := fun g => by unfold glF; split <;> first | exact .inl rfl | exact .inr rfl
noncomputable def CX : Cx := ⟨Tryd.prog, lookTI tiL, lookS siteL, glF, lookE [74]⟩
theorem hX : CX.Ok := cx_ok glF_ok (el := [74]) (by kernel_rfl) ⟨⟨by kernel_rfl, rfl⟩, ⟨by kernel_rfl, rfl⟩, ⟨by kernel_rfl, rfl⟩, ⟨by kernel_rfl, rfl⟩, ⟨by kernel_rfl, rfl⟩, ⟨by kernel_rfl, rfl⟩, ⟨by kernel_rfl, rfl⟩, ⟨by kernel_rfl, rfl⟩, ⟨by kernel_rfl, rfl⟩, ⟨by kernel_rfl, rfl⟩, ⟨by kernel_rfl, rfl⟩, ⟨by kernel_rfl, rfl⟩, ⟨by kernel_rfl, rfl⟩, ⟨by kernel_rfl, rfl⟩, ⟨by kernel_rfl, rfl⟩, ⟨by kernel_rfl, rfl⟩, ⟨by kernel_rfl, rfl⟩, ⟨by kernel_rfl, rfl⟩, ⟨by kernel_rfl, rfl⟩, ⟨by kernel_rfl, rfl⟩, ⟨by kernel_rfl, rfl⟩, ⟨by kernel_rfl, rfl⟩, ⟨by kernel_rfl, rfl⟩, ⟨by kernel_rfl, rfl⟩, ⟨by kernel_rfl, rfl⟩, ⟨by kernel_rfl, rfl⟩, ⟨by kernel_rfl, rfl⟩, ⟨by kernel_rfl, rfl⟩, ⟨by kernel_rfl, rfl⟩, ⟨by kernel_rfl, rfl⟩, ⟨by kernel_rfl, rfl⟩, ⟨by kernel_rfl, rfl⟩, ⟨by kernel_rfl, rfl⟩, ⟨by kernel_rfl, rfl⟩, ⟨by kernel_rfl, rfl⟩, ⟨by kernel_rfl, rfl⟩, ⟨by kernel_rfl, rfl⟩, ⟨by kernel_rfl, rfl⟩, ⟨by kernel_rfl, rfl⟩, ⟨by kernel_rfl, rfl⟩, ⟨by kernel_rfl, rfl⟩, ⟨by kernel_rfl, rfl⟩, ⟨by kernel_rfl, rfl⟩, ⟨by kernel_rfl, rfl⟩, ⟨by kernel_rfl, rfl⟩, ⟨by kernel_rfl, rfl⟩, ⟨by kernel_rfl, rfl⟩, ⟨by kernel_rfl, rfl⟩, ⟨by kernel_rfl, rfl⟩, ⟨by kernel_rfl, rfl⟩, ⟨by kernel_rfl, rfl⟩, ⟨by kernel_rfl, rfl⟩, ⟨by kernel_rfl, rfl⟩, ⟨by kernel_rfl, rfl⟩, ⟨by kernel_rfl, rfl⟩, ⟨by kernel_rfl, rfl⟩, ⟨by kernel_rfl, rfl⟩, trivial⟩ ⟨(by show eqOk Tryd.prog _ = true; kernel_rfl), trivial⟩
theorem hb3 : Tryd.f3.body = some code3 := by kernel_rfl
theorem en3 : ∀ (vs : Array Value) (w : World), (callFunc 3 vs).run CX.P w = .ok (.enter 3 vs) w := enters Tryd.func3 hb3 (by kernel_rfl)
theorem hb4 : Tryd.f4.body = some code4 := by kernel_rfl
theorem en4 : ∀ (vs : Array Value) (w : World), (callFunc 4 vs).run CX.P w = .ok (.enter 4 vs) w := enters Tryd.func4 hb4 (by kernel_rfl)
theorem hb5 : Tryd.f5.body = some code5 := by kernel_rfl
theorem en5 : ∀ (vs : Array Value) (w : World), (callFunc 5 vs).run CX.P w = .ok (.enter 5 vs) w := enters Tryd.func5 hb5 (by kernel_rfl)
theorem hb6 : Tryd.f6.body = some code6 := by kernel_rfl
theorem en6 : ∀ (vs : Array Value) (w : World), (callFunc 6 vs).run CX.P w = .ok (.enter 6 vs) w := enters Tryd.func6 hb6 (by kernel_rfl)
theorem hb7 : Tryd.f7.body = some code7 := by kernel_rfl
theorem en7 : ∀ (vs : Array Value) (w : World), (callFunc 7 vs).run CX.P w = .ok (.enter 7 vs) w := enters Tryd.func7 hb7 (by kernel_rfl)
theorem hb8 : Tryd.f8.body = some code8 := by kernel_rfl
theorem en8 : ∀ (vs : Array Value) (w : World), (callFunc 8 vs).run CX.P w = .ok (.enter 8 vs) w := enters Tryd.func8 hb8 (by kernel_rfl)
theorem hb9 : Tryd.f9.body = some code9 := by kernel_rfl
theorem en9 : ∀ (vs : Array Value) (w : World), (callFunc 9 vs).run CX.P w = .ok (.enter 9 vs) w := enters Tryd.func9 hb9 (by kernel_rfl)
theorem hb10 : Tryd.f10.body = some code10 := by kernel_rfl
theorem en10 : ∀ (vs : Array Value) (w : World), (callFunc 10 vs).run CX.P w = .ok (.enter 10 vs) w := enters Tryd.func10 hb10 (by kernel_rfl)
theorem hb11 : Tryd.f11.body = some code11 := by kernel_rfl
theorem en11 : ∀ (vs : Array Value) (w : World), (callFunc 11 vs).run CX.P w = .ok (.enter 11 vs) w := enters Tryd.func11 hb11 (by kernel_rfl)
theorem hb12 : Tryd.f12.body = some code12 := by kernel_rfl
theorem en12 : ∀ (vs : Array Value) (w : World), (callFunc 12 vs).run CX.P w = .ok (.enter 12 vs) w := enters Tryd.func12 hb12 (by kernel_rfl)
theorem hb13 : Tryd.f13.body = some code13 := by kernel_rfl
theorem en13 : ∀ (vs : Array Value) (w : World), (callFunc 13 vs).run CX.P w = .ok (.enter 13 vs) w := enters Tryd.func13 hb13 (by kernel_rfl)
theorem hb14 : Tryd.f14.body = some code14 := by kernel_rfl
theorem en14 : ∀ (vs : Array Value) (w : World), (callFunc 14 vs).run CX.P w = .ok (.enter 14 vs) w := enters Tryd.func14 hb14 (by kernel_rfl)
theorem hb15 : Tryd.f15.body = some code15 := by kernel_rfl
theorem en15 : ∀ (vs : Array Value) (w : World), (callFunc 15 vs).run CX.P w = .ok (.enter 15 vs) w := enters Tryd.func15 hb15 (by kernel_rfl)
theorem hb16 : Tryd.f16.body = some code16 := by kernel_rfl
theorem en16 : ∀ (vs : Array Value) (w : World), (callFunc 16 vs).run CX.P w = .ok (.enter 16 vs) w := enters Tryd.func16 hb16 (by kernel_rfl)
theorem hb17 : Tryd.f17.body = some code17 := by kernel_rfl
theorem en17 : ∀ (vs : Array Value) (w : World), (callFunc 17 vs).run CX.P w = .ok (.enter 17 vs) w := enters Tryd.func17 hb17 (by kernel_rfl)
theorem hb18 : Tryd.f18.body = some code18 := by kernel_rfl
theorem en18 : ∀ (vs : Array Value) (w : World), (callFunc 18 vs).run CX.P w = .ok (.enter 18 vs) w := enters Tryd.func18 hb18 (by kernel_rfl)
theorem hb19 : Tryd.f19.body = some code19 := by kernel_rfl
theorem en19 : ∀ (vs : Array Value) (w : World), (callFunc 19 vs).run CX.P w = .ok (.enter 19 vs) w := enters Tryd.func19 hb19 (by kernel_rfl)
theorem hb20 : Tryd.f20.body = some code20 := by kernel_rfl
theorem en20 : ∀ (vs : Array Value) (w : World), (callFunc 20 vs).run CX.P w = .ok (.enter 20 vs) w := enters Tryd.func20 hb20 (by kernel_rfl)
theorem hb21 : Tryd.f21.body = some code21 := by kernel_rfl
theorem en21 : ∀ (vs : Array Value) (w : World), (callFunc 21 vs).run CX.P w = .ok (.enter 21 vs) w := enters Tryd.func21 hb21 (by kernel_rfl)
theorem hb22 : Tryd.f22.body = some code22 := by kernel_rfl
theorem en22 : ∀ (vs : Array Value) (w : World), (callFunc 22 vs).run CX.P w = .ok (.enter 22 vs) w := enters Tryd.func22 hb22 (by kernel_rfl)
theorem hb23 : Tryd.f23.body = some code23 := by kernel_rfl
theorem en23 : ∀ (vs : Array Value) (w : World), (callFunc 23 vs).run CX.P w = .ok (.enter 23 vs) w := enters Tryd.func23 hb23 (by kernel_rfl)
theorem hb24 : Tryd.f24.body = some code24 := by kernel_rfl
theorem en24 : ∀ (vs : Array Value) (w : World), (callFunc 24 vs).run CX.P w = .ok (.enter 24 vs) w := enters Tryd.func24 hb24 (by kernel_rfl)
theorem hb25 : Tryd.f25.body = some code25 := by kernel_rfl
theorem en25 : ∀ (vs : Array Value) (w : World), (callFunc 25 vs).run CX.P w = .ok (.enter 25 vs) w := enters Tryd.func25 hb25 (by kernel_rfl)
theorem hb26 : Tryd.f26.body = some code26 := by kernel_rfl
theorem en26 : ∀ (vs : Array Value) (w : World), (callFunc 26 vs).run CX.P w = .ok (.enter 26 vs) w := enters Tryd.func26 hb26 (by kernel_rfl)
theorem hb27 : Tryd.f27.body = some code27 := by kernel_rfl
theorem en27 : ∀ (vs : Array Value) (w : World), (callFunc 27 vs).run CX.P w = .ok (.enter 27 vs) w := enters Tryd.func27 hb27 (by kernel_rfl)
theorem hb28 : Tryd.f28.body = some code28 := by kernel_rfl
theorem en28 : ∀ (vs : Array Value) (w : World), (callFunc 28 vs).run CX.P w = .ok (.enter 28 vs) w := enters Tryd.func28 hb28 (by kernel_rfl)
theorem hb29 : Tryd.f29.body = some code29 := by kernel_rfl
theorem en29 : ∀ (vs : Array Value) (w : World), (callFunc 29 vs).run CX.P w = .ok (.enter 29 vs) w := enters Tryd.func29 hb29 (by kernel_rfl)
theorem hb30 : Tryd.f30.body = some code30 := by kernel_rfl
theorem en30 : ∀ (vs : Array Value) (w : World), (callFunc 30 vs).run CX.P w = .ok (.enter 30 vs) w := enters Tryd.func30 hb30 (by kernel_rfl)
theorem hb31 : Tryd.f31.body = some code31 := by kernel_rfl
theorem en31 : ∀ (vs : Array Value) (w : World), (callFunc 31 vs).run CX.P w = .ok (.enter 31 vs) w := enters Tryd.func31 hb31 (by kernel_rfl)
theorem hb32 : Tryd.f32.body = some code32 := by kernel_rfl
theorem en32 : ∀ (vs : Array Value) (w : World), (callFunc 32 vs).run CX.P w = .ok (.enter 32 vs) w := enters Tryd.func32 hb32 (by kernel_rfl)
theorem hb33 : Tryd.f33.body = some code33 := by kernel_rfl
theorem en33 : ∀ (vs : Array Value) (w : World), (callFunc 33 vs).run CX.P w = .ok (.enter 33 vs) w := enters Tryd.func33 hb33 (by kernel_rfl)
theorem hb34 : Tryd.f34.body = some code34 := by kernel_rfl
theorem en34 : ∀ (vs : Array Value) (w : World), (callFunc 34 vs).run CX.P w = .ok (.enter 34 vs) w := enters Tryd.func34 hb34 (by kernel_rfl)
theorem hb35 : Tryd.f35.body = some code35 := by kernel_rfl
theorem en35 : ∀ (vs : Array Value) (w : World), (callFunc 35 vs).run CX.P w = .ok (.enter 35 vs) w := enters Tryd.func35 hb35 (by kernel_rfl)
theorem hb36 : Tryd.f36.body = some code36 := by kernel_rfl
theorem en36 : ∀ (vs : Array Value) (w : World), (callFunc 36 vs).run CX.P w = .ok (.enter 36 vs) w := enters Tryd.func36 hb36 (by kernel_rfl)
theorem hb37 : Tryd.f37.body = some code37 := by kernel_rfl
theorem en37 : ∀ (vs : Array Value) (w : World), (callFunc 37 vs).run CX.P w = .ok (.enter 37 vs) w := enters Tryd.func37 hb37 (by kernel_rfl)
theorem hb38 : Tryd.f38.body = some code38 := by kernel_rfl
theorem en38 : ∀ (vs : Array Value) (w : World), (callFunc 38 vs).run CX.P w = .ok (.enter 38 vs) w := enters Tryd.func38 hb38 (by kernel_rfl)
theorem hb39 : Tryd.f39.body = some code39 := by kernel_rfl
theorem en39 : ∀ (vs : Array Value) (w : World), (callFunc 39 vs).run CX.P w = .ok (.enter 39 vs) w := enters Tryd.func39 hb39 (by kernel_rfl)
theorem hb40 : Tryd.f40.body = some code40 := by kernel_rfl
theorem en40 : ∀ (vs : Array Value) (w : World), (callFunc 40 vs).run CX.P w = .ok (.enter 40 vs) w := enters Tryd.func40 hb40 (by kernel_rfl)
theorem hb41 : Tryd.f41.body = some code41 := by kernel_rfl
theorem en41 : ∀ (vs : Array Value) (w : World), (callFunc 41 vs).run CX.P w = .ok (.enter 41 vs) w := enters Tryd.func41 hb41 (by kernel_rfl)
theorem hb42 : Tryd.f42.body = some code42 := by kernel_rfl
theorem en42 : ∀ (vs : Array Value) (w : World), (callFunc 42 vs).run CX.P w = .ok (.enter 42 vs) w := enters Tryd.func42 hb42 (by kernel_rfl)
theorem hb43 : Tryd.f43.body = some code43 := by kernel_rfl
theorem en43 : ∀ (vs : Array Value) (w : World), (callFunc 43 vs).run CX.P w = .ok (.enter 43 vs) w := enters Tryd.func43 hb43 (by kernel_rfl)
theorem hb44 : Tryd.f44.body = some code44 := by kernel_rfl
theorem en44 : ∀ (vs : Array Value) (w : World), (callFunc 44 vs).run CX.P w = .ok (.enter 44 vs) w := enters Tryd.func44 hb44 (by kernel_rfl)
theorem hb45 : Tryd.f45.body = some code45 := by kernel_rfl
theorem en45 : ∀ (vs : Array Value) (w : World), (callFunc 45 vs).run CX.P w = .ok (.enter 45 vs) w := enters Tryd.func45 hb45 (by kernel_rfl)
theorem hb46 : Tryd.f46.body = some code46 := by kernel_rfl
theorem en46 : ∀ (vs : Array Value) (w : World), (callFunc 46 vs).run CX.P w = .ok (.enter 46 vs) w := enters Tryd.func46 hb46 (by kernel_rfl)
theorem hb47 : Tryd.f47.body = some code47 := by kernel_rfl
theorem en47 : ∀ (vs : Array Value) (w : World), (callFunc 47 vs).run CX.P w = .ok (.enter 47 vs) w := enters Tryd.func47 hb47 (by kernel_rfl)
theorem hb48 : Tryd.f48.body = some code48 := by kernel_rfl
theorem en48 : ∀ (vs : Array Value) (w : World), (callFunc 48 vs).run CX.P w = .ok (.enter 48 vs) w := enters Tryd.func48 hb48 (by kernel_rfl)
theorem hb49 : Tryd.f49.body = some code49 := by kernel_rfl
theorem en49 : ∀ (vs : Array Value) (w : World), (callFunc 49 vs).run CX.P w = .ok (.enter 49 vs) w := enters Tryd.func49 hb49 (by kernel_rfl)
theorem hb50 : Tryd.f50.body = some code50 := by kernel_rfl
theorem en50 : ∀ (vs : Array Value) (w : World), (callFunc 50 vs).run CX.P w = .ok (.enter 50 vs) w := enters Tryd.func50 hb50 (by kernel_rfl)
theorem hb51 : Tryd.f51.body = some code51 := by kernel_rfl
theorem en51 : ∀ (vs : Array Value) (w : World), (callFunc 51 vs).run CX.P w = .ok (.enter 51 vs) w := enters Tryd.func51 hb51 (by kernel_rfl)
theorem hb52 : Tryd.f52.body = some code52 := by kernel_rfl
theorem en52 : ∀ (vs : Array Value) (w : World), (callFunc 52 vs).run CX.P w = .ok (.enter 52 vs) w := enters Tryd.func52 hb52 (by kernel_rfl)
theorem hb53 : Tryd.f53.body = some code53 := by kernel_rfl
theorem en53 : ∀ (vs : Array Value) (w : World), (callFunc 53 vs).run CX.P w = .ok (.enter 53 vs) w := enters Tryd.func53 hb53 (by kernel_rfl)
theorem hb54 : Tryd.f54.body = some code54 := by kernel_rfl
theorem en54 : ∀ (vs : Array Value) (w : World), (callFunc 54 vs).run CX.P w = .ok (.enter 54 vs) w := enters Tryd.func54 hb54 (by kernel_rfl)
theorem hb55 : Tryd.f55.body = some code55 := by kernel_rfl
theorem en55 : ∀ (vs : Array Value) (w : World), (callFunc 55 vs).run CX.P w = .ok (.enter 55 vs) w := enters Tryd.func55 hb55 (by kernel_rfl)
end Go.Proofs.YtdennlgnbecojaaDoor

namespace Go.Proofs.YtdennlgnbecojaaDoor
open Go Go.Eng
set_option maxRecDepth 100000

/-! ### F8: ceiling/ceilinglaw12.great -/
inductive R8 where
  | r (x0 : Bool)
abbrev TF8 := List Row → List Row → List Row → List Row → List Row → Option R8
def sgF8 : LSh := ⟨[(0, .agg [.cell (.slice 58), .cell (.slice 74), .cell (.slice 45), .cell (.slice 113), .cell (.slice 117)])], []⟩
def FFF8 (Fx : TF8) (s : St) : Option R8 := Fx (((Eng.look s.env 0).cells.getD 0 .top).rows) (((Eng.look s.env 0).cells.getD 1 .top).rows) (((Eng.look s.env 0).cells.getD 2 .top).rows) (((Eng.look s.env 0).cells.getD 3 .top).rows) (((Eng.look s.env 0).cells.getD 4 .top).rows)
def valF8 (o : R8) : AV := match o with | .r x0 => .bool x0
def memF8 (o : R8) : List Blk := match o with | .r x0 => []
def elF8 {R : Type} (o : R8) (k : AV → List Blk → Option R) : Option R := match o with | .r x0 => k (.bool x0) []
def RecOkF8 (Fx : TF8) : Prop := ∀ lk M o, FFF8 Fx (canS sgF8 lk M) = some o → FCalls CX 8 0 (argsE 1 (canS sgF8 lk M).env) (canS sgF8 lk M).mem (valF8 o) (memF8 o)
noncomputable def csF8 (N : Nat) (R : Type) : List (CE R) := []
theorem hcsF8 (N : Nat) (R : Type) : AllE (CeOk CX) (csF8 N R) := trivial
noncomputable def T8ur1 (N : Nat) (R : Type) : LTab R := mkTab ⟨19, 524287⟩ (csF8 N R) (noY) [] [] []
theorem okT8ur1 (N : Nat) (R : Type) : (T8ur1 N R).Ok CX code8 := mkTab_ok (hcsF8 N R) (noY_ok) (trivial) (trivial) (trivial)
def rsF8 : List ResultVar := [.tmp 2]
def F8 : Nat → TF8
  | 0 => fun _ _ _ _ _ => none
  | N + 1 => fun x0c0 x0c1 x0c2 x0c3 x0c4 =>
    match decide ((200 : Int) < ((x0c2.length : Int))) with
    | true =>
      some (.r true)
    | false =>
      match decide ((60 : Int) < ((x0c0.length : Int))) with
      | true =>
        some (.r true)
      | false =>
        some (.r (decide ((100 : Int) < ((x0c1.length : Int)))))
def xRF8 : XSh R8 := ⟨[], ⟨[(0, .one (.cell (.bool)))], []⟩, fun _ => [], fun s => .r ((Eng.look s.env 0).toB)⟩
theorem fsF8 : ∀ (N : Nat) (lk : Nat → AV) (M : List Blk), FFF8 (F8 (N + 1)) (canS sgF8 lk M) = evfn CX (T8ur1 N R8) code8 rsF8 (argsE 1 (canS sgF8 lk M).env) (canS sgF8 lk M).mem (goR CX 0 (fun _ => some xRF8)) := by intro N lk M; kernel_rfl
theorem soundF8 : ∀ N, RecOkF8 (F8 N)
  | 0, lk, M, o, h => by cases h
  | N + 1, lk, M, o, h => fn_sound hX (okT8ur1 N R8) Tryd.func8 hb8 rfl en8 (by kernel_rfl) (ys := fun _ => some xRF8) (fun st y h => by injection h with h; subst h; exact fun lk M => ⟨rfl, rfl⟩) ((fsF8 N lk M).symm.trans h)
def cvce8n0 : List Cv := []
def selce8n0 : St → List Nat := fun _ => []
noncomputable def ce8n0 (Fx : TF8) (R : Type) (test : List AV → List Blk → Bool) : CE R := ⟨8, test, fun args M => some (selce8n0 ⟨argEnv 0 args, M, [], .unk⟩), fun args M k => tst (Nat.beq args.length 1) (callFn CX 0 cvce8n0 sgF8 selce8n0 (FFF8 Fx) elF8 args M k)⟩
theorem okce8n0 (Fx : TF8) (h : RecOkF8 Fx) (R : Type) (test : List AV → List Blk → Bool) : CeOk CX (ce8n0 Fx R test) := ce_ok hX (fun o k => by cases o; rfl) h en8 (fun args M ids h => by injection h with h; exact ⟨rfl, h.symm⟩)
end Go.Proofs.YtdennlgnbecojaaDoor

namespace Go.Proofs.YtdennlgnbecojaaDoor
open Go Go.Eng
set_option maxRecDepth 100000

/-! ### F54: ceiling/ceilingref08.row -/
inductive R54 where
  | r (x0c0 : Int) (x0c1 : ByteArray) (x0c2 : Int) (x0c3 : Int) (x0c4 : List Row) (x0c5 : Int) (x0c6 : Int) (x0c7 : Int) (x0c8 : ByteArray) (x0c9 : Bool) (x0c10 : Int) (x0c11 : List Row) (x0c12 : Int) (x0c13 : Int) (x0c14 : Bool) (x0c15 : Int) (x0c16 : Int) (x0c17 : Int)
abbrev TF54 := Int → ByteArray → Int → Option R54
def sgF54 : LSh := ⟨[(0, .one (.cell (.int .u8))), (1, .one (.cell (.str))), (2, .one (.cell (.int .i64)))], []⟩
def FFF54 (Fx : TF54) (s : St) : Option R54 := Fx ((Eng.look s.env 0).toI) ((Eng.look s.env 1).toS) ((Eng.look s.env 2).toI)
def valF54 (o : R54) : AV := match o with | .r x0c0 x0c1 x0c2 x0c3 x0c4 x0c5 x0c6 x0c7 x0c8 x0c9 x0c10 x0c11 x0c12 x0c13 x0c14 x0c15 x0c16 x0c17 => .agg [.int .u8 x0c0, .str x0c1, .int .i64 x0c2, .int .i64 x0c3, .list 9 x0c4, .int .i64 x0c5, .int .i64 x0c6, .int .i64 x0c7, .str x0c8, .bool x0c9, .int .i64 x0c10, .list 120 x0c11, .int .i64 x0c12, .int .u8 x0c13, .bool x0c14, .int .i64 x0c15, .int .i64 x0c16, .int .i64 x0c17]
def memF54 (o : R54) : List Blk := match o with | .r x0c0 x0c1 x0c2 x0c3 x0c4 x0c5 x0c6 x0c7 x0c8 x0c9 x0c10 x0c11 x0c12 x0c13 x0c14 x0c15 x0c16 x0c17 => []
def elF54 {R : Type} (o : R54) (k : AV → List Blk → Option R) : Option R := match o with | .r x0c0 x0c1 x0c2 x0c3 x0c4 x0c5 x0c6 x0c7 x0c8 x0c9 x0c10 x0c11 x0c12 x0c13 x0c14 x0c15 x0c16 x0c17 => k (.agg [.int .u8 x0c0, .str x0c1, .int .i64 x0c2, .int .i64 x0c3, .list 9 x0c4, .int .i64 x0c5, .int .i64 x0c6, .int .i64 x0c7, .str x0c8, .bool x0c9, .int .i64 x0c10, .list 120 x0c11, .int .i64 x0c12, .int .u8 x0c13, .bool x0c14, .int .i64 x0c15, .int .i64 x0c16, .int .i64 x0c17]) []
def RecOkF54 (Fx : TF54) : Prop := ∀ lk M o, FFF54 Fx (canS sgF54 lk M) = some o → FCalls CX 54 0 (argsE 3 (canS sgF54 lk M).env) (canS sgF54 lk M).mem (valF54 o) (memF54 o)
noncomputable def csF54 (N : Nat) (R : Type) : List (CE R) := []
theorem hcsF54 (N : Nat) (R : Type) : AllE (CeOk CX) (csF54 N R) := trivial
noncomputable def T54ur1 (N : Nat) (R : Type) : LTab R := mkTab ⟨11, 2047⟩ (csF54 N R) (noY) [] [] []
theorem okT54ur1 (N : Nat) (R : Type) : (T54ur1 N R).Ok CX code54 := mkTab_ok (hcsF54 N R) (noY_ok) (trivial) (trivial) (trivial)
def rsF54 : List ResultVar := [.cell 6 58]
def F54 : Nat → TF54
  | 0 => fun _ _ _ => none
  | N + 1 => fun x0 x1 x2 =>
    some (.r x0 x1 ((-1)) x2 ([]) ((-1)) ((-1)) ((-1)) ByteArray.empty false 0 ([]) ((-1)) 0 false ((-1)) 0 0)
def xRF54 : XSh R54 := ⟨[.frza 0 [.raw, .raw, .raw, .raw, .slice 9, .raw, .raw, .raw, .raw, .raw, .raw, .slice 120, .raw, .raw, .raw, .raw, .raw, .raw]], ⟨[(0, .agg [.cell (.int .u8), .cell (.str), .cell (.int .i64), .cell (.int .i64), .cell (.slice 9), .cell (.int .i64), .cell (.int .i64), .cell (.int .i64), .cell (.str), .cell (.bool), .cell (.int .i64), .cell (.slice 120), .cell (.int .i64), .cell (.int .u8), .cell (.bool), .cell (.int .i64), .cell (.int .i64), .cell (.int .i64)])], []⟩, fun _ => [], fun s => .r (((Eng.look s.env 0).cells.getD 0 .top).toI) (((Eng.look s.env 0).cells.getD 1 .top).toS) (((Eng.look s.env 0).cells.getD 2 .top).toI) (((Eng.look s.env 0).cells.getD 3 .top).toI) (((Eng.look s.env 0).cells.getD 4 .top).rows) (((Eng.look s.env 0).cells.getD 5 .top).toI) (((Eng.look s.env 0).cells.getD 6 .top).toI) (((Eng.look s.env 0).cells.getD 7 .top).toI) (((Eng.look s.env 0).cells.getD 8 .top).toS) (((Eng.look s.env 0).cells.getD 9 .top).toB) (((Eng.look s.env 0).cells.getD 10 .top).toI) (((Eng.look s.env 0).cells.getD 11 .top).rows) (((Eng.look s.env 0).cells.getD 12 .top).toI) (((Eng.look s.env 0).cells.getD 13 .top).toI) (((Eng.look s.env 0).cells.getD 14 .top).toB) (((Eng.look s.env 0).cells.getD 15 .top).toI) (((Eng.look s.env 0).cells.getD 16 .top).toI) (((Eng.look s.env 0).cells.getD 17 .top).toI)⟩
theorem fsF54 : ∀ (N : Nat) (lk : Nat → AV) (M : List Blk), FFF54 (F54 (N + 1)) (canS sgF54 lk M) = evfn CX (T54ur1 N R54) code54 rsF54 (argsE 3 (canS sgF54 lk M).env) (canS sgF54 lk M).mem (goR CX 0 (fun _ => some xRF54)) := by intro N lk M; kernel_rfl
theorem soundF54 : ∀ N, RecOkF54 (F54 N)
  | 0, lk, M, o, h => by cases h
  | N + 1, lk, M, o, h => fn_sound hX (okT54ur1 N R54) Tryd.func54 hb54 rfl en54 (by kernel_rfl) (ys := fun _ => some xRF54) (fun st y h => by injection h with h; subst h; exact fun lk M => ⟨rfl, rfl⟩) ((fsF54 N lk M).symm.trans h)
def cvce54n0 : List Cv := []
def selce54n0 : St → List Nat := fun _ => []
noncomputable def ce54n0 (Fx : TF54) (R : Type) (test : List AV → List Blk → Bool) : CE R := ⟨54, test, fun args M => some (selce54n0 ⟨argEnv 0 args, M, [], .unk⟩), fun args M k => tst (Nat.beq args.length 3) (callFn CX 0 cvce54n0 sgF54 selce54n0 (FFF54 Fx) elF54 args M k)⟩
theorem okce54n0 (Fx : TF54) (h : RecOkF54 Fx) (R : Type) (test : List AV → List Blk → Bool) : CeOk CX (ce54n0 Fx R test) := ce_ok hX (fun o k => by cases o; rfl) h en54 (fun args M ids h => by injection h with h; exact ⟨rfl, h.symm⟩)
end Go.Proofs.YtdennlgnbecojaaDoor

namespace Go.Proofs.YtdennlgnbecojaaDoor
open Go Go.Eng
set_option maxRecDepth 100000

/-! ### F55: ceiling/ceilingref08.Nothing -/
inductive R55 where
  | r (x0c0 : Int) (x0c1 : ByteArray) (x0c2 : Int) (x0c3 : Int) (x0c4 : Int) (x0c5 : Int) (x0c6 : List Row) (x0c7 : Int) (x0c8 : Bool) (x0c9 : Int) (x0c10 : Int) (x0c11 : Bool) (x0c12 : Bool) (x0c13 : Int) (x0c14 : Int) (x0c15 : Int) (x0c16 : Int) (x0c17 : Bool) (x0c18 : Bool) (x0c19 : Int) (x0c20 : Int) (x0c21 : Int)
abbrev TF55 := Int → ByteArray → Option R55
def sgF55 : LSh := ⟨[(0, .one (.cell (.int .u8))), (1, .one (.cell (.str)))], []⟩
def FFF55 (Fx : TF55) (s : St) : Option R55 := Fx ((Eng.look s.env 0).toI) ((Eng.look s.env 1).toS)
def valF55 (o : R55) : AV := match o with | .r x0c0 x0c1 x0c2 x0c3 x0c4 x0c5 x0c6 x0c7 x0c8 x0c9 x0c10 x0c11 x0c12 x0c13 x0c14 x0c15 x0c16 x0c17 x0c18 x0c19 x0c20 x0c21 => .agg [.int .u8 x0c0, .str x0c1, .int .i64 x0c2, .int .u8 x0c3, .int .i64 x0c4, .int .i64 x0c5, .list 90 x0c6, .int .i64 x0c7, .bool x0c8, .int .i64 x0c9, .int .i64 x0c10, .bool x0c11, .bool x0c12, .int .u8 x0c13, .int .i64 x0c14, .int .i64 x0c15, .int .i64 x0c16, .bool x0c17, .bool x0c18, .int .i64 x0c19, .int .i64 x0c20, .int .i64 x0c21]
def memF55 (o : R55) : List Blk := match o with | .r x0c0 x0c1 x0c2 x0c3 x0c4 x0c5 x0c6 x0c7 x0c8 x0c9 x0c10 x0c11 x0c12 x0c13 x0c14 x0c15 x0c16 x0c17 x0c18 x0c19 x0c20 x0c21 => []
def elF55 {R : Type} (o : R55) (k : AV → List Blk → Option R) : Option R := match o with | .r x0c0 x0c1 x0c2 x0c3 x0c4 x0c5 x0c6 x0c7 x0c8 x0c9 x0c10 x0c11 x0c12 x0c13 x0c14 x0c15 x0c16 x0c17 x0c18 x0c19 x0c20 x0c21 => k (.agg [.int .u8 x0c0, .str x0c1, .int .i64 x0c2, .int .u8 x0c3, .int .i64 x0c4, .int .i64 x0c5, .list 90 x0c6, .int .i64 x0c7, .bool x0c8, .int .i64 x0c9, .int .i64 x0c10, .bool x0c11, .bool x0c12, .int .u8 x0c13, .int .i64 x0c14, .int .i64 x0c15, .int .i64 x0c16, .bool x0c17, .bool x0c18, .int .i64 x0c19, .int .i64 x0c20, .int .i64 x0c21]) []
def RecOkF55 (Fx : TF55) : Prop := ∀ lk M o, FFF55 Fx (canS sgF55 lk M) = some o → FCalls CX 55 0 (argsE 2 (canS sgF55 lk M).env) (canS sgF55 lk M).mem (valF55 o) (memF55 o)
noncomputable def csF55 (N : Nat) (R : Type) : List (CE R) := []
theorem hcsF55 (N : Nat) (R : Type) : AllE (CeOk CX) (csF55 N R) := trivial
noncomputable def T55ur1 (N : Nat) (R : Type) : LTab R := mkTab ⟨8, 255⟩ (csF55 N R) (noY) [] [] []
theorem okT55ur1 (N : Nat) (R : Type) : (T55ur1 N R).Ok CX code55 := mkTab_ok (hcsF55 N R) (noY_ok) (trivial) (trivial) (trivial)
def rsF55 : List ResultVar := [.cell 4 45]
def F55 : Nat → TF55
  | 0 => fun _ _ => none
  | N + 1 => fun x0 x1 =>
    some (.r x0 x1 0 0 ((-1)) ((-1)) ([]) ((-1)) false 0 0 false false 0 0 0 0 false true ((-1)) ((-1)) 0)
def xRF55 : XSh R55 := ⟨[.frza 0 [.raw, .raw, .raw, .raw, .raw, .raw, .slice 90, .raw, .raw, .raw, .raw, .raw, .raw, .raw, .raw, .raw, .raw, .raw, .raw, .raw, .raw, .raw]], ⟨[(0, .agg [.cell (.int .u8), .cell (.str), .cell (.int .i64), .cell (.int .u8), .cell (.int .i64), .cell (.int .i64), .cell (.slice 90), .cell (.int .i64), .cell (.bool), .cell (.int .i64), .cell (.int .i64), .cell (.bool), .cell (.bool), .cell (.int .u8), .cell (.int .i64), .cell (.int .i64), .cell (.int .i64), .cell (.bool), .cell (.bool), .cell (.int .i64), .cell (.int .i64), .cell (.int .i64)])], []⟩, fun _ => [], fun s => .r (((Eng.look s.env 0).cells.getD 0 .top).toI) (((Eng.look s.env 0).cells.getD 1 .top).toS) (((Eng.look s.env 0).cells.getD 2 .top).toI) (((Eng.look s.env 0).cells.getD 3 .top).toI) (((Eng.look s.env 0).cells.getD 4 .top).toI) (((Eng.look s.env 0).cells.getD 5 .top).toI) (((Eng.look s.env 0).cells.getD 6 .top).rows) (((Eng.look s.env 0).cells.getD 7 .top).toI) (((Eng.look s.env 0).cells.getD 8 .top).toB) (((Eng.look s.env 0).cells.getD 9 .top).toI) (((Eng.look s.env 0).cells.getD 10 .top).toI) (((Eng.look s.env 0).cells.getD 11 .top).toB) (((Eng.look s.env 0).cells.getD 12 .top).toB) (((Eng.look s.env 0).cells.getD 13 .top).toI) (((Eng.look s.env 0).cells.getD 14 .top).toI) (((Eng.look s.env 0).cells.getD 15 .top).toI) (((Eng.look s.env 0).cells.getD 16 .top).toI) (((Eng.look s.env 0).cells.getD 17 .top).toB) (((Eng.look s.env 0).cells.getD 18 .top).toB) (((Eng.look s.env 0).cells.getD 19 .top).toI) (((Eng.look s.env 0).cells.getD 20 .top).toI) (((Eng.look s.env 0).cells.getD 21 .top).toI)⟩
theorem fsF55 : ∀ (N : Nat) (lk : Nat → AV) (M : List Blk), FFF55 (F55 (N + 1)) (canS sgF55 lk M) = evfn CX (T55ur1 N R55) code55 rsF55 (argsE 2 (canS sgF55 lk M).env) (canS sgF55 lk M).mem (goR CX 0 (fun _ => some xRF55)) := by intro N lk M; kernel_rfl
theorem soundF55 : ∀ N, RecOkF55 (F55 N)
  | 0, lk, M, o, h => by cases h
  | N + 1, lk, M, o, h => fn_sound hX (okT55ur1 N R55) Tryd.func55 hb55 rfl en55 (by kernel_rfl) (ys := fun _ => some xRF55) (fun st y h => by injection h with h; subst h; exact fun lk M => ⟨rfl, rfl⟩) ((fsF55 N lk M).symm.trans h)
def cvce55n0 : List Cv := []
def selce55n0 : St → List Nat := fun _ => []
noncomputable def ce55n0 (Fx : TF55) (R : Type) (test : List AV → List Blk → Bool) : CE R := ⟨55, test, fun args M => some (selce55n0 ⟨argEnv 0 args, M, [], .unk⟩), fun args M k => tst (Nat.beq args.length 2) (callFn CX 0 cvce55n0 sgF55 selce55n0 (FFF55 Fx) elF55 args M k)⟩
theorem okce55n0 (Fx : TF55) (h : RecOkF55 Fx) (R : Type) (test : List AV → List Blk → Bool) : CeOk CX (ce55n0 Fx R test) := ce_ok hX (fun o k => by cases o; rfl) h en55 (fun args M ids h => by injection h with h; exact ⟨rfl, h.symm⟩)
end Go.Proofs.YtdennlgnbecojaaDoor

namespace Go.Proofs.YtdennlgnbecojaaDoor
open Go Go.Eng
set_option maxRecDepth 100000

/-! ### F44: ceiling/ceilingref08.Standard -/
inductive R44 where
  | r (x0c3 : List Row) (x0c4 : List Row) (b0 : List Row) (b1 : List Row) (b2 : List Row)
abbrev TF44 := Option R44
def sgF44 : LSh := ⟨[], []⟩
def FFF44 (Fx : TF44) (s : St) : Option R44 := Fx 
def valF44 (o : R44) : AV := match o with | .r x0c3 x0c4 b0 b1 b2 => .agg [.own 0, .own 1, .own 2, .list 113 x0c3, .list 117 x0c4]
def memF44 (o : R44) : List Blk := match o with | .r x0c3 x0c4 b0 b1 b2 => [.row 58 b0, .row 74 b1, .row 45 b2]
def elF44 {R : Type} (o : R44) (k : AV → List Blk → Option R) : Option R := match o with | .r x0c3 x0c4 b0 b1 b2 => k (.agg [.own 0, .own 1, .own 2, .list 113 x0c3, .list 117 x0c4]) [.row 58 b0, .row 74 b1, .row 45 b2]
def RecOkF44 (Fx : TF44) : Prop := ∀ lk M o, FFF44 Fx (canS sgF44 lk M) = some o → FCalls CX 44 0 (argsE 0 (canS sgF44 lk M).env) (canS sgF44 lk M).mem (valF44 o) (memF44 o)
noncomputable def csF44 (N : Nat) (R : Type) : List (CE R) := [ce54n0 (F54 N) R (fun _ _ => true), ce55n0 (F55 N) R (fun _ _ => true)]
theorem hcsF44 (N : Nat) (R : Type) : AllE (CeOk CX) (csF44 N R) := ⟨okce54n0 (F54 N) (soundF54 N) R (fun _ _ => true), okce55n0 (F55 N) (soundF55 N) R (fun _ _ => true), trivial⟩
noncomputable def bd44ul2042 : Code := match codeAt code44 [false, true, false, true, true, true, true, true, true, true] with | some (.loop c) => c | _ => .skip
noncomputable def T44ul2042 (N : Nat) (R : Type) : LTab R := mkTab ⟨109, 649037107316853453566312041152511⟩ (csF44 N R) (noY) [] [] []
theorem okT44ul2042 (N : Nat) (R : Type) : (T44ul2042 N R).Ok CX code44 := mkTab_ok (hcsF44 N R) (noY_ok) (trivial) (trivial) (trivial)
noncomputable def T44ur1 (N : Nat) (R : Type) : LTab R := mkTab ⟨109, 649037107316853453566312041152511⟩ (csF44 N R) (noY) [(2042, fun st k => unroll CX (T44ul2042 N R) bd44ul2042 (2 * 2042) 16 st k)] [] []
theorem okT44ur1 (N : Nat) (R : Type) : (T44ur1 N R).Ok CX code44 := mkTab_ok (hcsF44 N R) (noY_ok) (⟨unroll_ok hX (path := [false, true, false, true, true, true, true, true, true, true]) (by kernel_rfl) (by rfl) (okT44ul2042 N R) rfl, trivial⟩) (trivial) (trivial)
def rsF44 : List ResultVar := [.cell 0 28]
def F44 : Nat → TF44
  | 0 => none
  | N + 1 => 
    match F54 N 3 ((⟨#[66, 111, 111, 108, 101, 97, 110]⟩ : ByteArray)) 1 with
    | none => none
    | some (.r rx0c0v1 rx0c1v1 rx0c2v1 rx0c3v1 rx0c4v1 rx0c5v1 rx0c6v1 rx0c7v1 rx0c8v1 rx0c9v1 rx0c10v1 rx0c11v1 rx0c12v1 rx0c13v1 rx0c14v1 rx0c15v1 rx0c16v1 rx0c17v1) =>
      match F54 N 1 ByteArray.empty ((-1)) with
      | none => none
      | some (.r rx0c0v2 rx0c1v2 rx0c2v2 rx0c3v2 rx0c4v2 rx0c5v2 rx0c6v2 rx0c7v2 rx0c8v2 rx0c9v2 rx0c10v2 rx0c11v2 rx0c12v2 rx0c13v2 rx0c14v2 rx0c15v2 rx0c16v2 rx0c17v2) =>
        match F54 N 2 ((⟨#[73, 110, 116, 101, 103, 101, 114]⟩ : ByteArray)) 0 with
        | none => none
        | some (.r rx0c0v3 rx0c1v3 rx0c2v3 rx0c3v3 rx0c4v3 rx0c5v3 rx0c6v3 rx0c7v3 rx0c8v3 rx0c9v3 rx0c10v3 rx0c11v3 rx0c12v3 rx0c13v3 rx0c14v3 rx0c15v3 rx0c16v3 rx0c17v3) =>
          match F54 N 2 ((⟨#[84, 105, 109, 101]⟩ : ByteArray)) 2 with
          | none => none
          | some (.r rx0c0v4 rx0c1v4 rx0c2v4 rx0c3v4 rx0c4v4 rx0c5v4 rx0c6v4 rx0c7v4 rx0c8v4 rx0c9v4 rx0c10v4 rx0c11v4 rx0c12v4 rx0c13v4 rx0c14v4 rx0c15v4 rx0c16v4 rx0c17v4) =>
            match F55 N 5 ((⟨#[83, 116, 97, 110, 100, 97, 114, 100]⟩ : ByteArray)) with
            | none => none
            | some (.r rx0c0v5 rx0c1v5 rx0c2v5 rx0c3v5 rx0c4v5 rx0c5v5 rx0c6v5 rx0c7v5 rx0c8v5 rx0c9v5 rx0c10v5 rx0c11v5 rx0c12v5 rx0c13v5 rx0c14v5 rx0c15v5 rx0c16v5 rx0c17v5 rx0c18v5 rx0c19v5 rx0c20v5 rx0c21v5) =>
              match F55 N 5 ((⟨#[73, 110, 116, 101, 103, 101, 114]⟩ : ByteArray)) with
              | none => none
              | some (.r rx0c0v6 rx0c1v6 rx0c2v6 rx0c3v6 rx0c4v6 rx0c5v6 rx0c6v6 rx0c7v6 rx0c8v6 rx0c9v6 rx0c10v6 rx0c11v6 rx0c12v6 rx0c13v6 rx0c14v6 rx0c15v6 rx0c16v6 rx0c17v6 rx0c18v6 rx0c19v6 rx0c20v6 rx0c21v6) =>
                match F55 N 5 ((⟨#[66, 111, 111, 108, 101, 97, 110]⟩ : ByteArray)) with
                | none => none
                | some (.r rx0c0v7 rx0c1v7 rx0c2v7 rx0c3v7 rx0c4v7 rx0c5v7 rx0c6v7 rx0c7v7 rx0c8v7 rx0c9v7 rx0c10v7 rx0c11v7 rx0c12v7 rx0c13v7 rx0c14v7 rx0c15v7 rx0c16v7 rx0c17v7 rx0c18v7 rx0c19v7 rx0c20v7 rx0c21v7) =>
                  match F55 N 5 ((⟨#[70, 97, 108, 115, 101]⟩ : ByteArray)) with
                  | none => none
                  | some (.r rx0c0v8 rx0c1v8 rx0c2v8 rx0c3v8 rx0c4v8 rx0c5v8 rx0c6v8 rx0c7v8 rx0c8v8 rx0c9v8 rx0c10v8 rx0c11v8 rx0c12v8 rx0c13v8 rx0c14v8 rx0c15v8 rx0c16v8 rx0c17v8 rx0c18v8 rx0c19v8 rx0c20v8 rx0c21v8) =>
                    match F55 N 5 ((⟨#[84, 114, 117, 101]⟩ : ByteArray)) with
                    | none => none
                    | some (.r rx0c0v9 rx0c1v9 rx0c2v9 rx0c3v9 rx0c4v9 rx0c5v9 rx0c6v9 rx0c7v9 rx0c8v9 rx0c9v9 rx0c10v9 rx0c11v9 rx0c12v9 rx0c13v9 rx0c14v9 rx0c15v9 rx0c16v9 rx0c17v9 rx0c18v9 rx0c19v9 rx0c20v9 rx0c21v9) =>
                      match F55 N 5 ((⟨#[84, 105, 109, 101]⟩ : ByteArray)) with
                      | none => none
                      | some (.r rx0c0v10 rx0c1v10 rx0c2v10 rx0c3v10 rx0c4v10 rx0c5v10 rx0c6v10 rx0c7v10 rx0c8v10 rx0c9v10 rx0c10v10 rx0c11v10 rx0c12v10 rx0c13v10 rx0c14v10 rx0c15v10 rx0c16v10 rx0c17v10 rx0c18v10 rx0c19v10 rx0c20v10 rx0c21v10) =>
                        match F55 N 5 ((⟨#[78, 97, 116, 117, 114, 97, 108]⟩ : ByteArray)) with
                        | none => none
                        | some (.r rx0c0v11 rx0c1v11 rx0c2v11 rx0c3v11 rx0c4v11 rx0c5v11 rx0c6v11 rx0c7v11 rx0c8v11 rx0c9v11 rx0c10v11 rx0c11v11 rx0c12v11 rx0c13v11 rx0c14v11 rx0c15v11 rx0c16v11 rx0c17v11 rx0c18v11 rx0c19v11 rx0c20v11 rx0c21v11) =>
                          match F55 N 5 ((⟨#[80, 111, 115, 105, 116, 105, 118, 101]⟩ : ByteArray)) with
                          | none => none
                          | some (.r rx0c0v12 rx0c1v12 rx0c2v12 rx0c3v12 rx0c4v12 rx0c5v12 rx0c6v12 rx0c7v12 rx0c8v12 rx0c9v12 rx0c10v12 rx0c11v12 rx0c12v12 rx0c13v12 rx0c14v12 rx0c15v12 rx0c16v12 rx0c17v12 rx0c18v12 rx0c19v12 rx0c20v12 rx0c21v12) =>
                            match F55 N 5 ((⟨#[67, 111, 110, 115, 116, 114, 97, 105, 110, 116, 95, 69, 114, 114, 111, 114]⟩ : ByteArray)) with
                            | none => none
                            | some (.r rx0c0v13 rx0c1v13 rx0c2v13 rx0c3v13 rx0c4v13 rx0c5v13 rx0c6v13 rx0c7v13 rx0c8v13 rx0c9v13 rx0c10v13 rx0c11v13 rx0c12v13 rx0c13v13 rx0c14v13 rx0c15v13 rx0c16v13 rx0c17v13 rx0c18v13 rx0c19v13 rx0c20v13 rx0c21v13) =>
                              match F55 N 5 ((⟨#[80, 114, 111, 103, 114, 97, 109, 95, 69, 114, 114, 111, 114]⟩ : ByteArray)) with
                              | none => none
                              | some (.r rx0c0v14 rx0c1v14 rx0c2v14 rx0c3v14 rx0c4v14 rx0c5v14 rx0c6v14 rx0c7v14 rx0c8v14 rx0c9v14 rx0c10v14 rx0c11v14 rx0c12v14 rx0c13v14 rx0c14v14 rx0c15v14 rx0c16v14 rx0c17v14 rx0c18v14 rx0c19v14 rx0c20v14 rx0c21v14) =>
                                match F55 N 5 ((⟨#[84, 97, 115, 107, 105, 110, 103, 95, 69, 114, 114, 111, 114]⟩ : ByteArray)) with
                                | none => none
                                | some (.r rx0c0v15 rx0c1v15 rx0c2v15 rx0c3v15 rx0c4v15 rx0c5v15 rx0c6v15 rx0c7v15 rx0c8v15 rx0c9v15 rx0c10v15 rx0c11v15 rx0c12v15 rx0c13v15 rx0c14v15 rx0c15v15 rx0c16v15 rx0c17v15 rx0c18v15 rx0c19v15 rx0c20v15 rx0c21v15) =>
                                  match F55 N 5 ((⟨#[69, 110, 100, 95, 69, 114, 114, 111, 114]⟩ : ByteArray)) with
                                  | none => none
                                  | some (.r rx0c0v16 rx0c1v16 rx0c2v16 rx0c3v16 rx0c4v16 rx0c5v16 rx0c6v16 rx0c7v16 rx0c8v16 rx0c9v16 rx0c10v16 rx0c11v16 rx0c12v16 rx0c13v16 rx0c14v16 rx0c15v16 rx0c16v16 rx0c17v16 rx0c18v16 rx0c19v16 rx0c20v16 rx0c21v16) =>
                                    match F55 N 5 ((⟨#[80, 117, 116]⟩ : ByteArray)) with
                                    | none => none
                                    | some (.r rx0c0v17 rx0c1v17 rx0c2v17 rx0c3v17 rx0c4v17 rx0c5v17 rx0c6v17 rx0c7v17 rx0c8v17 rx0c9v17 rx0c10v17 rx0c11v17 rx0c12v17 rx0c13v17 rx0c14v17 rx0c15v17 rx0c16v17 rx0c17v17 rx0c18v17 rx0c19v17 rx0c20v17 rx0c21v17) =>
                                      match F55 N 5 ((⟨#[71, 101, 116]⟩ : ByteArray)) with
                                      | none => none
                                      | some (.r rx0c0v18 rx0c1v18 rx0c2v18 rx0c3v18 rx0c4v18 rx0c5v18 rx0c6v18 rx0c7v18 rx0c8v18 rx0c9v18 rx0c10v18 rx0c11v18 rx0c12v18 rx0c13v18 rx0c14v18 rx0c15v18 rx0c16v18 rx0c17v18 rx0c18v18 rx0c19v18 rx0c20v18 rx0c21v18) =>
                                        match F55 N 5 ((⟨#[67, 108, 111, 99, 107]⟩ : ByteArray)) with
                                        | none => none
                                        | some (.r rx0c0v19 rx0c1v19 rx0c2v19 rx0c3v19 rx0c4v19 rx0c5v19 rx0c6v19 rx0c7v19 rx0c8v19 rx0c9v19 rx0c10v19 rx0c11v19 rx0c12v19 rx0c13v19 rx0c14v19 rx0c15v19 rx0c16v19 rx0c17v19 rx0c18v19 rx0c19v19 rx0c20v19 rx0c21v19) =>
                                          some (.r ([]) ([]) (([[.int .u8 rx0c0v2, .str rx0c1v2, .int .i64 rx0c2v2, .int .i64 rx0c3v2, .list 9 rx0c4v2, .int .i64 rx0c5v2, .int .i64 rx0c6v2, .int .i64 rx0c7v2, .str rx0c8v2, .bool rx0c9v2, .int .i64 rx0c10v2, .list 120 rx0c11v2, .int .i64 rx0c12v2, .int .u8 rx0c13v2, .bool rx0c14v2, .int .i64 rx0c15v2, .int .i64 rx0c16v2, .int .i64 rx0c17v2], [.int .u8 rx0c0v3, .str rx0c1v3, .int .i64 rx0c2v3, .int .i64 rx0c3v3, .list 9 rx0c4v3, .int .i64 rx0c5v3, .int .i64 rx0c6v3, .int .i64 rx0c7v3, .str rx0c8v3, .bool rx0c9v3, .int .i64 rx0c10v3, .list 120 rx0c11v3, .int .i64 rx0c12v3, .int .u8 rx0c13v3, .bool rx0c14v3, .int .i64 rx0c15v3, .int .i64 rx0c16v3, .int .i64 rx0c17v3], [.int .u8 rx0c0v1, .str rx0c1v1, .int .i64 rx0c2v1, .int .i64 rx0c3v1, .list 9 (([[.str ((⟨#[70, 97, 108, 115, 101]⟩ : ByteArray))], [.str ((⟨#[84, 114, 117, 101]⟩ : ByteArray))]] : List Row)), .int .i64 rx0c5v1, .int .i64 rx0c6v1, .int .i64 rx0c7v1, .str rx0c8v1, .bool rx0c9v1, .int .i64 rx0c10v1, .list 120 rx0c11v1, .int .i64 rx0c12v1, .int .u8 rx0c13v1, .bool rx0c14v1, .int .i64 rx0c15v1, .int .i64 rx0c16v1, .int .i64 rx0c17v1], [.int .u8 rx0c0v4, .str rx0c1v4, .int .i64 rx0c2v4, .int .i64 rx0c3v4, .list 9 rx0c4v4, .int .i64 rx0c5v4, .int .i64 rx0c6v4, .int .i64 rx0c7v4, .str rx0c8v4, .bool rx0c9v4, .int .i64 rx0c10v4, .list 120 rx0c11v4, .int .i64 rx0c12v4, .int .u8 rx0c13v4, .bool rx0c14v4, .int .i64 rx0c15v4, .int .i64 rx0c16v4, .int .i64 rx0c17v4]] : List Row)) (([[.int .i64 1, .int .i64 ((-2147483648)), .int .i64 2147483647], [.int .i64 2, .int .i64 0, .int .i64 1], [.int .i64 3, .int .i64 0, .int .i64 2147483647], [.int .i64 1, .int .i64 0, .int .i64 2147483647], [.int .i64 1, .int .i64 1, .int .i64 2147483647]] : List Row)) (([[.int .u8 1, .str rx0c1v5, .int .i64 ((-1)), .int .u8 rx0c3v5, .int .i64 rx0c4v5, .int .i64 rx0c5v5, .list 90 rx0c6v5, .int .i64 rx0c7v5, .bool rx0c8v5, .int .i64 rx0c9v5, .int .i64 rx0c10v5, .bool rx0c11v5, .bool rx0c12v5, .int .u8 rx0c13v5, .int .i64 rx0c14v5, .int .i64 rx0c15v5, .int .i64 rx0c16v5, .bool rx0c17v5, .bool rx0c18v5, .int .i64 rx0c19v5, .int .i64 rx0c20v5, .int .i64 rx0c21v5], [.int .u8 rx0c0v6, .str rx0c1v6, .int .i64 rx0c2v6, .int .u8 rx0c3v6, .int .i64 1, .int .i64 0, .list 90 rx0c6v6, .int .i64 rx0c7v6, .bool rx0c8v6, .int .i64 rx0c9v6, .int .i64 rx0c10v6, .bool rx0c11v6, .bool rx0c12v6, .int .u8 rx0c13v6, .int .i64 rx0c14v6, .int .i64 rx0c15v6, .int .i64 rx0c16v6, .bool rx0c17v6, .bool rx0c18v6, .int .i64 rx0c19v6, .int .i64 rx0c20v6, .int .i64 rx0c21v6], [.int .u8 rx0c0v7, .str rx0c1v7, .int .i64 rx0c2v7, .int .u8 rx0c3v7, .int .i64 2, .int .i64 1, .list 90 rx0c6v7, .int .i64 rx0c7v7, .bool rx0c8v7, .int .i64 rx0c9v7, .int .i64 rx0c10v7, .bool rx0c11v7, .bool rx0c12v7, .int .u8 rx0c13v7, .int .i64 rx0c14v7, .int .i64 rx0c15v7, .int .i64 rx0c16v7, .bool rx0c17v7, .bool rx0c18v7, .int .i64 rx0c19v7, .int .i64 rx0c20v7, .int .i64 rx0c21v7], [.int .u8 10, .str rx0c1v8, .int .i64 rx0c2v8, .int .u8 rx0c3v8, .int .i64 2, .int .i64 rx0c5v8, .list 90 rx0c6v8, .int .i64 rx0c7v8, .bool rx0c8v8, .int .i64 rx0c9v8, .int .i64 0, .bool rx0c11v8, .bool rx0c12v8, .int .u8 rx0c13v8, .int .i64 rx0c14v8, .int .i64 rx0c15v8, .int .i64 rx0c16v8, .bool rx0c17v8, .bool rx0c18v8, .int .i64 rx0c19v8, .int .i64 rx0c20v8, .int .i64 rx0c21v8], [.int .u8 10, .str rx0c1v9, .int .i64 rx0c2v9, .int .u8 rx0c3v9, .int .i64 2, .int .i64 rx0c5v9, .list 90 rx0c6v9, .int .i64 rx0c7v9, .bool rx0c8v9, .int .i64 rx0c9v9, .int .i64 1, .bool rx0c11v9, .bool rx0c12v9, .int .u8 rx0c13v9, .int .i64 rx0c14v9, .int .i64 rx0c15v9, .int .i64 rx0c16v9, .bool rx0c17v9, .bool rx0c18v9, .int .i64 rx0c19v9, .int .i64 rx0c20v9, .int .i64 rx0c21v9], [.int .u8 rx0c0v10, .str rx0c1v10, .int .i64 rx0c2v10, .int .u8 rx0c3v10, .int .i64 3, .int .i64 2, .list 90 rx0c6v10, .int .i64 rx0c7v10, .bool rx0c8v10, .int .i64 rx0c9v10, .int .i64 rx0c10v10, .bool rx0c11v10, .bool rx0c12v10, .int .u8 rx0c13v10, .int .i64 rx0c14v10, .int .i64 rx0c15v10, .int .i64 rx0c16v10, .bool rx0c17v10, .bool rx0c18v10, .int .i64 rx0c19v10, .int .i64 rx0c20v10, .int .i64 rx0c21v10], [.int .u8 6, .str rx0c1v11, .int .i64 rx0c2v11, .int .u8 rx0c3v11, .int .i64 1, .int .i64 3, .list 90 rx0c6v11, .int .i64 rx0c7v11, .bool rx0c8v11, .int .i64 rx0c9v11, .int .i64 rx0c10v11, .bool rx0c11v11, .bool rx0c12v11, .int .u8 rx0c13v11, .int .i64 rx0c14v11, .int .i64 rx0c15v11, .int .i64 rx0c16v11, .bool rx0c17v11, .bool rx0c18v11, .int .i64 rx0c19v11, .int .i64 rx0c20v11, .int .i64 rx0c21v11], [.int .u8 6, .str rx0c1v12, .int .i64 rx0c2v12, .int .u8 rx0c3v12, .int .i64 1, .int .i64 4, .list 90 rx0c6v12, .int .i64 rx0c7v12, .bool rx0c8v12, .int .i64 rx0c9v12, .int .i64 rx0c10v12, .bool rx0c11v12, .bool rx0c12v12, .int .u8 rx0c13v12, .int .i64 rx0c14v12, .int .i64 rx0c15v12, .int .i64 rx0c16v12, .bool rx0c17v12, .bool rx0c18v12, .int .i64 rx0c19v12, .int .i64 rx0c20v12, .int .i64 rx0c21v12], [.int .u8 11, .str rx0c1v13, .int .i64 rx0c2v13, .int .u8 rx0c3v13, .int .i64 rx0c4v13, .int .i64 rx0c5v13, .list 90 rx0c6v13, .int .i64 rx0c7v13, .bool rx0c8v13, .int .i64 rx0c9v13, .int .i64 1, .bool rx0c11v13, .bool rx0c12v13, .int .u8 rx0c13v13, .int .i64 rx0c14v13, .int .i64 rx0c15v13, .int .i64 rx0c16v13, .bool rx0c17v13, .bool rx0c18v13, .int .i64 rx0c19v13, .int .i64 rx0c20v13, .int .i64 rx0c21v13], [.int .u8 11, .str rx0c1v14, .int .i64 rx0c2v14, .int .u8 rx0c3v14, .int .i64 rx0c4v14, .int .i64 rx0c5v14, .list 90 rx0c6v14, .int .i64 rx0c7v14, .bool rx0c8v14, .int .i64 rx0c9v14, .int .i64 2, .bool rx0c11v14, .bool rx0c12v14, .int .u8 rx0c13v14, .int .i64 rx0c14v14, .int .i64 rx0c15v14, .int .i64 rx0c16v14, .bool rx0c17v14, .bool rx0c18v14, .int .i64 rx0c19v14, .int .i64 rx0c20v14, .int .i64 rx0c21v14], [.int .u8 11, .str rx0c1v15, .int .i64 rx0c2v15, .int .u8 rx0c3v15, .int .i64 rx0c4v15, .int .i64 rx0c5v15, .list 90 rx0c6v15, .int .i64 rx0c7v15, .bool rx0c8v15, .int .i64 rx0c9v15, .int .i64 3, .bool rx0c11v15, .bool rx0c12v15, .int .u8 rx0c13v15, .int .i64 rx0c14v15, .int .i64 rx0c15v15, .int .i64 rx0c16v15, .bool rx0c17v15, .bool rx0c18v15, .int .i64 rx0c19v15, .int .i64 rx0c20v15, .int .i64 rx0c21v15], [.int .u8 11, .str rx0c1v16, .int .i64 rx0c2v16, .int .u8 rx0c3v16, .int .i64 rx0c4v16, .int .i64 rx0c5v16, .list 90 rx0c6v16, .int .i64 rx0c7v16, .bool rx0c8v16, .int .i64 rx0c9v16, .int .i64 4, .bool rx0c11v16, .bool rx0c12v16, .int .u8 rx0c13v16, .int .i64 rx0c14v16, .int .i64 rx0c15v16, .int .i64 rx0c16v16, .bool rx0c17v16, .bool rx0c18v16, .int .i64 rx0c19v16, .int .i64 rx0c20v16, .int .i64 rx0c21v16], [.int .u8 3, .str rx0c1v17, .int .i64 rx0c2v17, .int .u8 rx0c3v17, .int .i64 rx0c4v17, .int .i64 rx0c5v17, .list 90 (([[.str ((⟨#[88]⟩ : ByteArray)), .int .u8 1, .int .i64 0, .int .u8 0, .int .u8 0, .int .i64 0, .str ByteArray.empty, .list 88 ([]), .list 124 ([]), .int .i64 0, .int .i64 0, .int .i64 0, .int .i64 ((-1))]] : List Row)), .int .i64 rx0c7v17, .bool rx0c8v17, .int .i64 rx0c9v17, .int .i64 rx0c10v17, .bool rx0c11v17, .bool rx0c12v17, .int .u8 rx0c13v17, .int .i64 rx0c14v17, .int .i64 rx0c15v17, .int .i64 rx0c16v17, .bool rx0c17v17, .bool rx0c18v17, .int .i64 rx0c19v17, .int .i64 rx0c20v17, .int .i64 rx0c21v17], [.int .u8 3, .str rx0c1v18, .int .i64 rx0c2v18, .int .u8 rx0c3v18, .int .i64 rx0c4v18, .int .i64 rx0c5v18, .list 90 (([[.str ((⟨#[88]⟩ : ByteArray)), .int .u8 2, .int .i64 0, .int .u8 0, .int .u8 0, .int .i64 0, .str ByteArray.empty, .list 88 ([]), .list 124 ([]), .int .i64 0, .int .i64 0, .int .i64 0, .int .i64 ((-1))]] : List Row)), .int .i64 rx0c7v18, .bool rx0c8v18, .int .i64 rx0c9v18, .int .i64 rx0c10v18, .bool rx0c11v18, .bool rx0c12v18, .int .u8 rx0c13v18, .int .i64 rx0c14v18, .int .i64 rx0c15v18, .int .i64 rx0c16v18, .bool rx0c17v18, .bool rx0c18v18, .int .i64 rx0c19v18, .int .i64 rx0c20v18, .int .i64 rx0c21v18], [.int .u8 4, .str rx0c1v19, .int .i64 rx0c2v19, .int .u8 rx0c3v19, .int .i64 3, .int .i64 2, .list 90 rx0c6v19, .int .i64 rx0c7v19, .bool rx0c8v19, .int .i64 rx0c9v19, .int .i64 rx0c10v19, .bool rx0c11v19, .bool rx0c12v19, .int .u8 rx0c13v19, .int .i64 rx0c14v19, .int .i64 rx0c15v19, .int .i64 rx0c16v19, .bool rx0c17v19, .bool rx0c18v19, .int .i64 rx0c19v19, .int .i64 rx0c20v19, .int .i64 rx0c21v19]] : List Row)))
def xRF44 : XSh R44 := ⟨[.frza 0 [.raw, .raw, .raw, .slice 113, .slice 117]], ⟨[(0, .agg [.own 0, .own 1, .own 2, .cell (.slice 113), .cell (.slice 117)])], [.row 58, .row 74, .row 45]⟩, fun st => [((Eng.look st.env 0).cells.getD 0 .top).id, ((Eng.look st.env 0).cells.getD 1 .top).id, ((Eng.look st.env 0).cells.getD 2 .top).id], fun s => .r (((Eng.look s.env 0).cells.getD 3 .top).rows) (((Eng.look s.env 0).cells.getD 4 .top).rows) ((s.mem.getD 0 .dead).rows) ((s.mem.getD 1 .dead).rows) ((s.mem.getD 2 .dead).rows)⟩
theorem fsF44 : ∀ (N : Nat) (lk : Nat → AV) (M : List Blk), FFF44 (F44 (N + 1)) (canS sgF44 lk M) = evfn CX (T44ur1 N R44) code44 rsF44 (argsE 0 (canS sgF44 lk M).env) (canS sgF44 lk M).mem (goR CX 0 (fun _ => some xRF44)) := by intro N lk M; kernel_rfl
theorem soundF44 : ∀ N, RecOkF44 (F44 N)
  | 0, lk, M, o, h => by cases h
  | N + 1, lk, M, o, h => fn_sound hX (okT44ur1 N R44) Tryd.func44 hb44 rfl en44 (by kernel_rfl) (ys := fun _ => some xRF44) (fun st y h => by injection h with h; subst h; exact fun lk M => ⟨rfl, rfl⟩) ((fsF44 N lk M).symm.trans h)
def cvce44n0 : List Cv := []
def selce44n0 : St → List Nat := fun _ => []
noncomputable def ce44n0 (Fx : TF44) (R : Type) (test : List AV → List Blk → Bool) : CE R := ⟨44, test, fun args M => some (selce44n0 ⟨argEnv 0 args, M, [], .unk⟩), fun args M k => tst (Nat.beq args.length 0) (callFn CX 0 cvce44n0 sgF44 selce44n0 (FFF44 Fx) elF44 args M k)⟩
theorem okce44n0 (Fx : TF44) (h : RecOkF44 Fx) (R : Type) (test : List AV → List Blk → Bool) : CeOk CX (ce44n0 Fx R test) := ce_ok hX (fun o k => by cases o; rfl) h en44 (fun args M ids h => by injection h with h; exact ⟨rfl, h.symm⟩)
end Go.Proofs.YtdennlgnbecojaaDoor

namespace Go.Proofs.YtdennlgnbecojaaDoor
open Go Go.Eng
set_option maxRecDepth 100000

/-! ### F22: ceiling/ceilinglaw12.sample -/
inductive R22 where
  | r (x0c3 : List Row) (x0c4 : List Row) (b0 : List Row) (b1 : List Row) (b2 : List Row)
abbrev TF22 := Option R22
def sgF22 : LSh := ⟨[], []⟩
def FFF22 (Fx : TF22) (s : St) : Option R22 := Fx 
def valF22 (o : R22) : AV := match o with | .r x0c3 x0c4 b0 b1 b2 => .agg [.own 0, .own 1, .own 2, .list 113 x0c3, .list 117 x0c4]
def memF22 (o : R22) : List Blk := match o with | .r x0c3 x0c4 b0 b1 b2 => [.row 58 b0, .row 74 b1, .row 45 b2]
def elF22 {R : Type} (o : R22) (k : AV → List Blk → Option R) : Option R := match o with | .r x0c3 x0c4 b0 b1 b2 => k (.agg [.own 0, .own 1, .own 2, .list 113 x0c3, .list 117 x0c4]) [.row 58 b0, .row 74 b1, .row 45 b2]
def RecOkF22 (Fx : TF22) : Prop := ∀ lk M o, FFF22 Fx (canS sgF22 lk M) = some o → FCalls CX 22 0 (argsE 0 (canS sgF22 lk M).env) (canS sgF22 lk M).mem (valF22 o) (memF22 o)
noncomputable def csF22 (N : Nat) (R : Type) : List (CE R) := [ce44n0 (F44 N) R (fun _ _ => true)]
theorem hcsF22 (N : Nat) (R : Type) : AllE (CeOk CX) (csF22 N R) := ⟨okce44n0 (F44 N) (soundF44 N) R (fun _ _ => true), trivial⟩
noncomputable def T22ur1 (N : Nat) (R : Type) : LTab R := mkTab ⟨25, 33554431⟩ (csF22 N R) (noY) [] [] []
theorem okT22ur1 (N : Nat) (R : Type) : (T22ur1 N R).Ok CX code22 := mkTab_ok (hcsF22 N R) (noY_ok) (trivial) (trivial) (trivial)
def rsF22 : List ResultVar := [.cell 0 28]
def F22 : Nat → TF22
  | 0 => none
  | N + 1 => 
    match F44 N  with
    | none => none
    | some (.r rx0c3v1 rx0c4v1 rb0v1 rb1v1 rb2v1) =>
      tst (decide (((rb0v1.length + 2) * 184) ≤ 140737488355328)) <|
      tst (decide (((rb2v1.length + 7) * 176) ≤ 140737488355328)) <|
      some (.r rx0c3v1 rx0c4v1 (rb0v1 ++ (([[.int .u8 6, .str ByteArray.empty, .int .i64 0, .int .i64 0, .list 9 ([]), .int .i64 0, .int .i64 0, .int .i64 0, .str ByteArray.empty, .bool false, .int .i64 0, .list 120 ([]), .int .i64 4, .int .u8 0, .bool false, .int .i64 0, .int .i64 0, .int .i64 0], [.int .u8 6, .str ByteArray.empty, .int .i64 0, .int .i64 0, .list 9 ([]), .int .i64 0, .int .i64 0, .int .i64 0, .str ByteArray.empty, .bool false, .int .i64 0, .list 120 ([]), .int .i64 4, .int .u8 0, .bool false, .int .i64 0, .int .i64 0, .int .i64 1]] : List Row))) rb1v1 (rb2v1 ++ (([[.int .u8 2, .str ByteArray.empty, .int .i64 0, .int .u8 0, .int .i64 0, .int .i64 0, .list 90 ([]), .int .i64 0, .bool false, .int .i64 0, .int .i64 0, .bool false, .bool false, .int .u8 0, .int .i64 0, .int .i64 0, .int .i64 0, .bool false, .bool false, .int .i64 0, .int .i64 0, .int .i64 0], [.int .u8 5, .str ByteArray.empty, .int .i64 15, .int .u8 0, .int .i64 4, .int .i64 0, .list 90 ([]), .int .i64 0, .bool false, .int .i64 0, .int .i64 0, .bool false, .bool false, .int .u8 0, .int .i64 0, .int .i64 0, .int .i64 0, .bool false, .bool false, .int .i64 0, .int .i64 0, .int .i64 0], [.int .u8 7, .str ByteArray.empty, .int .i64 15, .int .u8 0, .int .i64 0, .int .i64 4, .list 90 ([]), .int .i64 0, .bool false, .int .i64 0, .int .i64 0, .bool false, .bool true, .int .u8 0, .int .i64 0, .int .i64 0, .int .i64 0, .bool false, .bool false, .int .i64 0, .int .i64 0, .int .i64 0], [.int .u8 3, .str ByteArray.empty, .int .i64 15, .int .u8 0, .int .i64 0, .int .i64 0, .list 90 ([]), .int .i64 0, .bool false, .int .i64 0, .int .i64 0, .bool false, .bool false, .int .u8 0, .int .i64 0, .int .i64 0, .int .i64 0, .bool false, .bool false, .int .i64 0, .int .i64 0, .int .i64 0], [.int .u8 5, .str ByteArray.empty, .int .i64 18, .int .u8 0, .int .i64 5, .int .i64 0, .list 90 ([]), .int .i64 0, .bool false, .int .i64 1, .int .i64 0, .bool false, .bool false, .int .u8 0, .int .i64 0, .int .i64 0, .int .i64 0, .bool false, .bool false, .int .i64 0, .int .i64 0, .int .i64 0], [.int .u8 7, .str ByteArray.empty, .int .i64 18, .int .u8 0, .int .i64 0, .int .i64 4, .list 90 ([]), .int .i64 0, .bool false, .int .i64 1, .int .i64 0, .bool false, .bool true, .int .u8 0, .int .i64 0, .int .i64 0, .int .i64 0, .bool false, .bool false, .int .i64 0, .int .i64 0, .int .i64 0], [.int .u8 7, .str ByteArray.empty, .int .i64 18, .int .u8 0, .int .i64 0, .int .i64 4, .list 90 ([]), .int .i64 0, .bool false, .int .i64 1, .int .i64 0, .bool false, .bool false, .int .u8 0, .int .i64 0, .int .i64 0, .int .i64 0, .bool false, .bool false, .int .i64 0, .int .i64 0, .int .i64 0]] : List Row))))
def xRF22 : XSh R22 := ⟨[], ⟨[(0, .agg [.own 0, .own 1, .own 2, .cell (.slice 113), .cell (.slice 117)])], [.row 58, .row 74, .row 45]⟩, fun st => [((Eng.look st.env 0).cells.getD 0 .top).id, ((Eng.look st.env 0).cells.getD 1 .top).id, ((Eng.look st.env 0).cells.getD 2 .top).id], fun s => .r (((Eng.look s.env 0).cells.getD 3 .top).rows) (((Eng.look s.env 0).cells.getD 4 .top).rows) ((s.mem.getD 0 .dead).rows) ((s.mem.getD 1 .dead).rows) ((s.mem.getD 2 .dead).rows)⟩
theorem fsF22 : ∀ (N : Nat) (lk : Nat → AV) (M : List Blk), FFF22 (F22 (N + 1)) (canS sgF22 lk M) = evfn CX (T22ur1 N R22) code22 rsF22 (argsE 0 (canS sgF22 lk M).env) (canS sgF22 lk M).mem (goR CX 0 (fun _ => some xRF22)) := by intro N lk M; kernel_rfl
theorem soundF22 : ∀ N, RecOkF22 (F22 N)
  | 0, lk, M, o, h => by cases h
  | N + 1, lk, M, o, h => fn_sound hX (okT22ur1 N R22) Tryd.func22 hb22 rfl en22 (by kernel_rfl) (ys := fun _ => some xRF22) (fun st y h => by injection h with h; subst h; exact fun lk M => ⟨rfl, rfl⟩) ((fsF22 N lk M).symm.trans h)
def cvce22n0 : List Cv := []
def selce22n0 : St → List Nat := fun _ => []
noncomputable def ce22n0 (Fx : TF22) (R : Type) (test : List AV → List Blk → Bool) : CE R := ⟨22, test, fun args M => some (selce22n0 ⟨argEnv 0 args, M, [], .unk⟩), fun args M k => tst (Nat.beq args.length 0) (callFn CX 0 cvce22n0 sgF22 selce22n0 (FFF22 Fx) elF22 args M k)⟩
theorem okce22n0 (Fx : TF22) (h : RecOkF22 Fx) (R : Type) (test : List AV → List Blk → Bool) : CeOk CX (ce22n0 Fx R test) := ce_ok hX (fun o k => by cases o; rfl) h en22 (fun args M ids h => by injection h with h; exact ⟨rfl, h.symm⟩)
end Go.Proofs.YtdennlgnbecojaaDoor

namespace Go.Proofs.YtdennlgnbecojaaDoor
open Go Go.Eng
set_option maxRecDepth 100000

/-! ### F23: ceiling/level.outwards -/
inductive R23 where
  | r (b0 : List Row) (b1 : List Row) (b2 : List Row) (b3c0 : Int) (b4c3 : List Row) (b4c4 : List Row)
abbrev TF23 := List Row → List Row → Int → List Row → List Row → List Row → Option R23
def sgF23 : LSh := ⟨[(0, .agg [.own 0, .own 1, .own 2, .cell (.slice 113), .cell (.slice 117)]), (1, .one (.cell (.int .i64)))], [.row 58, .row 74, .row 45]⟩
def FFF23 (Fx : TF23) (s : St) : Option R23 := Fx (((Eng.look s.env 0).cells.getD 3 .top).rows) (((Eng.look s.env 0).cells.getD 4 .top).rows) ((Eng.look s.env 1).toI) ((s.mem.getD 0 .dead).rows) ((s.mem.getD 1 .dead).rows) ((s.mem.getD 2 .dead).rows)
def valF23 (o : R23) : AV := match o with | .r b0 b1 b2 b3c0 b4c3 b4c4 => .clos 45 [] [.ptr 3 0 0, .ptr 4 0 0]
def memF23 (o : R23) : List Blk := match o with | .r b0 b1 b2 b3c0 b4c3 b4c4 => [.row 58 b0, .row 74 b1, .row 45 b2, .var [.int .i64] [.int .i64 b3c0], .var [.any, .any, .any, .any, .any] [.own 0, .own 1, .own 2, .list 113 b4c3, .list 117 b4c4]]
def elF23 {R : Type} (o : R23) (k : AV → List Blk → Option R) : Option R := match o with | .r b0 b1 b2 b3c0 b4c3 b4c4 => k (.clos 45 [] [.ptr 3 0 0, .ptr 4 0 0]) [.row 58 b0, .row 74 b1, .row 45 b2, .var [.int .i64] [.int .i64 b3c0], .var [.any, .any, .any, .any, .any] [.own 0, .own 1, .own 2, .list 113 b4c3, .list 117 b4c4]]
def RecOkF23 (Fx : TF23) : Prop := ∀ lk M o, FFF23 Fx (canS sgF23 lk M) = some o → FCalls CX 23 3 (argsE 2 (canS sgF23 lk M).env) (canS sgF23 lk M).mem (valF23 o) (memF23 o)
noncomputable def csF23 (N : Nat) (R : Type) : List (CE R) := []
theorem hcsF23 (N : Nat) (R : Type) : AllE (CeOk CX) (csF23 N R) := trivial
noncomputable def T23ur1 (N : Nat) (R : Type) : LTab R := mkTab ⟨6, 63⟩ (csF23 N R) (noY) [] [] []
theorem okT23ur1 (N : Nat) (R : Type) : (T23ur1 N R).Ok CX code23 := mkTab_ok (hcsF23 N R) (noY_ok) (trivial) (trivial) (trivial)
def rsF23 : List ResultVar := [.tmp 4]
def F23 : Nat → TF23
  | 0 => fun _ _ _ _ _ _ => none
  | N + 1 => fun x0c3 x0c4 x1 b0 b1 b2 =>
    some (.r b0 b1 b2 x1 x0c3 x0c4)
def xRF23 : XSh R23 := ⟨[], ⟨[(0, .one (.cl 45 [(3, 0, 0), (4, 0, 0)]))], [.row 58, .row 74, .row 45, .var [.int .i64] [.cell (.int .i64)], .var [.any, .any, .any, .any, .any] [.own 0, .own 1, .own 2, .cell (.slice 113), .cell (.slice 117)]]⟩, fun st => [0, 1, 2, ((Eng.look st.env 0).caps.getD 0 .top).id, ((Eng.look st.env 0).caps.getD 1 .top).id], fun s => .r ((s.mem.getD 0 .dead).rows) ((s.mem.getD 1 .dead).rows) ((s.mem.getD 2 .dead).rows) (((s.mem.getD 3 .dead).cells.getD 0 .top).toI) (((s.mem.getD 4 .dead).cells.getD 3 .top).rows) (((s.mem.getD 4 .dead).cells.getD 4 .top).rows)⟩
theorem fsF23 : ∀ (N : Nat) (lk : Nat → AV) (M : List Blk), FFF23 (F23 (N + 1)) (canS sgF23 lk M) = evfn CX (T23ur1 N R23) code23 rsF23 (argsE 2 (canS sgF23 lk M).env) (canS sgF23 lk M).mem (goR CX 3 (fun _ => some xRF23)) := by intro N lk M; kernel_rfl
theorem soundF23 : ∀ N, RecOkF23 (F23 N)
  | 0, lk, M, o, h => by cases h
  | N + 1, lk, M, o, h => fn_sound hX (okT23ur1 N R23) Tryd.func23 hb23 rfl en23 (by kernel_rfl) (ys := fun _ => some xRF23) (fun st y h => by injection h with h; subst h; exact fun lk M => ⟨rfl, rfl⟩) ((fsF23 N lk M).symm.trans h)
def cvce23n0 : List Cv := []
def selce23n0 : St → List Nat := fun st => [((Eng.look st.env 0).cells.getD 0 .top).id, ((Eng.look st.env 0).cells.getD 1 .top).id, ((Eng.look st.env 0).cells.getD 2 .top).id]
noncomputable def ce23n0 (Fx : TF23) (R : Type) (test : List AV → List Blk → Bool) : CE R := ⟨23, test, fun args M => some (selce23n0 ⟨argEnv 0 args, M, [], .unk⟩), fun args M k => tst (Nat.beq args.length 2) (callFn CX 3 cvce23n0 sgF23 selce23n0 (FFF23 Fx) elF23 args M k)⟩
theorem okce23n0 (Fx : TF23) (h : RecOkF23 Fx) (R : Type) (test : List AV → List Blk → Bool) : CeOk CX (ce23n0 Fx R test) := ce_ok hX (fun o k => by cases o; rfl) h en23 (fun args M ids h => by injection h with h; exact ⟨rfl, h.symm⟩)
end Go.Proofs.YtdennlgnbecojaaDoor

namespace Go.Proofs.YtdennlgnbecojaaDoor
open Go Go.Eng
set_option maxRecDepth 100000

/-! ### F10: ceiling/level.Region -/
inductive R10 where
  | r (x0 : Int) (b0 : List Row) (b1 : List Row) (b2 : List Row)
abbrev TF10 := List Row → List Row → Int → List Row → List Row → List Row → Option R10
def sgF10 : LSh := ⟨[(0, .agg [.own 0, .own 1, .own 2, .cell (.slice 113), .cell (.slice 117)]), (1, .one (.cell (.int .i64)))], [.row 58, .row 74, .row 45]⟩
def FFF10 (Fx : TF10) (s : St) : Option R10 := Fx (((Eng.look s.env 0).cells.getD 3 .top).rows) (((Eng.look s.env 0).cells.getD 4 .top).rows) ((Eng.look s.env 1).toI) ((s.mem.getD 0 .dead).rows) ((s.mem.getD 1 .dead).rows) ((s.mem.getD 2 .dead).rows)
def valF10 (o : R10) : AV := match o with | .r x0 b0 b1 b2 => .int .i64 x0
def memF10 (o : R10) : List Blk := match o with | .r x0 b0 b1 b2 => [.row 58 b0, .row 74 b1, .row 45 b2]
def elF10 {R : Type} (o : R10) (k : AV → List Blk → Option R) : Option R := match o with | .r x0 b0 b1 b2 => k (.int .i64 x0) [.row 58 b0, .row 74 b1, .row 45 b2]
def RecOkF10 (Fx : TF10) : Prop := ∀ lk M o, FFF10 Fx (canS sgF10 lk M) = some o → FCalls CX 10 3 (argsE 2 (canS sgF10 lk M).env) (canS sgF10 lk M).mem (valF10 o) (memF10 o)
noncomputable def csF10 (N : Nat) (R : Type) : List (CE R) := [ce23n0 (F23 N) R (fun _ _ => true)]
theorem hcsF10 (N : Nat) (R : Type) : AllE (CeOk CX) (csF10 N R) := ⟨okce23n0 (F23 N) (soundF23 N) R (fun _ _ => true), trivial⟩
noncomputable def T10us58 (N : Nat) (R : Type) : LTab R := mkTab ⟨31, 2147483647⟩ (csF10 N R) (noY) [] [] []
theorem okT10us58 (N : Nat) (R : Type) : (T10us58 N R).Ok CX code10 := mkTab_ok (hcsF10 N R) (noY_ok) (trivial) (trivial) (trivial)
def rs10i58f45 : List ResultVar := []
inductive OJ10i58f45a24 where
  | nx (b0 : List Row) (b1 : List Row) (b2 : List Row)
  | x0 (b0 : List Row) (b1 : List Row) (b2 : List Row)
def J10i58f45a24 (N : Nat) : Int → Int → List Row → List Row → List Row → Option OJ10i58f45a24 := fun x4 x5 b0 b1 b2 =>
    match decide ((0 : Int) ≤ x4) with
    | true =>
      match decide (x4 < x5) with
      | true =>
        some (.nx b0 b1 b2)
      | false =>
        some (.x0 b0 b1 b2)
    | false =>
      some (.x0 b0 b1 b2)
def LFJ10i58f45a24 (N : Nat) (s : St) : Option OJ10i58f45a24 := J10i58f45a24 N ((Eng.look s.env 4).toI) ((Eng.look s.env 5).toI) ((s.mem.getD 0 .dead).rows) ((s.mem.getD 1 .dead).rows) ((s.mem.getD 2 .dead).rows)
def sgJ10i58f45a24 : LSh := ⟨[(4, .one (.cell (.int .i64))), (5, .one (.cell (.int .i64)))], [.row 58, .row 74, .row 45]⟩
def ceJ10i58f45a24 : List Cv := []
def seJ10i58f45a24 : St → List Nat := fun st => [0, 1, 2]
def xJ10i58f45a24wnx : XSh OJ10i58f45a24 := ⟨[], ⟨[], [.row 58, .row 74, .row 45]⟩, fun st => [0, 1, 2], fun s => .nx ((s.mem.getD 0 .dead).rows) ((s.mem.getD 1 .dead).rows) ((s.mem.getD 2 .dead).rows)⟩
def xJ10i58f45a24wx0 : XSh OJ10i58f45a24 := ⟨[], ⟨[], [.row 58, .row 74, .row 45]⟩, fun st => [0, 1, 2], fun s => .x0 ((s.mem.getD 0 .dead).rows) ((s.mem.getD 1 .dead).rows) ((s.mem.getD 2 .dead).rows)⟩
def xsJ10i58f45a24 : Ex → St → Option (XSh OJ10i58f45a24) := fun e st => match e with
  | .normal => some xJ10i58f45a24wnx
  | .exit 0 => some xJ10i58f45a24wx0
  | _ => none
def exJ10i58f45a24 (o : OJ10i58f45a24) : Ex := match o with | .nx b0 b1 b2 => .normal | .x0 b0 b1 b2 => (.exit 0)
def stJ10i58f45a24 (o : OJ10i58f45a24) : St := match o with | .nx b0 b1 b2 => ⟨[], [.row 58 b0, .row 74 b1, .row 45 b2], [], .unk⟩ | .x0 b0 b1 b2 => ⟨[], [.row 58 b0, .row 74 b1, .row 45 b2], [], .unk⟩
def elJ10i58f45a24 {R : Type} (o : OJ10i58f45a24) (k : Ex → St → Option R) : Option R := match o with | .nx b0 b1 b2 => k .normal ⟨[], [.row 58 b0, .row 74 b1, .row 45 b2], [], .unk⟩ | .x0 b0 b1 b2 => k (.exit 0) ⟨[], [.row 58 b0, .row 74 b1, .row 45 b2], [], .unk⟩
theorem heJ10i58f45a24 {R : Type} (o : OJ10i58f45a24) (k : Ex → St → Option R) : elJ10i58f45a24 o k = k (exJ10i58f45a24 o) (stJ10i58f45a24 o) := by cases o <;> rfl
theorem hxJ10i58f45a24 : ∀ e st x, xsJ10i58f45a24 e st = some x → outOk x e exJ10i58f45a24 stJ10i58f45a24 := by
  intro e st x h
  unfold xsJ10i58f45a24 at h
  repeat' split at h
  all_goals first
    | (injection h with h; subst h; exact fun lk M => ⟨rfl, rfl⟩)
    | cases h
noncomputable def T10i58f45uc24 (N : Nat) (R : Type) : LTab R := mkTab ⟨47, 260096⟩ (csF10 N R) (pickY [(0, fun id args M k => evyield CX (T10us58 N R) 0 58 id args M k)]) [] [] []
theorem okT10i58f45uc24 (N : Nat) (R : Type) : (T10i58f45uc24 N R).Ok CX code45 := mkTab_ok (hcsF10 N R) (pickY_ok (es := [(0, fun id args M k => evyield CX (T10us58 N R) 0 58 id args M k)]) ⟨fun {id args M k r} h => evyield_sound hX (okT10us58 N R) (g := nd0.1) (ps := nd0.2.1) ⟨[false, true, false, true, true], by rfl, by kernel_rfl⟩ h, trivial⟩) (trivial) (trivial) (trivial)
noncomputable def bdJ10i58f45a24 : Code := (codeAt code45 [false, false, false, true]).getD .skip
theorem hsJ10i58f45a24 (N : Nat) : ∀ (lk : Nat → AV) (M : List Blk), LFJ10i58f45a24 N (canS sgJ10i58f45a24 lk M) = evk CX (T10i58f45uc24 N OJ10i58f45a24) bdJ10i58f45a24 24 (canS sgJ10i58f45a24 lk M) (kontX CX 3 xsJ10i58f45a24) := by intro lk M; kernel_rfl
inductive OJ10i58f45a50 where
  | nx (b0 : List Row) (b1 : List Row) (b2 : List Row) (b4c3 : List Row) (b4c4 : List Row) (b5c0 : Int) (b6c0 : Int)
  | ret (b0 : List Row) (b1 : List Row) (b2 : List Row) (b4c3 : List Row) (b4c4 : List Row) (b5c0 : Int) (b6c0 : Int)
  | retw2 (b0 : List Row) (b1 : List Row) (b2 : List Row) (b4c3 : List Row) (b4c4 : List Row) (b5c0 : Int) (b6c0 : Int)
def J10i58f45a50 (N : Nat) : Int → List Row → List Row → List Row → List Row → List Row → Int → Int → Option OJ10i58f45a50 := fun x4 b0 b1 b2 b4c3 b4c4 b5c0 b6c0 =>
    tst (decide ((0 : Int) ≤ x4) && decide (x4 < ((b2.length : Int)))) <|
    tst (decide (x4.toNat < b2.length)) <|
    match ((((b2.getD x4.toNat [])).getD 0 .top).toI) == (1 : Int) with
    | true =>
      some (.ret b0 b1 b2 b4c3 b4c4 b6c0 b6c0)
    | false =>
      tst (decide ((0 : Int) ≤ ((((b2.getD x4.toNat [])).getD 0 .top).toI)) && decide ((((b2.getD x4.toNat [])).getD 0 .top).toI < (256 : Int))) <|
      tst (decide (((0 + ((((((b2.getD x4.toNat [])).getD 0 .top).toI).toNat) * 1)) + 1) ≤ 256)) <|
      match ((gl0.getD (0 + ((((((b2.getD x4.toNat [])).getD 0 .top).toI).toNat) * 1)) .top).toI) == (0 : Int) with
      | true =>
        some (.ret b0 b1 b2 b4c3 b4c4 ((-1)) b6c0)
      | false =>
        tst (decide ((0 : Int) ≤ ((((b2.getD x4.toNat [])).getD 0 .top).toI)) && decide ((((b2.getD x4.toNat [])).getD 0 .top).toI < (256 : Int))) <|
        tst (decide (((0 + ((((((b2.getD x4.toNat [])).getD 0 .top).toI).toNat) * 1)) + 1) ≤ 256)) <|
        match ((((b2.getD x4.toNat [])).getD 0 .top).toI) == (1 : Int) with
        | true =>
          some (.retw2 b0 b1 b2 b4c3 b4c4 b5c0 (IntKind.wrap .i64 (b6c0 + (IntKind.wrap .i64 (((gl0.getD (0 + ((((((b2.getD x4.toNat [])).getD 0 .top).toI).toNat) * 1)) .top).toI) - (1 : Int))))))
        | false =>
          tst (decide ((0 : Int) ≤ ((((b2.getD x4.toNat [])).getD 0 .top).toI)) && decide ((((b2.getD x4.toNat [])).getD 0 .top).toI < (256 : Int))) <|
          tst (decide (((0 + ((((((b2.getD x4.toNat [])).getD 0 .top).toI).toNat) * 1)) + 1) ≤ 256)) <|
          match ((gl0.getD (0 + ((((((b2.getD x4.toNat [])).getD 0 .top).toI).toNat) * 1)) .top).toI) == (0 : Int) with
          | true =>
            some (.retw2 b0 b1 b2 b4c3 b4c4 b5c0 (IntKind.wrap .i64 (b6c0 + (IntKind.wrap .i64 (((gl0.getD (0 + ((((((b2.getD x4.toNat [])).getD 0 .top).toI).toNat) * 1)) .top).toI) - (1 : Int))))))
          | false =>
            some (.nx b0 b1 b2 b4c3 b4c4 b5c0 (IntKind.wrap .i64 (b6c0 + (IntKind.wrap .i64 (((gl0.getD (0 + ((((((b2.getD x4.toNat [])).getD 0 .top).toI).toNat) * 1)) .top).toI) - (1 : Int))))))
def LFJ10i58f45a50 (N : Nat) (s : St) : Option OJ10i58f45a50 := J10i58f45a50 N ((Eng.look s.env 4).toI) ((s.mem.getD 0 .dead).rows) ((s.mem.getD 1 .dead).rows) ((s.mem.getD 2 .dead).rows) (((s.mem.getD 4 .dead).cells.getD 3 .top).rows) (((s.mem.getD 4 .dead).cells.getD 4 .top).rows) (((s.mem.getD 5 .dead).cells.getD 0 .top).toI) (((s.mem.getD 6 .dead).cells.getD 0 .top).toI)
def sgJ10i58f45a50 : LSh := ⟨[(0, .one (.yld 3)), (2, .one (.ptr 4 0 0)), (4, .one (.cell (.int .i64)))], [.row 58, .row 74, .row 45, .loop 0 [(4, .one (.ptr 5 0 0)), (5, .one (.ptr 6 0 0))] none, .var [.any, .any, .any, .any, .any] [.own 0, .own 1, .own 2, .cell (.slice 113), .cell (.slice 117)], .var [.int .i64] [.cell (.int .i64)], .var [.int .i64] [.cell (.int .i64)]]⟩
def ceJ10i58f45a50 : List Cv := []
def seJ10i58f45a50 : St → List Nat := fun st => [0, 1, 2, (Eng.look st.env 0).id, (Eng.look st.env 2).id, ((st.mem.getD ((Eng.look st.env 0).id) .dead).lenv.getD 0 (0, .top)).2.id, ((st.mem.getD ((Eng.look st.env 0).id) .dead).lenv.getD 1 (0, .top)).2.id]
def xJ10i58f45a50wnx : XSh OJ10i58f45a50 := ⟨[], ⟨[], [.row 58, .row 74, .row 45, .loop 0 [(4, .one (.ptr 5 0 0)), (5, .one (.ptr 6 0 0))] none, .var [.any, .any, .any, .any, .any] [.own 0, .own 1, .own 2, .cell (.slice 113), .cell (.slice 117)], .var [.int .i64] [.cell (.int .i64)], .var [.int .i64] [.cell (.int .i64)]]⟩, fun st => [0, 1, 2, 3, 4, 5, 6], fun s => .nx ((s.mem.getD 0 .dead).rows) ((s.mem.getD 1 .dead).rows) ((s.mem.getD 2 .dead).rows) (((s.mem.getD 4 .dead).cells.getD 3 .top).rows) (((s.mem.getD 4 .dead).cells.getD 4 .top).rows) (((s.mem.getD 5 .dead).cells.getD 0 .top).toI) (((s.mem.getD 6 .dead).cells.getD 0 .top).toI)⟩
def xJ10i58f45a50wret : XSh OJ10i58f45a50 := ⟨[], ⟨[], [.row 58, .row 74, .row 45, .loop 0 [(4, .one (.ptr 5 0 0)), (5, .one (.ptr 6 0 0))] (some .ret), .var [.any, .any, .any, .any, .any] [.own 0, .own 1, .own 2, .cell (.slice 113), .cell (.slice 117)], .var [.int .i64] [.cell (.int .i64)], .var [.int .i64] [.cell (.int .i64)]]⟩, fun st => [0, 1, 2, 3, 4, 5, 6], fun s => .ret ((s.mem.getD 0 .dead).rows) ((s.mem.getD 1 .dead).rows) ((s.mem.getD 2 .dead).rows) (((s.mem.getD 4 .dead).cells.getD 3 .top).rows) (((s.mem.getD 4 .dead).cells.getD 4 .top).rows) (((s.mem.getD 5 .dead).cells.getD 0 .top).toI) (((s.mem.getD 6 .dead).cells.getD 0 .top).toI)⟩
def xJ10i58f45a50wretw2 : XSh OJ10i58f45a50 := ⟨[], ⟨[], [.row 58, .row 74, .row 45, .loop 0 [(4, .one (.ptr 5 0 0)), (5, .one (.ptr 6 0 0))] none, .var [.any, .any, .any, .any, .any] [.own 0, .own 1, .own 2, .cell (.slice 113), .cell (.slice 117)], .var [.int .i64] [.cell (.int .i64)], .var [.int .i64] [.cell (.int .i64)]]⟩, fun st => [0, 1, 2, 3, 4, 5, 6], fun s => .retw2 ((s.mem.getD 0 .dead).rows) ((s.mem.getD 1 .dead).rows) ((s.mem.getD 2 .dead).rows) (((s.mem.getD 4 .dead).cells.getD 3 .top).rows) (((s.mem.getD 4 .dead).cells.getD 4 .top).rows) (((s.mem.getD 5 .dead).cells.getD 0 .top).toI) (((s.mem.getD 6 .dead).cells.getD 0 .top).toI)⟩
def xsJ10i58f45a50 : Ex → St → Option (XSh OJ10i58f45a50) := fun e st => match e with
  | .normal => some xJ10i58f45a50wnx
  | .ret => (match (okX ((st.mem.getD 3 .dead).pend) (some .ret)) with | true => some xJ10i58f45a50wret | false => some xJ10i58f45a50wretw2)
  | _ => none
def exJ10i58f45a50 (o : OJ10i58f45a50) : Ex := match o with | .nx b0 b1 b2 b4c3 b4c4 b5c0 b6c0 => .normal | .ret b0 b1 b2 b4c3 b4c4 b5c0 b6c0 => .ret | .retw2 b0 b1 b2 b4c3 b4c4 b5c0 b6c0 => .ret
def stJ10i58f45a50 (o : OJ10i58f45a50) : St := match o with | .nx b0 b1 b2 b4c3 b4c4 b5c0 b6c0 => ⟨[], [.row 58 b0, .row 74 b1, .row 45 b2, .loop 0 [(4, .ptr 5 0 0), (5, .ptr 6 0 0)] false none, .var [.any, .any, .any, .any, .any] [.own 0, .own 1, .own 2, .list 113 b4c3, .list 117 b4c4], .var [.int .i64] [.int .i64 b5c0], .var [.int .i64] [.int .i64 b6c0]], [], .unk⟩ | .ret b0 b1 b2 b4c3 b4c4 b5c0 b6c0 => ⟨[], [.row 58 b0, .row 74 b1, .row 45 b2, .loop 0 [(4, .ptr 5 0 0), (5, .ptr 6 0 0)] false (some .ret), .var [.any, .any, .any, .any, .any] [.own 0, .own 1, .own 2, .list 113 b4c3, .list 117 b4c4], .var [.int .i64] [.int .i64 b5c0], .var [.int .i64] [.int .i64 b6c0]], [], .unk⟩ | .retw2 b0 b1 b2 b4c3 b4c4 b5c0 b6c0 => ⟨[], [.row 58 b0, .row 74 b1, .row 45 b2, .loop 0 [(4, .ptr 5 0 0), (5, .ptr 6 0 0)] false none, .var [.any, .any, .any, .any, .any] [.own 0, .own 1, .own 2, .list 113 b4c3, .list 117 b4c4], .var [.int .i64] [.int .i64 b5c0], .var [.int .i64] [.int .i64 b6c0]], [], .unk⟩
def elJ10i58f45a50 {R : Type} (o : OJ10i58f45a50) (k : Ex → St → Option R) : Option R := match o with | .nx b0 b1 b2 b4c3 b4c4 b5c0 b6c0 => k .normal ⟨[], [.row 58 b0, .row 74 b1, .row 45 b2, .loop 0 [(4, .ptr 5 0 0), (5, .ptr 6 0 0)] false none, .var [.any, .any, .any, .any, .any] [.own 0, .own 1, .own 2, .list 113 b4c3, .list 117 b4c4], .var [.int .i64] [.int .i64 b5c0], .var [.int .i64] [.int .i64 b6c0]], [], .unk⟩ | .ret b0 b1 b2 b4c3 b4c4 b5c0 b6c0 => k .ret ⟨[], [.row 58 b0, .row 74 b1, .row 45 b2, .loop 0 [(4, .ptr 5 0 0), (5, .ptr 6 0 0)] false (some .ret), .var [.any, .any, .any, .any, .any] [.own 0, .own 1, .own 2, .list 113 b4c3, .list 117 b4c4], .var [.int .i64] [.int .i64 b5c0], .var [.int .i64] [.int .i64 b6c0]], [], .unk⟩ | .retw2 b0 b1 b2 b4c3 b4c4 b5c0 b6c0 => k .ret ⟨[], [.row 58 b0, .row 74 b1, .row 45 b2, .loop 0 [(4, .ptr 5 0 0), (5, .ptr 6 0 0)] false none, .var [.any, .any, .any, .any, .any] [.own 0, .own 1, .own 2, .list 113 b4c3, .list 117 b4c4], .var [.int .i64] [.int .i64 b5c0], .var [.int .i64] [.int .i64 b6c0]], [], .unk⟩
theorem heJ10i58f45a50 {R : Type} (o : OJ10i58f45a50) (k : Ex → St → Option R) : elJ10i58f45a50 o k = k (exJ10i58f45a50 o) (stJ10i58f45a50 o) := by cases o <;> rfl
theorem hxJ10i58f45a50 : ∀ e st x, xsJ10i58f45a50 e st = some x → outOk x e exJ10i58f45a50 stJ10i58f45a50 := by
  intro e st x h
  unfold xsJ10i58f45a50 at h
  repeat' split at h
  all_goals first
    | (injection h with h; subst h; exact fun lk M => ⟨rfl, rfl⟩)
    | cases h
noncomputable def T10i58f45uc50 (N : Nat) (R : Type) : LTab R := mkTab ⟨47, 140737454800960⟩ (csF10 N R) (pickY [(0, fun id args M k => evyield CX (T10us58 N R) 0 58 id args M k)]) [] [] []
theorem okT10i58f45uc50 (N : Nat) (R : Type) : (T10i58f45uc50 N R).Ok CX code45 := mkTab_ok (hcsF10 N R) (pickY_ok (es := [(0, fun id args M k => evyield CX (T10us58 N R) 0 58 id args M k)]) ⟨fun {id args M k r} h => evyield_sound hX (okT10us58 N R) (g := nd0.1) (ps := nd0.2.1) ⟨[false, true, false, true, true], by rfl, by kernel_rfl⟩ h, trivial⟩) (trivial) (trivial) (trivial)
noncomputable def bdJ10i58f45a50 : Code := (codeAt code45 [false, true, false, false, true]).getD .skip
theorem hsJ10i58f45a50 (N : Nat) : ∀ (lk : Nat → AV) (M : List Blk), LFJ10i58f45a50 N (canS sgJ10i58f45a50 lk M) = evk CX (T10i58f45uc50 N OJ10i58f45a50) bdJ10i58f45a50 50 (canS sgJ10i58f45a50 lk M) (kontX CX 7 xsJ10i58f45a50) := by intro lk M; kernel_rfl
inductive OL10i58f45a6 where
  | ret (b0 : List Row) (b1 : List Row) (b2 : List Row) (b4c3 : List Row) (b4c4 : List Row) (b5c0 : Int) (b6c0 : Int)
  | retw2 (b0 : List Row) (b1 : List Row) (b2 : List Row) (b4c3 : List Row) (b4c4 : List Row) (b5c0 : Int) (b6c0 : Int)
  | x0 (b0 : List Row) (b1 : List Row) (b2 : List Row) (b4c3 : List Row) (b4c4 : List Row) (b5c0 : Int) (b6c0 : Int)
def L10i58f45a6 (N : Nat) : Nat → Int → Int → List Row → List Row → List Row → List Row → List Row → Int → Int → Option OL10i58f45a6
  | 0 => fun _ _ _ _ _ _ _ _ _ => none
  | n + 1 => fun x4 x5 b0 b1 b2 b4c3 b4c4 b5c0 b6c0 =>
    match J10i58f45a24 N x4 x5 b0 b1 b2 with
    | none => none
    | some (.nx b0v2 b1v2 b2v2) =>
      match J10i58f45a50 N x4 b0v2 b1v2 b2v2 b4c3 b4c4 b5c0 b6c0 with
      | none => none
      | some (.nx b0v3 b1v3 b2v3 b4c3v3 b4c4v3 b5c0v3 b6c0v3) =>
        tst (decide ((0 : Int) ≤ x4) && decide (x4 < ((b2v3.length : Int)))) <|
        tst (decide (x4.toNat < b2v3.length)) <|
        L10i58f45a6 N n ((((b2v3.getD x4.toNat [])).getD 2 .top).toI) x4 b0v3 b1v3 b2v3 b4c3v3 b4c4v3 b5c0v3 b6c0v3
      | some (.ret b0v4 b1v4 b2v4 b4c3v4 b4c4v4 b5c0v4 b6c0v4) =>
        some (.ret b0v4 b1v4 b2v4 b4c3v4 b4c4v4 b5c0v4 b6c0v4)
      | some (.retw2 b0v5 b1v5 b2v5 b4c3v5 b4c4v5 b5c0v5 b6c0v5) =>
        some (.retw2 b0v5 b1v5 b2v5 b4c3v5 b4c4v5 b5c0v5 b6c0v5)
    | some (.x0 b0v6 b1v6 b2v6) =>
      some (.x0 b0v6 b1v6 b2v6 b4c3 b4c4 b5c0 b6c0)
def LFL10i58f45a6 (N : Nat) (n : Nat) (s : St) : Option OL10i58f45a6 := L10i58f45a6 N n ((Eng.look s.env 4).toI) ((Eng.look s.env 5).toI) ((s.mem.getD 0 .dead).rows) ((s.mem.getD 1 .dead).rows) ((s.mem.getD 2 .dead).rows) (((s.mem.getD 4 .dead).cells.getD 3 .top).rows) (((s.mem.getD 4 .dead).cells.getD 4 .top).rows) (((s.mem.getD 5 .dead).cells.getD 0 .top).toI) (((s.mem.getD 6 .dead).cells.getD 0 .top).toI)
def sgL10i58f45a6 : LSh := ⟨[(0, .one (.yld 3)), (2, .one (.ptr 4 0 0)), (4, .one (.cell (.int .i64))), (5, .one (.cell (.int .i64)))], [.row 58, .row 74, .row 45, .loop 0 [(4, .one (.ptr 5 0 0)), (5, .one (.ptr 6 0 0))] none, .var [.any, .any, .any, .any, .any] [.own 0, .own 1, .own 2, .cell (.slice 113), .cell (.slice 117)], .var [.int .i64] [.cell (.int .i64)], .var [.int .i64] [.cell (.int .i64)]]⟩
def ceL10i58f45a6 : List Cv := []
def seL10i58f45a6 : St → List Nat := fun st => [0, 1, 2, (Eng.look st.env 0).id, (Eng.look st.env 2).id, ((st.mem.getD ((Eng.look st.env 0).id) .dead).lenv.getD 0 (0, .top)).2.id, ((st.mem.getD ((Eng.look st.env 0).id) .dead).lenv.getD 1 (0, .top)).2.id]
def xL10i58f45a6wret : XSh OL10i58f45a6 := ⟨[], ⟨[], [.row 58, .row 74, .row 45, .loop 0 [(4, .one (.ptr 5 0 0)), (5, .one (.ptr 6 0 0))] (some .ret), .var [.any, .any, .any, .any, .any] [.own 0, .own 1, .own 2, .cell (.slice 113), .cell (.slice 117)], .var [.int .i64] [.cell (.int .i64)], .var [.int .i64] [.cell (.int .i64)]]⟩, fun st => [0, 1, 2, 3, 4, 5, 6], fun s => .ret ((s.mem.getD 0 .dead).rows) ((s.mem.getD 1 .dead).rows) ((s.mem.getD 2 .dead).rows) (((s.mem.getD 4 .dead).cells.getD 3 .top).rows) (((s.mem.getD 4 .dead).cells.getD 4 .top).rows) (((s.mem.getD 5 .dead).cells.getD 0 .top).toI) (((s.mem.getD 6 .dead).cells.getD 0 .top).toI)⟩
def xL10i58f45a6wretw2 : XSh OL10i58f45a6 := ⟨[], ⟨[], [.row 58, .row 74, .row 45, .loop 0 [(4, .one (.ptr 5 0 0)), (5, .one (.ptr 6 0 0))] none, .var [.any, .any, .any, .any, .any] [.own 0, .own 1, .own 2, .cell (.slice 113), .cell (.slice 117)], .var [.int .i64] [.cell (.int .i64)], .var [.int .i64] [.cell (.int .i64)]]⟩, fun st => [0, 1, 2, 3, 4, 5, 6], fun s => .retw2 ((s.mem.getD 0 .dead).rows) ((s.mem.getD 1 .dead).rows) ((s.mem.getD 2 .dead).rows) (((s.mem.getD 4 .dead).cells.getD 3 .top).rows) (((s.mem.getD 4 .dead).cells.getD 4 .top).rows) (((s.mem.getD 5 .dead).cells.getD 0 .top).toI) (((s.mem.getD 6 .dead).cells.getD 0 .top).toI)⟩
def xL10i58f45a6wx0 : XSh OL10i58f45a6 := ⟨[], ⟨[], [.row 58, .row 74, .row 45, .loop 0 [(4, .one (.ptr 5 0 0)), (5, .one (.ptr 6 0 0))] none, .var [.any, .any, .any, .any, .any] [.own 0, .own 1, .own 2, .cell (.slice 113), .cell (.slice 117)], .var [.int .i64] [.cell (.int .i64)], .var [.int .i64] [.cell (.int .i64)]]⟩, fun st => [0, 1, 2, 3, 4, 5, 6], fun s => .x0 ((s.mem.getD 0 .dead).rows) ((s.mem.getD 1 .dead).rows) ((s.mem.getD 2 .dead).rows) (((s.mem.getD 4 .dead).cells.getD 3 .top).rows) (((s.mem.getD 4 .dead).cells.getD 4 .top).rows) (((s.mem.getD 5 .dead).cells.getD 0 .top).toI) (((s.mem.getD 6 .dead).cells.getD 0 .top).toI)⟩
def xsL10i58f45a6 : Ex → St → Option (XSh OL10i58f45a6) := fun e st => match e with
  | .ret => (match (okX ((st.mem.getD 3 .dead).pend) (some .ret)) with | true => some xL10i58f45a6wret | false => some xL10i58f45a6wretw2)
  | .exit 0 => some xL10i58f45a6wx0
  | _ => none
def exL10i58f45a6 (o : OL10i58f45a6) : Ex := match o with | .ret b0 b1 b2 b4c3 b4c4 b5c0 b6c0 => .ret | .retw2 b0 b1 b2 b4c3 b4c4 b5c0 b6c0 => .ret | .x0 b0 b1 b2 b4c3 b4c4 b5c0 b6c0 => (.exit 0)
def stL10i58f45a6 (o : OL10i58f45a6) : St := match o with | .ret b0 b1 b2 b4c3 b4c4 b5c0 b6c0 => ⟨[], [.row 58 b0, .row 74 b1, .row 45 b2, .loop 0 [(4, .ptr 5 0 0), (5, .ptr 6 0 0)] false (some .ret), .var [.any, .any, .any, .any, .any] [.own 0, .own 1, .own 2, .list 113 b4c3, .list 117 b4c4], .var [.int .i64] [.int .i64 b5c0], .var [.int .i64] [.int .i64 b6c0]], [], .unk⟩ | .retw2 b0 b1 b2 b4c3 b4c4 b5c0 b6c0 => ⟨[], [.row 58 b0, .row 74 b1, .row 45 b2, .loop 0 [(4, .ptr 5 0 0), (5, .ptr 6 0 0)] false none, .var [.any, .any, .any, .any, .any] [.own 0, .own 1, .own 2, .list 113 b4c3, .list 117 b4c4], .var [.int .i64] [.int .i64 b5c0], .var [.int .i64] [.int .i64 b6c0]], [], .unk⟩ | .x0 b0 b1 b2 b4c3 b4c4 b5c0 b6c0 => ⟨[], [.row 58 b0, .row 74 b1, .row 45 b2, .loop 0 [(4, .ptr 5 0 0), (5, .ptr 6 0 0)] false none, .var [.any, .any, .any, .any, .any] [.own 0, .own 1, .own 2, .list 113 b4c3, .list 117 b4c4], .var [.int .i64] [.int .i64 b5c0], .var [.int .i64] [.int .i64 b6c0]], [], .unk⟩
def elL10i58f45a6 {R : Type} (o : OL10i58f45a6) (k : Ex → St → Option R) : Option R := match o with | .ret b0 b1 b2 b4c3 b4c4 b5c0 b6c0 => k .ret ⟨[], [.row 58 b0, .row 74 b1, .row 45 b2, .loop 0 [(4, .ptr 5 0 0), (5, .ptr 6 0 0)] false (some .ret), .var [.any, .any, .any, .any, .any] [.own 0, .own 1, .own 2, .list 113 b4c3, .list 117 b4c4], .var [.int .i64] [.int .i64 b5c0], .var [.int .i64] [.int .i64 b6c0]], [], .unk⟩ | .retw2 b0 b1 b2 b4c3 b4c4 b5c0 b6c0 => k .ret ⟨[], [.row 58 b0, .row 74 b1, .row 45 b2, .loop 0 [(4, .ptr 5 0 0), (5, .ptr 6 0 0)] false none, .var [.any, .any, .any, .any, .any] [.own 0, .own 1, .own 2, .list 113 b4c3, .list 117 b4c4], .var [.int .i64] [.int .i64 b5c0], .var [.int .i64] [.int .i64 b6c0]], [], .unk⟩ | .x0 b0 b1 b2 b4c3 b4c4 b5c0 b6c0 => k (.exit 0) ⟨[], [.row 58 b0, .row 74 b1, .row 45 b2, .loop 0 [(4, .ptr 5 0 0), (5, .ptr 6 0 0)] false none, .var [.any, .any, .any, .any, .any] [.own 0, .own 1, .own 2, .list 113 b4c3, .list 117 b4c4], .var [.int .i64] [.int .i64 b5c0], .var [.int .i64] [.int .i64 b6c0]], [], .unk⟩
theorem heL10i58f45a6 {R : Type} (o : OL10i58f45a6) (k : Ex → St → Option R) : elL10i58f45a6 o k = k (exL10i58f45a6 o) (stL10i58f45a6 o) := by cases o <;> rfl
theorem hxL10i58f45a6 : ∀ e st x, xsL10i58f45a6 e st = some x → outOk x e exL10i58f45a6 stL10i58f45a6 := by
  intro e st x h
  unfold xsL10i58f45a6 at h
  repeat' split at h
  all_goals first
    | (injection h with h; subst h; exact fun lk M => ⟨rfl, rfl⟩)
    | cases h
noncomputable def T10i58f45ul6 (N : Nat) (R : Type) : LTab R := mkTab ⟨47, 140737488353392⟩ (csF10 N R) (pickY [(0, fun id args M k => evyield CX (T10us58 N R) 0 58 id args M k)]) [] [] [(24, fun st k => callLoop CX 3 260096 ceJ10i58f45a24 sgJ10i58f45a24 seJ10i58f45a24 ⟨47, 140737488353392⟩ (LFJ10i58f45a24 N) elJ10i58f45a24 st k), (50, fun st k => callLoop CX 7 140737454800960 ceJ10i58f45a50 sgJ10i58f45a50 seJ10i58f45a50 ⟨47, 140737488353392⟩ (LFJ10i58f45a50 N) elJ10i58f45a50 st k)]
theorem okT10i58f45ul6 (N : Nat) (R : Type) : (T10i58f45ul6 N R).Ok CX code45 := mkTab_ok (hcsF10 N R) (pickY_ok (es := [(0, fun id args M k => evyield CX (T10us58 N R) 0 58 id args M k)]) ⟨fun {id args M k r} h => evyield_sound hX (okT10us58 N R) (g := nd0.1) (ps := nd0.2.1) ⟨[false, true, false, true, true], by rfl, by kernel_rfl⟩ h, trivial⟩) (trivial) (trivial) (⟨cut_ok hX (path := [false, false, false, true]) (by kernel_rfl) (by rfl) (okT10i58f45uc24 N OJ10i58f45a24) (hsJ10i58f45a24 N) hxJ10i58f45a24 rfl heJ10i58f45a24, cut_ok hX (path := [false, true, false, false, true]) (by kernel_rfl) (by rfl) (okT10i58f45uc50 N OJ10i58f45a50) (hsJ10i58f45a50 N) hxJ10i58f45a50 rfl heJ10i58f45a50, trivial⟩)
noncomputable def bdL10i58f45a6 : Code := match codeAt code45 [false, true] with | some (.loop c) => c | _ => .skip
theorem hsL10i58f45a6 (N : Nat) : ∀ (n : Nat) (lk : Nat → AV) (M : List Blk), LFL10i58f45a6 N (n + 1) (canS sgL10i58f45a6 lk M) = evk CX (T10i58f45ul6 N OL10i58f45a6) bdL10i58f45a6 (2 * 6) (canS sgL10i58f45a6 lk M) (kont CX 7 [] sgL10i58f45a6 (fun st => [0, 1, 2, 3, 4, 5, 6]) xsL10i58f45a6 (LFL10i58f45a6 N n)) := by intro n lk M; kernel_rfl
noncomputable def T10i58f45ur1 (N : Nat) (R : Type) : LTab R := mkTab ⟨47, 140737488355327⟩ (csF10 N R) (pickY [(0, fun id args M k => evyield CX (T10us58 N R) 0 58 id args M k)]) [(6, fun st k => callLoop CX 7 140737488353392 ceL10i58f45a6 sgL10i58f45a6 seL10i58f45a6 ⟨47, 140737488355327⟩ (LFL10i58f45a6 N N) elL10i58f45a6 st k)] [] []
theorem okT10i58f45ur1 (N : Nat) (R : Type) : (T10i58f45ur1 N R).Ok CX code45 := mkTab_ok (hcsF10 N R) (pickY_ok (es := [(0, fun id args M k => evyield CX (T10us58 N R) 0 58 id args M k)]) ⟨fun {id args M k r} h => evyield_sound hX (okT10us58 N R) (g := nd0.1) (ps := nd0.2.1) ⟨[false, true, false, true, true], by rfl, by kernel_rfl⟩ h, trivial⟩) (⟨loop_ok hX (path := [false, true]) (by kernel_rfl) (by rfl) (okT10i58f45ul6 N OL10i58f45a6) (fun _ _ => rfl) (hsL10i58f45a6 N) hxL10i58f45a6 rfl heL10i58f45a6, trivial⟩) (trivial) (trivial)
noncomputable def T10ur1 (N : Nat) (R : Type) : LTab R := mkTab ⟨31, 2147483647⟩ (csF10 N R) (noY) [] [(58, fun st k => evrange CX (oneTab ⟨31, 2147483647⟩ (inl 45 (fun args M k => evfn CX (T10i58f45ur1 N R) code45 rs10i58f45 args M k))) 0 [4, 5] (.tmp 10) st k)] []
theorem okT10ur1 (N : Nat) (R : Type) : (T10ur1 N R).Ok CX code10 := mkTab_ok (hcsF10 N R) (noY_ok) (trivial) (⟨range_ok hX (path := [false, true, false, true, true]) (ps0 := nd0.2.1) (a0 := nd0.2.2.1) (b0 := nd0.2.2.2) (by kernel_rfl) (by rfl) (inl_ok fun {args M k r} h => evfn_sound hX (okT10i58f45ur1 N R) Tryd.func45 hb45 rfl en45 (by kernel_rfl) h) (by kernel_rfl), trivial⟩) (trivial)
def rsF10 : List ResultVar := [.cell 4 3]
def F10 : Nat → TF10
  | 0 => fun _ _ _ _ _ _ => none
  | N + 1 => fun x0c3 x0c4 x1 b0 b1 b2 =>
    match F23 N x0c3 x0c4 x1 b0 b1 b2 with
    | none => none
    | some (.r rb0v1 rb1v1 rb2v1 rb3c0v1 rb4c3v1 rb4c4v1) =>
      match L10i58f45a6 N N rb3c0v1 ((rb2v1.length : Int)) rb0v1 rb1v1 rb2v1 rb4c3v1 rb4c4v1 0 0 with
      | none => none
      | some (.ret b0v7 b1v7 b2v7 b4c3v7 b4c4v7 b5c0v7 b6c0v7) =>
        some (.r b5c0v7 b0v7 b1v7 b2v7)
      | some (.retw2 b0v8 b1v8 b2v8 b4c3v8 b4c4v8 b5c0v8 b6c0v8) =>
        some (.r ((-1)) b0v8 b1v8 b2v8)
      | some (.x0 b0v9 b1v9 b2v9 b4c3v9 b4c4v9 b5c0v9 b6c0v9) =>
        some (.r ((-1)) b0v9 b1v9 b2v9)
def xRF10 : XSh R10 := ⟨[], ⟨[(0, .one (.cell (.int .i64)))], [.row 58, .row 74, .row 45]⟩, fun st => [0, 1, 2], fun s => .r ((Eng.look s.env 0).toI) ((s.mem.getD 0 .dead).rows) ((s.mem.getD 1 .dead).rows) ((s.mem.getD 2 .dead).rows)⟩
theorem fsF10 : ∀ (N : Nat) (lk : Nat → AV) (M : List Blk), FFF10 (F10 (N + 1)) (canS sgF10 lk M) = evfn CX (T10ur1 N R10) code10 rsF10 (argsE 2 (canS sgF10 lk M).env) (canS sgF10 lk M).mem (goR CX 3 (fun _ => some xRF10)) := by intro N lk M; kernel_rfl
theorem soundF10 : ∀ N, RecOkF10 (F10 N)
  | 0, lk, M, o, h => by cases h
  | N + 1, lk, M, o, h => fn_sound hX (okT10ur1 N R10) Tryd.func10 hb10 rfl en10 (by kernel_rfl) (ys := fun _ => some xRF10) (fun st y h => by injection h with h; subst h; exact fun lk M => ⟨rfl, rfl⟩) ((fsF10 N lk M).symm.trans h)
def cvce10n0 : List Cv := []
def selce10n0 : St → List Nat := fun st => [((Eng.look st.env 0).cells.getD 0 .top).id, ((Eng.look st.env 0).cells.getD 1 .top).id, ((Eng.look st.env 0).cells.getD 2 .top).id]
noncomputable def ce10n0 (Fx : TF10) (R : Type) (test : List AV → List Blk → Bool) : CE R := ⟨10, test, fun args M => some (selce10n0 ⟨argEnv 0 args, M, [], .unk⟩), fun args M k => tst (Nat.beq args.length 2) (callFn CX 3 cvce10n0 sgF10 selce10n0 (FFF10 Fx) elF10 args M k)⟩
theorem okce10n0 (Fx : TF10) (h : RecOkF10 Fx) (R : Type) (test : List AV → List Blk → Bool) : CeOk CX (ce10n0 Fx R test) := ce_ok hX (fun o k => by cases o; rfl) h en10 (fun args M ids h => by injection h with h; exact ⟨rfl, h.symm⟩)
end Go.Proofs.YtdennlgnbecojaaDoor

namespace Go.Proofs.YtdennlgnbecojaaDoor
open Go Go.Eng
set_option maxRecDepth 100000

/-! ### F12: ceiling/level.Master -/
inductive R12 where
  | r (x0 : Int) (b0 : List Row) (b1 : List Row) (b2 : List Row)
abbrev TF12 := List Row → List Row → Int → List Row → List Row → List Row → Option R12
def sgF12 : LSh := ⟨[(0, .agg [.own 0, .own 1, .own 2, .cell (.slice 113), .cell (.slice 117)]), (1, .one (.cell (.int .i64)))], [.row 58, .row 74, .row 45]⟩
def FFF12 (Fx : TF12) (s : St) : Option R12 := Fx (((Eng.look s.env 0).cells.getD 3 .top).rows) (((Eng.look s.env 0).cells.getD 4 .top).rows) ((Eng.look s.env 1).toI) ((s.mem.getD 0 .dead).rows) ((s.mem.getD 1 .dead).rows) ((s.mem.getD 2 .dead).rows)
def valF12 (o : R12) : AV := match o with | .r x0 b0 b1 b2 => .int .i64 x0
def memF12 (o : R12) : List Blk := match o with | .r x0 b0 b1 b2 => [.row 58 b0, .row 74 b1, .row 45 b2]
def elF12 {R : Type} (o : R12) (k : AV → List Blk → Option R) : Option R := match o with | .r x0 b0 b1 b2 => k (.int .i64 x0) [.row 58 b0, .row 74 b1, .row 45 b2]
def RecOkF12 (Fx : TF12) : Prop := ∀ lk M o, FFF12 Fx (canS sgF12 lk M) = some o → FCalls CX 12 3 (argsE 2 (canS sgF12 lk M).env) (canS sgF12 lk M).mem (valF12 o) (memF12 o)
noncomputable def csF12 (N : Nat) (R : Type) : List (CE R) := [ce10n0 (F10 N) R (fun _ _ => true), ce23n0 (F23 N) R (fun _ _ => true)]
theorem hcsF12 (N : Nat) (R : Type) : AllE (CeOk CX) (csF12 N R) := ⟨okce10n0 (F10 N) (soundF10 N) R (fun _ _ => true), okce23n0 (F23 N) (soundF23 N) R (fun _ _ => true), trivial⟩
noncomputable def T12us106 (N : Nat) (R : Type) : LTab R := mkTab ⟨27, 134217727⟩ (csF12 N R) (noY) [] [] []
theorem okT12us106 (N : Nat) (R : Type) : (T12us106 N R).Ok CX code12 := mkTab_ok (hcsF12 N R) (noY_ok) (trivial) (trivial) (trivial)
def rs12i106f45 : List ResultVar := []
inductive OJ12i106f45a24 where
  | nx (b0 : List Row) (b1 : List Row) (b2 : List Row)
  | x0 (b0 : List Row) (b1 : List Row) (b2 : List Row)
def J12i106f45a24 (N : Nat) : Int → Int → List Row → List Row → List Row → Option OJ12i106f45a24 := fun x4 x5 b0 b1 b2 =>
    match decide ((0 : Int) ≤ x4) with
    | true =>
      match decide (x4 < x5) with
      | true =>
        some (.nx b0 b1 b2)
      | false =>
        some (.x0 b0 b1 b2)
    | false =>
      some (.x0 b0 b1 b2)
def LFJ12i106f45a24 (N : Nat) (s : St) : Option OJ12i106f45a24 := J12i106f45a24 N ((Eng.look s.env 4).toI) ((Eng.look s.env 5).toI) ((s.mem.getD 0 .dead).rows) ((s.mem.getD 1 .dead).rows) ((s.mem.getD 2 .dead).rows)
def sgJ12i106f45a24 : LSh := ⟨[(4, .one (.cell (.int .i64))), (5, .one (.cell (.int .i64)))], [.row 58, .row 74, .row 45]⟩
def ceJ12i106f45a24 : List Cv := []
def seJ12i106f45a24 : St → List Nat := fun st => [0, 1, 2]
def xJ12i106f45a24wnx : XSh OJ12i106f45a24 := ⟨[], ⟨[], [.row 58, .row 74, .row 45]⟩, fun st => [0, 1, 2], fun s => .nx ((s.mem.getD 0 .dead).rows) ((s.mem.getD 1 .dead).rows) ((s.mem.getD 2 .dead).rows)⟩
def xJ12i106f45a24wx0 : XSh OJ12i106f45a24 := ⟨[], ⟨[], [.row 58, .row 74, .row 45]⟩, fun st => [0, 1, 2], fun s => .x0 ((s.mem.getD 0 .dead).rows) ((s.mem.getD 1 .dead).rows) ((s.mem.getD 2 .dead).rows)⟩
def xsJ12i106f45a24 : Ex → St → Option (XSh OJ12i106f45a24) := fun e st => match e with
  | .normal => some xJ12i106f45a24wnx
  | .exit 0 => some xJ12i106f45a24wx0
  | _ => none
def exJ12i106f45a24 (o : OJ12i106f45a24) : Ex := match o with | .nx b0 b1 b2 => .normal | .x0 b0 b1 b2 => (.exit 0)
def stJ12i106f45a24 (o : OJ12i106f45a24) : St := match o with | .nx b0 b1 b2 => ⟨[], [.row 58 b0, .row 74 b1, .row 45 b2], [], .unk⟩ | .x0 b0 b1 b2 => ⟨[], [.row 58 b0, .row 74 b1, .row 45 b2], [], .unk⟩
def elJ12i106f45a24 {R : Type} (o : OJ12i106f45a24) (k : Ex → St → Option R) : Option R := match o with | .nx b0 b1 b2 => k .normal ⟨[], [.row 58 b0, .row 74 b1, .row 45 b2], [], .unk⟩ | .x0 b0 b1 b2 => k (.exit 0) ⟨[], [.row 58 b0, .row 74 b1, .row 45 b2], [], .unk⟩
theorem heJ12i106f45a24 {R : Type} (o : OJ12i106f45a24) (k : Ex → St → Option R) : elJ12i106f45a24 o k = k (exJ12i106f45a24 o) (stJ12i106f45a24 o) := by cases o <;> rfl
theorem hxJ12i106f45a24 : ∀ e st x, xsJ12i106f45a24 e st = some x → outOk x e exJ12i106f45a24 stJ12i106f45a24 := by
  intro e st x h
  unfold xsJ12i106f45a24 at h
  repeat' split at h
  all_goals first
    | (injection h with h; subst h; exact fun lk M => ⟨rfl, rfl⟩)
    | cases h
noncomputable def T12i106f45uc24 (N : Nat) (R : Type) : LTab R := mkTab ⟨47, 260096⟩ (csF12 N R) (pickY [(1, fun id args M k => evyield CX (T12us106 N R) 1 106 id args M k)]) [] [] []
theorem okT12i106f45uc24 (N : Nat) (R : Type) : (T12i106f45uc24 N R).Ok CX code45 := mkTab_ok (hcsF12 N R) (pickY_ok (es := [(1, fun id args M k => evyield CX (T12us106 N R) 1 106 id args M k)]) ⟨fun {id args M k r} h => evyield_sound hX (okT12us106 N R) (g := nd1.1) (ps := nd1.2.1) ⟨[false, true, false, true, false, true], by rfl, by kernel_rfl⟩ h, trivial⟩) (trivial) (trivial) (trivial)
noncomputable def bdJ12i106f45a24 : Code := (codeAt code45 [false, false, false, true]).getD .skip
theorem hsJ12i106f45a24 (N : Nat) : ∀ (lk : Nat → AV) (M : List Blk), LFJ12i106f45a24 N (canS sgJ12i106f45a24 lk M) = evk CX (T12i106f45uc24 N OJ12i106f45a24) bdJ12i106f45a24 24 (canS sgJ12i106f45a24 lk M) (kontX CX 3 xsJ12i106f45a24) := by intro lk M; kernel_rfl
inductive OJ12i106f45a50 where
  | nx (b0 : List Row) (b1 : List Row) (b2 : List Row) (b4c3 : List Row) (b4c4 : List Row) (b5c0 : Int)
  | ret (b0 : List Row) (b1 : List Row) (b2 : List Row) (b4c3 : List Row) (b4c4 : List Row) (b5c0 : Int)
  | retw2 (b0 : List Row) (b1 : List Row) (b2 : List Row) (b4c3 : List Row) (b4c4 : List Row) (b5c0 : Int)
def J12i106f45a50 (N : Nat) : Int → List Row → List Row → List Row → List Row → List Row → Int → Option OJ12i106f45a50 := fun x4 b0 b1 b2 b4c3 b4c4 b5c0 =>
    tst (decide ((0 : Int) ≤ x4) && decide (x4 < ((b2.length : Int)))) <|
    tst (decide (x4.toNat < b2.length)) <|
    match ((((b2.getD x4.toNat [])).getD 0 .top).toI) == (1 : Int) with
    | true =>
      some (.ret b0 b1 b2 b4c3 b4c4 x4)
    | false =>
      tst (decide ((0 : Int) ≤ ((((b2.getD x4.toNat [])).getD 0 .top).toI)) && decide ((((b2.getD x4.toNat [])).getD 0 .top).toI < (256 : Int))) <|
      tst (decide (((0 + ((((((b2.getD x4.toNat [])).getD 0 .top).toI).toNat) * 1)) + 1) ≤ 256)) <|
      match ((gl0.getD (0 + ((((((b2.getD x4.toNat [])).getD 0 .top).toI).toNat) * 1)) .top).toI) == (2 : Int) with
      | true =>
        some (.ret b0 b1 b2 b4c3 b4c4 x4)
      | false =>
        match ((((b2.getD x4.toNat [])).getD 0 .top).toI) == (1 : Int) with
        | true =>
          some (.retw2 b0 b1 b2 b4c3 b4c4 b5c0)
        | false =>
          tst (decide ((0 : Int) ≤ ((((b2.getD x4.toNat [])).getD 0 .top).toI)) && decide ((((b2.getD x4.toNat [])).getD 0 .top).toI < (256 : Int))) <|
          tst (decide (((0 + ((((((b2.getD x4.toNat [])).getD 0 .top).toI).toNat) * 1)) + 1) ≤ 256)) <|
          match ((gl0.getD (0 + ((((((b2.getD x4.toNat [])).getD 0 .top).toI).toNat) * 1)) .top).toI) == (0 : Int) with
          | true =>
            some (.retw2 b0 b1 b2 b4c3 b4c4 b5c0)
          | false =>
            some (.nx b0 b1 b2 b4c3 b4c4 b5c0)
def LFJ12i106f45a50 (N : Nat) (s : St) : Option OJ12i106f45a50 := J12i106f45a50 N ((Eng.look s.env 4).toI) ((s.mem.getD 0 .dead).rows) ((s.mem.getD 1 .dead).rows) ((s.mem.getD 2 .dead).rows) (((s.mem.getD 4 .dead).cells.getD 3 .top).rows) (((s.mem.getD 4 .dead).cells.getD 4 .top).rows) (((s.mem.getD 5 .dead).cells.getD 0 .top).toI)
def sgJ12i106f45a50 : LSh := ⟨[(0, .one (.yld 3)), (2, .one (.ptr 4 0 0)), (4, .one (.cell (.int .i64)))], [.row 58, .row 74, .row 45, .loop 1 [(4, .one (.ptr 5 0 0))] none, .var [.any, .any, .any, .any, .any] [.own 0, .own 1, .own 2, .cell (.slice 113), .cell (.slice 117)], .var [.int .i64] [.cell (.int .i64)]]⟩
def ceJ12i106f45a50 : List Cv := []
def seJ12i106f45a50 : St → List Nat := fun st => [0, 1, 2, (Eng.look st.env 0).id, (Eng.look st.env 2).id, ((st.mem.getD ((Eng.look st.env 0).id) .dead).lenv.getD 0 (0, .top)).2.id]
def xJ12i106f45a50wnx : XSh OJ12i106f45a50 := ⟨[], ⟨[], [.row 58, .row 74, .row 45, .loop 1 [(4, .one (.ptr 5 0 0))] none, .var [.any, .any, .any, .any, .any] [.own 0, .own 1, .own 2, .cell (.slice 113), .cell (.slice 117)], .var [.int .i64] [.cell (.int .i64)]]⟩, fun st => [0, 1, 2, 3, 4, 5], fun s => .nx ((s.mem.getD 0 .dead).rows) ((s.mem.getD 1 .dead).rows) ((s.mem.getD 2 .dead).rows) (((s.mem.getD 4 .dead).cells.getD 3 .top).rows) (((s.mem.getD 4 .dead).cells.getD 4 .top).rows) (((s.mem.getD 5 .dead).cells.getD 0 .top).toI)⟩
def xJ12i106f45a50wret : XSh OJ12i106f45a50 := ⟨[], ⟨[], [.row 58, .row 74, .row 45, .loop 1 [(4, .one (.ptr 5 0 0))] (some .ret), .var [.any, .any, .any, .any, .any] [.own 0, .own 1, .own 2, .cell (.slice 113), .cell (.slice 117)], .var [.int .i64] [.cell (.int .i64)]]⟩, fun st => [0, 1, 2, 3, 4, 5], fun s => .ret ((s.mem.getD 0 .dead).rows) ((s.mem.getD 1 .dead).rows) ((s.mem.getD 2 .dead).rows) (((s.mem.getD 4 .dead).cells.getD 3 .top).rows) (((s.mem.getD 4 .dead).cells.getD 4 .top).rows) (((s.mem.getD 5 .dead).cells.getD 0 .top).toI)⟩
def xJ12i106f45a50wretw2 : XSh OJ12i106f45a50 := ⟨[], ⟨[], [.row 58, .row 74, .row 45, .loop 1 [(4, .one (.ptr 5 0 0))] none, .var [.any, .any, .any, .any, .any] [.own 0, .own 1, .own 2, .cell (.slice 113), .cell (.slice 117)], .var [.int .i64] [.cell (.int .i64)]]⟩, fun st => [0, 1, 2, 3, 4, 5], fun s => .retw2 ((s.mem.getD 0 .dead).rows) ((s.mem.getD 1 .dead).rows) ((s.mem.getD 2 .dead).rows) (((s.mem.getD 4 .dead).cells.getD 3 .top).rows) (((s.mem.getD 4 .dead).cells.getD 4 .top).rows) (((s.mem.getD 5 .dead).cells.getD 0 .top).toI)⟩
def xsJ12i106f45a50 : Ex → St → Option (XSh OJ12i106f45a50) := fun e st => match e with
  | .normal => some xJ12i106f45a50wnx
  | .ret => (match (okX ((st.mem.getD 3 .dead).pend) (some .ret)) with | true => some xJ12i106f45a50wret | false => some xJ12i106f45a50wretw2)
  | _ => none
def exJ12i106f45a50 (o : OJ12i106f45a50) : Ex := match o with | .nx b0 b1 b2 b4c3 b4c4 b5c0 => .normal | .ret b0 b1 b2 b4c3 b4c4 b5c0 => .ret | .retw2 b0 b1 b2 b4c3 b4c4 b5c0 => .ret
def stJ12i106f45a50 (o : OJ12i106f45a50) : St := match o with | .nx b0 b1 b2 b4c3 b4c4 b5c0 => ⟨[], [.row 58 b0, .row 74 b1, .row 45 b2, .loop 1 [(4, .ptr 5 0 0)] false none, .var [.any, .any, .any, .any, .any] [.own 0, .own 1, .own 2, .list 113 b4c3, .list 117 b4c4], .var [.int .i64] [.int .i64 b5c0]], [], .unk⟩ | .ret b0 b1 b2 b4c3 b4c4 b5c0 => ⟨[], [.row 58 b0, .row 74 b1, .row 45 b2, .loop 1 [(4, .ptr 5 0 0)] false (some .ret), .var [.any, .any, .any, .any, .any] [.own 0, .own 1, .own 2, .list 113 b4c3, .list 117 b4c4], .var [.int .i64] [.int .i64 b5c0]], [], .unk⟩ | .retw2 b0 b1 b2 b4c3 b4c4 b5c0 => ⟨[], [.row 58 b0, .row 74 b1, .row 45 b2, .loop 1 [(4, .ptr 5 0 0)] false none, .var [.any, .any, .any, .any, .any] [.own 0, .own 1, .own 2, .list 113 b4c3, .list 117 b4c4], .var [.int .i64] [.int .i64 b5c0]], [], .unk⟩
def elJ12i106f45a50 {R : Type} (o : OJ12i106f45a50) (k : Ex → St → Option R) : Option R := match o with | .nx b0 b1 b2 b4c3 b4c4 b5c0 => k .normal ⟨[], [.row 58 b0, .row 74 b1, .row 45 b2, .loop 1 [(4, .ptr 5 0 0)] false none, .var [.any, .any, .any, .any, .any] [.own 0, .own 1, .own 2, .list 113 b4c3, .list 117 b4c4], .var [.int .i64] [.int .i64 b5c0]], [], .unk⟩ | .ret b0 b1 b2 b4c3 b4c4 b5c0 => k .ret ⟨[], [.row 58 b0, .row 74 b1, .row 45 b2, .loop 1 [(4, .ptr 5 0 0)] false (some .ret), .var [.any, .any, .any, .any, .any] [.own 0, .own 1, .own 2, .list 113 b4c3, .list 117 b4c4], .var [.int .i64] [.int .i64 b5c0]], [], .unk⟩ | .retw2 b0 b1 b2 b4c3 b4c4 b5c0 => k .ret ⟨[], [.row 58 b0, .row 74 b1, .row 45 b2, .loop 1 [(4, .ptr 5 0 0)] false none, .var [.any, .any, .any, .any, .any] [.own 0, .own 1, .own 2, .list 113 b4c3, .list 117 b4c4], .var [.int .i64] [.int .i64 b5c0]], [], .unk⟩
theorem heJ12i106f45a50 {R : Type} (o : OJ12i106f45a50) (k : Ex → St → Option R) : elJ12i106f45a50 o k = k (exJ12i106f45a50 o) (stJ12i106f45a50 o) := by cases o <;> rfl
theorem hxJ12i106f45a50 : ∀ e st x, xsJ12i106f45a50 e st = some x → outOk x e exJ12i106f45a50 stJ12i106f45a50 := by
  intro e st x h
  unfold xsJ12i106f45a50 at h
  repeat' split at h
  all_goals first
    | (injection h with h; subst h; exact fun lk M => ⟨rfl, rfl⟩)
    | cases h
noncomputable def T12i106f45uc50 (N : Nat) (R : Type) : LTab R := mkTab ⟨47, 140737454800960⟩ (csF12 N R) (pickY [(1, fun id args M k => evyield CX (T12us106 N R) 1 106 id args M k)]) [] [] []
theorem okT12i106f45uc50 (N : Nat) (R : Type) : (T12i106f45uc50 N R).Ok CX code45 := mkTab_ok (hcsF12 N R) (pickY_ok (es := [(1, fun id args M k => evyield CX (T12us106 N R) 1 106 id args M k)]) ⟨fun {id args M k r} h => evyield_sound hX (okT12us106 N R) (g := nd1.1) (ps := nd1.2.1) ⟨[false, true, false, true, false, true], by rfl, by kernel_rfl⟩ h, trivial⟩) (trivial) (trivial) (trivial)
noncomputable def bdJ12i106f45a50 : Code := (codeAt code45 [false, true, false, false, true]).getD .skip
theorem hsJ12i106f45a50 (N : Nat) : ∀ (lk : Nat → AV) (M : List Blk), LFJ12i106f45a50 N (canS sgJ12i106f45a50 lk M) = evk CX (T12i106f45uc50 N OJ12i106f45a50) bdJ12i106f45a50 50 (canS sgJ12i106f45a50 lk M) (kontX CX 6 xsJ12i106f45a50) := by intro lk M; kernel_rfl
inductive OL12i106f45a6 where
  | ret (b0 : List Row) (b1 : List Row) (b2 : List Row) (b4c3 : List Row) (b4c4 : List Row) (b5c0 : Int)
  | retw2 (b0 : List Row) (b1 : List Row) (b2 : List Row) (b4c3 : List Row) (b4c4 : List Row) (b5c0 : Int)
  | x0 (b0 : List Row) (b1 : List Row) (b2 : List Row) (b4c3 : List Row) (b4c4 : List Row) (b5c0 : Int)
def L12i106f45a6 (N : Nat) : Nat → Int → Int → List Row → List Row → List Row → List Row → List Row → Int → Option OL12i106f45a6
  | 0 => fun _ _ _ _ _ _ _ _ => none
  | n + 1 => fun x4 x5 b0 b1 b2 b4c3 b4c4 b5c0 =>
    match J12i106f45a24 N x4 x5 b0 b1 b2 with
    | none => none
    | some (.nx b0v3 b1v3 b2v3) =>
      match J12i106f45a50 N x4 b0v3 b1v3 b2v3 b4c3 b4c4 b5c0 with
      | none => none
      | some (.nx b0v4 b1v4 b2v4 b4c3v4 b4c4v4 b5c0v4) =>
        tst (decide ((0 : Int) ≤ x4) && decide (x4 < ((b2v4.length : Int)))) <|
        tst (decide (x4.toNat < b2v4.length)) <|
        L12i106f45a6 N n ((((b2v4.getD x4.toNat [])).getD 2 .top).toI) x4 b0v4 b1v4 b2v4 b4c3v4 b4c4v4 b5c0v4
      | some (.ret b0v5 b1v5 b2v5 b4c3v5 b4c4v5 b5c0v5) =>
        some (.ret b0v5 b1v5 b2v5 b4c3v5 b4c4v5 b5c0v5)
      | some (.retw2 b0v6 b1v6 b2v6 b4c3v6 b4c4v6 b5c0v6) =>
        some (.retw2 b0v6 b1v6 b2v6 b4c3v6 b4c4v6 b5c0v6)
    | some (.x0 b0v7 b1v7 b2v7) =>
      some (.x0 b0v7 b1v7 b2v7 b4c3 b4c4 b5c0)
def LFL12i106f45a6 (N : Nat) (n : Nat) (s : St) : Option OL12i106f45a6 := L12i106f45a6 N n ((Eng.look s.env 4).toI) ((Eng.look s.env 5).toI) ((s.mem.getD 0 .dead).rows) ((s.mem.getD 1 .dead).rows) ((s.mem.getD 2 .dead).rows) (((s.mem.getD 4 .dead).cells.getD 3 .top).rows) (((s.mem.getD 4 .dead).cells.getD 4 .top).rows) (((s.mem.getD 5 .dead).cells.getD 0 .top).toI)
def sgL12i106f45a6 : LSh := ⟨[(0, .one (.yld 3)), (2, .one (.ptr 4 0 0)), (4, .one (.cell (.int .i64))), (5, .one (.cell (.int .i64)))], [.row 58, .row 74, .row 45, .loop 1 [(4, .one (.ptr 5 0 0))] none, .var [.any, .any, .any, .any, .any] [.own 0, .own 1, .own 2, .cell (.slice 113), .cell (.slice 117)], .var [.int .i64] [.cell (.int .i64)]]⟩
def ceL12i106f45a6 : List Cv := []
def seL12i106f45a6 : St → List Nat := fun st => [0, 1, 2, (Eng.look st.env 0).id, (Eng.look st.env 2).id, ((st.mem.getD ((Eng.look st.env 0).id) .dead).lenv.getD 0 (0, .top)).2.id]
def xL12i106f45a6wret : XSh OL12i106f45a6 := ⟨[], ⟨[], [.row 58, .row 74, .row 45, .loop 1 [(4, .one (.ptr 5 0 0))] (some .ret), .var [.any, .any, .any, .any, .any] [.own 0, .own 1, .own 2, .cell (.slice 113), .cell (.slice 117)], .var [.int .i64] [.cell (.int .i64)]]⟩, fun st => [0, 1, 2, 3, 4, 5], fun s => .ret ((s.mem.getD 0 .dead).rows) ((s.mem.getD 1 .dead).rows) ((s.mem.getD 2 .dead).rows) (((s.mem.getD 4 .dead).cells.getD 3 .top).rows) (((s.mem.getD 4 .dead).cells.getD 4 .top).rows) (((s.mem.getD 5 .dead).cells.getD 0 .top).toI)⟩
def xL12i106f45a6wretw2 : XSh OL12i106f45a6 := ⟨[], ⟨[], [.row 58, .row 74, .row 45, .loop 1 [(4, .one (.ptr 5 0 0))] none, .var [.any, .any, .any, .any, .any] [.own 0, .own 1, .own 2, .cell (.slice 113), .cell (.slice 117)], .var [.int .i64] [.cell (.int .i64)]]⟩, fun st => [0, 1, 2, 3, 4, 5], fun s => .retw2 ((s.mem.getD 0 .dead).rows) ((s.mem.getD 1 .dead).rows) ((s.mem.getD 2 .dead).rows) (((s.mem.getD 4 .dead).cells.getD 3 .top).rows) (((s.mem.getD 4 .dead).cells.getD 4 .top).rows) (((s.mem.getD 5 .dead).cells.getD 0 .top).toI)⟩
def xL12i106f45a6wx0 : XSh OL12i106f45a6 := ⟨[], ⟨[], [.row 58, .row 74, .row 45, .loop 1 [(4, .one (.ptr 5 0 0))] none, .var [.any, .any, .any, .any, .any] [.own 0, .own 1, .own 2, .cell (.slice 113), .cell (.slice 117)], .var [.int .i64] [.cell (.int .i64)]]⟩, fun st => [0, 1, 2, 3, 4, 5], fun s => .x0 ((s.mem.getD 0 .dead).rows) ((s.mem.getD 1 .dead).rows) ((s.mem.getD 2 .dead).rows) (((s.mem.getD 4 .dead).cells.getD 3 .top).rows) (((s.mem.getD 4 .dead).cells.getD 4 .top).rows) (((s.mem.getD 5 .dead).cells.getD 0 .top).toI)⟩
def xsL12i106f45a6 : Ex → St → Option (XSh OL12i106f45a6) := fun e st => match e with
  | .ret => (match (okX ((st.mem.getD 3 .dead).pend) (some .ret)) with | true => some xL12i106f45a6wret | false => some xL12i106f45a6wretw2)
  | .exit 0 => some xL12i106f45a6wx0
  | _ => none
def exL12i106f45a6 (o : OL12i106f45a6) : Ex := match o with | .ret b0 b1 b2 b4c3 b4c4 b5c0 => .ret | .retw2 b0 b1 b2 b4c3 b4c4 b5c0 => .ret | .x0 b0 b1 b2 b4c3 b4c4 b5c0 => (.exit 0)
def stL12i106f45a6 (o : OL12i106f45a6) : St := match o with | .ret b0 b1 b2 b4c3 b4c4 b5c0 => ⟨[], [.row 58 b0, .row 74 b1, .row 45 b2, .loop 1 [(4, .ptr 5 0 0)] false (some .ret), .var [.any, .any, .any, .any, .any] [.own 0, .own 1, .own 2, .list 113 b4c3, .list 117 b4c4], .var [.int .i64] [.int .i64 b5c0]], [], .unk⟩ | .retw2 b0 b1 b2 b4c3 b4c4 b5c0 => ⟨[], [.row 58 b0, .row 74 b1, .row 45 b2, .loop 1 [(4, .ptr 5 0 0)] false none, .var [.any, .any, .any, .any, .any] [.own 0, .own 1, .own 2, .list 113 b4c3, .list 117 b4c4], .var [.int .i64] [.int .i64 b5c0]], [], .unk⟩ | .x0 b0 b1 b2 b4c3 b4c4 b5c0 => ⟨[], [.row 58 b0, .row 74 b1, .row 45 b2, .loop 1 [(4, .ptr 5 0 0)] false none, .var [.any, .any, .any, .any, .any] [.own 0, .own 1, .own 2, .list 113 b4c3, .list 117 b4c4], .var [.int .i64] [.int .i64 b5c0]], [], .unk⟩
def elL12i106f45a6 {R : Type} (o : OL12i106f45a6) (k : Ex → St → Option R) : Option R := match o with | .ret b0 b1 b2 b4c3 b4c4 b5c0 => k .ret ⟨[], [.row 58 b0, .row 74 b1, .row 45 b2, .loop 1 [(4, .ptr 5 0 0)] false (some .ret), .var [.any, .any, .any, .any, .any] [.own 0, .own 1, .own 2, .list 113 b4c3, .list 117 b4c4], .var [.int .i64] [.int .i64 b5c0]], [], .unk⟩ | .retw2 b0 b1 b2 b4c3 b4c4 b5c0 => k .ret ⟨[], [.row 58 b0, .row 74 b1, .row 45 b2, .loop 1 [(4, .ptr 5 0 0)] false none, .var [.any, .any, .any, .any, .any] [.own 0, .own 1, .own 2, .list 113 b4c3, .list 117 b4c4], .var [.int .i64] [.int .i64 b5c0]], [], .unk⟩ | .x0 b0 b1 b2 b4c3 b4c4 b5c0 => k (.exit 0) ⟨[], [.row 58 b0, .row 74 b1, .row 45 b2, .loop 1 [(4, .ptr 5 0 0)] false none, .var [.any, .any, .any, .any, .any] [.own 0, .own 1, .own 2, .list 113 b4c3, .list 117 b4c4], .var [.int .i64] [.int .i64 b5c0]], [], .unk⟩
theorem heL12i106f45a6 {R : Type} (o : OL12i106f45a6) (k : Ex → St → Option R) : elL12i106f45a6 o k = k (exL12i106f45a6 o) (stL12i106f45a6 o) := by cases o <;> rfl
theorem hxL12i106f45a6 : ∀ e st x, xsL12i106f45a6 e st = some x → outOk x e exL12i106f45a6 stL12i106f45a6 := by
  intro e st x h
  unfold xsL12i106f45a6 at h
  repeat' split at h
  all_goals first
    | (injection h with h; subst h; exact fun lk M => ⟨rfl, rfl⟩)
    | cases h
noncomputable def T12i106f45ul6 (N : Nat) (R : Type) : LTab R := mkTab ⟨47, 140737488353392⟩ (csF12 N R) (pickY [(1, fun id args M k => evyield CX (T12us106 N R) 1 106 id args M k)]) [] [] [(24, fun st k => callLoop CX 3 260096 ceJ12i106f45a24 sgJ12i106f45a24 seJ12i106f45a24 ⟨47, 140737488353392⟩ (LFJ12i106f45a24 N) elJ12i106f45a24 st k), (50, fun st k => callLoop CX 6 140737454800960 ceJ12i106f45a50 sgJ12i106f45a50 seJ12i106f45a50 ⟨47, 140737488353392⟩ (LFJ12i106f45a50 N) elJ12i106f45a50 st k)]
theorem okT12i106f45ul6 (N : Nat) (R : Type) : (T12i106f45ul6 N R).Ok CX code45 := mkTab_ok (hcsF12 N R) (pickY_ok (es := [(1, fun id args M k => evyield CX (T12us106 N R) 1 106 id args M k)]) ⟨fun {id args M k r} h => evyield_sound hX (okT12us106 N R) (g := nd1.1) (ps := nd1.2.1) ⟨[false, true, false, true, false, true], by rfl, by kernel_rfl⟩ h, trivial⟩) (trivial) (trivial) (⟨cut_ok hX (path := [false, false, false, true]) (by kernel_rfl) (by rfl) (okT12i106f45uc24 N OJ12i106f45a24) (hsJ12i106f45a24 N) hxJ12i106f45a24 rfl heJ12i106f45a24, cut_ok hX (path := [false, true, false, false, true]) (by kernel_rfl) (by rfl) (okT12i106f45uc50 N OJ12i106f45a50) (hsJ12i106f45a50 N) hxJ12i106f45a50 rfl heJ12i106f45a50, trivial⟩)
noncomputable def bdL12i106f45a6 : Code := match codeAt code45 [false, true] with | some (.loop c) => c | _ => .skip
theorem hsL12i106f45a6 (N : Nat) : ∀ (n : Nat) (lk : Nat → AV) (M : List Blk), LFL12i106f45a6 N (n + 1) (canS sgL12i106f45a6 lk M) = evk CX (T12i106f45ul6 N OL12i106f45a6) bdL12i106f45a6 (2 * 6) (canS sgL12i106f45a6 lk M) (kont CX 6 [] sgL12i106f45a6 (fun st => [0, 1, 2, 3, 4, 5]) xsL12i106f45a6 (LFL12i106f45a6 N n)) := by intro n lk M; kernel_rfl
noncomputable def T12i106f45ur1 (N : Nat) (R : Type) : LTab R := mkTab ⟨47, 140737488355327⟩ (csF12 N R) (pickY [(1, fun id args M k => evyield CX (T12us106 N R) 1 106 id args M k)]) [(6, fun st k => callLoop CX 6 140737488353392 ceL12i106f45a6 sgL12i106f45a6 seL12i106f45a6 ⟨47, 140737488355327⟩ (LFL12i106f45a6 N N) elL12i106f45a6 st k)] [] []
theorem okT12i106f45ur1 (N : Nat) (R : Type) : (T12i106f45ur1 N R).Ok CX code45 := mkTab_ok (hcsF12 N R) (pickY_ok (es := [(1, fun id args M k => evyield CX (T12us106 N R) 1 106 id args M k)]) ⟨fun {id args M k r} h => evyield_sound hX (okT12us106 N R) (g := nd1.1) (ps := nd1.2.1) ⟨[false, true, false, true, false, true], by rfl, by kernel_rfl⟩ h, trivial⟩) (⟨loop_ok hX (path := [false, true]) (by kernel_rfl) (by rfl) (okT12i106f45ul6 N OL12i106f45a6) (fun _ _ => rfl) (hsL12i106f45a6 N) hxL12i106f45a6 rfl heL12i106f45a6, trivial⟩) (trivial) (trivial)
noncomputable def T12ur1 (N : Nat) (R : Type) : LTab R := mkTab ⟨27, 134217727⟩ (csF12 N R) (noY) [] [(106, fun st k => evrange CX (oneTab ⟨27, 134217727⟩ (inl 45 (fun args M k => evfn CX (T12i106f45ur1 N R) code45 rs12i106f45 args M k))) 1 [4] (.tmp 13) st k)] []
theorem okT12ur1 (N : Nat) (R : Type) : (T12ur1 N R).Ok CX code12 := mkTab_ok (hcsF12 N R) (noY_ok) (trivial) (⟨range_ok hX (path := [false, true, false, true, false, true]) (ps0 := nd1.2.1) (a0 := nd1.2.2.1) (b0 := nd1.2.2.2) (by kernel_rfl) (by rfl) (inl_ok fun {args M k r} h => evfn_sound hX (okT12i106f45ur1 N R) Tryd.func45 hb45 rfl en45 (by kernel_rfl) h) (by kernel_rfl), trivial⟩) (trivial)
def rsF12 : List ResultVar := [.cell 4 3]
def F12 : Nat → TF12
  | 0 => fun _ _ _ _ _ _ => none
  | N + 1 => fun x0c3 x0c4 x1 b0 b1 b2 =>
    match F10 N x0c3 x0c4 x1 b0 b1 b2 with
    | none => none
    | some (.r rx0v1 rb0v1 rb1v1 rb2v1) =>
      match decide ((0 : Int) ≤ rx0v1) with
      | true =>
        match F23 N x0c3 x0c4 x1 rb0v1 rb1v1 rb2v1 with
        | none => none
        | some (.r rb0v2 rb1v2 rb2v2 rb3c0v2 rb4c3v2 rb4c4v2) =>
          match L12i106f45a6 N N rb3c0v2 ((rb2v2.length : Int)) rb0v2 rb1v2 rb2v2 rb4c3v2 rb4c4v2 0 with
          | none => none
          | some (.ret b0v8 b1v8 b2v8 b4c3v8 b4c4v8 b5c0v8) =>
            some (.r b5c0v8 b0v8 b1v8 b2v8)
          | some (.retw2 b0v9 b1v9 b2v9 b4c3v9 b4c4v9 b5c0v9) =>
            some (.r ((-1)) b0v9 b1v9 b2v9)
          | some (.x0 b0v10 b1v10 b2v10 b4c3v10 b4c4v10 b5c0v10) =>
            some (.r ((-1)) b0v10 b1v10 b2v10)
      | false =>
        some (.r ((-1)) rb0v1 rb1v1 rb2v1)
def xRF12 : XSh R12 := ⟨[], ⟨[(0, .one (.cell (.int .i64)))], [.row 58, .row 74, .row 45]⟩, fun st => [0, 1, 2], fun s => .r ((Eng.look s.env 0).toI) ((s.mem.getD 0 .dead).rows) ((s.mem.getD 1 .dead).rows) ((s.mem.getD 2 .dead).rows)⟩
theorem fsF12 : ∀ (N : Nat) (lk : Nat → AV) (M : List Blk), FFF12 (F12 (N + 1)) (canS sgF12 lk M) = evfn CX (T12ur1 N R12) code12 rsF12 (argsE 2 (canS sgF12 lk M).env) (canS sgF12 lk M).mem (goR CX 3 (fun _ => some xRF12)) := by intro N lk M; kernel_rfl
theorem soundF12 : ∀ N, RecOkF12 (F12 N)
  | 0, lk, M, o, h => by cases h
  | N + 1, lk, M, o, h => fn_sound hX (okT12ur1 N R12) Tryd.func12 hb12 rfl en12 (by kernel_rfl) (ys := fun _ => some xRF12) (fun st y h => by injection h with h; subst h; exact fun lk M => ⟨rfl, rfl⟩) ((fsF12 N lk M).symm.trans h)
def cvce12n0 : List Cv := []
def selce12n0 : St → List Nat := fun st => [((Eng.look st.env 0).cells.getD 0 .top).id, ((Eng.look st.env 0).cells.getD 1 .top).id, ((Eng.look st.env 0).cells.getD 2 .top).id]
noncomputable def ce12n0 (Fx : TF12) (R : Type) (test : List AV → List Blk → Bool) : CE R := ⟨12, test, fun args M => some (selce12n0 ⟨argEnv 0 args, M, [], .unk⟩), fun args M k => tst (Nat.beq args.length 2) (callFn CX 3 cvce12n0 sgF12 selce12n0 (FFF12 Fx) elF12 args M k)⟩
theorem okce12n0 (Fx : TF12) (h : RecOkF12 Fx) (R : Type) (test : List AV → List Blk → Bool) : CeOk CX (ce12n0 Fx R test) := ce_ok hX (fun o k => by cases o; rfl) h en12 (fun args M ids h => by injection h with h; exact ⟨rfl, h.symm⟩)
end Go.Proofs.YtdennlgnbecojaaDoor

namespace Go.Proofs.YtdennlgnbecojaaDoor
open Go Go.Eng
set_option maxRecDepth 100000

/-! ### F14: ceiling/level.May -/
inductive R14 where
  | r (x0 : Bool) (b0 : List Row) (b1 : List Row) (b2 : List Row)
abbrev TF14 := List Row → List Row → List Row → List Row → List Row → Option R14
def sgF14 : LSh := ⟨[(0, .agg [.own 0, .own 1, .own 2, .cell (.slice 113), .cell (.slice 117)])], [.row 58, .row 74, .row 45]⟩
def FFF14 (Fx : TF14) (s : St) : Option R14 := Fx (((Eng.look s.env 0).cells.getD 3 .top).rows) (((Eng.look s.env 0).cells.getD 4 .top).rows) ((s.mem.getD 0 .dead).rows) ((s.mem.getD 1 .dead).rows) ((s.mem.getD 2 .dead).rows)
def valF14 (o : R14) : AV := match o with | .r x0 b0 b1 b2 => .bool x0
def memF14 (o : R14) : List Blk := match o with | .r x0 b0 b1 b2 => [.row 58 b0, .row 74 b1, .row 45 b2]
def elF14 {R : Type} (o : R14) (k : AV → List Blk → Option R) : Option R := match o with | .r x0 b0 b1 b2 => k (.bool x0) [.row 58 b0, .row 74 b1, .row 45 b2]
def RecOkF14 (Fx : TF14) : Prop := ∀ lk M o, FFF14 Fx (canS sgF14 lk M) = some o → FCalls CX 14 3 (argsE 1 (canS sgF14 lk M).env) (canS sgF14 lk M).mem (valF14 o) (memF14 o)
noncomputable def csF14 (N : Nat) (R : Type) : List (CE R) := [ce10n0 (F10 N) R (fun _ _ => true)]
theorem hcsF14 (N : Nat) (R : Type) : AllE (CeOk CX) (csF14 N R) := ⟨okce10n0 (F10 N) (soundF10 N) R (fun _ _ => true), trivial⟩
inductive OJ14a6758 where
  | nx (x5 : Int) (b0 : List Row) (b1 : List Row) (b2 : List Row) (b3c3 : List Row) (b3c4 : List Row) (b4c0 : Int) (b4c1 : ByteArray) (b4c2 : Int) (b4c3 : Int) (b4c4 : Int) (b4c5 : Int) (b4c6 : List Row) (b4c7 : Int) (b4c8 : Bool) (b4c9 : Int) (b4c10 : Int) (b4c11 : Bool) (b4c12 : Bool) (b4c13 : Int) (b4c14 : Int) (b4c15 : Int) (b4c16 : Int) (b4c17 : Bool) (b4c18 : Bool) (b4c19 : Int) (b4c20 : Int) (b4c21 : Int)
def J14a6758 (N : Nat) : Int → Int → List Row → List Row → List Row → List Row → List Row → Int → ByteArray → Int → Int → Int → Int → List Row → Int → Bool → Int → Int → Bool → Bool → Int → Int → Int → Int → Bool → Bool → Int → Int → Int → Option OJ14a6758 := fun x3 x5 b0 b1 b2 b3c3 b3c4 b4c0 b4c1 b4c2 b4c3 b4c4 b4c5 b4c6 b4c7 b4c8 b4c9 b4c10 b4c11 b4c12 b4c13 b4c14 b4c15 b4c16 b4c17 b4c18 b4c19 b4c20 b4c21 =>
    match b4c0 != (1 : Int) with
    | true =>
      match decide (b4c2 < x3) with
      | true =>
        match F10 N b3c3 b3c4 b4c2 b0 b1 b2 with
        | none => none
        | some (.r rx0v1 rb0v1 rb1v1 rb2v1) =>
          some (.nx rx0v1 rb0v1 rb1v1 rb2v1 b3c3 b3c4 b4c0 b4c1 b4c2 b4c3 b4c4 b4c5 b4c6 b4c7 b4c8 b4c9 b4c10 b4c11 b4c12 b4c13 b4c14 b4c15 b4c16 b4c17 b4c18 b4c19 b4c20 b4c21)
      | false =>
        some (.nx ((-1)) b0 b1 b2 b3c3 b3c4 b4c0 b4c1 b4c2 b4c3 b4c4 b4c5 b4c6 b4c7 b4c8 b4c9 b4c10 b4c11 b4c12 b4c13 b4c14 b4c15 b4c16 b4c17 b4c18 b4c19 b4c20 b4c21)
    | false =>
      some (.nx x5 b0 b1 b2 b3c3 b3c4 b4c0 b4c1 b4c2 b4c3 b4c4 b4c5 b4c6 b4c7 b4c8 b4c9 b4c10 b4c11 b4c12 b4c13 b4c14 b4c15 b4c16 b4c17 b4c18 b4c19 b4c20 b4c21)
def LFJ14a6758 (N : Nat) (s : St) : Option OJ14a6758 := J14a6758 N ((Eng.look s.env 3).toI) ((Eng.look s.env 5).toI) ((s.mem.getD 0 .dead).rows) ((s.mem.getD 1 .dead).rows) ((s.mem.getD 2 .dead).rows) (((s.mem.getD 3 .dead).cells.getD 3 .top).rows) (((s.mem.getD 3 .dead).cells.getD 4 .top).rows) (((s.mem.getD 4 .dead).cells.getD 0 .top).toI) (((s.mem.getD 4 .dead).cells.getD 1 .top).toS) (((s.mem.getD 4 .dead).cells.getD 2 .top).toI) (((s.mem.getD 4 .dead).cells.getD 3 .top).toI) (((s.mem.getD 4 .dead).cells.getD 4 .top).toI) (((s.mem.getD 4 .dead).cells.getD 5 .top).toI) (((s.mem.getD 4 .dead).cells.getD 6 .top).rows) (((s.mem.getD 4 .dead).cells.getD 7 .top).toI) (((s.mem.getD 4 .dead).cells.getD 8 .top).toB) (((s.mem.getD 4 .dead).cells.getD 9 .top).toI) (((s.mem.getD 4 .dead).cells.getD 10 .top).toI) (((s.mem.getD 4 .dead).cells.getD 11 .top).toB) (((s.mem.getD 4 .dead).cells.getD 12 .top).toB) (((s.mem.getD 4 .dead).cells.getD 13 .top).toI) (((s.mem.getD 4 .dead).cells.getD 14 .top).toI) (((s.mem.getD 4 .dead).cells.getD 15 .top).toI) (((s.mem.getD 4 .dead).cells.getD 16 .top).toI) (((s.mem.getD 4 .dead).cells.getD 17 .top).toB) (((s.mem.getD 4 .dead).cells.getD 18 .top).toB) (((s.mem.getD 4 .dead).cells.getD 19 .top).toI) (((s.mem.getD 4 .dead).cells.getD 20 .top).toI) (((s.mem.getD 4 .dead).cells.getD 21 .top).toI)
def sgJ14a6758 : LSh := ⟨[(1, .one (.ptr 3 0 0)), (3, .one (.cell (.int .i64))), (4, .one (.ptr 4 0 0)), (5, .one (.cell (.int .i64)))], [.row 58, .row 74, .row 45, .var [.any, .any, .any, .any, .any] [.own 0, .own 1, .own 2, .cell (.slice 113), .cell (.slice 117)], .var [.int .u8, .str, .int .i64, .int .u8, .int .i64, .int .i64, .any, .int .i64, .bool, .int .i64, .int .i64, .bool, .bool, .int .u8, .int .i64, .int .i64, .int .i64, .bool, .bool, .int .i64, .int .i64, .int .i64] [.cell (.int .u8), .cell (.str), .cell (.int .i64), .cell (.int .u8), .cell (.int .i64), .cell (.int .i64), .cell (.slice 90), .cell (.int .i64), .cell (.bool), .cell (.int .i64), .cell (.int .i64), .cell (.bool), .cell (.bool), .cell (.int .u8), .cell (.int .i64), .cell (.int .i64), .cell (.int .i64), .cell (.bool), .cell (.bool), .cell (.int .i64), .cell (.int .i64), .cell (.int .i64)]]⟩
def ceJ14a6758 : List Cv := []
def seJ14a6758 : St → List Nat := fun st => [0, 1, 2, (Eng.look st.env 1).id, (Eng.look st.env 4).id]
def xJ14a6758wnx : XSh OJ14a6758 := ⟨[], ⟨[(5, .one (.cell (.int .i64)))], [.row 58, .row 74, .row 45, .var [.any, .any, .any, .any, .any] [.own 0, .own 1, .own 2, .cell (.slice 113), .cell (.slice 117)], .var [.int .u8, .str, .int .i64, .int .u8, .int .i64, .int .i64, .any, .int .i64, .bool, .int .i64, .int .i64, .bool, .bool, .int .u8, .int .i64, .int .i64, .int .i64, .bool, .bool, .int .i64, .int .i64, .int .i64] [.cell (.int .u8), .cell (.str), .cell (.int .i64), .cell (.int .u8), .cell (.int .i64), .cell (.int .i64), .cell (.slice 90), .cell (.int .i64), .cell (.bool), .cell (.int .i64), .cell (.int .i64), .cell (.bool), .cell (.bool), .cell (.int .u8), .cell (.int .i64), .cell (.int .i64), .cell (.int .i64), .cell (.bool), .cell (.bool), .cell (.int .i64), .cell (.int .i64), .cell (.int .i64)]]⟩, fun st => [0, 1, 2, 3, 4], fun s => .nx ((Eng.look s.env 5).toI) ((s.mem.getD 0 .dead).rows) ((s.mem.getD 1 .dead).rows) ((s.mem.getD 2 .dead).rows) (((s.mem.getD 3 .dead).cells.getD 3 .top).rows) (((s.mem.getD 3 .dead).cells.getD 4 .top).rows) (((s.mem.getD 4 .dead).cells.getD 0 .top).toI) (((s.mem.getD 4 .dead).cells.getD 1 .top).toS) (((s.mem.getD 4 .dead).cells.getD 2 .top).toI) (((s.mem.getD 4 .dead).cells.getD 3 .top).toI) (((s.mem.getD 4 .dead).cells.getD 4 .top).toI) (((s.mem.getD 4 .dead).cells.getD 5 .top).toI) (((s.mem.getD 4 .dead).cells.getD 6 .top).rows) (((s.mem.getD 4 .dead).cells.getD 7 .top).toI) (((s.mem.getD 4 .dead).cells.getD 8 .top).toB) (((s.mem.getD 4 .dead).cells.getD 9 .top).toI) (((s.mem.getD 4 .dead).cells.getD 10 .top).toI) (((s.mem.getD 4 .dead).cells.getD 11 .top).toB) (((s.mem.getD 4 .dead).cells.getD 12 .top).toB) (((s.mem.getD 4 .dead).cells.getD 13 .top).toI) (((s.mem.getD 4 .dead).cells.getD 14 .top).toI) (((s.mem.getD 4 .dead).cells.getD 15 .top).toI) (((s.mem.getD 4 .dead).cells.getD 16 .top).toI) (((s.mem.getD 4 .dead).cells.getD 17 .top).toB) (((s.mem.getD 4 .dead).cells.getD 18 .top).toB) (((s.mem.getD 4 .dead).cells.getD 19 .top).toI) (((s.mem.getD 4 .dead).cells.getD 20 .top).toI) (((s.mem.getD 4 .dead).cells.getD 21 .top).toI)⟩
def xsJ14a6758 : Ex → St → Option (XSh OJ14a6758) := fun e st => match e with
  | .normal => some xJ14a6758wnx
  | _ => none
def exJ14a6758 (o : OJ14a6758) : Ex := match o with | .nx x5 b0 b1 b2 b3c3 b3c4 b4c0 b4c1 b4c2 b4c3 b4c4 b4c5 b4c6 b4c7 b4c8 b4c9 b4c10 b4c11 b4c12 b4c13 b4c14 b4c15 b4c16 b4c17 b4c18 b4c19 b4c20 b4c21 => .normal
def stJ14a6758 (o : OJ14a6758) : St := match o with | .nx x5 b0 b1 b2 b3c3 b3c4 b4c0 b4c1 b4c2 b4c3 b4c4 b4c5 b4c6 b4c7 b4c8 b4c9 b4c10 b4c11 b4c12 b4c13 b4c14 b4c15 b4c16 b4c17 b4c18 b4c19 b4c20 b4c21 => ⟨[(5, .int .i64 x5)], [.row 58 b0, .row 74 b1, .row 45 b2, .var [.any, .any, .any, .any, .any] [.own 0, .own 1, .own 2, .list 113 b3c3, .list 117 b3c4], .var [.int .u8, .str, .int .i64, .int .u8, .int .i64, .int .i64, .any, .int .i64, .bool, .int .i64, .int .i64, .bool, .bool, .int .u8, .int .i64, .int .i64, .int .i64, .bool, .bool, .int .i64, .int .i64, .int .i64] [.int .u8 b4c0, .str b4c1, .int .i64 b4c2, .int .u8 b4c3, .int .i64 b4c4, .int .i64 b4c5, .list 90 b4c6, .int .i64 b4c7, .bool b4c8, .int .i64 b4c9, .int .i64 b4c10, .bool b4c11, .bool b4c12, .int .u8 b4c13, .int .i64 b4c14, .int .i64 b4c15, .int .i64 b4c16, .bool b4c17, .bool b4c18, .int .i64 b4c19, .int .i64 b4c20, .int .i64 b4c21]], [], .unk⟩
def elJ14a6758 {R : Type} (o : OJ14a6758) (k : Ex → St → Option R) : Option R := match o with | .nx x5 b0 b1 b2 b3c3 b3c4 b4c0 b4c1 b4c2 b4c3 b4c4 b4c5 b4c6 b4c7 b4c8 b4c9 b4c10 b4c11 b4c12 b4c13 b4c14 b4c15 b4c16 b4c17 b4c18 b4c19 b4c20 b4c21 => k .normal ⟨[(5, .int .i64 x5)], [.row 58 b0, .row 74 b1, .row 45 b2, .var [.any, .any, .any, .any, .any] [.own 0, .own 1, .own 2, .list 113 b3c3, .list 117 b3c4], .var [.int .u8, .str, .int .i64, .int .u8, .int .i64, .int .i64, .any, .int .i64, .bool, .int .i64, .int .i64, .bool, .bool, .int .u8, .int .i64, .int .i64, .int .i64, .bool, .bool, .int .i64, .int .i64, .int .i64] [.int .u8 b4c0, .str b4c1, .int .i64 b4c2, .int .u8 b4c3, .int .i64 b4c4, .int .i64 b4c5, .list 90 b4c6, .int .i64 b4c7, .bool b4c8, .int .i64 b4c9, .int .i64 b4c10, .bool b4c11, .bool b4c12, .int .u8 b4c13, .int .i64 b4c14, .int .i64 b4c15, .int .i64 b4c16, .bool b4c17, .bool b4c18, .int .i64 b4c19, .int .i64 b4c20, .int .i64 b4c21]], [], .unk⟩
theorem heJ14a6758 {R : Type} (o : OJ14a6758) (k : Ex → St → Option R) : elJ14a6758 o k = k (exJ14a6758 o) (stJ14a6758 o) := by cases o <;> rfl
theorem hxJ14a6758 : ∀ e st x, xsJ14a6758 e st = some x → outOk x e exJ14a6758 stJ14a6758 := by
  intro e st x h
  unfold xsJ14a6758 at h
  repeat' split at h
  all_goals first
    | (injection h with h; subst h; exact fun lk M => ⟨rfl, rfl⟩)
    | cases h
noncomputable def T14uc6758 (N : Nat) (R : Type) : LTab R := mkTab ⟨66, 33538080⟩ (csF14 N R) (noY) [] [] []
theorem okT14uc6758 (N : Nat) (R : Type) : (T14uc6758 N R).Ok CX code14 := mkTab_ok (hcsF14 N R) (noY_ok) (trivial) (trivial) (trivial)
noncomputable def bdJ14a6758 : Code := (codeAt code14 [false, true, true, false, false, true, true, false, false, true, false, true]).getD .skip
theorem hsJ14a6758 (N : Nat) : ∀ (lk : Nat → AV) (M : List Blk), LFJ14a6758 N (canS sgJ14a6758 lk M) = evk CX (T14uc6758 N OJ14a6758) bdJ14a6758 6758 (canS sgJ14a6758 lk M) (kontX CX 5 xsJ14a6758) := by intro lk M; kernel_rfl
inductive OJ14a13518 where
  | nx (b0 : List Row) (b1 : List Row) (b2 : List Row) (b3c0 : Int) (b3c1 : ByteArray) (b3c2 : Int) (b3c3 : Int) (b3c4 : Int) (b3c5 : Int) (b3c6 : List Row) (b3c7 : Int) (b3c8 : Bool) (b3c9 : Int) (b3c10 : Int) (b3c11 : Bool) (b3c12 : Bool) (b3c13 : Int) (b3c14 : Int) (b3c15 : Int) (b3c16 : Int) (b3c17 : Bool) (b3c18 : Bool) (b3c19 : Int) (b3c20 : Int) (b3c21 : Int)
  | ret (x2 : Bool) (b0 : List Row) (b1 : List Row) (b2 : List Row) (b3c0 : Int) (b3c1 : ByteArray) (b3c2 : Int) (b3c3 : Int) (b3c4 : Int) (b3c5 : Int) (b3c6 : List Row) (b3c7 : Int) (b3c8 : Bool) (b3c9 : Int) (b3c10 : Int) (b3c11 : Bool) (b3c12 : Bool) (b3c13 : Int) (b3c14 : Int) (b3c15 : Int) (b3c16 : Int) (b3c17 : Bool) (b3c18 : Bool) (b3c19 : Int) (b3c20 : Int) (b3c21 : Int)
def J14a13518 (N : Nat) : Int → List Row → List Row → List Row → Int → ByteArray → Int → Int → Int → Int → List Row → Int → Bool → Int → Int → Bool → Bool → Int → Int → Int → Int → Bool → Bool → Int → Int → Int → Option OJ14a13518 := fun x5 b0 b1 b2 b3c0 b3c1 b3c2 b3c3 b3c4 b3c5 b3c6 b3c7 b3c8 b3c9 b3c10 b3c11 b3c12 b3c13 b3c14 b3c15 b3c16 b3c17 b3c18 b3c19 b3c20 b3c21 =>
    match decide (x5 < (0 : Int)) with
    | true =>
      some (.ret false b0 b1 b2 b3c0 b3c1 b3c2 b3c3 b3c4 b3c5 b3c6 b3c7 b3c8 b3c9 b3c10 b3c11 b3c12 b3c13 b3c14 b3c15 b3c16 b3c17 b3c18 b3c19 b3c20 b3c21)
    | false =>
      match b3c9 != x5 with
      | true =>
        some (.ret false b0 b1 b2 b3c0 b3c1 b3c2 b3c3 b3c4 b3c5 b3c6 b3c7 b3c8 b3c9 b3c10 b3c11 b3c12 b3c13 b3c14 b3c15 b3c16 b3c17 b3c18 b3c19 b3c20 b3c21)
      | false =>
        some (.nx b0 b1 b2 b3c0 b3c1 b3c2 b3c3 b3c4 b3c5 b3c6 b3c7 b3c8 b3c9 b3c10 b3c11 b3c12 b3c13 b3c14 b3c15 b3c16 b3c17 b3c18 b3c19 b3c20 b3c21)
def LFJ14a13518 (N : Nat) (s : St) : Option OJ14a13518 := J14a13518 N ((Eng.look s.env 5).toI) ((s.mem.getD 0 .dead).rows) ((s.mem.getD 1 .dead).rows) ((s.mem.getD 2 .dead).rows) (((s.mem.getD 3 .dead).cells.getD 0 .top).toI) (((s.mem.getD 3 .dead).cells.getD 1 .top).toS) (((s.mem.getD 3 .dead).cells.getD 2 .top).toI) (((s.mem.getD 3 .dead).cells.getD 3 .top).toI) (((s.mem.getD 3 .dead).cells.getD 4 .top).toI) (((s.mem.getD 3 .dead).cells.getD 5 .top).toI) (((s.mem.getD 3 .dead).cells.getD 6 .top).rows) (((s.mem.getD 3 .dead).cells.getD 7 .top).toI) (((s.mem.getD 3 .dead).cells.getD 8 .top).toB) (((s.mem.getD 3 .dead).cells.getD 9 .top).toI) (((s.mem.getD 3 .dead).cells.getD 10 .top).toI) (((s.mem.getD 3 .dead).cells.getD 11 .top).toB) (((s.mem.getD 3 .dead).cells.getD 12 .top).toB) (((s.mem.getD 3 .dead).cells.getD 13 .top).toI) (((s.mem.getD 3 .dead).cells.getD 14 .top).toI) (((s.mem.getD 3 .dead).cells.getD 15 .top).toI) (((s.mem.getD 3 .dead).cells.getD 16 .top).toI) (((s.mem.getD 3 .dead).cells.getD 17 .top).toB) (((s.mem.getD 3 .dead).cells.getD 18 .top).toB) (((s.mem.getD 3 .dead).cells.getD 19 .top).toI) (((s.mem.getD 3 .dead).cells.getD 20 .top).toI) (((s.mem.getD 3 .dead).cells.getD 21 .top).toI)
def sgJ14a13518 : LSh := ⟨[(4, .one (.ptr 3 0 0)), (5, .one (.cell (.int .i64)))], [.row 58, .row 74, .row 45, .var [.int .u8, .str, .int .i64, .int .u8, .int .i64, .int .i64, .any, .int .i64, .bool, .int .i64, .int .i64, .bool, .bool, .int .u8, .int .i64, .int .i64, .int .i64, .bool, .bool, .int .i64, .int .i64, .int .i64] [.cell (.int .u8), .cell (.str), .cell (.int .i64), .cell (.int .u8), .cell (.int .i64), .cell (.int .i64), .cell (.slice 90), .cell (.int .i64), .cell (.bool), .cell (.int .i64), .cell (.int .i64), .cell (.bool), .cell (.bool), .cell (.int .u8), .cell (.int .i64), .cell (.int .i64), .cell (.int .i64), .cell (.bool), .cell (.bool), .cell (.int .i64), .cell (.int .i64), .cell (.int .i64)]]⟩
def ceJ14a13518 : List Cv := []
def seJ14a13518 : St → List Nat := fun st => [0, 1, 2, (Eng.look st.env 4).id]
def xJ14a13518wnx : XSh OJ14a13518 := ⟨[], ⟨[], [.row 58, .row 74, .row 45, .var [.int .u8, .str, .int .i64, .int .u8, .int .i64, .int .i64, .any, .int .i64, .bool, .int .i64, .int .i64, .bool, .bool, .int .u8, .int .i64, .int .i64, .int .i64, .bool, .bool, .int .i64, .int .i64, .int .i64] [.cell (.int .u8), .cell (.str), .cell (.int .i64), .cell (.int .u8), .cell (.int .i64), .cell (.int .i64), .cell (.slice 90), .cell (.int .i64), .cell (.bool), .cell (.int .i64), .cell (.int .i64), .cell (.bool), .cell (.bool), .cell (.int .u8), .cell (.int .i64), .cell (.int .i64), .cell (.int .i64), .cell (.bool), .cell (.bool), .cell (.int .i64), .cell (.int .i64), .cell (.int .i64)]]⟩, fun st => [0, 1, 2, 3], fun s => .nx ((s.mem.getD 0 .dead).rows) ((s.mem.getD 1 .dead).rows) ((s.mem.getD 2 .dead).rows) (((s.mem.getD 3 .dead).cells.getD 0 .top).toI) (((s.mem.getD 3 .dead).cells.getD 1 .top).toS) (((s.mem.getD 3 .dead).cells.getD 2 .top).toI) (((s.mem.getD 3 .dead).cells.getD 3 .top).toI) (((s.mem.getD 3 .dead).cells.getD 4 .top).toI) (((s.mem.getD 3 .dead).cells.getD 5 .top).toI) (((s.mem.getD 3 .dead).cells.getD 6 .top).rows) (((s.mem.getD 3 .dead).cells.getD 7 .top).toI) (((s.mem.getD 3 .dead).cells.getD 8 .top).toB) (((s.mem.getD 3 .dead).cells.getD 9 .top).toI) (((s.mem.getD 3 .dead).cells.getD 10 .top).toI) (((s.mem.getD 3 .dead).cells.getD 11 .top).toB) (((s.mem.getD 3 .dead).cells.getD 12 .top).toB) (((s.mem.getD 3 .dead).cells.getD 13 .top).toI) (((s.mem.getD 3 .dead).cells.getD 14 .top).toI) (((s.mem.getD 3 .dead).cells.getD 15 .top).toI) (((s.mem.getD 3 .dead).cells.getD 16 .top).toI) (((s.mem.getD 3 .dead).cells.getD 17 .top).toB) (((s.mem.getD 3 .dead).cells.getD 18 .top).toB) (((s.mem.getD 3 .dead).cells.getD 19 .top).toI) (((s.mem.getD 3 .dead).cells.getD 20 .top).toI) (((s.mem.getD 3 .dead).cells.getD 21 .top).toI)⟩
def xJ14a13518wret : XSh OJ14a13518 := ⟨[], ⟨[(2, .one (.cell (.bool)))], [.row 58, .row 74, .row 45, .var [.int .u8, .str, .int .i64, .int .u8, .int .i64, .int .i64, .any, .int .i64, .bool, .int .i64, .int .i64, .bool, .bool, .int .u8, .int .i64, .int .i64, .int .i64, .bool, .bool, .int .i64, .int .i64, .int .i64] [.cell (.int .u8), .cell (.str), .cell (.int .i64), .cell (.int .u8), .cell (.int .i64), .cell (.int .i64), .cell (.slice 90), .cell (.int .i64), .cell (.bool), .cell (.int .i64), .cell (.int .i64), .cell (.bool), .cell (.bool), .cell (.int .u8), .cell (.int .i64), .cell (.int .i64), .cell (.int .i64), .cell (.bool), .cell (.bool), .cell (.int .i64), .cell (.int .i64), .cell (.int .i64)]]⟩, fun st => [0, 1, 2, 3], fun s => .ret ((Eng.look s.env 2).toB) ((s.mem.getD 0 .dead).rows) ((s.mem.getD 1 .dead).rows) ((s.mem.getD 2 .dead).rows) (((s.mem.getD 3 .dead).cells.getD 0 .top).toI) (((s.mem.getD 3 .dead).cells.getD 1 .top).toS) (((s.mem.getD 3 .dead).cells.getD 2 .top).toI) (((s.mem.getD 3 .dead).cells.getD 3 .top).toI) (((s.mem.getD 3 .dead).cells.getD 4 .top).toI) (((s.mem.getD 3 .dead).cells.getD 5 .top).toI) (((s.mem.getD 3 .dead).cells.getD 6 .top).rows) (((s.mem.getD 3 .dead).cells.getD 7 .top).toI) (((s.mem.getD 3 .dead).cells.getD 8 .top).toB) (((s.mem.getD 3 .dead).cells.getD 9 .top).toI) (((s.mem.getD 3 .dead).cells.getD 10 .top).toI) (((s.mem.getD 3 .dead).cells.getD 11 .top).toB) (((s.mem.getD 3 .dead).cells.getD 12 .top).toB) (((s.mem.getD 3 .dead).cells.getD 13 .top).toI) (((s.mem.getD 3 .dead).cells.getD 14 .top).toI) (((s.mem.getD 3 .dead).cells.getD 15 .top).toI) (((s.mem.getD 3 .dead).cells.getD 16 .top).toI) (((s.mem.getD 3 .dead).cells.getD 17 .top).toB) (((s.mem.getD 3 .dead).cells.getD 18 .top).toB) (((s.mem.getD 3 .dead).cells.getD 19 .top).toI) (((s.mem.getD 3 .dead).cells.getD 20 .top).toI) (((s.mem.getD 3 .dead).cells.getD 21 .top).toI)⟩
def xsJ14a13518 : Ex → St → Option (XSh OJ14a13518) := fun e st => match e with
  | .normal => some xJ14a13518wnx
  | .ret => some xJ14a13518wret
  | _ => none
def exJ14a13518 (o : OJ14a13518) : Ex := match o with | .nx b0 b1 b2 b3c0 b3c1 b3c2 b3c3 b3c4 b3c5 b3c6 b3c7 b3c8 b3c9 b3c10 b3c11 b3c12 b3c13 b3c14 b3c15 b3c16 b3c17 b3c18 b3c19 b3c20 b3c21 => .normal | .ret x2 b0 b1 b2 b3c0 b3c1 b3c2 b3c3 b3c4 b3c5 b3c6 b3c7 b3c8 b3c9 b3c10 b3c11 b3c12 b3c13 b3c14 b3c15 b3c16 b3c17 b3c18 b3c19 b3c20 b3c21 => .ret
def stJ14a13518 (o : OJ14a13518) : St := match o with | .nx b0 b1 b2 b3c0 b3c1 b3c2 b3c3 b3c4 b3c5 b3c6 b3c7 b3c8 b3c9 b3c10 b3c11 b3c12 b3c13 b3c14 b3c15 b3c16 b3c17 b3c18 b3c19 b3c20 b3c21 => ⟨[], [.row 58 b0, .row 74 b1, .row 45 b2, .var [.int .u8, .str, .int .i64, .int .u8, .int .i64, .int .i64, .any, .int .i64, .bool, .int .i64, .int .i64, .bool, .bool, .int .u8, .int .i64, .int .i64, .int .i64, .bool, .bool, .int .i64, .int .i64, .int .i64] [.int .u8 b3c0, .str b3c1, .int .i64 b3c2, .int .u8 b3c3, .int .i64 b3c4, .int .i64 b3c5, .list 90 b3c6, .int .i64 b3c7, .bool b3c8, .int .i64 b3c9, .int .i64 b3c10, .bool b3c11, .bool b3c12, .int .u8 b3c13, .int .i64 b3c14, .int .i64 b3c15, .int .i64 b3c16, .bool b3c17, .bool b3c18, .int .i64 b3c19, .int .i64 b3c20, .int .i64 b3c21]], [], .unk⟩ | .ret x2 b0 b1 b2 b3c0 b3c1 b3c2 b3c3 b3c4 b3c5 b3c6 b3c7 b3c8 b3c9 b3c10 b3c11 b3c12 b3c13 b3c14 b3c15 b3c16 b3c17 b3c18 b3c19 b3c20 b3c21 => ⟨[(2, .bool x2)], [.row 58 b0, .row 74 b1, .row 45 b2, .var [.int .u8, .str, .int .i64, .int .u8, .int .i64, .int .i64, .any, .int .i64, .bool, .int .i64, .int .i64, .bool, .bool, .int .u8, .int .i64, .int .i64, .int .i64, .bool, .bool, .int .i64, .int .i64, .int .i64] [.int .u8 b3c0, .str b3c1, .int .i64 b3c2, .int .u8 b3c3, .int .i64 b3c4, .int .i64 b3c5, .list 90 b3c6, .int .i64 b3c7, .bool b3c8, .int .i64 b3c9, .int .i64 b3c10, .bool b3c11, .bool b3c12, .int .u8 b3c13, .int .i64 b3c14, .int .i64 b3c15, .int .i64 b3c16, .bool b3c17, .bool b3c18, .int .i64 b3c19, .int .i64 b3c20, .int .i64 b3c21]], [], .unk⟩
def elJ14a13518 {R : Type} (o : OJ14a13518) (k : Ex → St → Option R) : Option R := match o with | .nx b0 b1 b2 b3c0 b3c1 b3c2 b3c3 b3c4 b3c5 b3c6 b3c7 b3c8 b3c9 b3c10 b3c11 b3c12 b3c13 b3c14 b3c15 b3c16 b3c17 b3c18 b3c19 b3c20 b3c21 => k .normal ⟨[], [.row 58 b0, .row 74 b1, .row 45 b2, .var [.int .u8, .str, .int .i64, .int .u8, .int .i64, .int .i64, .any, .int .i64, .bool, .int .i64, .int .i64, .bool, .bool, .int .u8, .int .i64, .int .i64, .int .i64, .bool, .bool, .int .i64, .int .i64, .int .i64] [.int .u8 b3c0, .str b3c1, .int .i64 b3c2, .int .u8 b3c3, .int .i64 b3c4, .int .i64 b3c5, .list 90 b3c6, .int .i64 b3c7, .bool b3c8, .int .i64 b3c9, .int .i64 b3c10, .bool b3c11, .bool b3c12, .int .u8 b3c13, .int .i64 b3c14, .int .i64 b3c15, .int .i64 b3c16, .bool b3c17, .bool b3c18, .int .i64 b3c19, .int .i64 b3c20, .int .i64 b3c21]], [], .unk⟩ | .ret x2 b0 b1 b2 b3c0 b3c1 b3c2 b3c3 b3c4 b3c5 b3c6 b3c7 b3c8 b3c9 b3c10 b3c11 b3c12 b3c13 b3c14 b3c15 b3c16 b3c17 b3c18 b3c19 b3c20 b3c21 => k .ret ⟨[(2, .bool x2)], [.row 58 b0, .row 74 b1, .row 45 b2, .var [.int .u8, .str, .int .i64, .int .u8, .int .i64, .int .i64, .any, .int .i64, .bool, .int .i64, .int .i64, .bool, .bool, .int .u8, .int .i64, .int .i64, .int .i64, .bool, .bool, .int .i64, .int .i64, .int .i64] [.int .u8 b3c0, .str b3c1, .int .i64 b3c2, .int .u8 b3c3, .int .i64 b3c4, .int .i64 b3c5, .list 90 b3c6, .int .i64 b3c7, .bool b3c8, .int .i64 b3c9, .int .i64 b3c10, .bool b3c11, .bool b3c12, .int .u8 b3c13, .int .i64 b3c14, .int .i64 b3c15, .int .i64 b3c16, .bool b3c17, .bool b3c18, .int .i64 b3c19, .int .i64 b3c20, .int .i64 b3c21]], [], .unk⟩
theorem heJ14a13518 {R : Type} (o : OJ14a13518) (k : Ex → St → Option R) : elJ14a13518 o k = k (exJ14a13518 o) (stJ14a13518 o) := by cases o <;> rfl
theorem hxJ14a13518 : ∀ e st x, xsJ14a13518 e st = some x → outOk x e exJ14a13518 stJ14a13518 := by
  intro e st x h
  unfold xsJ14a13518 at h
  repeat' split at h
  all_goals first
    | (injection h with h; subst h; exact fun lk M => ⟨rfl, rfl⟩)
    | cases h
noncomputable def T14uc13518 (N : Nat) (R : Type) : LTab R := mkTab ⟨66, 8556380164⟩ (csF14 N R) (noY) [] [] []
theorem okT14uc13518 (N : Nat) (R : Type) : (T14uc13518 N R).Ok CX code14 := mkTab_ok (hcsF14 N R) (noY_ok) (trivial) (trivial) (trivial)
noncomputable def bdJ14a13518 : Code := (codeAt code14 [false, true, true, true, false, false, true, true, false, false, true, false, true]).getD .skip
theorem hsJ14a13518 (N : Nat) : ∀ (lk : Nat → AV) (M : List Blk), LFJ14a13518 N (canS sgJ14a13518 lk M) = evk CX (T14uc13518 N OJ14a13518) bdJ14a13518 13518 (canS sgJ14a13518 lk M) (kontX CX 4 xsJ14a13518) := by intro lk M; kernel_rfl
inductive OL14a26 where
  | ret (x2 : Bool) (b0 : List Row) (b1 : List Row) (b2 : List Row) (b3c3 : List Row) (b3c4 : List Row)
  | x0 (b0 : List Row) (b1 : List Row) (b2 : List Row) (b3c3 : List Row) (b3c4 : List Row)
def L14a26 (N : Nat) : Nat → Int → Int → List Row → List Row → List Row → List Row → List Row → Option OL14a26
  | 0 => fun _ _ _ _ _ _ _ => none
  | n + 1 => fun x8 x9 b0 b1 b2 b3c3 b3c4 =>
    match decide (x9 < x8) with
    | true =>
      tst (decide ((0 : Int) ≤ x9) && decide (x9 < ((b2.length : Int)))) <|
      tst (decide (x9.toNat < b2.length)) <|
      match J14a6758 N x9 0 b0 b1 b2 b3c3 b3c4 ((((b2.getD x9.toNat [])).getD 0 .top).toI) ((((b2.getD x9.toNat [])).getD 1 .top).toS) ((((b2.getD x9.toNat [])).getD 2 .top).toI) ((((b2.getD x9.toNat [])).getD 3 .top).toI) ((((b2.getD x9.toNat [])).getD 4 .top).toI) ((((b2.getD x9.toNat [])).getD 5 .top).toI) ((((b2.getD x9.toNat [])).getD 6 .top).rows) ((((b2.getD x9.toNat [])).getD 7 .top).toI) ((((b2.getD x9.toNat [])).getD 8 .top).toB) ((((b2.getD x9.toNat [])).getD 9 .top).toI) ((((b2.getD x9.toNat [])).getD 10 .top).toI) ((((b2.getD x9.toNat [])).getD 11 .top).toB) ((((b2.getD x9.toNat [])).getD 12 .top).toB) ((((b2.getD x9.toNat [])).getD 13 .top).toI) ((((b2.getD x9.toNat [])).getD 14 .top).toI) ((((b2.getD x9.toNat [])).getD 15 .top).toI) ((((b2.getD x9.toNat [])).getD 16 .top).toI) ((((b2.getD x9.toNat [])).getD 17 .top).toB) ((((b2.getD x9.toNat [])).getD 18 .top).toB) ((((b2.getD x9.toNat [])).getD 19 .top).toI) ((((b2.getD x9.toNat [])).getD 20 .top).toI) ((((b2.getD x9.toNat [])).getD 21 .top).toI) with
      | none => none
      | some (.nx x5v2 b0v2 b1v2 b2v2 b3c3v2 b3c4v2 b4c0v2 b4c1v2 b4c2v2 b4c3v2 b4c4v2 b4c5v2 b4c6v2 b4c7v2 b4c8v2 b4c9v2 b4c10v2 b4c11v2 b4c12v2 b4c13v2 b4c14v2 b4c15v2 b4c16v2 b4c17v2 b4c18v2 b4c19v2 b4c20v2 b4c21v2) =>
        match J14a13518 N x5v2 b0v2 b1v2 b2v2 b4c0v2 b4c1v2 b4c2v2 b4c3v2 b4c4v2 b4c5v2 b4c6v2 b4c7v2 b4c8v2 b4c9v2 b4c10v2 b4c11v2 b4c12v2 b4c13v2 b4c14v2 b4c15v2 b4c16v2 b4c17v2 b4c18v2 b4c19v2 b4c20v2 b4c21v2 with
        | none => none
        | some (.nx b0v3 b1v3 b2v3 b3c0v3 b3c1v3 b3c2v3 b3c3v3 b3c4v3 b3c5v3 b3c6v3 b3c7v3 b3c8v3 b3c9v3 b3c10v3 b3c11v3 b3c12v3 b3c13v3 b3c14v3 b3c15v3 b3c16v3 b3c17v3 b3c18v3 b3c19v3 b3c20v3 b3c21v3) =>
          match b3c0v3 == (5 : Int) with
          | true =>
            match !b3c8v3 with
            | true =>
              match decide (b3c4v3 < (0 : Int)) with
              | true =>
                some (.ret false b0v3 b1v3 b2v3 b3c3v2 b3c4v2)
              | false =>
                match decide (((b0v3.length : Int)) ≤ b3c4v3) with
                | true =>
                  some (.ret false b0v3 b1v3 b2v3 b3c3v2 b3c4v2)
                | false =>
                  tst (decide ((0 : Int) ≤ b3c4v3) && decide (b3c4v3 < ((b0v3.length : Int)))) <|
                  tst (decide (b3c4v3.toNat < b0v3.length)) <|
                  match ((((b0v3.getD b3c4v3.toNat [])).getD 17 .top).toI) != x5v2 with
                  | true =>
                    some (.ret false b0v3 b1v3 b2v3 b3c3v2 b3c4v2)
                  | false =>
                    L14a26 N n x8 (IntKind.wrap .i64 (x9 + (1 : Int))) b0v3 b1v3 b2v3 b3c3v2 b3c4v2
            | false =>
              L14a26 N n x8 (IntKind.wrap .i64 (x9 + (1 : Int))) b0v3 b1v3 b2v3 b3c3v2 b3c4v2
          | false =>
            L14a26 N n x8 (IntKind.wrap .i64 (x9 + (1 : Int))) b0v3 b1v3 b2v3 b3c3v2 b3c4v2
        | some (.ret x2v4 b0v4 b1v4 b2v4 b3c0v4 b3c1v4 b3c2v4 b3c3v4 b3c4v4 b3c5v4 b3c6v4 b3c7v4 b3c8v4 b3c9v4 b3c10v4 b3c11v4 b3c12v4 b3c13v4 b3c14v4 b3c15v4 b3c16v4 b3c17v4 b3c18v4 b3c19v4 b3c20v4 b3c21v4) =>
          some (.ret x2v4 b0v4 b1v4 b2v4 b3c3v2 b3c4v2)
    | false =>
      some (.x0 b0 b1 b2 b3c3 b3c4)
def LFL14a26 (N : Nat) (n : Nat) (s : St) : Option OL14a26 := L14a26 N n ((Eng.look s.env 8).toI) ((Eng.look s.env 9).toI) ((s.mem.getD 0 .dead).rows) ((s.mem.getD 1 .dead).rows) ((s.mem.getD 2 .dead).rows) (((s.mem.getD 3 .dead).cells.getD 3 .top).rows) (((s.mem.getD 3 .dead).cells.getD 4 .top).rows)
def sgL14a26 : LSh := ⟨[(1, .one (.ptr 3 0 0)), (7, .one (.own 2)), (8, .one (.cell (.int .i64))), (9, .one (.cell (.int .i64)))], [.row 58, .row 74, .row 45, .var [.any, .any, .any, .any, .any] [.own 0, .own 1, .own 2, .cell (.slice 113), .cell (.slice 117)]]⟩
def ceL14a26 : List Cv := []
def seL14a26 : St → List Nat := fun st => [0, 1, 2, (Eng.look st.env 1).id]
def xL14a26wret : XSh OL14a26 := ⟨[], ⟨[(2, .one (.cell (.bool)))], [.row 58, .row 74, .row 45, .var [.any, .any, .any, .any, .any] [.own 0, .own 1, .own 2, .cell (.slice 113), .cell (.slice 117)]]⟩, fun st => [0, 1, 2, 3], fun s => .ret ((Eng.look s.env 2).toB) ((s.mem.getD 0 .dead).rows) ((s.mem.getD 1 .dead).rows) ((s.mem.getD 2 .dead).rows) (((s.mem.getD 3 .dead).cells.getD 3 .top).rows) (((s.mem.getD 3 .dead).cells.getD 4 .top).rows)⟩
def xL14a26wx0 : XSh OL14a26 := ⟨[], ⟨[], [.row 58, .row 74, .row 45, .var [.any, .any, .any, .any, .any] [.own 0, .own 1, .own 2, .cell (.slice 113), .cell (.slice 117)]]⟩, fun st => [0, 1, 2, 3], fun s => .x0 ((s.mem.getD 0 .dead).rows) ((s.mem.getD 1 .dead).rows) ((s.mem.getD 2 .dead).rows) (((s.mem.getD 3 .dead).cells.getD 3 .top).rows) (((s.mem.getD 3 .dead).cells.getD 4 .top).rows)⟩
def xsL14a26 : Ex → St → Option (XSh OL14a26) := fun e st => match e with
  | .ret => some xL14a26wret
  | .exit 0 => some xL14a26wx0
  | _ => none
def exL14a26 (o : OL14a26) : Ex := match o with | .ret x2 b0 b1 b2 b3c3 b3c4 => .ret | .x0 b0 b1 b2 b3c3 b3c4 => (.exit 0)
def stL14a26 (o : OL14a26) : St := match o with | .ret x2 b0 b1 b2 b3c3 b3c4 => ⟨[(2, .bool x2)], [.row 58 b0, .row 74 b1, .row 45 b2, .var [.any, .any, .any, .any, .any] [.own 0, .own 1, .own 2, .list 113 b3c3, .list 117 b3c4]], [], .unk⟩ | .x0 b0 b1 b2 b3c3 b3c4 => ⟨[], [.row 58 b0, .row 74 b1, .row 45 b2, .var [.any, .any, .any, .any, .any] [.own 0, .own 1, .own 2, .list 113 b3c3, .list 117 b3c4]], [], .unk⟩
def elL14a26 {R : Type} (o : OL14a26) (k : Ex → St → Option R) : Option R := match o with | .ret x2 b0 b1 b2 b3c3 b3c4 => k .ret ⟨[(2, .bool x2)], [.row 58 b0, .row 74 b1, .row 45 b2, .var [.any, .any, .any, .any, .any] [.own 0, .own 1, .own 2, .list 113 b3c3, .list 117 b3c4]], [], .unk⟩ | .x0 b0 b1 b2 b3c3 b3c4 => k (.exit 0) ⟨[], [.row 58 b0, .row 74 b1, .row 45 b2, .var [.any, .any, .any, .any, .any] [.own 0, .own 1, .own 2, .list 113 b3c3, .list 117 b3c4]], [], .unk⟩
theorem heL14a26 {R : Type} (o : OL14a26) (k : Ex → St → Option R) : elL14a26 o k = k (exL14a26 o) (stL14a26 o) := by cases o <;> rfl
theorem hxL14a26 : ∀ e st x, xsL14a26 e st = some x → outOk x e exL14a26 stL14a26 := by
  intro e st x h
  unfold xsL14a26 at h
  repeat' split at h
  all_goals first
    | (injection h with h; subst h; exact fun lk M => ⟨rfl, rfl⟩)
    | cases h
noncomputable def T14ul26 (N : Nat) (R : Type) : LTab R := mkTab ⟨66, 73786976294838206012⟩ (csF14 N R) (noY) [] [] [(6758, fun st k => callLoop CX 5 33538080 ceJ14a6758 sgJ14a6758 seJ14a6758 ⟨66, 73786976294838206012⟩ (LFJ14a6758 N) elJ14a6758 st k), (13518, fun st k => callLoop CX 4 8556380164 ceJ14a13518 sgJ14a13518 seJ14a13518 ⟨66, 73786976294838206012⟩ (LFJ14a13518 N) elJ14a13518 st k)]
theorem okT14ul26 (N : Nat) (R : Type) : (T14ul26 N R).Ok CX code14 := mkTab_ok (hcsF14 N R) (noY_ok) (trivial) (trivial) (⟨cut_ok hX (path := [false, true, true, false, false, true, true, false, false, true, false, true]) (by kernel_rfl) (by rfl) (okT14uc6758 N OJ14a6758) (hsJ14a6758 N) hxJ14a6758 rfl heJ14a6758, cut_ok hX (path := [false, true, true, true, false, false, true, true, false, false, true, false, true]) (by kernel_rfl) (by rfl) (okT14uc13518 N OJ14a13518) (hsJ14a13518 N) hxJ14a13518 rfl heJ14a13518, trivial⟩)
noncomputable def bdL14a26 : Code := match codeAt code14 [false, true, false, true] with | some (.loop c) => c | _ => .skip
theorem hsL14a26 (N : Nat) : ∀ (n : Nat) (lk : Nat → AV) (M : List Blk), LFL14a26 N (n + 1) (canS sgL14a26 lk M) = evk CX (T14ul26 N OL14a26) bdL14a26 (2 * 26) (canS sgL14a26 lk M) (kont CX 4 [] sgL14a26 (fun st => [0, 1, 2, 3]) xsL14a26 (LFL14a26 N n)) := by intro n lk M; kernel_rfl
noncomputable def T14ur1 (N : Nat) (R : Type) : LTab R := mkTab ⟨66, 73786976294838206463⟩ (csF14 N R) (noY) [(26, fun st k => callLoop CX 4 73786976294838206012 ceL14a26 sgL14a26 seL14a26 ⟨66, 73786976294838206463⟩ (LFL14a26 N N) elL14a26 st k)] [] []
theorem okT14ur1 (N : Nat) (R : Type) : (T14ur1 N R).Ok CX code14 := mkTab_ok (hcsF14 N R) (noY_ok) (⟨loop_ok hX (path := [false, true, false, true]) (by kernel_rfl) (by rfl) (okT14ul26 N OL14a26) (fun _ _ => rfl) (hsL14a26 N) hxL14a26 rfl heL14a26, trivial⟩) (trivial) (trivial)
def rsF14 : List ResultVar := [.tmp 2]
def F14 : Nat → TF14
  | 0 => fun _ _ _ _ _ => none
  | N + 1 => fun x0c3 x0c4 b0 b1 b2 =>
    match L14a26 N N ((b2.length : Int)) 0 b0 b1 b2 x0c3 x0c4 with
    | none => none
    | some (.ret x2v5 b0v5 b1v5 b2v5 b3c3v5 b3c4v5) =>
      some (.r x2v5 b0v5 b1v5 b2v5)
    | some (.x0 b0v6 b1v6 b2v6 b3c3v6 b3c4v6) =>
      some (.r true b0v6 b1v6 b2v6)
def xRF14 : XSh R14 := ⟨[], ⟨[(0, .one (.cell (.bool)))], [.row 58, .row 74, .row 45]⟩, fun st => [0, 1, 2], fun s => .r ((Eng.look s.env 0).toB) ((s.mem.getD 0 .dead).rows) ((s.mem.getD 1 .dead).rows) ((s.mem.getD 2 .dead).rows)⟩
theorem fsF14 : ∀ (N : Nat) (lk : Nat → AV) (M : List Blk), FFF14 (F14 (N + 1)) (canS sgF14 lk M) = evfn CX (T14ur1 N R14) code14 rsF14 (argsE 1 (canS sgF14 lk M).env) (canS sgF14 lk M).mem (goR CX 3 (fun _ => some xRF14)) := by intro N lk M; kernel_rfl
theorem soundF14 : ∀ N, RecOkF14 (F14 N)
  | 0, lk, M, o, h => by cases h
  | N + 1, lk, M, o, h => fn_sound hX (okT14ur1 N R14) Tryd.func14 hb14 rfl en14 (by kernel_rfl) (ys := fun _ => some xRF14) (fun st y h => by injection h with h; subst h; exact fun lk M => ⟨rfl, rfl⟩) ((fsF14 N lk M).symm.trans h)
def cvce14n0 : List Cv := []
def selce14n0 : St → List Nat := fun st => [((Eng.look st.env 0).cells.getD 0 .top).id, ((Eng.look st.env 0).cells.getD 1 .top).id, ((Eng.look st.env 0).cells.getD 2 .top).id]
noncomputable def ce14n0 (Fx : TF14) (R : Type) (test : List AV → List Blk → Bool) : CE R := ⟨14, test, fun args M => some (selce14n0 ⟨argEnv 0 args, M, [], .unk⟩), fun args M k => tst (Nat.beq args.length 1) (callFn CX 3 cvce14n0 sgF14 selce14n0 (FFF14 Fx) elF14 args M k)⟩
theorem okce14n0 (Fx : TF14) (h : RecOkF14 Fx) (R : Type) (test : List AV → List Blk → Bool) : CeOk CX (ce14n0 Fx R test) := ce_ok hX (fun o k => by cases o; rfl) h en14 (fun args M ids h => by injection h with h; exact ⟨rfl, h.symm⟩)
end Go.Proofs.YtdennlgnbecojaaDoor

namespace Go.Proofs.YtdennlgnbecojaaDoor
open Go Go.Eng
set_option maxRecDepth 100000

/-! ### F46: (ceiling/scope.view).row -/
inductive R46 where
  | r (x0c0 : Int) (x0c1 : ByteArray) (x0c2 : Int) (x0c3 : Int) (x0c4 : Int) (x0c5 : Int) (x0c6 : List Row) (x0c7 : Int) (x0c8 : Bool) (x0c9 : Int) (x0c10 : Int) (x0c11 : Bool) (x0c12 : Bool) (x0c13 : Int) (x0c14 : Int) (x0c15 : Int) (x0c16 : Int) (x0c17 : Bool) (x0c18 : Bool) (x0c19 : Int) (x0c20 : Int) (x0c21 : Int) (x1 : Bool) (b0 : List Row) (b1 : List Row) (b2 : List Row)
abbrev TF46 := List Row → List Row → Int → List Row → List Row → List Row → Option R46
def sgF46 : LSh := ⟨[(0, .agg [.own 0, .own 1, .own 2, .cell (.slice 113), .cell (.slice 117)]), (1, .one (.cell (.int .i64)))], [.row 58, .row 74, .row 45]⟩
def FFF46 (Fx : TF46) (s : St) : Option R46 := Fx (((Eng.look s.env 0).cells.getD 3 .top).rows) (((Eng.look s.env 0).cells.getD 4 .top).rows) ((Eng.look s.env 1).toI) ((s.mem.getD 0 .dead).rows) ((s.mem.getD 1 .dead).rows) ((s.mem.getD 2 .dead).rows)
def valF46 (o : R46) : AV := match o with | .r x0c0 x0c1 x0c2 x0c3 x0c4 x0c5 x0c6 x0c7 x0c8 x0c9 x0c10 x0c11 x0c12 x0c13 x0c14 x0c15 x0c16 x0c17 x0c18 x0c19 x0c20 x0c21 x1 b0 b1 b2 => .tup [.agg [.int .u8 x0c0, .str x0c1, .int .i64 x0c2, .int .u8 x0c3, .int .i64 x0c4, .int .i64 x0c5, .list 90 x0c6, .int .i64 x0c7, .bool x0c8, .int .i64 x0c9, .int .i64 x0c10, .bool x0c11, .bool x0c12, .int .u8 x0c13, .int .i64 x0c14, .int .i64 x0c15, .int .i64 x0c16, .bool x0c17, .bool x0c18, .int .i64 x0c19, .int .i64 x0c20, .int .i64 x0c21], .bool x1]
def memF46 (o : R46) : List Blk := match o with | .r x0c0 x0c1 x0c2 x0c3 x0c4 x0c5 x0c6 x0c7 x0c8 x0c9 x0c10 x0c11 x0c12 x0c13 x0c14 x0c15 x0c16 x0c17 x0c18 x0c19 x0c20 x0c21 x1 b0 b1 b2 => [.row 58 b0, .row 74 b1, .row 45 b2]
def elF46 {R : Type} (o : R46) (k : AV → List Blk → Option R) : Option R := match o with | .r x0c0 x0c1 x0c2 x0c3 x0c4 x0c5 x0c6 x0c7 x0c8 x0c9 x0c10 x0c11 x0c12 x0c13 x0c14 x0c15 x0c16 x0c17 x0c18 x0c19 x0c20 x0c21 x1 b0 b1 b2 => k (.tup [.agg [.int .u8 x0c0, .str x0c1, .int .i64 x0c2, .int .u8 x0c3, .int .i64 x0c4, .int .i64 x0c5, .list 90 x0c6, .int .i64 x0c7, .bool x0c8, .int .i64 x0c9, .int .i64 x0c10, .bool x0c11, .bool x0c12, .int .u8 x0c13, .int .i64 x0c14, .int .i64 x0c15, .int .i64 x0c16, .bool x0c17, .bool x0c18, .int .i64 x0c19, .int .i64 x0c20, .int .i64 x0c21], .bool x1]) [.row 58 b0, .row 74 b1, .row 45 b2]
def RecOkF46 (Fx : TF46) : Prop := ∀ lk M o, FFF46 Fx (canS sgF46 lk M) = some o → FCalls CX 46 3 (argsE 2 (canS sgF46 lk M).env) (canS sgF46 lk M).mem (valF46 o) (memF46 o)
noncomputable def csF46 (N : Nat) (R : Type) : List (CE R) := []
theorem hcsF46 (N : Nat) (R : Type) : AllE (CeOk CX) (csF46 N R) := trivial
noncomputable def T46ur1 (N : Nat) (R : Type) : LTab R := mkTab ⟨23, 8388607⟩ (csF46 N R) (noY) [] [] []
theorem okT46ur1 (N : Nat) (R : Type) : (T46ur1 N R).Ok CX code46 := mkTab_ok (hcsF46 N R) (noY_ok) (trivial) (trivial) (trivial)
def rsF46 : List ResultVar := [.cell 4 45, .tmp 5]
def F46 : Nat → TF46
  | 0 => fun _ _ _ _ _ _ => none
  | N + 1 => fun x0c3 x0c4 x1 b0 b1 b2 =>
    match decide (x1 < (0 : Int)) with
    | true =>
      some (.r 0 ByteArray.empty 0 0 0 0 ([]) 0 false 0 0 false false 0 0 0 0 false false 0 0 0 false b0 b1 b2)
    | false =>
      match decide (((b2.length : Int)) ≤ x1) with
      | true =>
        some (.r 0 ByteArray.empty 0 0 0 0 ([]) 0 false 0 0 false false 0 0 0 0 false false 0 0 0 false b0 b1 b2)
      | false =>
        tst (decide ((0 : Int) ≤ x1) && decide (x1 < ((b2.length : Int)))) <|
        tst (decide (x1.toNat < b2.length)) <|
        some (.r ((((b2.getD x1.toNat [])).getD 0 .top).toI) ((((b2.getD x1.toNat [])).getD 1 .top).toS) ((((b2.getD x1.toNat [])).getD 2 .top).toI) ((((b2.getD x1.toNat [])).getD 3 .top).toI) ((((b2.getD x1.toNat [])).getD 4 .top).toI) ((((b2.getD x1.toNat [])).getD 5 .top).toI) ((((b2.getD x1.toNat [])).getD 6 .top).rows) ((((b2.getD x1.toNat [])).getD 7 .top).toI) ((((b2.getD x1.toNat [])).getD 8 .top).toB) ((((b2.getD x1.toNat [])).getD 9 .top).toI) ((((b2.getD x1.toNat [])).getD 10 .top).toI) ((((b2.getD x1.toNat [])).getD 11 .top).toB) ((((b2.getD x1.toNat [])).getD 12 .top).toB) ((((b2.getD x1.toNat [])).getD 13 .top).toI) ((((b2.getD x1.toNat [])).getD 14 .top).toI) ((((b2.getD x1.toNat [])).getD 15 .top).toI) ((((b2.getD x1.toNat [])).getD 16 .top).toI) ((((b2.getD x1.toNat [])).getD 17 .top).toB) ((((b2.getD x1.toNat [])).getD 18 .top).toB) ((((b2.getD x1.toNat [])).getD 19 .top).toI) ((((b2.getD x1.toNat [])).getD 20 .top).toI) ((((b2.getD x1.toNat [])).getD 21 .top).toI) true b0 b1 b2)
def xRF46 : XSh R46 := ⟨[.frza 0 [.raw, .raw, .raw, .raw, .raw, .raw, .slice 90, .raw, .raw, .raw, .raw, .raw, .raw, .raw, .raw, .raw, .raw, .raw, .raw, .raw, .raw, .raw]], ⟨[(0, .agg [.cell (.int .u8), .cell (.str), .cell (.int .i64), .cell (.int .u8), .cell (.int .i64), .cell (.int .i64), .cell (.slice 90), .cell (.int .i64), .cell (.bool), .cell (.int .i64), .cell (.int .i64), .cell (.bool), .cell (.bool), .cell (.int .u8), .cell (.int .i64), .cell (.int .i64), .cell (.int .i64), .cell (.bool), .cell (.bool), .cell (.int .i64), .cell (.int .i64), .cell (.int .i64)]), (1, .one (.cell (.bool)))], [.row 58, .row 74, .row 45]⟩, fun st => [0, 1, 2], fun s => .r (((Eng.look s.env 0).cells.getD 0 .top).toI) (((Eng.look s.env 0).cells.getD 1 .top).toS) (((Eng.look s.env 0).cells.getD 2 .top).toI) (((Eng.look s.env 0).cells.getD 3 .top).toI) (((Eng.look s.env 0).cells.getD 4 .top).toI) (((Eng.look s.env 0).cells.getD 5 .top).toI) (((Eng.look s.env 0).cells.getD 6 .top).rows) (((Eng.look s.env 0).cells.getD 7 .top).toI) (((Eng.look s.env 0).cells.getD 8 .top).toB) (((Eng.look s.env 0).cells.getD 9 .top).toI) (((Eng.look s.env 0).cells.getD 10 .top).toI) (((Eng.look s.env 0).cells.getD 11 .top).toB) (((Eng.look s.env 0).cells.getD 12 .top).toB) (((Eng.look s.env 0).cells.getD 13 .top).toI) (((Eng.look s.env 0).cells.getD 14 .top).toI) (((Eng.look s.env 0).cells.getD 15 .top).toI) (((Eng.look s.env 0).cells.getD 16 .top).toI) (((Eng.look s.env 0).cells.getD 17 .top).toB) (((Eng.look s.env 0).cells.getD 18 .top).toB) (((Eng.look s.env 0).cells.getD 19 .top).toI) (((Eng.look s.env 0).cells.getD 20 .top).toI) (((Eng.look s.env 0).cells.getD 21 .top).toI) ((Eng.look s.env 1).toB) ((s.mem.getD 0 .dead).rows) ((s.mem.getD 1 .dead).rows) ((s.mem.getD 2 .dead).rows)⟩
theorem fsF46 : ∀ (N : Nat) (lk : Nat → AV) (M : List Blk), FFF46 (F46 (N + 1)) (canS sgF46 lk M) = evfn CX (T46ur1 N R46) code46 rsF46 (argsE 2 (canS sgF46 lk M).env) (canS sgF46 lk M).mem (goRt CX 3 2 (fun _ => some xRF46)) := by intro N lk M; kernel_rfl
theorem soundF46 : ∀ N, RecOkF46 (F46 N)
  | 0, lk, M, o, h => by cases h
  | N + 1, lk, M, o, h => fn_soundt hX (okT46ur1 N R46) Tryd.func46 hb46 rfl en46 (by kernel_rfl) (ys := fun _ => some xRF46) (fun st y h => by injection h with h; subst h; exact fun lk M => ⟨rfl, rfl⟩) ((fsF46 N lk M).symm.trans h)
def cvce46n0 : List Cv := []
def selce46n0 : St → List Nat := fun st => [((Eng.look st.env 0).cells.getD 0 .top).id, ((Eng.look st.env 0).cells.getD 1 .top).id, ((Eng.look st.env 0).cells.getD 2 .top).id]
noncomputable def ce46n0 (Fx : TF46) (R : Type) (test : List AV → List Blk → Bool) : CE R := ⟨46, test, fun args M => some (selce46n0 ⟨argEnv 0 args, M, [], .unk⟩), fun args M k => tst (Nat.beq args.length 2) (callFn CX 3 cvce46n0 sgF46 selce46n0 (FFF46 Fx) elF46 args M k)⟩
theorem okce46n0 (Fx : TF46) (h : RecOkF46 Fx) (R : Type) (test : List AV → List Blk → Bool) : CeOk CX (ce46n0 Fx R test) := ce_ok hX (fun o k => by cases o; rfl) h en46 (fun args M ids h => by injection h with h; exact ⟨rfl, h.symm⟩)
end Go.Proofs.YtdennlgnbecojaaDoor

namespace Go.Proofs.YtdennlgnbecojaaDoor
open Go Go.Eng
set_option maxRecDepth 100000

/-! ### F26: ceiling/scope.Base -/
inductive R26 where
  | r (x0 : Int) (b0 : List Row) (b1 : List Row) (b2 : List Row)
abbrev TF26 := List Row → List Row → Int → List Row → List Row → List Row → Option R26
def sgF26 : LSh := ⟨[(0, .agg [.own 0, .own 1, .own 2, .cell (.slice 113), .cell (.slice 117)]), (1, .one (.cell (.int .i64)))], [.row 58, .row 74, .row 45]⟩
def FFF26 (Fx : TF26) (s : St) : Option R26 := Fx (((Eng.look s.env 0).cells.getD 3 .top).rows) (((Eng.look s.env 0).cells.getD 4 .top).rows) ((Eng.look s.env 1).toI) ((s.mem.getD 0 .dead).rows) ((s.mem.getD 1 .dead).rows) ((s.mem.getD 2 .dead).rows)
def valF26 (o : R26) : AV := match o with | .r x0 b0 b1 b2 => .int .i64 x0
def memF26 (o : R26) : List Blk := match o with | .r x0 b0 b1 b2 => [.row 58 b0, .row 74 b1, .row 45 b2]
def elF26 {R : Type} (o : R26) (k : AV → List Blk → Option R) : Option R := match o with | .r x0 b0 b1 b2 => k (.int .i64 x0) [.row 58 b0, .row 74 b1, .row 45 b2]
def RecOkF26 (Fx : TF26) : Prop := ∀ lk M o, FFF26 Fx (canS sgF26 lk M) = some o → FCalls CX 26 3 (argsE 2 (canS sgF26 lk M).env) (canS sgF26 lk M).mem (valF26 o) (memF26 o)
noncomputable def csF26 (N : Nat) (R : Type) : List (CE R) := [ce46n0 (F46 N) R (fun _ _ => true)]
theorem hcsF26 (N : Nat) (R : Type) : AllE (CeOk CX) (csF26 N R) := ⟨okce46n0 (F46 N) (soundF46 N) R (fun _ _ => true), trivial⟩
inductive OJ26a240 where
  | nx (b0 : List Row) (b1 : List Row) (b2 : List Row) (b3c0 : Int) (b3c1 : ByteArray) (b3c2 : Int) (b3c3 : Int) (b3c4 : Int) (b3c5 : Int) (b3c6 : List Row) (b3c7 : Int) (b3c8 : Bool) (b3c9 : Int) (b3c10 : Int) (b3c11 : Bool) (b3c12 : Bool) (b3c13 : Int) (b3c14 : Int) (b3c15 : Int) (b3c16 : Int) (b3c17 : Bool) (b3c18 : Bool) (b3c19 : Int) (b3c20 : Int) (b3c21 : Int)
  | x0 (b0 : List Row) (b1 : List Row) (b2 : List Row) (b3c0 : Int) (b3c1 : ByteArray) (b3c2 : Int) (b3c3 : Int) (b3c4 : Int) (b3c5 : Int) (b3c6 : List Row) (b3c7 : Int) (b3c8 : Bool) (b3c9 : Int) (b3c10 : Int) (b3c11 : Bool) (b3c12 : Bool) (b3c13 : Int) (b3c14 : Int) (b3c15 : Int) (b3c16 : Int) (b3c17 : Bool) (b3c18 : Bool) (b3c19 : Int) (b3c20 : Int) (b3c21 : Int)
def J26a240 (N : Nat) : Int → List Row → List Row → List Row → Int → ByteArray → Int → Int → Int → Int → List Row → Int → Bool → Int → Int → Bool → Bool → Int → Int → Int → Int → Bool → Bool → Int → Int → Int → Option OJ26a240 := fun x1 b0 b1 b2 b3c0 b3c1 b3c2 b3c3 b3c4 b3c5 b3c6 b3c7 b3c8 b3c9 b3c10 b3c11 b3c12 b3c13 b3c14 b3c15 b3c16 b3c17 b3c18 b3c19 b3c20 b3c21 =>
    match b3c8 with
    | true =>
      match decide ((0 : Int) ≤ b3c7) with
      | true =>
        match decide (b3c7 < x1) with
        | true =>
          some (.nx b0 b1 b2 b3c0 b3c1 b3c2 b3c3 b3c4 b3c5 b3c6 b3c7 b3c8 b3c9 b3c10 b3c11 b3c12 b3c13 b3c14 b3c15 b3c16 b3c17 b3c18 b3c19 b3c20 b3c21)
        | false =>
          some (.x0 b0 b1 b2 b3c0 b3c1 b3c2 b3c3 b3c4 b3c5 b3c6 b3c7 b3c8 b3c9 b3c10 b3c11 b3c12 b3c13 b3c14 b3c15 b3c16 b3c17 b3c18 b3c19 b3c20 b3c21)
      | false =>
        some (.x0 b0 b1 b2 b3c0 b3c1 b3c2 b3c3 b3c4 b3c5 b3c6 b3c7 b3c8 b3c9 b3c10 b3c11 b3c12 b3c13 b3c14 b3c15 b3c16 b3c17 b3c18 b3c19 b3c20 b3c21)
    | false =>
      some (.x0 b0 b1 b2 b3c0 b3c1 b3c2 b3c3 b3c4 b3c5 b3c6 b3c7 b3c8 b3c9 b3c10 b3c11 b3c12 b3c13 b3c14 b3c15 b3c16 b3c17 b3c18 b3c19 b3c20 b3c21)
def LFJ26a240 (N : Nat) (s : St) : Option OJ26a240 := J26a240 N ((Eng.look s.env 1).toI) ((s.mem.getD 0 .dead).rows) ((s.mem.getD 1 .dead).rows) ((s.mem.getD 2 .dead).rows) (((s.mem.getD 3 .dead).cells.getD 0 .top).toI) (((s.mem.getD 3 .dead).cells.getD 1 .top).toS) (((s.mem.getD 3 .dead).cells.getD 2 .top).toI) (((s.mem.getD 3 .dead).cells.getD 3 .top).toI) (((s.mem.getD 3 .dead).cells.getD 4 .top).toI) (((s.mem.getD 3 .dead).cells.getD 5 .top).toI) (((s.mem.getD 3 .dead).cells.getD 6 .top).rows) (((s.mem.getD 3 .dead).cells.getD 7 .top).toI) (((s.mem.getD 3 .dead).cells.getD 8 .top).toB) (((s.mem.getD 3 .dead).cells.getD 9 .top).toI) (((s.mem.getD 3 .dead).cells.getD 10 .top).toI) (((s.mem.getD 3 .dead).cells.getD 11 .top).toB) (((s.mem.getD 3 .dead).cells.getD 12 .top).toB) (((s.mem.getD 3 .dead).cells.getD 13 .top).toI) (((s.mem.getD 3 .dead).cells.getD 14 .top).toI) (((s.mem.getD 3 .dead).cells.getD 15 .top).toI) (((s.mem.getD 3 .dead).cells.getD 16 .top).toI) (((s.mem.getD 3 .dead).cells.getD 17 .top).toB) (((s.mem.getD 3 .dead).cells.getD 18 .top).toB) (((s.mem.getD 3 .dead).cells.getD 19 .top).toI) (((s.mem.getD 3 .dead).cells.getD 20 .top).toI) (((s.mem.getD 3 .dead).cells.getD 21 .top).toI)
def sgJ26a240 : LSh := ⟨[(1, .one (.cell (.int .i64))), (5, .one (.ptr 3 0 0))], [.row 58, .row 74, .row 45, .var [.int .u8, .str, .int .i64, .int .u8, .int .i64, .int .i64, .any, .int .i64, .bool, .int .i64, .int .i64, .bool, .bool, .int .u8, .int .i64, .int .i64, .int .i64, .bool, .bool, .int .i64, .int .i64, .int .i64] [.cell (.int .u8), .cell (.str), .cell (.int .i64), .cell (.int .u8), .cell (.int .i64), .cell (.int .i64), .cell (.slice 90), .cell (.int .i64), .cell (.bool), .cell (.int .i64), .cell (.int .i64), .cell (.bool), .cell (.bool), .cell (.int .u8), .cell (.int .i64), .cell (.int .i64), .cell (.int .i64), .cell (.bool), .cell (.bool), .cell (.int .i64), .cell (.int .i64), .cell (.int .i64)]]⟩
def ceJ26a240 : List Cv := []
def seJ26a240 : St → List Nat := fun st => [0, 1, 2, (Eng.look st.env 5).id]
def xJ26a240wnx : XSh OJ26a240 := ⟨[], ⟨[], [.row 58, .row 74, .row 45, .var [.int .u8, .str, .int .i64, .int .u8, .int .i64, .int .i64, .any, .int .i64, .bool, .int .i64, .int .i64, .bool, .bool, .int .u8, .int .i64, .int .i64, .int .i64, .bool, .bool, .int .i64, .int .i64, .int .i64] [.cell (.int .u8), .cell (.str), .cell (.int .i64), .cell (.int .u8), .cell (.int .i64), .cell (.int .i64), .cell (.slice 90), .cell (.int .i64), .cell (.bool), .cell (.int .i64), .cell (.int .i64), .cell (.bool), .cell (.bool), .cell (.int .u8), .cell (.int .i64), .cell (.int .i64), .cell (.int .i64), .cell (.bool), .cell (.bool), .cell (.int .i64), .cell (.int .i64), .cell (.int .i64)]]⟩, fun st => [0, 1, 2, 3], fun s => .nx ((s.mem.getD 0 .dead).rows) ((s.mem.getD 1 .dead).rows) ((s.mem.getD 2 .dead).rows) (((s.mem.getD 3 .dead).cells.getD 0 .top).toI) (((s.mem.getD 3 .dead).cells.getD 1 .top).toS) (((s.mem.getD 3 .dead).cells.getD 2 .top).toI) (((s.mem.getD 3 .dead).cells.getD 3 .top).toI) (((s.mem.getD 3 .dead).cells.getD 4 .top).toI) (((s.mem.getD 3 .dead).cells.getD 5 .top).toI) (((s.mem.getD 3 .dead).cells.getD 6 .top).rows) (((s.mem.getD 3 .dead).cells.getD 7 .top).toI) (((s.mem.getD 3 .dead).cells.getD 8 .top).toB) (((s.mem.getD 3 .dead).cells.getD 9 .top).toI) (((s.mem.getD 3 .dead).cells.getD 10 .top).toI) (((s.mem.getD 3 .dead).cells.getD 11 .top).toB) (((s.mem.getD 3 .dead).cells.getD 12 .top).toB) (((s.mem.getD 3 .dead).cells.getD 13 .top).toI) (((s.mem.getD 3 .dead).cells.getD 14 .top).toI) (((s.mem.getD 3 .dead).cells.getD 15 .top).toI) (((s.mem.getD 3 .dead).cells.getD 16 .top).toI) (((s.mem.getD 3 .dead).cells.getD 17 .top).toB) (((s.mem.getD 3 .dead).cells.getD 18 .top).toB) (((s.mem.getD 3 .dead).cells.getD 19 .top).toI) (((s.mem.getD 3 .dead).cells.getD 20 .top).toI) (((s.mem.getD 3 .dead).cells.getD 21 .top).toI)⟩
def xJ26a240wx0 : XSh OJ26a240 := ⟨[], ⟨[], [.row 58, .row 74, .row 45, .var [.int .u8, .str, .int .i64, .int .u8, .int .i64, .int .i64, .any, .int .i64, .bool, .int .i64, .int .i64, .bool, .bool, .int .u8, .int .i64, .int .i64, .int .i64, .bool, .bool, .int .i64, .int .i64, .int .i64] [.cell (.int .u8), .cell (.str), .cell (.int .i64), .cell (.int .u8), .cell (.int .i64), .cell (.int .i64), .cell (.slice 90), .cell (.int .i64), .cell (.bool), .cell (.int .i64), .cell (.int .i64), .cell (.bool), .cell (.bool), .cell (.int .u8), .cell (.int .i64), .cell (.int .i64), .cell (.int .i64), .cell (.bool), .cell (.bool), .cell (.int .i64), .cell (.int .i64), .cell (.int .i64)]]⟩, fun st => [0, 1, 2, 3], fun s => .x0 ((s.mem.getD 0 .dead).rows) ((s.mem.getD 1 .dead).rows) ((s.mem.getD 2 .dead).rows) (((s.mem.getD 3 .dead).cells.getD 0 .top).toI) (((s.mem.getD 3 .dead).cells.getD 1 .top).toS) (((s.mem.getD 3 .dead).cells.getD 2 .top).toI) (((s.mem.getD 3 .dead).cells.getD 3 .top).toI) (((s.mem.getD 3 .dead).cells.getD 4 .top).toI) (((s.mem.getD 3 .dead).cells.getD 5 .top).toI) (((s.mem.getD 3 .dead).cells.getD 6 .top).rows) (((s.mem.getD 3 .dead).cells.getD 7 .top).toI) (((s.mem.getD 3 .dead).cells.getD 8 .top).toB) (((s.mem.getD 3 .dead).cells.getD 9 .top).toI) (((s.mem.getD 3 .dead).cells.getD 10 .top).toI) (((s.mem.getD 3 .dead).cells.getD 11 .top).toB) (((s.mem.getD 3 .dead).cells.getD 12 .top).toB) (((s.mem.getD 3 .dead).cells.getD 13 .top).toI) (((s.mem.getD 3 .dead).cells.getD 14 .top).toI) (((s.mem.getD 3 .dead).cells.getD 15 .top).toI) (((s.mem.getD 3 .dead).cells.getD 16 .top).toI) (((s.mem.getD 3 .dead).cells.getD 17 .top).toB) (((s.mem.getD 3 .dead).cells.getD 18 .top).toB) (((s.mem.getD 3 .dead).cells.getD 19 .top).toI) (((s.mem.getD 3 .dead).cells.getD 20 .top).toI) (((s.mem.getD 3 .dead).cells.getD 21 .top).toI)⟩
def xsJ26a240 : Ex → St → Option (XSh OJ26a240) := fun e st => match e with
  | .normal => some xJ26a240wnx
  | .exit 0 => some xJ26a240wx0
  | _ => none
def exJ26a240 (o : OJ26a240) : Ex := match o with | .nx b0 b1 b2 b3c0 b3c1 b3c2 b3c3 b3c4 b3c5 b3c6 b3c7 b3c8 b3c9 b3c10 b3c11 b3c12 b3c13 b3c14 b3c15 b3c16 b3c17 b3c18 b3c19 b3c20 b3c21 => .normal | .x0 b0 b1 b2 b3c0 b3c1 b3c2 b3c3 b3c4 b3c5 b3c6 b3c7 b3c8 b3c9 b3c10 b3c11 b3c12 b3c13 b3c14 b3c15 b3c16 b3c17 b3c18 b3c19 b3c20 b3c21 => (.exit 0)
def stJ26a240 (o : OJ26a240) : St := match o with | .nx b0 b1 b2 b3c0 b3c1 b3c2 b3c3 b3c4 b3c5 b3c6 b3c7 b3c8 b3c9 b3c10 b3c11 b3c12 b3c13 b3c14 b3c15 b3c16 b3c17 b3c18 b3c19 b3c20 b3c21 => ⟨[], [.row 58 b0, .row 74 b1, .row 45 b2, .var [.int .u8, .str, .int .i64, .int .u8, .int .i64, .int .i64, .any, .int .i64, .bool, .int .i64, .int .i64, .bool, .bool, .int .u8, .int .i64, .int .i64, .int .i64, .bool, .bool, .int .i64, .int .i64, .int .i64] [.int .u8 b3c0, .str b3c1, .int .i64 b3c2, .int .u8 b3c3, .int .i64 b3c4, .int .i64 b3c5, .list 90 b3c6, .int .i64 b3c7, .bool b3c8, .int .i64 b3c9, .int .i64 b3c10, .bool b3c11, .bool b3c12, .int .u8 b3c13, .int .i64 b3c14, .int .i64 b3c15, .int .i64 b3c16, .bool b3c17, .bool b3c18, .int .i64 b3c19, .int .i64 b3c20, .int .i64 b3c21]], [], .unk⟩ | .x0 b0 b1 b2 b3c0 b3c1 b3c2 b3c3 b3c4 b3c5 b3c6 b3c7 b3c8 b3c9 b3c10 b3c11 b3c12 b3c13 b3c14 b3c15 b3c16 b3c17 b3c18 b3c19 b3c20 b3c21 => ⟨[], [.row 58 b0, .row 74 b1, .row 45 b2, .var [.int .u8, .str, .int .i64, .int .u8, .int .i64, .int .i64, .any, .int .i64, .bool, .int .i64, .int .i64, .bool, .bool, .int .u8, .int .i64, .int .i64, .int .i64, .bool, .bool, .int .i64, .int .i64, .int .i64] [.int .u8 b3c0, .str b3c1, .int .i64 b3c2, .int .u8 b3c3, .int .i64 b3c4, .int .i64 b3c5, .list 90 b3c6, .int .i64 b3c7, .bool b3c8, .int .i64 b3c9, .int .i64 b3c10, .bool b3c11, .bool b3c12, .int .u8 b3c13, .int .i64 b3c14, .int .i64 b3c15, .int .i64 b3c16, .bool b3c17, .bool b3c18, .int .i64 b3c19, .int .i64 b3c20, .int .i64 b3c21]], [], .unk⟩
def elJ26a240 {R : Type} (o : OJ26a240) (k : Ex → St → Option R) : Option R := match o with | .nx b0 b1 b2 b3c0 b3c1 b3c2 b3c3 b3c4 b3c5 b3c6 b3c7 b3c8 b3c9 b3c10 b3c11 b3c12 b3c13 b3c14 b3c15 b3c16 b3c17 b3c18 b3c19 b3c20 b3c21 => k .normal ⟨[], [.row 58 b0, .row 74 b1, .row 45 b2, .var [.int .u8, .str, .int .i64, .int .u8, .int .i64, .int .i64, .any, .int .i64, .bool, .int .i64, .int .i64, .bool, .bool, .int .u8, .int .i64, .int .i64, .int .i64, .bool, .bool, .int .i64, .int .i64, .int .i64] [.int .u8 b3c0, .str b3c1, .int .i64 b3c2, .int .u8 b3c3, .int .i64 b3c4, .int .i64 b3c5, .list 90 b3c6, .int .i64 b3c7, .bool b3c8, .int .i64 b3c9, .int .i64 b3c10, .bool b3c11, .bool b3c12, .int .u8 b3c13, .int .i64 b3c14, .int .i64 b3c15, .int .i64 b3c16, .bool b3c17, .bool b3c18, .int .i64 b3c19, .int .i64 b3c20, .int .i64 b3c21]], [], .unk⟩ | .x0 b0 b1 b2 b3c0 b3c1 b3c2 b3c3 b3c4 b3c5 b3c6 b3c7 b3c8 b3c9 b3c10 b3c11 b3c12 b3c13 b3c14 b3c15 b3c16 b3c17 b3c18 b3c19 b3c20 b3c21 => k (.exit 0) ⟨[], [.row 58 b0, .row 74 b1, .row 45 b2, .var [.int .u8, .str, .int .i64, .int .u8, .int .i64, .int .i64, .any, .int .i64, .bool, .int .i64, .int .i64, .bool, .bool, .int .u8, .int .i64, .int .i64, .int .i64, .bool, .bool, .int .i64, .int .i64, .int .i64] [.int .u8 b3c0, .str b3c1, .int .i64 b3c2, .int .u8 b3c3, .int .i64 b3c4, .int .i64 b3c5, .list 90 b3c6, .int .i64 b3c7, .bool b3c8, .int .i64 b3c9, .int .i64 b3c10, .bool b3c11, .bool b3c12, .int .u8 b3c13, .int .i64 b3c14, .int .i64 b3c15, .int .i64 b3c16, .bool b3c17, .bool b3c18, .int .i64 b3c19, .int .i64 b3c20, .int .i64 b3c21]], [], .unk⟩
theorem heJ26a240 {R : Type} (o : OJ26a240) (k : Ex → St → Option R) : elJ26a240 o k = k (exJ26a240 o) (stJ26a240 o) := by cases o <;> rfl
theorem hxJ26a240 : ∀ e st x, xsJ26a240 e st = some x → outOk x e exJ26a240 stJ26a240 := by
  intro e st x h
  unfold xsJ26a240 at h
  repeat' split at h
  all_goals first
    | (injection h with h; subst h; exact fun lk M => ⟨rfl, rfl⟩)
    | cases h
noncomputable def T26uc240 (N : Nat) (R : Type) : LTab R := mkTab ⟨37, 536805376⟩ (csF26 N R) (noY) [] [] []
theorem okT26uc240 (N : Nat) (R : Type) : (T26uc240 N R).Ok CX code26 := mkTab_ok (hcsF26 N R) (noY_ok) (trivial) (trivial) (trivial)
noncomputable def bdJ26a240 : Code := (codeAt code26 [false, false, false, false, true, true, true]).getD .skip
theorem hsJ26a240 (N : Nat) : ∀ (lk : Nat → AV) (M : List Blk), LFJ26a240 N (canS sgJ26a240 lk M) = evk CX (T26uc240 N OJ26a240) bdJ26a240 240 (canS sgJ26a240 lk M) (kontX CX 4 xsJ26a240) := by intro lk M; kernel_rfl
inductive OL26a60 where
  | x0 (x1 : Int) (b0 : List Row) (b1 : List Row) (b2 : List Row) (b3c3 : List Row) (b3c4 : List Row) (b4c0 : Int) (b4c1 : ByteArray) (b4c2 : Int) (b4c3 : Int) (b4c4 : Int) (b4c5 : Int) (b4c6 : List Row) (b4c7 : Int) (b4c8 : Bool) (b4c9 : Int) (b4c10 : Int) (b4c11 : Bool) (b4c12 : Bool) (b4c13 : Int) (b4c14 : Int) (b4c15 : Int) (b4c16 : Int) (b4c17 : Bool) (b4c18 : Bool) (b4c19 : Int) (b4c20 : Int) (b4c21 : Int)
def L26a60 (N : Nat) : Nat → Int → List Row → List Row → List Row → List Row → List Row → Int → ByteArray → Int → Int → Int → Int → List Row → Int → Bool → Int → Int → Bool → Bool → Int → Int → Int → Int → Bool → Bool → Int → Int → Int → Option OL26a60
  | 0 => fun _ _ _ _ _ _ _ _ _ _ _ _ _ _ _ _ _ _ _ _ _ _ _ _ _ _ _ _ => none
  | n + 1 => fun x1 b0 b1 b2 b3c3 b3c4 b4c0 b4c1 b4c2 b4c3 b4c4 b4c5 b4c6 b4c7 b4c8 b4c9 b4c10 b4c11 b4c12 b4c13 b4c14 b4c15 b4c16 b4c17 b4c18 b4c19 b4c20 b4c21 =>
    match J26a240 N x1 b0 b1 b2 b4c0 b4c1 b4c2 b4c3 b4c4 b4c5 b4c6 b4c7 b4c8 b4c9 b4c10 b4c11 b4c12 b4c13 b4c14 b4c15 b4c16 b4c17 b4c18 b4c19 b4c20 b4c21 with
    | none => none
    | some (.nx b0v2 b1v2 b2v2 b3c0v2 b3c1v2 b3c2v2 b3c3v2 b3c4v2 b3c5v2 b3c6v2 b3c7v2 b3c8v2 b3c9v2 b3c10v2 b3c11v2 b3c12v2 b3c13v2 b3c14v2 b3c15v2 b3c16v2 b3c17v2 b3c18v2 b3c19v2 b3c20v2 b3c21v2) =>
      tst (decide ((0 : Int) ≤ b3c7v2) && decide (b3c7v2 < ((b2v2.length : Int)))) <|
      tst (decide (b3c7v2.toNat < b2v2.length)) <|
      L26a60 N n b3c7v2 b0v2 b1v2 b2v2 b3c3 b3c4 ((((b2v2.getD b3c7v2.toNat [])).getD 0 .top).toI) ((((b2v2.getD b3c7v2.toNat [])).getD 1 .top).toS) ((((b2v2.getD b3c7v2.toNat [])).getD 2 .top).toI) ((((b2v2.getD b3c7v2.toNat [])).getD 3 .top).toI) ((((b2v2.getD b3c7v2.toNat [])).getD 4 .top).toI) ((((b2v2.getD b3c7v2.toNat [])).getD 5 .top).toI) ((((b2v2.getD b3c7v2.toNat [])).getD 6 .top).rows) ((((b2v2.getD b3c7v2.toNat [])).getD 7 .top).toI) ((((b2v2.getD b3c7v2.toNat [])).getD 8 .top).toB) ((((b2v2.getD b3c7v2.toNat [])).getD 9 .top).toI) ((((b2v2.getD b3c7v2.toNat [])).getD 10 .top).toI) ((((b2v2.getD b3c7v2.toNat [])).getD 11 .top).toB) ((((b2v2.getD b3c7v2.toNat [])).getD 12 .top).toB) ((((b2v2.getD b3c7v2.toNat [])).getD 13 .top).toI) ((((b2v2.getD b3c7v2.toNat [])).getD 14 .top).toI) ((((b2v2.getD b3c7v2.toNat [])).getD 15 .top).toI) ((((b2v2.getD b3c7v2.toNat [])).getD 16 .top).toI) ((((b2v2.getD b3c7v2.toNat [])).getD 17 .top).toB) ((((b2v2.getD b3c7v2.toNat [])).getD 18 .top).toB) ((((b2v2.getD b3c7v2.toNat [])).getD 19 .top).toI) ((((b2v2.getD b3c7v2.toNat [])).getD 20 .top).toI) ((((b2v2.getD b3c7v2.toNat [])).getD 21 .top).toI)
    | some (.x0 b0v3 b1v3 b2v3 b3c0v3 b3c1v3 b3c2v3 b3c3v3 b3c4v3 b3c5v3 b3c6v3 b3c7v3 b3c8v3 b3c9v3 b3c10v3 b3c11v3 b3c12v3 b3c13v3 b3c14v3 b3c15v3 b3c16v3 b3c17v3 b3c18v3 b3c19v3 b3c20v3 b3c21v3) =>
      some (.x0 x1 b0v3 b1v3 b2v3 b3c3 b3c4 b3c0v3 b3c1v3 b3c2v3 b3c3v3 b3c4v3 b3c5v3 b3c6v3 b3c7v3 b3c8v3 b3c9v3 b3c10v3 b3c11v3 b3c12v3 b3c13v3 b3c14v3 b3c15v3 b3c16v3 b3c17v3 b3c18v3 b3c19v3 b3c20v3 b3c21v3)
def LFL26a60 (N : Nat) (n : Nat) (s : St) : Option OL26a60 := L26a60 N n ((Eng.look s.env 1).toI) ((s.mem.getD 0 .dead).rows) ((s.mem.getD 1 .dead).rows) ((s.mem.getD 2 .dead).rows) (((s.mem.getD 3 .dead).cells.getD 3 .top).rows) (((s.mem.getD 3 .dead).cells.getD 4 .top).rows) (((s.mem.getD 4 .dead).cells.getD 0 .top).toI) (((s.mem.getD 4 .dead).cells.getD 1 .top).toS) (((s.mem.getD 4 .dead).cells.getD 2 .top).toI) (((s.mem.getD 4 .dead).cells.getD 3 .top).toI) (((s.mem.getD 4 .dead).cells.getD 4 .top).toI) (((s.mem.getD 4 .dead).cells.getD 5 .top).toI) (((s.mem.getD 4 .dead).cells.getD 6 .top).rows) (((s.mem.getD 4 .dead).cells.getD 7 .top).toI) (((s.mem.getD 4 .dead).cells.getD 8 .top).toB) (((s.mem.getD 4 .dead).cells.getD 9 .top).toI) (((s.mem.getD 4 .dead).cells.getD 10 .top).toI) (((s.mem.getD 4 .dead).cells.getD 11 .top).toB) (((s.mem.getD 4 .dead).cells.getD 12 .top).toB) (((s.mem.getD 4 .dead).cells.getD 13 .top).toI) (((s.mem.getD 4 .dead).cells.getD 14 .top).toI) (((s.mem.getD 4 .dead).cells.getD 15 .top).toI) (((s.mem.getD 4 .dead).cells.getD 16 .top).toI) (((s.mem.getD 4 .dead).cells.getD 17 .top).toB) (((s.mem.getD 4 .dead).cells.getD 18 .top).toB) (((s.mem.getD 4 .dead).cells.getD 19 .top).toI) (((s.mem.getD 4 .dead).cells.getD 20 .top).toI) (((s.mem.getD 4 .dead).cells.getD 21 .top).toI)
def sgL26a60 : LSh := ⟨[(1, .one (.cell (.int .i64))), (2, .one (.ptr 3 0 0)), (5, .one (.ptr 4 0 0))], [.row 58, .row 74, .row 45, .var [.any, .any, .any, .any, .any] [.own 0, .own 1, .own 2, .cell (.slice 113), .cell (.slice 117)], .var [.int .u8, .str, .int .i64, .int .u8, .int .i64, .int .i64, .any, .int .i64, .bool, .int .i64, .int .i64, .bool, .bool, .int .u8, .int .i64, .int .i64, .int .i64, .bool, .bool, .int .i64, .int .i64, .int .i64] [.cell (.int .u8), .cell (.str), .cell (.int .i64), .cell (.int .u8), .cell (.int .i64), .cell (.int .i64), .cell (.slice 90), .cell (.int .i64), .cell (.bool), .cell (.int .i64), .cell (.int .i64), .cell (.bool), .cell (.bool), .cell (.int .u8), .cell (.int .i64), .cell (.int .i64), .cell (.int .i64), .cell (.bool), .cell (.bool), .cell (.int .i64), .cell (.int .i64), .cell (.int .i64)]]⟩
def ceL26a60 : List Cv := []
def seL26a60 : St → List Nat := fun st => [0, 1, 2, (Eng.look st.env 2).id, (Eng.look st.env 5).id]
def xL26a60wx0 : XSh OL26a60 := ⟨[], ⟨[(1, .one (.cell (.int .i64)))], [.row 58, .row 74, .row 45, .var [.any, .any, .any, .any, .any] [.own 0, .own 1, .own 2, .cell (.slice 113), .cell (.slice 117)], .var [.int .u8, .str, .int .i64, .int .u8, .int .i64, .int .i64, .any, .int .i64, .bool, .int .i64, .int .i64, .bool, .bool, .int .u8, .int .i64, .int .i64, .int .i64, .bool, .bool, .int .i64, .int .i64, .int .i64] [.cell (.int .u8), .cell (.str), .cell (.int .i64), .cell (.int .u8), .cell (.int .i64), .cell (.int .i64), .cell (.slice 90), .cell (.int .i64), .cell (.bool), .cell (.int .i64), .cell (.int .i64), .cell (.bool), .cell (.bool), .cell (.int .u8), .cell (.int .i64), .cell (.int .i64), .cell (.int .i64), .cell (.bool), .cell (.bool), .cell (.int .i64), .cell (.int .i64), .cell (.int .i64)]]⟩, fun st => [0, 1, 2, 3, 4], fun s => .x0 ((Eng.look s.env 1).toI) ((s.mem.getD 0 .dead).rows) ((s.mem.getD 1 .dead).rows) ((s.mem.getD 2 .dead).rows) (((s.mem.getD 3 .dead).cells.getD 3 .top).rows) (((s.mem.getD 3 .dead).cells.getD 4 .top).rows) (((s.mem.getD 4 .dead).cells.getD 0 .top).toI) (((s.mem.getD 4 .dead).cells.getD 1 .top).toS) (((s.mem.getD 4 .dead).cells.getD 2 .top).toI) (((s.mem.getD 4 .dead).cells.getD 3 .top).toI) (((s.mem.getD 4 .dead).cells.getD 4 .top).toI) (((s.mem.getD 4 .dead).cells.getD 5 .top).toI) (((s.mem.getD 4 .dead).cells.getD 6 .top).rows) (((s.mem.getD 4 .dead).cells.getD 7 .top).toI) (((s.mem.getD 4 .dead).cells.getD 8 .top).toB) (((s.mem.getD 4 .dead).cells.getD 9 .top).toI) (((s.mem.getD 4 .dead).cells.getD 10 .top).toI) (((s.mem.getD 4 .dead).cells.getD 11 .top).toB) (((s.mem.getD 4 .dead).cells.getD 12 .top).toB) (((s.mem.getD 4 .dead).cells.getD 13 .top).toI) (((s.mem.getD 4 .dead).cells.getD 14 .top).toI) (((s.mem.getD 4 .dead).cells.getD 15 .top).toI) (((s.mem.getD 4 .dead).cells.getD 16 .top).toI) (((s.mem.getD 4 .dead).cells.getD 17 .top).toB) (((s.mem.getD 4 .dead).cells.getD 18 .top).toB) (((s.mem.getD 4 .dead).cells.getD 19 .top).toI) (((s.mem.getD 4 .dead).cells.getD 20 .top).toI) (((s.mem.getD 4 .dead).cells.getD 21 .top).toI)⟩
def xsL26a60 : Ex → St → Option (XSh OL26a60) := fun e st => match e with
  | .exit 0 => some xL26a60wx0
  | _ => none
def exL26a60 (o : OL26a60) : Ex := match o with | .x0 x1 b0 b1 b2 b3c3 b3c4 b4c0 b4c1 b4c2 b4c3 b4c4 b4c5 b4c6 b4c7 b4c8 b4c9 b4c10 b4c11 b4c12 b4c13 b4c14 b4c15 b4c16 b4c17 b4c18 b4c19 b4c20 b4c21 => (.exit 0)
def stL26a60 (o : OL26a60) : St := match o with | .x0 x1 b0 b1 b2 b3c3 b3c4 b4c0 b4c1 b4c2 b4c3 b4c4 b4c5 b4c6 b4c7 b4c8 b4c9 b4c10 b4c11 b4c12 b4c13 b4c14 b4c15 b4c16 b4c17 b4c18 b4c19 b4c20 b4c21 => ⟨[(1, .int .i64 x1)], [.row 58 b0, .row 74 b1, .row 45 b2, .var [.any, .any, .any, .any, .any] [.own 0, .own 1, .own 2, .list 113 b3c3, .list 117 b3c4], .var [.int .u8, .str, .int .i64, .int .u8, .int .i64, .int .i64, .any, .int .i64, .bool, .int .i64, .int .i64, .bool, .bool, .int .u8, .int .i64, .int .i64, .int .i64, .bool, .bool, .int .i64, .int .i64, .int .i64] [.int .u8 b4c0, .str b4c1, .int .i64 b4c2, .int .u8 b4c3, .int .i64 b4c4, .int .i64 b4c5, .list 90 b4c6, .int .i64 b4c7, .bool b4c8, .int .i64 b4c9, .int .i64 b4c10, .bool b4c11, .bool b4c12, .int .u8 b4c13, .int .i64 b4c14, .int .i64 b4c15, .int .i64 b4c16, .bool b4c17, .bool b4c18, .int .i64 b4c19, .int .i64 b4c20, .int .i64 b4c21]], [], .unk⟩
def elL26a60 {R : Type} (o : OL26a60) (k : Ex → St → Option R) : Option R := match o with | .x0 x1 b0 b1 b2 b3c3 b3c4 b4c0 b4c1 b4c2 b4c3 b4c4 b4c5 b4c6 b4c7 b4c8 b4c9 b4c10 b4c11 b4c12 b4c13 b4c14 b4c15 b4c16 b4c17 b4c18 b4c19 b4c20 b4c21 => k (.exit 0) ⟨[(1, .int .i64 x1)], [.row 58 b0, .row 74 b1, .row 45 b2, .var [.any, .any, .any, .any, .any] [.own 0, .own 1, .own 2, .list 113 b3c3, .list 117 b3c4], .var [.int .u8, .str, .int .i64, .int .u8, .int .i64, .int .i64, .any, .int .i64, .bool, .int .i64, .int .i64, .bool, .bool, .int .u8, .int .i64, .int .i64, .int .i64, .bool, .bool, .int .i64, .int .i64, .int .i64] [.int .u8 b4c0, .str b4c1, .int .i64 b4c2, .int .u8 b4c3, .int .i64 b4c4, .int .i64 b4c5, .list 90 b4c6, .int .i64 b4c7, .bool b4c8, .int .i64 b4c9, .int .i64 b4c10, .bool b4c11, .bool b4c12, .int .u8 b4c13, .int .i64 b4c14, .int .i64 b4c15, .int .i64 b4c16, .bool b4c17, .bool b4c18, .int .i64 b4c19, .int .i64 b4c20, .int .i64 b4c21]], [], .unk⟩
theorem heL26a60 {R : Type} (o : OL26a60) (k : Ex → St → Option R) : elL26a60 o k = k (exL26a60 o) (stL26a60 o) := by cases o <;> rfl
theorem hxL26a60 : ∀ e st x, xsL26a60 e st = some x → outOk x e exL26a60 stL26a60 := by
  intro e st x h
  unfold xsL26a60 at h
  repeat' split at h
  all_goals first
    | (injection h with h; subst h; exact fun lk M => ⟨rfl, rfl⟩)
    | cases h
noncomputable def T26ul60 (N : Nat) (R : Type) : LTab R := mkTab ⟨37, 68719411202⟩ (csF26 N R) (noY) [] [] [(240, fun st k => callLoop CX 4 536805376 ceJ26a240 sgJ26a240 seJ26a240 ⟨37, 68719411202⟩ (LFJ26a240 N) elJ26a240 st k)]
theorem okT26ul60 (N : Nat) (R : Type) : (T26ul60 N R).Ok CX code26 := mkTab_ok (hcsF26 N R) (noY_ok) (trivial) (trivial) (⟨cut_ok hX (path := [false, false, false, false, true, true, true]) (by kernel_rfl) (by rfl) (okT26uc240 N OJ26a240) (hsJ26a240 N) hxJ26a240 rfl heJ26a240, trivial⟩)
noncomputable def bdL26a60 : Code := match codeAt code26 [false, false, true, true, true] with | some (.loop c) => c | _ => .skip
theorem hsL26a60 (N : Nat) : ∀ (n : Nat) (lk : Nat → AV) (M : List Blk), LFL26a60 N (n + 1) (canS sgL26a60 lk M) = evk CX (T26ul60 N OL26a60) bdL26a60 (2 * 60) (canS sgL26a60 lk M) (kont CX 5 [] sgL26a60 (fun st => [0, 1, 2, 3, 4]) xsL26a60 (LFL26a60 N n)) := by intro n lk M; kernel_rfl
noncomputable def T26ur1 (N : Nat) (R : Type) : LTab R := mkTab ⟨37, 137438953471⟩ (csF26 N R) (noY) [(60, fun st k => callLoop CX 5 68719411202 ceL26a60 sgL26a60 seL26a60 ⟨37, 137438953471⟩ (LFL26a60 N N) elL26a60 st k)] [] []
theorem okT26ur1 (N : Nat) (R : Type) : (T26ur1 N R).Ok CX code26 := mkTab_ok (hcsF26 N R) (noY_ok) (⟨loop_ok hX (path := [false, false, true, true, true]) (by kernel_rfl) (by rfl) (okT26ul60 N OL26a60) (fun _ _ => rfl) (hsL26a60 N) hxL26a60 rfl heL26a60, trivial⟩) (trivial) (trivial)
def rsF26 : List ResultVar := [.tmp 4]
def F26 : Nat → TF26
  | 0 => fun _ _ _ _ _ _ => none
  | N + 1 => fun x0c3 x0c4 x1 b0 b1 b2 =>
    match F46 N x0c3 x0c4 x1 b0 b1 b2 with
    | none => none
    | some (.r rx0c0v1 rx0c1v1 rx0c2v1 rx0c3v1 rx0c4v1 rx0c5v1 rx0c6v1 rx0c7v1 rx0c8v1 rx0c9v1 rx0c10v1 rx0c11v1 rx0c12v1 rx0c13v1 rx0c14v1 rx0c15v1 rx0c16v1 rx0c17v1 rx0c18v1 rx0c19v1 rx0c20v1 rx0c21v1 rx1v1 rb0v1 rb1v1 rb2v1) =>
      match !rx1v1 with
      | true =>
        some (.r ((-1)) rb0v1 rb1v1 rb2v1)
      | false =>
        match L26a60 N N x1 rb0v1 rb1v1 rb2v1 x0c3 x0c4 rx0c0v1 rx0c1v1 rx0c2v1 rx0c3v1 rx0c4v1 rx0c5v1 rx0c6v1 rx0c7v1 rx0c8v1 rx0c9v1 rx0c10v1 rx0c11v1 rx0c12v1 rx0c13v1 rx0c14v1 rx0c15v1 rx0c16v1 rx0c17v1 rx0c18v1 rx0c19v1 rx0c20v1 rx0c21v1 with
        | none => none
        | some (.x0 x1v4 b0v4 b1v4 b2v4 b3c3v4 b3c4v4 b4c0v4 b4c1v4 b4c2v4 b4c3v4 b4c4v4 b4c5v4 b4c6v4 b4c7v4 b4c8v4 b4c9v4 b4c10v4 b4c11v4 b4c12v4 b4c13v4 b4c14v4 b4c15v4 b4c16v4 b4c17v4 b4c18v4 b4c19v4 b4c20v4 b4c21v4) =>
          some (.r x1v4 b0v4 b1v4 b2v4)
def xRF26 : XSh R26 := ⟨[], ⟨[(0, .one (.cell (.int .i64)))], [.row 58, .row 74, .row 45]⟩, fun st => [0, 1, 2], fun s => .r ((Eng.look s.env 0).toI) ((s.mem.getD 0 .dead).rows) ((s.mem.getD 1 .dead).rows) ((s.mem.getD 2 .dead).rows)⟩
theorem fsF26 : ∀ (N : Nat) (lk : Nat → AV) (M : List Blk), FFF26 (F26 (N + 1)) (canS sgF26 lk M) = evfn CX (T26ur1 N R26) code26 rsF26 (argsE 2 (canS sgF26 lk M).env) (canS sgF26 lk M).mem (goR CX 3 (fun _ => some xRF26)) := by intro N lk M; kernel_rfl
theorem soundF26 : ∀ N, RecOkF26 (F26 N)
  | 0, lk, M, o, h => by cases h
  | N + 1, lk, M, o, h => fn_sound hX (okT26ur1 N R26) Tryd.func26 hb26 rfl en26 (by kernel_rfl) (ys := fun _ => some xRF26) (fun st y h => by injection h with h; subst h; exact fun lk M => ⟨rfl, rfl⟩) ((fsF26 N lk M).symm.trans h)
def cvce26n0 : List Cv := []
def selce26n0 : St → List Nat := fun st => [((Eng.look st.env 0).cells.getD 0 .top).id, ((Eng.look st.env 0).cells.getD 1 .top).id, ((Eng.look st.env 0).cells.getD 2 .top).id]
noncomputable def ce26n0 (Fx : TF26) (R : Type) (test : List AV → List Blk → Bool) : CE R := ⟨26, test, fun args M => some (selce26n0 ⟨argEnv 0 args, M, [], .unk⟩), fun args M k => tst (Nat.beq args.length 2) (callFn CX 3 cvce26n0 sgF26 selce26n0 (FFF26 Fx) elF26 args M k)⟩
theorem okce26n0 (Fx : TF26) (h : RecOkF26 Fx) (R : Type) (test : List AV → List Blk → Bool) : CeOk CX (ce26n0 Fx R test) := ce_ok hX (fun o k => by cases o; rfl) h en26 (fun args M ids h => by injection h with h; exact ⟨rfl, h.symm⟩)
end Go.Proofs.YtdennlgnbecojaaDoor

namespace Go.Proofs.YtdennlgnbecojaaDoor
open Go Go.Eng
set_option maxRecDepth 100000

/-! ### F29: ceiling/level.exists -/
inductive R29 where
  | r (x0 : Bool) (b0 : List Row) (b1 : List Row) (b2 : List Row)
abbrev TF29 := List Row → List Row → Int → List Row → List Row → List Row → Option R29
def sgF29 : LSh := ⟨[(0, .agg [.own 0, .own 1, .own 2, .cell (.slice 113), .cell (.slice 117)]), (1, .one (.cell (.int .i64)))], [.row 58, .row 74, .row 45]⟩
def FFF29 (Fx : TF29) (s : St) : Option R29 := Fx (((Eng.look s.env 0).cells.getD 3 .top).rows) (((Eng.look s.env 0).cells.getD 4 .top).rows) ((Eng.look s.env 1).toI) ((s.mem.getD 0 .dead).rows) ((s.mem.getD 1 .dead).rows) ((s.mem.getD 2 .dead).rows)
def valF29 (o : R29) : AV := match o with | .r x0 b0 b1 b2 => .bool x0
def memF29 (o : R29) : List Blk := match o with | .r x0 b0 b1 b2 => [.row 58 b0, .row 74 b1, .row 45 b2]
def elF29 {R : Type} (o : R29) (k : AV → List Blk → Option R) : Option R := match o with | .r x0 b0 b1 b2 => k (.bool x0) [.row 58 b0, .row 74 b1, .row 45 b2]
def RecOkF29 (Fx : TF29) : Prop := ∀ lk M o, FFF29 Fx (canS sgF29 lk M) = some o → FCalls CX 29 3 (argsE 2 (canS sgF29 lk M).env) (canS sgF29 lk M).mem (valF29 o) (memF29 o)
noncomputable def csF29 (N : Nat) (R : Type) : List (CE R) := []
theorem hcsF29 (N : Nat) (R : Type) : AllE (CeOk CX) (csF29 N R) := trivial
noncomputable def T29ur1 (N : Nat) (R : Type) : LTab R := mkTab ⟨14, 16383⟩ (csF29 N R) (noY) [] [] []
theorem okT29ur1 (N : Nat) (R : Type) : (T29ur1 N R).Ok CX code29 := mkTab_ok (hcsF29 N R) (noY_ok) (trivial) (trivial) (trivial)
def rsF29 : List ResultVar := [.tmp 4]
def F29 : Nat → TF29
  | 0 => fun _ _ _ _ _ _ => none
  | N + 1 => fun x0c3 x0c4 x1 b0 b1 b2 =>
    match decide ((0 : Int) ≤ x1) with
    | true =>
      some (.r (decide (x1 < ((b0.length : Int)))) b0 b1 b2)
    | false =>
      some (.r false b0 b1 b2)
def xRF29 : XSh R29 := ⟨[], ⟨[(0, .one (.cell (.bool)))], [.row 58, .row 74, .row 45]⟩, fun st => [0, 1, 2], fun s => .r ((Eng.look s.env 0).toB) ((s.mem.getD 0 .dead).rows) ((s.mem.getD 1 .dead).rows) ((s.mem.getD 2 .dead).rows)⟩
theorem fsF29 : ∀ (N : Nat) (lk : Nat → AV) (M : List Blk), FFF29 (F29 (N + 1)) (canS sgF29 lk M) = evfn CX (T29ur1 N R29) code29 rsF29 (argsE 2 (canS sgF29 lk M).env) (canS sgF29 lk M).mem (goR CX 3 (fun _ => some xRF29)) := by intro N lk M; kernel_rfl
theorem soundF29 : ∀ N, RecOkF29 (F29 N)
  | 0, lk, M, o, h => by cases h
  | N + 1, lk, M, o, h => fn_sound hX (okT29ur1 N R29) Tryd.func29 hb29 rfl en29 (by kernel_rfl) (ys := fun _ => some xRF29) (fun st y h => by injection h with h; subst h; exact fun lk M => ⟨rfl, rfl⟩) ((fsF29 N lk M).symm.trans h)
def cvce29n0 : List Cv := []
def selce29n0 : St → List Nat := fun st => [((Eng.look st.env 0).cells.getD 0 .top).id, ((Eng.look st.env 0).cells.getD 1 .top).id, ((Eng.look st.env 0).cells.getD 2 .top).id]
noncomputable def ce29n0 (Fx : TF29) (R : Type) (test : List AV → List Blk → Bool) : CE R := ⟨29, test, fun args M => some (selce29n0 ⟨argEnv 0 args, M, [], .unk⟩), fun args M k => tst (Nat.beq args.length 2) (callFn CX 3 cvce29n0 sgF29 selce29n0 (FFF29 Fx) elF29 args M k)⟩
theorem okce29n0 (Fx : TF29) (h : RecOkF29 Fx) (R : Type) (test : List AV → List Blk → Bool) : CeOk CX (ce29n0 Fx R test) := ce_ok hX (fun o k => by cases o; rfl) h en29 (fun args M ids h => by injection h with h; exact ⟨rfl, h.symm⟩)
end Go.Proofs.YtdennlgnbecojaaDoor

namespace Go.Proofs.YtdennlgnbecojaaDoor
open Go Go.Eng
set_option maxRecDepth 100000

/-! ### F28: ceiling/level.Access.1 -/
inductive R28 where
  | r (x0 : Bool) (b0c0 : Int) (b1c3 : List Row) (b1c4 : List Row) (b2c0 : Int) (b3 : List Row) (b4 : List Row) (b5 : List Row)
abbrev TF28 := Int → List Row → List Row → Int → List Row → List Row → List Row → Option R28
def sgF28 : LSh := ⟨[(0, .one (.ptr 0 0 0)), (1, .one (.ptr 1 0 0)), (2, .one (.ptr 2 0 0))], [.var [.int .i64] [.cell (.int .i64)], .var [.any, .any, .any, .any, .any] [.own 3, .own 4, .own 5, .cell (.slice 113), .cell (.slice 117)], .var [.int .i64] [.cell (.int .i64)], .row 58, .row 74, .row 45]⟩
def FFF28 (Fx : TF28) (s : St) : Option R28 := Fx (((s.mem.getD 0 .dead).cells.getD 0 .top).toI) (((s.mem.getD 1 .dead).cells.getD 3 .top).rows) (((s.mem.getD 1 .dead).cells.getD 4 .top).rows) (((s.mem.getD 2 .dead).cells.getD 0 .top).toI) ((s.mem.getD 3 .dead).rows) ((s.mem.getD 4 .dead).rows) ((s.mem.getD 5 .dead).rows)
def valF28 (o : R28) : AV := match o with | .r x0 b0c0 b1c3 b1c4 b2c0 b3 b4 b5 => .bool x0
def memF28 (o : R28) : List Blk := match o with | .r x0 b0c0 b1c3 b1c4 b2c0 b3 b4 b5 => [.var [.int .i64] [.int .i64 b0c0], .var [.any, .any, .any, .any, .any] [.own 3, .own 4, .own 5, .list 113 b1c3, .list 117 b1c4], .var [.int .i64] [.int .i64 b2c0], .row 58 b3, .row 74 b4, .row 45 b5]
def elF28 {R : Type} (o : R28) (k : AV → List Blk → Option R) : Option R := match o with | .r x0 b0c0 b1c3 b1c4 b2c0 b3 b4 b5 => k (.bool x0) [.var [.int .i64] [.int .i64 b0c0], .var [.any, .any, .any, .any, .any] [.own 3, .own 4, .own 5, .list 113 b1c3, .list 117 b1c4], .var [.int .i64] [.int .i64 b2c0], .row 58 b3, .row 74 b4, .row 45 b5]
def RecOkF28 (Fx : TF28) : Prop := ∀ lk M o, FFF28 Fx (canS sgF28 lk M) = some o → FCalls CX 28 6 (argsE 3 (canS sgF28 lk M).env) (canS sgF28 lk M).mem (valF28 o) (memF28 o)
noncomputable def csF28 (N : Nat) (R : Type) : List (CE R) := [ce29n0 (F29 N) R (fun _ _ => true)]
theorem hcsF28 (N : Nat) (R : Type) : AllE (CeOk CX) (csF28 N R) := ⟨okce29n0 (F29 N) (soundF29 N) R (fun _ _ => true), trivial⟩
noncomputable def T28ur1 (N : Nat) (R : Type) : LTab R := mkTab ⟨18, 262143⟩ (csF28 N R) (noY) [] [] []
theorem okT28ur1 (N : Nat) (R : Type) : (T28ur1 N R).Ok CX code28 := mkTab_ok (hcsF28 N R) (noY_ok) (trivial) (trivial) (trivial)
def rsF28 : List ResultVar := [.tmp 3]
def F28 : Nat → TF28
  | 0 => fun _ _ _ _ _ _ _ => none
  | N + 1 => fun b0c0 b1c3 b1c4 b2c0 b3 b4 b5 =>
    match decide ((0 : Int) ≤ b0c0) with
    | true =>
      match decide (b0c0 < ((b5.length : Int))) with
      | true =>
        match F29 N b1c3 b1c4 b2c0 b3 b4 b5 with
        | none => none
        | some (.r rx0v1 rb0v1 rb1v1 rb2v1) =>
          some (.r rx0v1 b0c0 b1c3 b1c4 b2c0 rb0v1 rb1v1 rb2v1)
      | false =>
        some (.r false b0c0 b1c3 b1c4 b2c0 b3 b4 b5)
    | false =>
      some (.r false b0c0 b1c3 b1c4 b2c0 b3 b4 b5)
def xRF28 : XSh R28 := ⟨[], ⟨[(0, .one (.cell (.bool)))], [.var [.int .i64] [.cell (.int .i64)], .var [.any, .any, .any, .any, .any] [.own 3, .own 4, .own 5, .cell (.slice 113), .cell (.slice 117)], .var [.int .i64] [.cell (.int .i64)], .row 58, .row 74, .row 45]⟩, fun st => [0, 1, 2, 3, 4, 5], fun s => .r ((Eng.look s.env 0).toB) (((s.mem.getD 0 .dead).cells.getD 0 .top).toI) (((s.mem.getD 1 .dead).cells.getD 3 .top).rows) (((s.mem.getD 1 .dead).cells.getD 4 .top).rows) (((s.mem.getD 2 .dead).cells.getD 0 .top).toI) ((s.mem.getD 3 .dead).rows) ((s.mem.getD 4 .dead).rows) ((s.mem.getD 5 .dead).rows)⟩
theorem fsF28 : ∀ (N : Nat) (lk : Nat → AV) (M : List Blk), FFF28 (F28 (N + 1)) (canS sgF28 lk M) = evfn CX (T28ur1 N R28) code28 rsF28 (argsE 3 (canS sgF28 lk M).env) (canS sgF28 lk M).mem (goR CX 6 (fun _ => some xRF28)) := by intro N lk M; kernel_rfl
theorem soundF28 : ∀ N, RecOkF28 (F28 N)
  | 0, lk, M, o, h => by cases h
  | N + 1, lk, M, o, h => fn_sound hX (okT28ur1 N R28) Tryd.func28 hb28 rfl en28 (by kernel_rfl) (ys := fun _ => some xRF28) (fun st y h => by injection h with h; subst h; exact fun lk M => ⟨rfl, rfl⟩) ((fsF28 N lk M).symm.trans h)
def cvce28n0 : List Cv := []
def selce28n0 : St → List Nat := fun st => [(Eng.look st.env 0).id, (Eng.look st.env 1).id, (Eng.look st.env 2).id, ((st.mem.getD ((Eng.look st.env 1).id) .dead).cells.getD 0 .top).id, ((st.mem.getD ((Eng.look st.env 1).id) .dead).cells.getD 1 .top).id, ((st.mem.getD ((Eng.look st.env 1).id) .dead).cells.getD 2 .top).id]
noncomputable def ce28n0 (Fx : TF28) (R : Type) (test : List AV → List Blk → Bool) : CE R := ⟨28, test, fun args M => some (selce28n0 ⟨argEnv 0 args, M, [], .unk⟩), fun args M k => tst (Nat.beq args.length 3) (callFn CX 6 cvce28n0 sgF28 selce28n0 (FFF28 Fx) elF28 args M k)⟩
theorem okce28n0 (Fx : TF28) (h : RecOkF28 Fx) (R : Type) (test : List AV → List Blk → Bool) : CeOk CX (ce28n0 Fx R test) := ce_ok hX (fun o k => by cases o; rfl) h en28 (fun args M ids h => by injection h with h; exact ⟨rfl, h.symm⟩)
end Go.Proofs.YtdennlgnbecojaaDoor

namespace Go.Proofs.YtdennlgnbecojaaDoor
open Go Go.Eng
set_option maxRecDepth 100000

/-! ### F47: ceiling/table.at[ceiling/api.Subt] -/
inductive R47 where
  | r (x0c0 : Int) (x0c1 : Int) (x0c2 : Int) (x1 : Bool) (b0 : List Row)
abbrev TF47 := Int → List Row → Option R47
def sgF47 : LSh := ⟨[(0, .one (.own 0)), (1, .one (.cell (.int .i64)))], [.row 74]⟩
def FFF47 (Fx : TF47) (s : St) : Option R47 := Fx ((Eng.look s.env 1).toI) ((s.mem.getD 0 .dead).rows)
def valF47 (o : R47) : AV := match o with | .r x0c0 x0c1 x0c2 x1 b0 => .tup [.agg [.int .i64 x0c0, .int .i64 x0c1, .int .i64 x0c2], .bool x1]
def memF47 (o : R47) : List Blk := match o with | .r x0c0 x0c1 x0c2 x1 b0 => [.row 74 b0]
def elF47 {R : Type} (o : R47) (k : AV → List Blk → Option R) : Option R := match o with | .r x0c0 x0c1 x0c2 x1 b0 => k (.tup [.agg [.int .i64 x0c0, .int .i64 x0c1, .int .i64 x0c2], .bool x1]) [.row 74 b0]
def RecOkF47 (Fx : TF47) : Prop := ∀ lk M o, FFF47 Fx (canS sgF47 lk M) = some o → FCalls CX 47 1 (argsE 2 (canS sgF47 lk M).env) (canS sgF47 lk M).mem (valF47 o) (memF47 o)
noncomputable def csF47 (N : Nat) (R : Type) : List (CE R) := []
theorem hcsF47 (N : Nat) (R : Type) : AllE (CeOk CX) (csF47 N R) := trivial
noncomputable def T47ur1 (N : Nat) (R : Type) : LTab R := mkTab ⟨19, 524287⟩ (csF47 N R) (noY) [] [] []
theorem okT47ur1 (N : Nat) (R : Type) : (T47ur1 N R).Ok CX code47 := mkTab_ok (hcsF47 N R) (noY_ok) (trivial) (trivial) (trivial)
def rsF47 : List ResultVar := [.cell 4 74, .tmp 5]
def F47 : Nat → TF47
  | 0 => fun _ _ => none
  | N + 1 => fun x1 b0 =>
    match decide (x1 < (0 : Int)) with
    | true =>
      some (.r 0 0 0 false b0)
    | false =>
      match decide (((b0.length : Int)) ≤ x1) with
      | true =>
        some (.r 0 0 0 false b0)
      | false =>
        tst (decide ((0 : Int) ≤ x1) && decide (x1 < ((b0.length : Int)))) <|
        tst (decide (x1.toNat < b0.length)) <|
        some (.r ((((b0.getD x1.toNat [])).getD 0 .top).toI) ((((b0.getD x1.toNat [])).getD 1 .top).toI) ((((b0.getD x1.toNat [])).getD 2 .top).toI) true b0)
def xRF47 : XSh R47 := ⟨[], ⟨[(0, .agg [.cell (.int .i64), .cell (.int .i64), .cell (.int .i64)]), (1, .one (.cell (.bool)))], [.row 74]⟩, fun st => [0], fun s => .r (((Eng.look s.env 0).cells.getD 0 .top).toI) (((Eng.look s.env 0).cells.getD 1 .top).toI) (((Eng.look s.env 0).cells.getD 2 .top).toI) ((Eng.look s.env 1).toB) ((s.mem.getD 0 .dead).rows)⟩
theorem fsF47 : ∀ (N : Nat) (lk : Nat → AV) (M : List Blk), FFF47 (F47 (N + 1)) (canS sgF47 lk M) = evfn CX (T47ur1 N R47) code47 rsF47 (argsE 2 (canS sgF47 lk M).env) (canS sgF47 lk M).mem (goRt CX 1 2 (fun _ => some xRF47)) := by intro N lk M; kernel_rfl
theorem soundF47 : ∀ N, RecOkF47 (F47 N)
  | 0, lk, M, o, h => by cases h
  | N + 1, lk, M, o, h => fn_soundt hX (okT47ur1 N R47) Tryd.func47 hb47 rfl en47 (by kernel_rfl) (ys := fun _ => some xRF47) (fun st y h => by injection h with h; subst h; exact fun lk M => ⟨rfl, rfl⟩) ((fsF47 N lk M).symm.trans h)
def cvce47n0 : List Cv := []
def selce47n0 : St → List Nat := fun st => [(Eng.look st.env 0).id]
noncomputable def ce47n0 (Fx : TF47) (R : Type) (test : List AV → List Blk → Bool) : CE R := ⟨47, test, fun args M => some (selce47n0 ⟨argEnv 0 args, M, [], .unk⟩), fun args M k => tst (Nat.beq args.length 2) (callFn CX 1 cvce47n0 sgF47 selce47n0 (FFF47 Fx) elF47 args M k)⟩
theorem okce47n0 (Fx : TF47) (h : RecOkF47 Fx) (R : Type) (test : List AV → List Blk → Bool) : CeOk CX (ce47n0 Fx R test) := ce_ok hX (fun o k => by cases o; rfl) h en47 (fun args M ids h => by injection h with h; exact ⟨rfl, h.symm⟩)
end Go.Proofs.YtdennlgnbecojaaDoor

namespace Go.Proofs.YtdennlgnbecojaaDoor
open Go Go.Eng
set_option maxRecDepth 100000

/-! ### F31: ceiling/table.Alike -/
inductive R31 where
  | r (x0 : Bool) (b0 : List Row) (b1 : List Row) (b2 : List Row)
abbrev TF31 := List Row → List Row → Int → Int → List Row → List Row → List Row → Option R31
def sgF31 : LSh := ⟨[(0, .agg [.own 0, .own 1, .own 2, .cell (.slice 113), .cell (.slice 117)]), (1, .one (.cell (.int .i64))), (2, .one (.cell (.int .i64)))], [.row 58, .row 74, .row 45]⟩
def FFF31 (Fx : TF31) (s : St) : Option R31 := Fx (((Eng.look s.env 0).cells.getD 3 .top).rows) (((Eng.look s.env 0).cells.getD 4 .top).rows) ((Eng.look s.env 1).toI) ((Eng.look s.env 2).toI) ((s.mem.getD 0 .dead).rows) ((s.mem.getD 1 .dead).rows) ((s.mem.getD 2 .dead).rows)
def valF31 (o : R31) : AV := match o with | .r x0 b0 b1 b2 => .bool x0
def memF31 (o : R31) : List Blk := match o with | .r x0 b0 b1 b2 => [.row 58 b0, .row 74 b1, .row 45 b2]
def elF31 {R : Type} (o : R31) (k : AV → List Blk → Option R) : Option R := match o with | .r x0 b0 b1 b2 => k (.bool x0) [.row 58 b0, .row 74 b1, .row 45 b2]
def RecOkF31 (Fx : TF31) : Prop := ∀ lk M o, FFF31 Fx (canS sgF31 lk M) = some o → FCalls CX 31 3 (argsE 3 (canS sgF31 lk M).env) (canS sgF31 lk M).mem (valF31 o) (memF31 o)
noncomputable def csF31 (N : Nat) (R : Type) : List (CE R) := [ce47n0 (F47 N) R (fun _ _ => true)]
theorem hcsF31 (N : Nat) (R : Type) : AllE (CeOk CX) (csF31 N R) := ⟨okce47n0 (F47 N) (soundF47 N) R (fun _ _ => true), trivial⟩
noncomputable def T31ur1 (N : Nat) (R : Type) : LTab R := mkTab ⟨34, 17179869183⟩ (csF31 N R) (noY) [] [] []
theorem okT31ur1 (N : Nat) (R : Type) : (T31ur1 N R).Ok CX code31 := mkTab_ok (hcsF31 N R) (noY_ok) (trivial) (trivial) (trivial)
def rsF31 : List ResultVar := [.tmp 6]
def F31 : Nat → TF31
  | 0 => fun _ _ _ _ _ _ _ => none
  | N + 1 => fun x0c3 x0c4 x1 x2 b0 b1 b2 =>
    match F47 N x1 b1 with
    | none => none
    | some (.r rx0c0v1 rx0c1v1 rx0c2v1 rx1v1 rb0v1) =>
      match F47 N x2 rb0v1 with
      | none => none
      | some (.r rx0c0v2 rx0c1v2 rx0c2v2 rx1v2 rb0v2) =>
        match rx1v1 with
        | true =>
          match rx1v2 with
          | true =>
            some (.r (((rx0c0v1 == rx0c0v2) && ((rx0c1v1 == rx0c1v2) && ((rx0c2v1 == rx0c2v2) && true)))) b0 rb0v2 b2)
          | false =>
            some (.r false b0 rb0v2 b2)
        | false =>
          some (.r false b0 rb0v2 b2)
def xRF31 : XSh R31 := ⟨[], ⟨[(0, .one (.cell (.bool)))], [.row 58, .row 74, .row 45]⟩, fun st => [0, 1, 2], fun s => .r ((Eng.look s.env 0).toB) ((s.mem.getD 0 .dead).rows) ((s.mem.getD 1 .dead).rows) ((s.mem.getD 2 .dead).rows)⟩
theorem fsF31 : ∀ (N : Nat) (lk : Nat → AV) (M : List Blk), FFF31 (F31 (N + 1)) (canS sgF31 lk M) = evfn CX (T31ur1 N R31) code31 rsF31 (argsE 3 (canS sgF31 lk M).env) (canS sgF31 lk M).mem (goR CX 3 (fun _ => some xRF31)) := by intro N lk M; kernel_rfl
theorem soundF31 : ∀ N, RecOkF31 (F31 N)
  | 0, lk, M, o, h => by cases h
  | N + 1, lk, M, o, h => fn_sound hX (okT31ur1 N R31) Tryd.func31 hb31 rfl en31 (by kernel_rfl) (ys := fun _ => some xRF31) (fun st y h => by injection h with h; subst h; exact fun lk M => ⟨rfl, rfl⟩) ((fsF31 N lk M).symm.trans h)
def cvce31n0 : List Cv := []
def selce31n0 : St → List Nat := fun st => [((Eng.look st.env 0).cells.getD 0 .top).id, ((Eng.look st.env 0).cells.getD 1 .top).id, ((Eng.look st.env 0).cells.getD 2 .top).id]
noncomputable def ce31n0 (Fx : TF31) (R : Type) (test : List AV → List Blk → Bool) : CE R := ⟨31, test, fun args M => some (selce31n0 ⟨argEnv 0 args, M, [], .unk⟩), fun args M k => tst (Nat.beq args.length 3) (callFn CX 3 cvce31n0 sgF31 selce31n0 (FFF31 Fx) elF31 args M k)⟩
theorem okce31n0 (Fx : TF31) (h : RecOkF31 Fx) (R : Type) (test : List AV → List Blk → Bool) : CeOk CX (ce31n0 Fx R test) := ce_ok hX (fun o k => by cases o; rfl) h en31 (fun args M ids h => by injection h with h; exact ⟨rfl, h.symm⟩)
end Go.Proofs.YtdennlgnbecojaaDoor
