/-
  The engine, part Aa: pieces of code cut out; tables made of lists.
  The engine, part Ab: tables of types and places; entering a function.
  The engine, part Ac: what is read of the arguments, as abstract values; from a function's contract to a law's row.
  The engine, part Ad: closed runs: calls, loops and ranges all run in place.
  Functions run closed: what was read off the program. Printed by closed.py.
-/
import Derived.Test.YtomkobcipaligaaGreatDoorKn3
import Derived.ProofKit
import Derived.OpenShut
import Derived.Carry
import Derived.ChangeArms
import Derived.Test.YtomkobcipaligaaGreatDoorChecked
import Derived.KernelRfl
set_option linter.all false
set_option linter.deprecated false
namespace Go.Eng
open Go
noncomputable section

variable {X : Cx} {R O : Type}

def kontX (X : Cx) (m : Nat) (xs : Ex → St → Option (XSh O)) (e : Ex) (st : St) : Option O :=
  match xs e st with
  | some x => goS X m x.cv x.σ x.sel st fun s => some (x.out s)
  | none => none

theorem callCut_sound (hX : X.Ok) {root c : Code} {p : Nat} {L : LTab O} (hL : L.Ok X root) (hat : At root p c) {m mask : Nat} {cv' : List Cv} {σ : LSh} {sel' : St → List Nat} {xs : Ex → St → Option (XSh O)} {JF : St → Option O} {exOf : O → Ex} {stOf : O → St}
    (hstep : ∀ lk M, JF (canS σ lk M) = evk X L c p (canS σ lk M) (kontX X m xs)) (hx : ∀ e st x, xs e st = some x → outOk x e exOf stOf)
    {nt : Nt} (hnt : L.tab.nt = ⟨nt.n, mask⟩) {elim : O → (Ex → St → Option R) → Option R} (helim : ∀ o k, elim o k = k (exOf o) (stOf o)) {st : St} {k : Ex → St → Option R} {r : R}
    (h : callLoop X m mask cv' σ sel' nt JF elim st k = some r) : ∃ e st', CodeRuns X nt c st (Ex.exit' e) st' ∧ k e st' = some r := by
  unfold callLoop at h
  obtain ⟨st1, h, e1, e2, hcv⟩ := evcv_sound hX cv' h
  replace h := tst_some h
  obtain ⟨h1, h⟩ := h
  rw [Bool.and_eq_true, Bool.and_eq_true] at h1
  obtain ⟨⟨h1, hmask⟩, hdf1⟩ := h1
  have hdf1 : st1.dfs = [] := by simpa using hdf1
  have hmask : nt.mask &&& mask = mask := Nat.eq_of_beq_eq_true hmask
  split at h
  · cases h
  · rename_i o ho
    rw [helim] at h
    replace h := tst_some h
    obtain ⟨h2, h⟩ := h
    rw [Bool.and_eq_true] at h2
    obtain ⟨hm, hdfs⟩ := h2
    have hdfs : (stOf o).dfs = [] := by simpa using hdfs
    refine ⟨_, _, fun {rdc n w0 S F ρ a w Q} hI hs hq => ?_, h⟩
    obtain ⟨F1, ρ1, i1, s1, g1⟩ := hcv (nt := nt) (rdc := rdc) (a := a) hI hs
    obtain ⟨hok, hmem, _⟩ := enter_facts h1
    have hsub := i1.sub hX hok hd0
    have ho' : evk X L c p (canS σ (fun t => ren (idx (sel' st1)) 4 (look st1.env t)) (subM st1.mem (sel' st1))) (kontX X m xs) = some o := (hstep _ _).symm.trans ho
    obtain ⟨e, st2, hrun, hk⟩ := evk_sound hX hL c hat ho'
    have hout : exOf o = e ∧ ∀ {nt : Nt} {rdc : Cy} {w0 : World} {S : Sc} {F : Addr → Prop} {ρ : List Hd} {a : Act} {w : World}, Inv X w0 S F ρ st2.mem w → Sim X nt st2 rdc F ρ a w →
        ∃ F' ρ', Inv X w0 S F' ρ' (stOf o).mem w ∧ Sim X nt (stOf o) rdc F' ρ' a w ∧ GrowF m F F' ρ ρ' w w := by
      unfold kontX at hk
      split at hk
      case h_2 => cases hk
      rename_i x hxe
      obtain ⟨lk, M, ho2, hr⟩ := goS_sound hX hk
      injection ho2 with ho2
      obtain ⟨q1, q2⟩ := hx e st2 x hxe lk M
      rw [ho2] at q1 q2
      refine ⟨q1, fun {nt rdc w0 S F ρ a w} hI hs => ?_⟩
      rw [q2]
      exact hr hI hs
    refine hrun (rdc := ⟨rdc.r, rdc.db, fun t => a.tmps.getD t undef⟩) (n := n) (w0 := w) (S := hand ρ1 st1.mem (sel' st1) F1) (F := F1) (ρ := sub hd0 ρ1 (sel' st1)) (a := a) (w := w)
      (by have : (canS σ (fun t => ren (idx (sel' st1)) 4 (look st1.env t)) (subM st1.mem (sel' st1))).mem = subM st1.mem (sel' st1) := hmem
          rw [this]; exact hsub)
      ⟨enter_env hX h1 i1 s1.env, by rw [hnt]; exact s1.size, by have := s1.defs; rw [hdf1] at this; exact this, s1.rd, fun _ _ => rfl⟩ ?_
    intro a' w' F0 ρ0 hI0 hs0 hg0
    obtain ⟨F', ρ', hI', hs', hg1⟩ := hout.2 hI0 hs0
    have hg' := (hg0.toF m).trans hg1
    rw [← hout.1]
    obtain ⟨i3, g3, r3⟩ := i1.merge hX hok hd0 hI' hg' hm
    refine hq a' w' F' _ i3 ⟨fun t => ?_, by have := hs'.size; rw [hnt] at this; exact this, ?_, hs'.rd, fun t ht => ?_⟩ (g1.trans g3)
    · rcases look_append (renE (rno m (sel' st1) st1.mem.length) 4 (stOf o).env) (st1.env.filter (fun p => !mask.testBit p.1)) t with e | e
      · simp only [leaveS]; rw [e]; exact (hs'.env.ren hX r3 4) t
      · simp only [leaveS]; rw [e]
        rcases look_mask mask st1.env t with e' | ⟨hb, e'⟩
        · rw [e']; exact .top _
        · rw [e']
          have hk := hs'.kept t (by rw [hnt]; exact hb)
          rw [hk]
          exact (s1.env t).grow g3
    · have hd := hs'.defs
      rw [hdfs] at hd
      simp only [leaveS]
      rw [hdf1]
      exact hd
    · have hb : mask.testBit t = false := by
        rw [← hmask, Nat.testBit_and, ht, Bool.false_and]
      have hk := hs'.kept t (by rw [hnt]; exact hb)
      rw [hk]
      exact s1.kept t ht

/-! ### Tables out of lists -/

abbrev Ent1 (R : Type) := St → (Ex → St → Option R) → Option R

def pickE : List (Nat × Ent1 R) → Nat → Ent1 R
  | [], _ => fun _ _ => none
  | e :: es, p => match Nat.beq p e.1 with | true => e.2 | false => pickE es p
def pickO : List (Nat × Ent1 R) → Nat → Option (Ent1 R)
  | [], _ => none
  | e :: es, p => match Nat.beq p e.1 with | true => some e.2 | false => pickO es p

def AllE {α : Type} (P : α → Prop) : List α → Prop
  | [] => True
  | e :: es => P e ∧ AllE P es

theorem pickE_some {es : List (Nat × Ent1 R)} {P : Nat × Ent1 R → Prop} (hP : AllE P es) {p : Nat} {st : St} {k : Ex → St → Option R} {r : R} (h : pickE es p st k = some r) : ∃ f, P (p, f) ∧ f st k = some r := by
  induction es with
  | nil => simp [pickE] at h
  | cons e es ih =>
    simp only [pickE] at h
    cases hb : Nat.beq p e.1 with
    | true =>
      simp only [hb] at h
      have := Nat.eq_of_beq_eq_true hb
      subst this
      exact ⟨e.2, hP.1, h⟩
    | false => simp only [hb] at h; exact ih hP.2 h
theorem pickO_some {es : List (Nat × Ent1 R)} {P : Nat × Ent1 R → Prop} (hP : AllE P es) {p : Nat} {f : Ent1 R} (h : pickO es p = some f) : P (p, f) := by
  induction es with
  | nil => simp [pickO] at h
  | cons e es ih =>
    simp only [pickO] at h
    split at h
    · rename_i hb
      have := Nat.eq_of_beq_eq_true hb
      subst this
      injection h with h
      subst h
      exact hP.1
    · exact ih hP.2 h

/-- An entry for a loop, a range over a function, a piece cut out. -/
def LoopOk (X : Cx) (root : Code) (nt : Nt) (e : Nat × Ent1 R) : Prop := ∀ {c st k r}, At root e.1 (.loop c) → e.2 st k = some r → ∃ x st', CodeRuns X nt (.loop c) st (Ex.exit' x) st' ∧ k x st' = some r
def RangeOk (X : Cx) (root : Code) (nt : Nt) (e : Nat × Ent1 R) : Prop := ∀ {g ps a b st k r}, At root e.1 (.rangeFunc g ps a b) → e.2 st k = some r → ∃ x st', CodeRuns X nt (.rangeFunc g ps a b) st (Ex.exit' x) st' ∧ k x st' = some r
def CutOk (X : Cx) (root : Code) (nt : Nt) (e : Nat × Ent1 R) : Prop := ∀ {c st k r}, At root e.1 c → e.2 st k = some r → ∃ x st', CodeRuns X nt c st (Ex.exit' x) st' ∧ k x st' = some r

/-- An entry for the call of a function at arguments of some shape. -/
structure CE (R : Type) where
  f : FuncId
  test : List AV → List Blk → Bool
  wr : List AV → List Blk → Option (List Nat)
  run : List AV → List Blk → (AV → List Blk → Option R) → Option R

def pickC : List (CE R) → FuncId → List AV → List Blk → (AV → List Blk → Option R) → Option R
  | [], _, _, _, _ => none
  | e :: es, f, args, M, k => match Nat.beq f e.f && e.test args M with | true => e.run args M k | false => pickC es f args M k
def pickW : List (CE R) → FuncId → List AV → List Blk → Option (List Nat)
  | [], _, _, _ => none
  | e :: es, f, args, M => match Nat.beq f e.f && e.test args M with | true => e.wr args M | false => pickW es f args M

def CeOk (X : Cx) (e : CE R) : Prop := ∀ {args M k r}, e.run args M k = some r → ∃ x M', ACalls X e.f args M x M' ∧ k x M' = some r ∧ ∀ ids, e.wr args M = some ids → Agree ids M M'

theorem pickC_some {es : List (CE R)} (hP : AllE (CeOk X) es) {f : FuncId} {args : List AV} {M : List Blk} {k : AV → List Blk → Option R} {r : R} (h : pickC es f args M k = some r) :
    ∃ x M', ACalls X f args M x M' ∧ k x M' = some r ∧ ∀ ids, pickW es f args M = some ids → Agree ids M M' := by
  induction es with
  | nil => simp [pickC] at h
  | cons e es ih =>
    simp only [pickC] at h
    split at h
    · rename_i hb
      have hb' := hb
      rw [Bool.and_eq_true] at hb
      have := Nat.eq_of_beq_eq_true hb.1
      subst this
      obtain ⟨x, M', h1, h2, h3⟩ := hP.1 h
      refine ⟨x, M', h1, h2, fun ids hi => ?_⟩
      simp only [pickW, hb'] at hi
      exact h3 ids hi
    · rename_i hb
      obtain ⟨x, M', h1, h2, h3⟩ := ih hP.2 h
      refine ⟨x, M', h1, h2, fun ids hi => ?_⟩
      simp only [pickW, hb] at hi
      exact h3 ids hi

def mkTab (nt : Nt) (cs : List (CE R)) (y : Nat → List AV → List Blk → (AV → List Blk → Option R) → Option R) (ls rs ks : List (Nat × Ent1 R)) : LTab R :=
  ⟨⟨nt, pickW cs, pickC cs, y⟩, pickE ls, pickE rs, pickO ks⟩
def YOk (X : Cx) (y : Nat → List AV → List Blk → (AV → List Blk → Option R) → Option R) : Prop := ∀ {id args M k r}, y id args M k = some r → ∃ x M', AYields X id args M x M' ∧ k x M' = some r
def noY : Nat → List AV → List Blk → (AV → List Blk → Option R) → Option R := fun _ _ _ _ => none
theorem noY_ok : YOk X (noY (R := R)) := fun {_ _ _ _ _} h => by cases h

theorem mkTab_ok {root : Code} {nt : Nt} {cs : List (CE R)} {y : Nat → List AV → List Blk → (AV → List Blk → Option R) → Option R} {ls rs ks : List (Nat × Ent1 R)} (hc : AllE (CeOk X) cs) (hy : YOk X y)
    (hl : AllE (LoopOk X root nt) ls) (hr : AllE (RangeOk X root nt) rs) (hk : AllE (CutOk X root nt) ks) : (mkTab nt cs y ls rs ks).Ok X root where
  tab := ⟨fun {f args M k r} h => pickC_some hc h, fun {id args M k r} h => hy h⟩
  loop := fun {p c st k r} hat h => by
    obtain ⟨f, h1, h2⟩ := pickE_some hl h
    exact h1 hat h2
  range := fun {p g ps a b st k r} hat h => by
    obtain ⟨f, h1, h2⟩ := pickE_some hr h
    exact h1 hat h2
  cut := fun {p c f st k r} hat hf h => pickO_some hk hf hat h

/-- A loop's entry is right. -/
theorem loop_ok (hX : X.Ok) {root c0 : Code} {path : List Bool} (hc0 : codeAt root path = some (.loop c0)) {p : Nat} (hp : enc path = p) {L : LTab O} (hL : L.Ok X root) {m mask : Nat} {cv cv' : List Cv} {σ : LSh} {sel sel' : St → List Nat} {xs : Ex → St → Option (XSh O)} {LF : Nat → St → Option O} {exOf : O → Ex} {stOf : O → St}
    (h0 : ∀ lk M, LF 0 (canS σ lk M) = none) (hstep : ∀ n lk M, LF (n + 1) (canS σ lk M) = evk X L c0 (2 * p) (canS σ lk M) (kont X m cv σ sel xs (LF n))) (hx : ∀ e st x, xs e st = some x → outOk x e exOf stOf)
    {nt : Nt} (hnt : L.tab.nt = ⟨nt.n, mask⟩) {elim : O → (Ex → St → Option R) → Option R} (helim : ∀ o k, elim o k = k (exOf o) (stOf o)) {fuel : Nat} :
    LoopOk X root nt (p, fun st k => callLoop X m mask cv' σ sel' nt (LF fuel) elim st k) := by
  intro c st k r hat h
  have hd := hat.det path hp
  rw [hc0] at hd
  injection hd with hd; injection hd with hd; subst hd
  exact callLoop_sound hX hL hat h0 hstep hx hnt helim h

/-- A loop, run round by round in place. -/
def unroll (X : Cx) (L : LTab R) (c : Code) (p : Nat) : Nat → St → (Ex → St → Option R) → Option R
  | 0, _, _ => none
  | n + 1, st, k => evk X L c p st fun e st' => match e with | .normal => unroll X L c p n st' k | .exit i => k (.exit i) st' | .ret => k .ret st'
theorem unroll_sound (hX : X.Okb) {root c : Code} {p : Nat} {L : LTab R} (hL : L.Ok X root) (hat : At root p (.loop c)) : ∀ (fuel : Nat) {st : St} {k : Ex → St → Option R} {r : R}, unroll X L c (2 * p) fuel st k = some r →
    ∃ e st', k e st' = some r ∧ ∀ {rdc : Cy} {n : Nat} {w0 : World} {S : Sc} {F : Addr → Prop} {ρ : List Hd} {a : Act} {w : World} {Q : Exit → Act → World → Prop}, Inv X w0 S F ρ st.mem w → Sim X L.tab.nt st rdc F ρ a w →
      (∀ a' w' F' ρ', Inv X w0 S F' ρ' st'.mem w' → Sim X L.tab.nt st' rdc F' ρ' a' w' → Grow F F' ρ ρ' w w' → Q (Ex.exit' e) a' w') → Code.roundsIn (fen rdc.r) n X.P c Q fuel a w
  | 0, st, k, r, h => by cases h
  | fuel + 1, st, k, r, h => by
    simp only [unroll] at h
    obtain ⟨e, st1, hrun, h⟩ := evk_sound hX hL c (hat.down false fun l hl => by simp [codeAt, hl]) h
    cases e with
    | normal =>
      obtain ⟨e', st', hk, hr⟩ := unroll_sound hX hL hat fuel h
      refine ⟨e', st', hk, fun {rdc n w0 S F ρ a w Q} hI hs hq => ?_⟩
      rw [roundsIn_succ]
      refine hrun hI hs fun a' w' F' ρ' hI' hs' hg => ?_
      exact hr hI' hs' fun a'' w'' F'' ρ'' hI'' hs'' hg'' => hq a'' w'' F'' ρ'' hI'' hs'' (hg.trans hg'')
    | exit i =>
      refine ⟨.exit i, st1, h, fun {rdc n w0 S F ρ a w Q} hI hs hq => ?_⟩
      rw [roundsIn_succ]
      exact hrun hI hs fun a' w' F' ρ' hI' hs' hg => hq a' w' F' ρ' hI' hs' hg
    | ret =>
      refine ⟨.ret, st1, h, fun {rdc n w0 S F ρ a w Q} hI hs hq => ?_⟩
      rw [roundsIn_succ]
      exact hrun hI hs fun a' w' F' ρ' hI' hs' hg => hq a' w' F' ρ' hI' hs' hg
theorem unroll_ok (hX : X.Okb) {root c0 : Code} {path : List Bool} (hc0 : codeAt root path = some (.loop c0)) {p : Nat} (hp : enc path = p) {L : LTab R} (hL : L.Ok X root) {nt : Nt} (hnt : L.tab.nt = nt) {fuel : Nat} :
    LoopOk X root nt (p, fun st k => unroll X L c0 (2 * p) fuel st k) := by
  intro c st k r hat h
  have hd := hat.det path hp
  rw [hc0] at hd
  injection hd with hd; injection hd with hd; subst hd
  obtain ⟨e, st', hk, hr⟩ := unroll_sound hX hL hat fuel h
  subst hnt
  exact ⟨e, st', fun {rdc n w0 S F ρ a w Q} hI hs hq => wpIn_loop_rounds fuel (hr hI hs hq), hk⟩

theorem cut_ok (hX : X.Ok) {root c0 : Code} {path : List Bool} (hc0 : codeAt root path = some c0) {p : Nat} (hp : enc path = p) {L : LTab O} (hL : L.Ok X root) {m mask : Nat} {cv' : List Cv} {σ : LSh} {sel' : St → List Nat} {xs : Ex → St → Option (XSh O)} {JF : St → Option O} {exOf : O → Ex} {stOf : O → St}
    (hstep : ∀ lk M, JF (canS σ lk M) = evk X L c0 p (canS σ lk M) (kontX X m xs)) (hx : ∀ e st x, xs e st = some x → outOk x e exOf stOf)
    {nt : Nt} (hnt : L.tab.nt = ⟨nt.n, mask⟩) {elim : O → (Ex → St → Option R) → Option R} (helim : ∀ o k, elim o k = k (exOf o) (stOf o)) :
    CutOk X root nt (p, fun st k => callLoop X m mask cv' σ sel' nt JF elim st k) := by
  intro c st k r hat h
  have hd := hat.det path hp
  rw [hc0] at hd
  injection hd with hd; subst hd
  exact callCut_sound hX hL hat hstep hx hnt helim h

/-- A range's entry is right: the function that is ranged over, run in line. -/
def inl (g : FuncId) (run : List AV → List Blk → (AV → List Blk → Option R) → Option R) : List (CE R) := [⟨g, fun _ _ => true, fun _ _ => none, run⟩]
def oneTab (nt : Nt) (cs : List (CE R)) : Tab R := ⟨nt, pickW cs, pickC cs, noY⟩
theorem oneTab_ok {nt : Nt} {cs : List (CE R)} (hc : AllE (CeOk X) cs) : (oneTab nt cs).CallOk X := ⟨fun {f args M k r} h => pickC_some hc h, fun {_ _ _ _ _} h => by cases h⟩

theorem range_ok (hX : X.Okb) {root : Code} {path : List Bool} {g0 : Operand} {ps0 : Array Tmp} {a0 b0 : Code} (hc0 : codeAt root path = some (.rangeFunc g0 ps0 a0 b0)) {p : Nat} (hp : enc path = p) {nt : Nt} {cs : List (CE R)} (hc : AllE (CeOk X) cs) {s : Nat} {keep : List Nat}
    (hsite : X.site s = ⟨nt.n, ps0, a0, b0⟩) : RangeOk X root nt (p, fun st k => evrange X (oneTab nt cs) s keep g0 st k) := by
  intro g ps a b st k r hat h
  have hd := hat.det path hp
  rw [hc0] at hd
  injection hd with hd; injection hd with h1 h2 h3 h4; subst h1; subst h2; subst h3; subst h4
  exact evrange_sound hX (T := oneTab nt cs) (oneTab_ok hc) hsite h

theorem inl_ok {g : FuncId} {run : List AV → List Blk → (AV → List Blk → Option R) → Option R} (h : ∀ {args M k r}, run args M k = some r → ∃ x M', ACalls X g args M x M' ∧ k x M' = some r) : AllE (CeOk X) (inl g run) :=
  ⟨fun {args M k r} hr => by
    obtain ⟨x, M', h1, h2⟩ := h hr
    exact ⟨x, M', h1, h2, fun ids hi => by cases hi⟩, trivial⟩

/-- Which entry of a list of places the loop of a range is at: the yields of several places. -/
def pickY : List (Nat × (Nat → List AV → List Blk → (AV → List Blk → Option R) → Option R)) → Nat → List AV → List Blk → (AV → List Blk → Option R) → Option R
  | [], _, _, _, _ => none
  | e :: es, id, args, M, k =>
    match gm M id with
    | some (.loop s _ _ _) => (match Nat.beq s e.1 with | true => e.2 id args M k | false => pickY es id args M k)
    | _ => none
theorem pickY_ok {es : List (Nat × (Nat → List AV → List Blk → (AV → List Blk → Option R) → Option R))} (h : AllE (fun e => YOk X e.2) es) : YOk X (pickY es) := by
  induction es with
  | nil => intro id args M k r h; cases h
  | cons e es ih =>
    intro id args M k r hk
    simp only [pickY, gm_eq] at hk
    split at hk
    · split at hk
      · exact h.1 hk
      · exact ih h.2 hk
    · cases hk

/-- A call, cut down to a contract's shape, as an entry. -/
theorem ce_ok (hX : X.Ok) {f : FuncId} {m na : Nat} {cv : List Cv} {σ : LSh} {sel : St → List Nat} {FFn : St → Option O} {valOf : O → AV} {memOf : O → List Blk} {elim : O → (AV → List Blk → Option R) → Option R} (helim : ∀ o k, elim o k = k (valOf o) (memOf o))
    (hf : ∀ lk M o, FFn (canS σ lk M) = some o → FCalls X f m (argsE na (canS σ lk M).env) (canS σ lk M).mem (valOf o) (memOf o)) (hc : ∀ (vs : Array Value) (w : World), (callFunc f vs).run X.P w = .ok (.enter f vs) w)
    {test : List AV → List Blk → Bool} {wr : List AV → List Blk → Option (List Nat)} (hwr : ∀ args M ids, wr args M = some ids → cv = [] ∧ ids = sel ⟨argEnv 0 args, M, [], .unk⟩) :
    CeOk X ⟨f, test, wr, fun args M k => tst (Nat.beq args.length na) (callFn X m cv σ sel FFn elim args M k)⟩ := by
  intro args M k r h
  replace h := tst_some h
  obtain ⟨hna, h⟩ := h
  obtain ⟨x, M', h1, h2, h3⟩ := callFn_sound hX helim hf hc (Nat.eq_of_beq_eq_true hna) h
  refine ⟨x, M', h1, h2, fun ids hi => ?_⟩
  obtain ⟨e1, e2⟩ := hwr args M ids hi
  rw [e2]; exact h3 e1

/-- A call whose entry changes blocks: all of them may be written. -/
theorem ce_okc (hX : X.Ok) {f : FuncId} {m na : Nat} {cv : List Cv} {σ : LSh} {sel : St → List Nat} {FFn : St → Option O} {valOf : O → AV} {memOf : O → List Blk} {elim : O → (AV → List Blk → Option R) → Option R} (helim : ∀ o k, elim o k = k (valOf o) (memOf o))
    (hf : ∀ lk M o, FFn (canS σ lk M) = some o → FCalls X f m (argsE na (canS σ lk M).env) (canS σ lk M).mem (valOf o) (memOf o)) (hc : ∀ (vs : Array Value) (w : World), (callFunc f vs).run X.P w = .ok (.enter f vs) w)
    {test : List AV → List Blk → Bool} :
    CeOk X ⟨f, test, fun _ M => some (List.range M.length), fun args M k => tst (Nat.beq args.length na) (callFn X m cv σ sel FFn elim args M fun x M' => tst (Nat.ble M.length M'.length) (k x M'))⟩ := by
  intro args M k r h
  replace h := tst_some h
  obtain ⟨hna, h⟩ := h
  obtain ⟨x, M', h1, h2, h3⟩ := callFn_sound hX helim hf hc (Nat.eq_of_beq_eq_true hna) h
  replace h2 := tst_some h2
  obtain ⟨hle, h2⟩ := h2
  refine ⟨x, M', h1, h2, fun ids hi => ?_⟩
  injection hi with hi
  subst hi
  exact ⟨Nat.le_of_ble_eq_true hle, fun i hi hn => absurd (List.mem_range.2 hi) hn⟩

/-- A call whose code is run in place. -/
theorem inl1_ok {g : FuncId} {test : List AV → List Blk → Bool} {run : List AV → List Blk → (AV → List Blk → Option R) → Option R} (h : ∀ {args M k r}, run args M k = some r → ∃ x M', ACalls X g args M x M' ∧ k x M' = some r) :
    CeOk X ⟨g, test, fun _ M => some (List.range M.length), fun args M k => run args M fun x M' => tst (Nat.ble M.length M'.length) (k x M')⟩ := by
  intro args M k r hr
  obtain ⟨x, M', h1, h2⟩ := h hr
  replace h2 := tst_some h2
  obtain ⟨hle, h2⟩ := h2
  refine ⟨x, M', h1, h2, fun ids hi => ?_⟩
  injection hi with hi
  subst hi
  exact ⟨Nat.le_of_ble_eq_true hle, fun i hi hn => absurd (List.mem_range.2 hi) hn⟩

/-- Nil slices handed on as slices that nobody writes. -/
def nilfix : List (Nat × TypeId) → List AV → List AV
  | [], xs => xs
  | p :: ps, xs => nilfix ps (match xs[p.1]? with | some .nilsl => xs.set p.1 (.list p.2 []) | _ => xs)
theorem repL_nilfix {ρ : List Hd} {F : Addr → Prop} {w : World} {vs : List Value} : ∀ (ps : List (Nat × TypeId)) {xs : List AV}, RepL X.K ρ F w xs vs → RepL X.K ρ F w (nilfix ps xs) vs
  | [], xs, h => h
  | p :: ps, xs, h => by
    refine repL_nilfix ps ?_
    split
    · rename_i hx
      refine ⟨by simp [h.1], fun j y v hy hv => ?_⟩
      by_cases e : j = p.1
      · subst e
        have hlt : p.1 < xs.length := (List.getElem?_eq_some_iff.1 hx).1
        rw [List.getElem?_set_self hlt] at hy
        injection hy with hy
        subst hy
        have := h.2 p.1 _ v hx hv
        cases this
        exact .list0 _
      · rw [List.getElem?_set_ne (Ne.symm e)] at hy
        exact h.2 j y v hy hv
    · exact h
theorem nil_ok {e : CE R} (h : CeOk X e) (ps : List (Nat × TypeId)) (test : List AV → List Blk → Bool) : CeOk X ⟨e.f, test, fun args M => e.wr (nilfix ps args) M, fun args M k => e.run (nilfix ps args) M k⟩ := by
  intro args M k r hr
  obtain ⟨x, M', h1, h2, h3⟩ := h hr
  exact ⟨x, M', ⟨h1.1, fun {w0 S F ρ w vs} hI hv => h1.2 hI (repL_nilfix ps hv)⟩, h2, h3⟩

def testV (X : Cx) (cv : List Cv) (σ : LSh) (sel : St → List Nat) (args : List AV) (M : List Blk) : Bool :=
  match evcv X cv ⟨argEnv 0 args, M, [], .unk⟩ (fun st1 => some (enterOk σ (sel st1) st1)) with
  | some true => true
  | _ => false

/-- A function's contract out of its code: the last step. -/
theorem fn_sound (hX : X.Ok) {f : FuncId} {fn : Func} {c : Code} {L : LTab O} (hL : L.Ok X c) (hf : X.P.funcs[f]? = some fn) (hb : fn.body = some c) (hn : fn.ntmps = L.tab.nt.n)
    (hc : ∀ (vs : Array Value) (w : World), (callFunc f vs).run X.P w = .ok (.enter f vs) w) {rs : List ResultVar} (hrs : fn.results.toList = rs) {m : Nat} {ys : St → Option (XSh O)} {valOf : O → AV} {memOf : O → List Blk} (hys : ∀ st y, ys st = some y → retOk y valOf memOf)
    {args : List AV} {M : List Blk} {o : O} (h : evfn X L c rs args M (goR X m ys) = some o) : FCalls X f m args M (valOf o) (memOf o) := by
  obtain ⟨x, M', h1, h2⟩ := evfn_sound hX hL hf hb hn hc hrs h
  exact goR_sound hX hys h1 h2
theorem fn_soundt (hX : X.Ok) {f : FuncId} {fn : Func} {c : Code} {L : LTab O} (hL : L.Ok X c) (hf : X.P.funcs[f]? = some fn) (hb : fn.body = some c) (hn : fn.ntmps = L.tab.nt.n)
    (hc : ∀ (vs : Array Value) (w : World), (callFunc f vs).run X.P w = .ok (.enter f vs) w) {rs : List ResultVar} (hrs : fn.results.toList = rs) {m n : Nat} {ys : St → Option (XSh O)} {valOf : O → AV} {memOf : O → List Blk} (hys : ∀ st y, ys st = some y → retOkt n y valOf memOf)
    {args : List AV} {M : List Blk} {o : O} (h : evfn X L c rs args M (goRt X m n ys) = some o) : FCalls X f m args M (valOf o) (memOf o) := by
  obtain ⟨x, M', h1, h2⟩ := evfn_sound hX hL hf hb hn hc hrs h
  exact goRt_sound hX hys h1 h2

end
end Go.Eng

namespace Go.Eng
open Go
noncomputable section

variable {X : Cx}

def badTI : TI := ⟨false, .other, 0, 0, [], []⟩
def lookTI : List (Nat × TI) → Nat → TI
  | [], _ => badTI
  | e :: es, t => match Nat.beq t e.1 with | true => e.2 | false => lookTI es t
def lookS : List (Nat × Site) → Nat → Site
  | [], _ => ⟨0, #[], .skip, .skip⟩
  | e :: es, t => match Nat.beq t e.1 with | true => e.2 | false => lookS es t

theorem lookTI_ok {P : Program} {l : List (Nat × TI)} (h : AllE (fun e => e.2 = tiOf P e.1 ∧ e.2.ok = true) l) (t : Nat) : ((lookTI l t).ok = true → lookTI l t = tiOf P t) ∧ ((lookTI l t).ok = false → (lookTI l t).ks = []) := by
  induction l with
  | nil => exact ⟨fun h => (by cases h), fun _ => rfl⟩
  | cons e es ih =>
    simp only [lookTI]
    cases hb : Nat.beq t e.1 with
    | true =>
      have := Nat.eq_of_beq_eq_true hb
      subst this
      exact ⟨fun _ => h.1.1, fun hf => (by have := h.1.2; rw [hf] at this; cases this)⟩
    | false => exact ih h.2

def lookVw : List (Nat × Nat) → Nat → Nat → Bool
  | [], _, _ => false
  | e :: es, d, t => match Nat.beq d e.1 && Nat.beq t e.2 with | true => true | false => lookVw es d t
def lookE : List Nat → Nat → Bool
  | [], _ => false
  | e :: es, t => match Nat.beq t e with | true => true | false => lookE es t
theorem lookE_ok {P : Program} {l : List Nat} (h : AllE (fun e => eqOk P e = true) l) (t : Nat) (ht : lookE l t = true) : eqOk P t = true := by
  induction l with
  | nil => cases ht
  | cons e es ih =>
    simp only [lookE] at ht
    cases hb : Nat.beq t e with
    | true =>
      have := Nat.eq_of_beq_eq_true hb
      subst this
      exact h.1
    | false => rw [hb] at ht; exact ih h.2 ht
theorem alike_refl (a : TI) : TI.alike a a := ⟨rfl, rfl, rfl, rfl, rfl, rfl⟩
theorem cx_ok {P : Program} {l : List (Nat × TI)} {s : Nat → Site} {el : List Nat} {gl : Nat → AV} {vw : Nat → TypeId → Bool} (hgl : ∀ g, gl g = .top ∨ (gl g).pure = true) (hm : P.follows .mixedOrders = true) (h : AllE (fun e => e.2 = tiOf P e.1 ∧ e.2.ok = true) l) (he : AllE (fun e => eqOk P e = true) el) : (⟨P, lookTI l, s, gl, lookE el, true, vw, none⟩ : Cx).Ok where
  eqs := lookE_ok he
  facts := fun {t} ht => facts_of_ti (X := ⟨P, lookTI l, s, gl, lookE el, true, vw, none⟩) (by rw [show (Cx.ti ⟨P, lookTI l, s, gl, lookE el, true, vw, none⟩ t) = lookTI l t from rfl, (lookTI_ok h t).1 ht]; exact alike_refl _) ht
  mixed := hm
  bad := fun t => (lookTI_ok h t).2
  glob := hgl
  kindsP := fun _ => kinds_of_ti (X := ⟨P, lookTI l, s, gl, lookE el, true, vw, none⟩) (fun t => (lookTI_ok h t).1) (fun t => (lookTI_ok h t).2)
  ub := fun u h => by cases h
  pkt := rfl

/-- The same types with kinds of which cells may name blocks. -/
def vTI (e : TI) : TI := ⟨e.ok, e.u, e.size, e.bytes, e.zero, e.ks.map Kind.v⟩
theorem cx_okv {P : Program} {l : List (Nat × TI)} {s : Nat → Site} {el : List Nat} {gl : Nat → AV} {vw : Nat → TypeId → Bool} {ub : Option Ub} (hub : ∀ u, ub = some u → UbOk P u) (hgl : ∀ g, gl g = .top ∨ (gl g).pure = true) (hm : P.follows .mixedOrders = true) (h : AllE (fun e => e.2 = tiOf P e.1 ∧ e.2.ok = true) l) (he : AllE (fun e => eqOk P e = true) el) : (⟨P, fun t => vTI (lookTI l t), s, gl, lookE el, false, vw, ub⟩ : Cx).Okb where
  eqs := lookE_ok he
  facts := fun {t} ht => facts_of_ti (X := ⟨P, fun t => vTI (lookTI l t), s, gl, lookE el, false, vw, ub⟩) (by
    rw [show (Cx.ti ⟨P, fun t => vTI (lookTI l t), s, gl, lookE el, false, vw, ub⟩ t) = vTI (lookTI l t) from rfl, (lookTI_ok h t).1 ht]
    exact ⟨rfl, rfl, rfl, rfl, rfl, by simp [vTI]⟩) ht
  mixed := hm
  bad := fun t ht => by
    show (vTI (lookTI l t)).ks = []
    have := (lookTI_ok h t).2 ht
    simp [vTI, this]
  glob := hgl
  kindsP := fun h => by cases h
  ub := hub

theorem ub_bt {P : Program} {t : TypeId} (h : (match P.info? t with | some j => !Nat.beq j.size 0 | none => false) = true) : ∃ j, P.info? t = some j ∧ j.size ≠ 0 := by
  split at h
  · rename_i j hj
    exact ⟨j, hj, fun e => by rw [e] at h; simp at h⟩
  · cases h

theorem enters {P : Program} {f : FuncId} {fn : Func} {c : Code} (hf : P.funcs[f]? = some fn) (hb : fn.body = some c) (hn : (fn.name == "runtime.NumGoroutine") = false) (vs : Array Value) (w : World) : (callFunc f vs).run P w = .ok (.enter f vs) w := by
  have hp : (program).run P w = .ok P w := rfl
  have hn' : fn.name ≠ "runtime.NumGoroutine" := by simpa using hn
  simp [callFunc, Sem.run_bind, hp, Result.andThen, hf, hn', hb]

end
end Go.Eng

namespace Go.Eng
open Go Go.ChangeShapes Go.WideShapes Go.ChangeAt Go.RowKit
noncomputable section

variable {X : Cx}

/-- Integers within their kinds; slices and strings not too long. -/
inductive Wf (K : TypeId → List Kind) : AV → Prop
  | int (k : IntKind) (n : Int) (h : (Lit.int k n).wf = true) : Wf K (.int k n)
  | bool (b : Bool) : Wf K (.bool b)
  | str (s : ByteArray) (h : s.size ≤ maxLen) : Wf K (.str s)
  | list (t : TypeId) (xs : List Row) (hl : xs.length ≤ maxLen) (hk : ∀ row ∈ xs, koks (K t) row = true) (h : ∀ row ∈ xs, ∀ x ∈ row, Wf K x) : Wf K (.list t xs)
def WfL (K : TypeId → List Kind) (row : Row) : Prop := ∀ x ∈ row, Wf K x

def offsOk (X : Cx) : Nat → List (Nat × TypeId) → Nat → Bool
  | o, [], n => o == n
  | o, f :: fs, n => f.1 == o && offsOk X (o + (X.ti f.2).size) fs n
/-- A type whose data can be read so, if those of the list's types can. -/
def rd1 (X : Cx) (S : List TypeId) (t : TypeId) : Bool :=
  (X.ti t).ok && match (X.ti t).u with
    | .int k => (X.ti t).ks == [.int k]
    | .bool => (X.ti t).ks == [.bool]
    | .str => (X.ti t).ks == [.str]
    | .slice e => (X.ti t).ks == [.slice e] && S.contains e && Nat.blt 0 (X.ti e).size
    | .struct fs => (X.ti t).ks == fs.flatMap (fun f => (X.ti f.2).ks) && offsOk X 0 fs (X.ti t).size && fs.all (fun f => S.contains f.2)
    | .array m e => (X.ti t).ks == (List.replicate m (X.ti e).ks).flatten && S.contains e && (m * (X.ti e).size == (X.ti t).size)
    | _ => false
/-- All of the list can be read. -/
def rdS (X : Cx) (S : List TypeId) : Bool := S.all (rd1 X S)
theorem rd1_of {S : List TypeId} (h : rdS X S = true) {t : TypeId} (ht : S.contains t = true) : rd1 X S t = true := by
  unfold rdS at h
  exact List.all_eq_true.1 h t (by simpa using ht)

theorem koks_append : ∀ {ks ls : List Kind} {r s : Row}, koks ks r = true → koks ls s = true → koks (ks ++ ls) (r ++ s) = true
  | [], _, [], _, _, h => h
  | k :: ks, ls, x :: r, s, h, h' => by
    simp only [koks, Bool.and_eq_true] at h
    simp only [List.cons_append, koks, Bool.and_eq_true]
    exact ⟨h.1, koks_append h.2 h'⟩
  | [], _, _ :: _, _, h, _ => by simp [koks] at h
  | _ :: _, _, [], _, h, _ => by simp [koks] at h

section
variable {w : World} {ρ : List Hd}

/-- The cells that were there. -/
def there (w : World) (a : Addr) : Prop := a.block < w.heap.size

def Reads (X : Cx) (ρ : List Hd) (w : World) (ks : List Kind) (cs : List Value) (row : Row) : Prop := RepL X.K ρ (there w) w row cs ∧ koks ks row = true ∧ WfL X.K row

theorem reads_fields {cs : List Value} : ∀ (fs : List (Nat × TypeId)) (o : Nat), o ≤ cs.length → offsOk X o fs cs.length = true → (∀ f ∈ fs, (X.ti f.2).ks.length = (X.ti f.2).size) →
    (∀ f ∈ fs, ∃ row, Reads X ρ w (X.ti f.2).ks ((cs.drop f.1).take (X.ti f.2).size) row) → ∃ row, Reads X ρ w (fs.flatMap fun f => (X.ti f.2).ks) (cs.drop o) row
  | [], o, ho, h, _, _ => by
    have : o = cs.length := by simpa [offsOk] using h
    subst this
    exact ⟨[], ⟨by simp [RepL], rfl, fun x hx => by simp at hx⟩⟩
  | f :: fs, o, ho, h, hks, hr => by
    simp only [offsOk, Bool.and_eq_true, beq_iff_eq] at h
    obtain ⟨h1, h2⟩ := h
    obtain ⟨r1, a1, a2, a3⟩ := hr f (by simp)
    rw [h1] at a1
    have hl1 : ((cs.drop o).take (X.ti f.2).size).length = (X.ti f.2).size := by rw [a1.1, koks_length a2]; exact hks f (by simp)
    have ho2 : o + (X.ti f.2).size ≤ cs.length := by simp at hl1; omega
    obtain ⟨r2, b1, b2, b3⟩ := reads_fields fs (o + (X.ti f.2).size) ho2 h2 (fun g hg => hks g (by simp [hg])) (fun g hg => hr g (by simp [hg]))
    refine ⟨r1 ++ r2, ?_, ?_, fun x hx => ?_⟩
    · have := RepL.append a1 b1
      rwa [← List.drop_drop, List.take_append_drop] at this
    · simp only [List.flatMap_cons]; exact koks_append a2 b2
    · rw [List.mem_append] at hx
      rcases hx with hx | hx
      · exact a3 x hx
      · exact b3 x hx

theorem reads_elems {cs : List Value} {ks : List Kind} {sz : Nat} (hks : ks.length = sz) : ∀ (m o : Nat), o + m * sz = cs.length → (∀ i, i < m → ∃ row, Reads X ρ w ks ((cs.drop (o + i * sz)).take sz) row) → ∃ row, Reads X ρ w (List.replicate m ks).flatten (cs.drop o) row
  | 0, o, ho, _ => by
    have : o = cs.length := by simpa using ho
    subst this
    exact ⟨[], ⟨by simp [RepL], rfl, fun x hx => by simp at hx⟩⟩
  | m + 1, o, ho, hr => by
    obtain ⟨r1, a1, a2, a3⟩ := hr 0 (by omega)
    simp only [Nat.zero_mul, Nat.add_zero] at a1
    have e1 : (m + 1) * sz = m * sz + sz := Nat.succ_mul m sz
    obtain ⟨r2, b1, b2, b3⟩ := reads_elems (cs := cs) hks m (o + sz) (by omega) (fun i hi => by
      have := hr (i + 1) (by omega)
      have e2 : (i + 1) * sz = i * sz + sz := Nat.succ_mul i sz
      rw [e2, show o + (i * sz + sz) = o + sz + i * sz by omega] at this
      exact this)
    refine ⟨r1 ++ r2, ?_, ?_, fun x hx => ?_⟩
    · have := RepL.append a1 b1
      rwa [← List.drop_drop, List.take_append_drop] at this
    · simp only [List.replicate_succ, List.flatten_cons]; exact koks_append a2 b2
    · rw [List.mem_append] at hx
      rcases hx with hx | hx
      · exact a3 x hx
      · exact b3 x hx

theorem reads_one {k : Kind} {x : AV} {v : Value} (hr : Rep X.K ρ (there w) w x v) (hk : kok k x = true) (hw : Wf X.K x) : Reads X ρ w [k] [v] [x] :=
  ⟨⟨rfl, fun j y u hy hu => by
    cases j with
    | zero => simp at hy hu; subst hy; subst hu; exact hr
    | succ j => simp at hy⟩, by simp [koks, hk], fun y hy => by simp at hy; subst hy; exact hw⟩

theorem reads_of_trod (hX : X.Ok) {S : List TypeId} (hS : rdS X S = true) {H : Type} {enc : TypeId × Value → H} : ∀ (n : Nat) {fuel : Nat} {t : TypeId} {cs : List Value} {x : DataW H × List MemPlace}, fuel < n → S.contains t = true →
    DataW.trod enc X.P w 0 (fun _ => true) true fuel t cs = some x → ∃ row, Reads X ρ w (X.ti t).ks cs row
  | 0, _, _, _, _, h, _, _ => absurd h (Nat.not_lt_zero _)
  | n + 1, fuel, t, cs, x, hfu, ht, hx => by
    have h := rd1_of hS ht
    simp only [rd1, Bool.and_eq_true] at h
    obtain ⟨hok, h⟩ := h
    obtain ⟨i, d, z, f⟩ := hX.facts hok
    have hcell : ∀ t', (X.ti t').ok = true → X.P.cellsOf t' = (X.ti t').size := fun t' hok' => by
      obtain ⟨i', d', z', f'⟩ := hX.facts hok'
      simp [Program.cellsOf, f'.info, f'.size]
    have hlen : ∀ t', (X.ti t').ok = true → (X.ti t').ks.length = (X.ti t').size := fun t' hok' => by
      obtain ⟨i', d', z', f'⟩ := hX.facts hok'
      rw [f'.ks, f'.size]
    have okof : ∀ {t'}, S.contains t' = true → (X.ti t').ok = true := fun {t'} hm => by
      have := rd1_of hS hm
      simp only [rd1, Bool.and_eq_true] at this
      exact this.1
    split at h
    · rename_i k hu
      have hk : (X.ti t).ks = [.int k] := by simpa using h
      obtain ⟨m, rfl, _, hwf⟩ := DataW.trod_int (f.intK hu) hx
      rw [hk]
      exact ⟨_, reads_one (.int k m) (by simp [kok]) (.int k m hwf)⟩
    · rename_i hu
      have hk : (X.ti t).ks = [.bool] := by simpa using h
      have hund : X.P.underlying t = some .bool := by
        have := f.und; rw [f.u] at hu
        cases d <;> simp_all [tyOf]
      obtain ⟨b, rfl, _⟩ := DataW.trod_bool hund hx
      rw [hk]
      exact ⟨_, reads_one (.bool b) rfl (.bool b)⟩
    · rename_i hu
      have hk : (X.ti t).ks = [.str] := by simpa using h
      have hund : X.P.underlying t = some .string := by
        have := f.und; rw [f.u] at hu
        cases d <;> simp_all [tyOf]
      obtain ⟨s, rfl, _, hs⟩ := DataW.trod_string hund hx
      rw [hk]
      exact ⟨_, reads_one (.str s) rfl (.str s hs)⟩
    · rename_i e hu
      simp only [Bool.and_eq_true, beq_iff_eq] at h
      obtain ⟨⟨hk, hrd⟩, hpos⟩ := h
      have hpos : 0 < (X.ti e).size := by simpa using hpos
      have hoke := okof hrd
      rcases DataW.trod_slice (f.slice hu) hx with ⟨rfl, _⟩ | ⟨a, len, cap, elems, rest, m, hfm, rfl, _, _, hlc, hcm, hel, hread, _, _⟩
      · rw [hk]
        exact ⟨_, reads_one (.list0 e) (by simp [kok]) (.list e [] (by simp) (fun row h => by simp at h) (fun row h => by simp at h))⟩
      · rw [hk]
        have each : ∀ i, i < len → ∃ vs row, w.cells? 0 (a.add (i * (X.ti e).size)) (X.ti e).size = some vs ∧ Reads X ρ w (X.ti e).ks vs row := by
          intro i hi
          have := hread i hi
          rw [hcell e hoke, List.getElem?_eq_getElem (by omega)] at this
          rw [Option.bind_eq_some_iff] at this
          obtain ⟨vs, h1, h2⟩ := this
          obtain ⟨row, h3⟩ := reads_of_trod hX hS n (by omega) hrd h2
          exact ⟨vs, row, h1, h3⟩
        have hch : ∃ g : Nat → List Value × Row, ∀ i, i < len → w.cells? 0 (a.add (i * (X.ti e).size)) (X.ti e).size = some (g i).1 ∧ Reads X ρ w (X.ti e).ks (g i).1 (g i).2 := by
          refine ⟨fun i => if hi : i < len then ((each i hi).choose, (each i hi).choose_spec.choose) else ([], []), fun i hi => ?_⟩
          simp only [hi, dif_pos]
          exact (each i hi).choose_spec.choose_spec
        obtain ⟨g, hg⟩ := hch
        have hkl := hlen e hoke
        have hxs : ((List.range len).map fun i => (g i).2).length = len := by simp
        have rep := Rep.list (K := X.K) (ρ := ρ) (F := there w) (w := w) e ((List.range len).map fun i => (g i).2) a cap ((List.range len).map fun i => (g i).1) (by simp) (by simpa using hlc) hcm
          (fun i row hi => by
            have hlt : i < len := by have := (List.getElem?_eq_some_iff.1 hi).1; simpa using this
            simp only [List.getElem?_map, List.getElem?_range hlt, Option.map_some, Option.some.injEq] at hi
            subst hi
            exact (hg i hlt).2.2.1)
          (fun i vs hi => by
            have hlt : i < len := by have := (List.getElem?_eq_some_iff.1 hi).1; simpa using this
            simp only [List.getElem?_map, List.getElem?_range hlt, Option.map_some, Option.some.injEq] at hi
            subst hi
            obtain ⟨c1, c2⟩ := hg i hlt
            have hvl : (g i).1.length = (X.K e).length := by rw [c2.1.1, koks_length c2.2.1]; rfl
            refine ⟨hvl, fun j v hj => ?_⟩
            have hjl : j < (X.ti e).size := by have := (List.getElem?_eq_some_iff.1 hj).1; rw [hvl] at this; rw [← hkl]; exact this
            have hcell' : w.cell? (a.add (i * (X.K e).length + j)) = some v := by
              have hsome := World.cells?_some c1
              obtain ⟨_, hsome⟩ := hsome
              have := hsome.2 j hjl
              rw [hj] at this
              have e2 : (X.K e).length = (X.ti e).size := hkl
              rw [e2]
              rwa [Addr.add_add] at this
            exact ⟨hcell', World.block_lt_of_cell? w _ hcell'⟩)
          (fun i row vs hi hvs j y v hy hv => by
            have hlt : i < len := by have := (List.getElem?_eq_some_iff.1 hi).1; simpa using this
            simp only [List.getElem?_map, List.getElem?_range hlt, Option.map_some, Option.some.injEq] at hi hvs
            subst hi; subst hvs
            exact (hg i hlt).2.1.2 j y v hy hv)
        rw [hxs] at rep
        refine ⟨_, reads_one rep (by simp [kok]) (.list e _ (by rw [hxs]; omega) (fun row hrow => ?_) fun row hrow y hy => ?_)⟩
        · obtain ⟨i, hi, rfl⟩ := List.mem_map.1 hrow
          exact (hg i (List.mem_range.1 hi)).2.2.1
        · obtain ⟨i, hi, rfl⟩ := List.mem_map.1 hrow
          exact (hg i (List.mem_range.1 hi)).2.2.2 y hy
    · rename_i fs hu
      simp only [Bool.and_eq_true, beq_iff_eq] at h
      obtain ⟨⟨hk, hoff⟩, hall⟩ := h
      obtain ⟨gs, hund, rfl⟩ := f.struct hu
      obtain ⟨xs, m, hfm, _, hcl, hxl, hfield⟩ := DataW.trod_struct hund hx
      rw [hk]
      rw [hcell t hok] at hcl
      have := reads_fields (X := X) (ρ := ρ) (w := w) (cs := cs) (gs.toList.map fun f => (f.offset, f.type)) 0 (Nat.zero_le _) (by rw [hcl]; exact hoff)
        (fun g hg => hlen _ (okof (List.all_eq_true.1 hall g hg))) (fun g hg => by
          have hrd := List.all_eq_true.1 hall g hg
          obtain ⟨q, hq, rfl⟩ := List.mem_map.1 hg
          obtain ⟨j, hj, hq⟩ := List.mem_iff_getElem.1 hq
          have hj' : gs[j]? = some q := by rw [← hq]; simp [Array.length_toList ▸ hj]
          have hf := hfield j q hj'
          rw [hcell _ (okof hrd)] at hf
          have hjx : j < xs.length := by rw [hxl]; simpa using hj
          rw [List.getElem?_eq_getElem hjx] at hf
          exact reads_of_trod hX hS n (by omega) hrd hf)
      simpa using this
    · rename_i m e hu
      simp only [Bool.and_eq_true, beq_iff_eq] at h
      obtain ⟨⟨hk, hrd⟩, hmul⟩ := h
      have hoke := okof hrd
      obtain ⟨xs, m', hfm, _, hcl, hxl, hread⟩ := DataW.trod_array (f.array hu) hx
      rw [hk]
      rw [hcell t hok] at hcl
      have := reads_elems (X := X) (ρ := ρ) (w := w) (cs := cs) (hlen e hoke) m 0 (by omega) (fun i hi => by
        have hf := hread i hi
        rw [hcell _ hoke, List.getElem?_eq_getElem (by omega)] at hf
        simpa using reads_of_trod hX hS n (by omega) hrd hf)
      simpa using this
    · cases h

end

/-- An argument of a type, as an abstract value. -/
def ArgAV (X : Cx) (t : TypeId) (x : AV) : Prop := ((X.ti t).u.agg = true ∧ ∃ row, x = .agg row ∧ koks (X.ti t).ks row = true ∧ WfL X.K row) ∨ ((X.ti t).u.agg = false ∧ koks (X.ti t).ks [x] = true ∧ Wf X.K x)

theorem argAV_of_trod (hX : X.Ok) {S : List TypeId} (hS : rdS X S = true) {w : World} {base : Nat} {ρ : List Hd} {H : Type} {enc : TypeId × Value → H} {t : TypeId} {v : Value} {d : DataW H} {ps : List MemPlace} (hrd : S.contains t = true) (h : DataW.Trod enc X.P w 0 (fun _ => true) true t v d ps)
    (hok : Value.okWide X.P w .any base t v) : ∃ x, ArgAV X t x ∧ Rep X.K ρ (there w) w x v := by
  obtain ⟨fuel, h⟩ := h
  obtain ⟨row, hr⟩ := reads_of_trod hX hS (ρ := ρ) (fuel + 1) (by omega) hrd h
  have hr1 := rd1_of hS hrd
  have hto : (X.ti t).ok = true := by
    simp only [rd1, Bool.and_eq_true] at hr1
    exact hr1.1
  obtain ⟨i, dd, z, f⟩ := hX.facts hto
  cases hag : (X.ti t).u.agg with
  | true =>
    have hv : ∃ cs, v = .agg cs := by
      unfold Value.okWide at hok
      rw [f.und] at hok
      rw [f.u] at hag
      cases dd <;> simp [tyOf, TyI.agg] at hag
      · obtain ⟨cs, h1, _⟩ := hok; exact ⟨cs, h1⟩
      · obtain ⟨cs, h1, _⟩ := hok; exact ⟨cs, h1⟩
    obtain ⟨cs, rfl⟩ := hv
    have hc : (Value.agg cs).cells.toList = cs.toList := rfl
    rw [hc] at hr
    refine ⟨.agg row, .inl ⟨hag, row, rfl, hr.2.1, hr.2.2⟩, ?_⟩
    have := Rep.agg (K := X.K) (ρ := ρ) (F := there w) (w := w) row cs.toList hr.1.1 hr.1.2
    simpa using this
  | false =>
    have hkl : (X.ti t).ks.length = 1 := by
      simp only [rd1, Bool.and_eq_true] at hr1
      have h2 := hr1.2
      split at h2
      · rename_i k hu
        have : (X.ti t).ks = [.int k] := by simpa using h2
        rw [this]; rfl
      · have : (X.ti t).ks = [.bool] := by simpa using h2
        rw [this]; rfl
      · have : (X.ti t).ks = [.str] := by simpa using h2
        rw [this]; rfl
      · simp only [Bool.and_eq_true, beq_iff_eq] at h2
        rw [h2.1.1]; rfl
      · rename_i hu; rw [hu] at hag; simp [TyI.agg] at hag
      · rename_i hu; rw [hu] at hag; simp [TyI.agg] at hag
      · cases h2
    have hrl := koks_length hr.2.1
    rw [hkl] at hrl
    obtain ⟨x, rfl⟩ := List.length_eq_one_iff.1 hrl
    have hcl : v.cells.toList.length = 1 := by rw [hr.1.1, hrl]
    have hv : v.cells.toList = [v] := by
      cases v with
      | agg cs =>
        exfalso
        unfold Value.okWide at hok
        rw [f.und] at hok
        rw [f.u] at hag
        cases dd <;> simp [tyOf, TyI.agg] at hag <;> simp [Cell.okWide, Cell.ok, f.und] at hok
      | _ => rfl
    rw [hv] at hr
    exact ⟨x, .inr ⟨hag, hr.2.1, hr.2.2 x (by simp)⟩, hr.1.2 0 x v rfl rfl⟩

/-! ### A law's row -/

theorem below_of_inv {w0 w : World} {F : Addr → Prop} {ρ : List Hd} {M : List Blk} {F0 : Addr → Prop} (hI : Inv X w0 ⟨fun _ => False, F0⟩ F ρ M w) : Below w0.heap.size w0 w :=
  ⟨hI.os, hI.tape, hI.output, hI.size, fun k hk => hI.frame k hk (fun h => h)⟩

theorem kept_of_below {w w' : World} (h : Below w.heap.size w w') (may : MemPlace → Prop) : w.keptBut w' may := by
  refine ⟨h.os, h.output, fun i hi => ?_⟩
  rw [h.block i hi]
  exact (World.keptBut_refl w may).2.2 i hi

theorem inv_start (hX : X.Ok) (w : World) (hg : ∀ g, Rep X.K [] (there w) w (X.glob g) (.pointer (some ⟨g, 0, none⟩))) : Inv X w ⟨fun _ => False, there w⟩ (there w) [] [] w where
  os := rfl
  tape := rfl
  output := rfl
  size := Nat.le_refl _
  frame := fun _ _ _ => rfl
  len := rfl
  rep := fun id b hd hb _ => by simp at hb
  sep := fun id b hd g hb _ _ _ => by simp at hb
  disj := fun id id' b b' hd hd' g _ hb _ _ _ _ _ _ => by simp at hb
  fz := fun a ha => ha
  glob := hg
  one := fun id hd hh => by simp at hh
  old := fun a ha => .inl ha
  fin := fun a ha => ha

def ArgsAV (X : Cx) : List TypeId → List AV → Prop
  | [], [] => True
  | t :: ts, x :: xs => ArgAV X t x ∧ ArgsAV X ts xs
  | _, _ => False

theorem argsAV_of_trod (hX : X.Ok) {S : List TypeId} (hS : rdS X S = true) {w : World} {base : Nat} {ρ : List Hd} {H : Type} {enc : TypeId × Value → H} : ∀ {ts : List TypeId} {vs : List Value} {ds : List (DataW H)} {ps : List MemPlace}, (ts.all S.contains) = true →
    DataW.TrodAll enc X.P w 0 (fun _ => true) true ts vs ds ps → (∀ (j : Nat) t v, ts[j]? = some t → vs[j]? = some v → Value.okWide X.P w .any base t v) → ∃ xs, ArgsAV X ts xs ∧ RepL X.K ρ (there w) w xs vs
  | [], [], [], ps, _, _, _ => ⟨[], trivial, by simp [RepL]⟩
  | t :: ts, v :: vs, d :: ds, ps, hrd, h, hok => by
    obtain ⟨p, q, h1, h2, _⟩ := h
    simp only [List.all_cons, Bool.and_eq_true] at hrd
    obtain ⟨x, hx, hr⟩ := argAV_of_trod hX hS (ρ := ρ) hrd.1 h1 (hok 0 t v rfl rfl)
    obtain ⟨xs, hxs, hrs⟩ := argsAV_of_trod hX hS (ρ := ρ) (ts := ts) (vs := vs) hrd.2 h2 (fun j t' v' ht hv => hok (j + 1) t' v' (by simpa using ht) (by simpa using hv))
    refine ⟨x :: xs, ⟨hx, hxs⟩, by simp [hrs.1], fun j y u hy hu => ?_⟩
    cases j with
    | zero => simp at hy hu; subst hy; subst hu; exact hr
    | succ j => simp at hy hu; exact hrs.2 j y u hy hu
  | [], [], _ :: _, _, _, h, _ => by simp [DataW.TrodAll] at h
  | [], _ :: _, _, _, _, h, _ => by simp [DataW.TrodAll] at h
  | _ :: _, [], _, _, _, h, _ => by simp [DataW.TrodAll] at h
  | _ :: _, _ :: _, [], _, _, h, _ => by simp [DataW.TrodAll] at h

theorem trodAll_behind {P : Program} {H : Type} {enc : TypeId × Value → H} (hl : laidOutB P = true) {w w' : World} (hb : Below w.heap.size w w') : ∀ {ts : List TypeId} {vs : List Value} {ds : List (DataW H)} {ps : List MemPlace}, (ts.all fun t => P.readableRec t && Nat.blt t P.types.size) = true →
    DataW.TrodAll enc P w 0 (fun _ => true) true ts vs ds ps → (∀ x ∈ ps, x.block < w.heap.size) → DataW.TrodAll enc P w' 0 (fun b => decide (b < w.heap.size)) true ts vs ds ps
  | [], [], [], ps, _, h, _ => h
  | t :: ts, v :: vs, d :: ds, ps, hrd, h, hlt => by
    obtain ⟨p, q, h1, h2, rfl⟩ := h
    simp only [List.all_cons, Bool.and_eq_true] at hrd
    exact ⟨p, q, Below.trod hl hrd.1.1 (by simpa using hrd.1.2) h1 hb (fun x hx => hlt x (by simp [hx])), trodAll_behind hl hb (ts := ts) (vs := vs) hrd.2 h2 (fun x hx => hlt x (by simp [hx])), rfl⟩
  | [], [], _ :: _, _, _, h, _ => by simp [DataW.TrodAll] at h
  | [], _ :: _, _, _, _, h, _ => by simp [DataW.TrodAll] at h
  | _ :: _, [], _, _, _, h, _ => by simp [DataW.TrodAll] at h
  | _ :: _, _ :: _, [], _, _, h, _ => by simp [DataW.TrodAll] at h

/-- The cells of a variable of the package that holds an array of numbers. -/
theorem rep_table {w : World} {t : TypeId} {row : Row} {g : Nat} (hk : koks (X.K t) row = true) (hc : ∀ j x, row[j]? = some x → ∃ k n, x = .int k n ∧ w.cell? ⟨g, j, none⟩ = some (.int k n)) (hb : g < w.heap.size) : Rep X.K [] (there w) w (.iptr t row 0) (.pointer (some ⟨g, 0, none⟩)) := by
  have hv : ∀ (j : Nat) v, (row.map fun x => match x with | .int k n => Value.int k n | _ => .bool false)[j]? = some v → ∃ k n, row[j]? = some (.int k n) ∧ v = .int k n := by
    intro j v hj
    rw [List.getElem?_map] at hj
    cases hx : row[j]? with
    | none => rw [hx] at hj; cases hj
    | some x =>
      obtain ⟨k, n, rfl, _⟩ := hc j x hx
      rw [hx] at hj
      exact ⟨k, n, rfl, by simpa using hj.symm⟩
  have := Rep.iptr (K := X.K) (ρ := []) (F := there w) (w := w) t row 0 ⟨g, 0, none⟩ (row.map fun x => match x with | .int k n => Value.int k n | _ => .bool false) hk (by simp) (fun j v hj => by
      obtain ⟨k, n, hr, rfl⟩ := hv j v hj
      obtain ⟨k', n', e, h⟩ := hc j _ hr
      cases e
      have e : (⟨g, 0, none⟩ : Addr).add j = ⟨g, j, none⟩ := by
        unfold Addr.add
        by_cases hj0 : j = 0
        · subst hj0; simp
        · simp [hj0]
      rw [e]
      exact ⟨h, hb⟩) (fun j x v hx hj => by
      obtain ⟨k, n, hr, rfl⟩ := hv j v hj
      rw [hx] at hr
      cases hr
      exact .int k n)
  simpa [Addr.add] using this

/-- What a law's row asks of the function: from its contract at all that can be read. -/
theorem law_contract' (hX : X.Ok) (hl : laidOutB X.P = true) {f : FuncId} {fn : Func} {s : ChangeSpec} {ts : List TypeId} {tb : TypeId} (hts : fn.params.toList = ts) (hrt : fn.resultTypes = #[tb]) (htb : X.P.underlying tb = some .bool)
    {S : List TypeId} (hS : rdS X S = true) (hrd : (ts.all S.contains) = true) (hrr : (ts.all fun t => X.P.readableRec t && Nat.blt t X.P.types.size) = true) (hv : s.vars = []) {H : Type} {enc : TypeId × Value → H}
    (hs : ∀ ds : List (DataW H), ds.length = ts.length → s.fn H ds = { results := [.lit (.bool true)], args := ds })
    (hlaw : ∀ xs, ArgsAV X ts xs → ∃ m M', FCalls X f m xs [] (.bool true) M')
    (W : World) (hg : ∀ g, Rep X.K [] (there W) W (X.glob g) (.pointer (some ⟨g, 0, none⟩))) (base : Nat) (args : Array Value) (ds gs : List (DataW H)) (before : List MemPlace) (hval : ∀ (j : Nat) t v, fn.params[j]? = some t → args[j]? = some v → Value.okWide X.P W .any base t v)
    (hW : DataW.Whole enc X.P fn.params.toList s.vars false W args.toList ds gs before) :
    Calls X.P f args W fun e W' => ∃ v, e = .returned v ∧ s.post enc X.P fn false true false false W args v W' := by
  have hW' := hW
  obtain ⟨p, q, hA, hV, hpq, hfz, hnd⟩ := hW
  rw [hv] at hV
  obtain ⟨rfl, rfl⟩ := trodVars_none hV
  rw [List.append_nil] at hpq
  have hpq' : p = before := hpq.symm
  subst hpq'
  have hA0 := hA
  rw [hts] at hA
  have hlen : ds.length = ts.length := by
    have : ∀ (ts : List TypeId) (vs : List Value) (ds : List (DataW H)) (ps : List MemPlace), DataW.TrodAll enc X.P W 0 (fun _ => true) true ts vs ds ps → ds.length = ts.length := by
      intro ts
      induction ts with
      | nil => intro vs ds ps h; cases vs <;> cases ds <;> simp_all [DataW.TrodAll]
      | cons t ts ih =>
        intro vs ds ps h
        cases vs with
        | nil => cases ds <;> simp [DataW.TrodAll] at h
        | cons v vs =>
          cases ds with
          | nil => simp [DataW.TrodAll] at h
          | cons d ds => obtain ⟨_, _, _, h2, _⟩ := h; simp [ih _ _ _ h2]
    exact this _ _ _ _ hA
  obtain ⟨xs, hxs, hrep⟩ := argsAV_of_trod hX hS (ρ := []) hrd hA (fun j t v ht hv => hval j t v (by rw [← hts] at ht; simpa using ht) (by simpa using hv))
  obtain ⟨m, M', hcall⟩ := hlaw xs hxs
  have := hcall (inv_start hX W hg) hrep
  refine this.mono ?_
  rintro e W' ⟨v, ρ', F', rfl, hI, _, hr⟩
  refine ⟨v, rfl, ?_⟩
  cases hr
  have hb := below_of_inv hI
  have hlt : ∀ x ∈ p, x.block < W.heap.size := fun x hx => by simpa using hW'.lt x hx
  have hfn : s.fn H (ds ++ []) = { results := [.lit (.bool true)], args := ds } := by rw [List.append_nil]; exact hs ds hlen
  refine ⟨ds, [], p, [], p, [], hW', ?_, ?_, ?_, kept_of_below hb _, fun h => by cases h⟩
  · rw [hfn, hrt]
    exact trodAll_mk1 (shut_bool htb true)
  · rw [hfn]
    rw [hts]
    exact trodAll_behind hl hb hrr hA hlt
  · rw [hfn, hv]; exact rfl

theorem law_contract (hX : X.Ok) (hg : ∀ g, X.glob g = .top) (hl : laidOutB X.P = true) {f : FuncId} {fn : Func} {s : ChangeSpec} {ts : List TypeId} {tb : TypeId} (hts : fn.params.toList = ts) (hrt : fn.resultTypes = #[tb]) (htb : X.P.underlying tb = some .bool)
    {S : List TypeId} (hS : rdS X S = true) (hrd : (ts.all S.contains) = true) (hrr : (ts.all fun t => X.P.readableRec t && Nat.blt t X.P.types.size) = true) (hv : s.vars = []) {H : Type} {enc : TypeId × Value → H}
    (hs : ∀ ds : List (DataW H), ds.length = ts.length → s.fn H ds = { results := [.lit (.bool true)], args := ds })
    (hlaw : ∀ xs, ArgsAV X ts xs → ∃ m M', FCalls X f m xs [] (.bool true) M')
    (W : World) (base : Nat) (args : Array Value) (ds gs : List (DataW H)) (before : List MemPlace) (hval : ∀ (j : Nat) t v, fn.params[j]? = some t → args[j]? = some v → Value.okWide X.P W .any base t v)
    (hW : DataW.Whole enc X.P fn.params.toList s.vars false W args.toList ds gs before) :
    Calls X.P f args W fun e W' => ∃ v, e = .returned v ∧ s.post enc X.P fn false true false false W args v W' :=
  law_contract' hX hl hts hrt htb hS hrd hrr hv hs hlaw W (fun g => by rw [hg]; exact .top _) base args ds gs before hval hW

end
end Go.Eng

namespace Go.Eng
open Go Go.ChangeShapes Go.WideShapes Go.ChangeAt Go.RowKit
noncomputable section

variable {X : Cx} {R : Type}

/-- A function: code, number of temporaries, results. -/
structure FI where
  c : Code
  nt : Nt
  rs : List ResultVar

def FiOk (X : Cx) (f : Nat) (fi : FI) : Prop := ∃ fn, X.P.funcs[f]? = some fn ∧ fn.body = some fi.c ∧ fn.ntmps = fi.nt.n ∧ fn.results.toList = fi.rs ∧ ∀ (vs : Array Value) (w : World), (callFunc f vs).run X.P w = .ok (.enter f vs) w

def pickF : List (Nat × FI) → Nat → Option FI
  | [], _ => none
  | e :: es, f => match Nat.beq f e.1 with | true => some e.2 | false => pickF es f
theorem pickF_ok {I : List (Nat × FI)} (h : AllE (fun e => FiOk X e.1 e.2) I) {f : Nat} {fi : FI} (hf : pickF I f = some fi) : FiOk X f fi := by
  induction I with
  | nil => cases hf
  | cons e es ih =>
    simp only [pickF] at hf
    cases hb : Nat.beq f e.1 with
    | true =>
      rw [hb] at hf
      injection hf with hf
      subst hf
      have := Nat.eq_of_beq_eq_true hb
      subst this
      exact h.1
    | false => rw [hb] at hf; exact ih h.2 hf

/-- The way to a place, from its number. -/
def decP : Nat → Nat → List Bool
  | 0, _ => []
  | n + 1, p => match Nat.ble p 1 with | true => [] | false => (Nat.beq (p % 2) 1) :: decP n (p / 2)
/-- What stands at a place. -/
def codeOf (root : Code) (p : Nat) : Option Code := match Nat.beq (enc (decP p.log2.succ.succ p)) p with | true => codeAt root (decP p.log2.succ.succ p) | false => none
theorem codeOf_at {root c d : Code} {p : Nat} (h : codeOf root p = some d) (hat : At root p c) : d = c := by
  unfold codeOf at h
  split at h
  · rename_i hb
    have := hat.det _ (Nat.eq_of_beq_eq_true hb)
    rw [h] at this
    injection this
  · cases h

/-- Only the newest value of each temporary. -/
def trm (env : List (Nat × AV)) : Nat → List (Nat × AV) → (List (Nat × AV) → Option R) → Option R :=
  List.rec (motive := fun _ => Nat → List (Nat × AV) → (List (Nat × AV) → Option R) → Option R) (fun _ acc k => k acc)
    (fun p _ ih seen acc k => Bool.rec (motive := fun _ => Option R) (ih (Nat.lor seen (Nat.shiftLeft 1 p.1)) (p :: acc) k) (ih seen acc k) (Nat.beq (Nat.land (Nat.shiftRight seen p.1) 1) 1)) env
theorem look_cons' (p : Nat × AV) (env : List (Nat × AV)) (u : Nat) : look (p :: env) u = if u == p.1 then p.2 else look env u := look_cons p.1 p.2 env u
theorem lor_bit (seen p t : Nat) : (Nat.lor seen (Nat.shiftLeft 1 p)).testBit t = (seen.testBit t || t == p) := by
  show (seen ||| (1 <<< p)).testBit t = _
  rw [Nat.testBit_or, Nat.one_shiftLeft, Nat.testBit_two_pow]
  congr 1
  by_cases h : p = t
  · subst h; simp
  · simp [h, Ne.symm h]
/-- What is kept says the same. -/
theorem trm_spec : ∀ (env : List (Nat × AV)) (seen : Nat) (acc : List (Nat × AV)) (k : List (Nat × AV) → Option R), (∀ t, seen.testBit t = false → look acc t = .top) →
    ∃ out, trm env seen acc k = k out ∧ ∀ t, look out t = .top ∨ look out t = (if seen.testBit t then look acc t else look env t)
  | [], seen, acc, k, h => ⟨acc, rfl, fun t => by
    cases hs : seen.testBit t with
    | true => exact .inr (by simp)
    | false => exact .inl (h t hs)⟩
  | p :: env, seen, acc, k, h => by
    cases hb : seen.testBit p.1 with
    | true =>
      obtain ⟨out, h1, h2⟩ := trm_spec env seen acc k h
      refine ⟨out, ?_, fun t => ?_⟩
      · rw [← h1]
        show Bool.rec (motive := fun _ => Option R) _ (trm env seen acc k) (Nat.beq (Nat.land (Nat.shiftRight seen p.1) 1) 1) = _
        rw [bit_eq, hb]
      · rcases h2 t with h2 | h2
        · exact .inl h2
        · refine .inr ?_
          rw [h2]
          by_cases ht : seen.testBit t = true
          · simp [ht]
          · have hne : t ≠ p.1 := fun e => ht (e ▸ hb)
            simp [ht, look_cons', hne]
    | false =>
      obtain ⟨out, h1, h2⟩ := trm_spec env (Nat.lor seen (Nat.shiftLeft 1 p.1)) (p :: acc) k (fun t ht => by
        rw [lor_bit] at ht
        rw [Bool.or_eq_false_iff] at ht
        have hne : t ≠ p.1 := by simpa using ht.2
        rw [look_cons']
        simp [hne, h t ht.1])
      refine ⟨out, ?_, fun t => ?_⟩
      · rw [← h1]
        show Bool.rec (motive := fun _ => Option R) (trm env (Nat.lor seen (Nat.shiftLeft 1 p.1)) (p :: acc) k) _ (Nat.beq (Nat.land (Nat.shiftRight seen p.1) 1) 1) = _
        rw [bit_eq, hb]
      · rcases h2 t with h2 | h2
        · exact .inl h2
        · refine .inr ?_
          rw [h2, lor_bit]
          by_cases hne : t = p.1
          · subst hne
            simp [hb, look_cons']
          · simp [look_cons', hne]
/-! New blocks that nothing names are given up when a call returns. -/

def allB {α : Type} (f : α → Bool) (l : List α) : Bool := List.rec (motive := fun _ => Bool) true (fun x _ ih => Bool.rec (motive := fun _ => Bool) false ih (f x)) l
theorem allB_mem {α : Type} {f : α → Bool} : ∀ {l : List α}, allB f l = true → ∀ x ∈ l, f x = true
  | [], _, x, hx => by simp at hx
  | y :: l, h, x, hx => by
    have h' : Bool.rec (motive := fun _ => Bool) false (allB f l) (f y) = true := h
    cases hy : f y with
    | false => rw [hy] at h'; cases h'
    | true =>
      rw [hy] at h'
      rcases List.mem_cons.1 hx with rfl | hx
      · exact hy
      · exact allB_mem h' x hx
/-- Names no block from n on. -/
def bd0 (n : Nat) (x : AV) : Bool :=
  match x with
  | .int _ _ => true
  | .bool _ => true
  | .str _ => true
  | .nilp => true
  | .nilsl => true
  | .nilfn => true
  | .nilmp => true
  | .top => true
  | .ptr id _ _ => Nat.ble (Nat.succ id) n
  | .own id => Nat.ble (Nat.succ id) n
  | .yld id => Nat.ble (Nat.succ id) n
  | .mp id => Nat.ble (Nat.succ id) n
  | .vsl id _ => Nat.ble (Nat.succ id) n
  | .vw id _ _ => Nat.ble (Nat.succ id) n
  | .enl => true
  | _ => false
def bd1 (n : Nat) (x : AV) : Bool :=
  match x with
  | .agg cs => allB (bd0 n) cs
  | .clos _ a b => allB (bd0 n) a && allB (bd0 n) b
  | x => bd0 n x
def bd2 (n : Nat) (x : AV) : Bool :=
  match x with
  | .tup cs => allB (bd1 n) cs
  | x => bd1 n x
def bdB (n : Nat) (b : Blk) : Bool :=
  match b with
  | .var _ cs => allB (bd1 n) cs
  | .row _ xs => allB (allB (bd1 n)) xs
  | .map _ _ _ es => allB (fun e => bd1 n e.1 && bd1 n e.2) es
  | .loop _ env _ _ => allB (fun p => bd1 n p.2) env
  | .dfr => true
  | .dead => true
  | .fro _ _ => false

section
variable {w : World} {F : Addr → Prop} {ρ : List Hd} {n : Nat}
theorem take_get {α : Type} {l : List α} {n id : Nat} (hid : Nat.ble (Nat.succ id) n = true) {x : α} (h : l[id]? = some x) : (l.take n)[id]? = some x := by
  have := Nat.le_of_ble_eq_true hid
  rw [List.getElem?_take, if_pos (by omega)]; exact h
theorem Rep.bd0 {K : TypeId → List Kind} {x : AV} {v : Value} (h : Rep K ρ F w x v) (hb : bd0 n x = true) : Rep K (ρ.take n) F w x v := by
  cases h <;> simp only [Eng.bd0, Bool.false_eq_true] at hb <;> first
    | exact .top _
    | exact .int _ _
    | exact .bool _
    | exact .str _
    | exact .nilp
    | exact .nilsl
    | exact .nilfn
    | exact .nilmp
    | exact .enl _ _
    | skip
  · rename_i id i off hd g o m c hid hv; exact .ptr id i off hd g o m c (take_get hb hid) hv
  · rename_i id hd hid; exact .own id hd (take_get hb hid)
  · rename_i id hd g hid hv; exact .yld id hd g (take_get hb hid) hv
  · rename_i id hd hid; exact .mp id hd (take_get hb hid)
  · rename_i id m hd g o k c cap hid hv; exact .vsl id m hd g o k c cap (take_get hb hid) hv
  · rename_i id lo m hd g o k c cap hid hv hc hb2; exact .vw id lo m hd g o k c cap (take_get hb hid) hv hc hb2
  · exact .vwn _ _
  · exact .vws _ _ _ _
theorem RepL.bd {K : TypeId → List Kind} {xs : List AV} {vs : List Value} (h : RepL K ρ F w xs vs) {f : AV → Bool} (hf : ∀ {x v}, Rep K ρ F w x v → f x = true → Rep K (ρ.take n) F w x v) (hb : allB f xs = true) : RepL K (ρ.take n) F w xs vs :=
  ⟨h.1, fun j x v hx hv => hf (h.2 j x v hx hv) (allB_mem hb x (List.mem_of_getElem? hx))⟩
theorem Rep.bd1 {K : TypeId → List Kind} {x : AV} {v : Value} (h : Rep K ρ F w x v) (hb : bd1 n x = true) : Rep K (ρ.take n) F w x v := by
  unfold Eng.bd1 at hb
  split at hb
  · cases h with
    | agg cs vs hl hc => exact .agg _ _ hl (RepL.bd (vs := vs) ⟨hl, hc⟩ (fun h hb => Rep.bd0 h hb) hb).2
  · rw [Bool.and_eq_true] at hb
    cases h with
    | clos f a b vf vc hf hc h1 h2 => exact .clos _ _ _ _ _ hf hc (RepL.bd (vs := vf) ⟨hf, h1⟩ (fun h hb => Rep.bd0 h hb) hb.1).2 (RepL.bd (vs := vc) ⟨hc, h2⟩ (fun h hb => Rep.bd0 h hb) hb.2).2
  · exact h.bd0 hb
theorem Rep.bd2 {K : TypeId → List Kind} {x : AV} {v : Value} (h : Rep K ρ F w x v) (hb : bd2 n x = true) : Rep K (ρ.take n) F w x v := by
  unfold Eng.bd2 at hb
  split at hb
  · cases h with
    | tup cs vs hl hc => exact .tup _ _ hl (RepL.bd (vs := vs) ⟨hl, hc⟩ (fun h hb => Rep.bd1 h hb) hb).2
  · exact h.bd1 hb
theorem look_bd {env : List (Nat × AV)} (hb : allB (fun p => bd1 n p.2) env = true) (t : Nat) : look env t = .top ∨ bd1 n (look env t) = true := by
  induction env with
  | nil => exact .inl rfl
  | cons p env ih =>
    have h1 := allB_mem hb p List.mem_cons_self
    have h2 : allB (fun p : Nat × AV => bd1 n p.2) env = true := by
      have h' : Bool.rec (motive := fun _ => Bool) false (allB (fun p : Nat × AV => bd1 n p.2) env) (bd1 n p.2) = true := hb
      rw [h1] at h'
      exact h'
    obtain ⟨u, x⟩ := p
    rw [look_cons]
    split
    · exact .inr h1
    · exact ih h2
theorem BRep.bd {hd : Hd} {b : Blk} (h : BRep X ρ F w hd b) (hb : bdB n b = true) : BRep X (ρ.take n) F w hd b := by
  cases b with
  | var ks cs =>
    obtain ⟨h1, h2, g, cur, e, h3, h4, h5, h6⟩ := h
    exact ⟨h1, h2, g, cur, e, h3, h4, h5.bd (fun h hb => Rep.bd1 h hb) hb, h6⟩
  | row t xs =>
    obtain ⟨h1, h2, h3⟩ := h
    refine ⟨h1, h2, ?_⟩
    rcases h3 with h3 | ⟨g, o, c, cur, e1, e2, e3, e4, e5, e6⟩
    · exact .inl h3
    · refine .inr ⟨g, o, c, cur, e1, e2, e3, e4, e5, fun i row hi j x hx => ?_⟩
      obtain ⟨v, hv, hr⟩ := e6 i row hi j x hx
      exact ⟨v, hv, hr.bd1 (allB_mem (allB_mem hb row (List.mem_of_getElem? hi)) x (List.mem_of_getElem? hx))⟩
  | map kd ag ks es =>
    obtain ⟨h0, g, mes, clock, h1, h2, h3, h4⟩ := h
    refine ⟨h0, g, mes, clock, h1, h2, h3, fun i e me he hm => ?_⟩
    obtain ⟨h5, h6, h7⟩ := h4 i e me he hm
    have := allB_mem hb e (List.mem_of_getElem? he)
    rw [Bool.and_eq_true] at this
    exact ⟨h5, h6.bd1 this.1, h7.bd1 this.2⟩
  | loop s env busy pend =>
    obtain ⟨g, lp, h1, h2, h3, h4, h5, h6, h7, h8⟩ := h
    refine ⟨g, lp, h1, h2, h3, h4, h5, h6, fun t => ?_, h8⟩
    rcases look_bd hb t with e | e
    · rw [e]; exact .top _
    · exact (h7 t).bd1 e
  | dfr => exact h
  | fro t xs => simp [bdB] at hb
  | dead => trivial
/-- The package's variables name no block. -/
def GlobFree (X : Cx) : Prop := ∀ (g : Nat) {ρ ρ' : List Hd} {F : Addr → Prop} {w : World} {v : Value}, Rep X.K ρ F w (X.glob g) v → Rep X.K ρ' F w (X.glob g) v
theorem Inv.cut (hG : GlobFree X) {w0 : World} {S : Sc} {M : List Blk} (hI : Inv X w0 S F ρ M w) (hb : allB (bdB n) (M.take n) = true) : Inv X w0 S F (ρ.take n) (M.take n) w := by
  have tk : ∀ {α : Type} {l : List α} {i : Nat} {x : α}, (l.take n)[i]? = some x → l[i]? = some x := by
    intro α l i x h
    rw [List.getElem?_take] at h
    split at h
    · exact h
    · cases h
  exact {
    os := hI.os, tape := hI.tape, output := hI.output, size := hI.size, frame := hI.frame
    len := by rw [List.length_take, List.length_take, hI.len]
    rep := fun id b hd h1 h2 => (hI.rep id b hd (tk h1) (tk h2)).bd (allB_mem hb b (List.mem_of_getElem? h1))
    sep := fun id b hd g h1 h2 h3 => hI.sep id b hd g (tk h1) h2 (tk h3)
    disj := fun id id' b b' hd hd' g hne h1 h2 h3 h4 h5 h6 => hI.disj id id' b b' hd hd' g hne (tk h1) (tk h2) h3 h4 (tk h5) (tk h6)
    fz := hI.fz
    glob := fun g => hG g (hI.glob g)
    one := fun id hd h => hI.one id hd (tk h)
    old := hI.old, fin := hI.fin }
theorem ACalls.cut (hG : GlobFree X) {f : FuncId} {args : List AV} {M M' : List Blk} {x : AV} (h : ACalls X f args M x M') (hx : bd2 M.length x = true) (hb : allB (bdB M.length) (M'.take M.length) = true) : ACalls X f args M x (M'.take M.length) := by
  refine ⟨h.1, fun {w0 S F ρ w vs} hI hr => (h.2 hI hr).mono ?_⟩
  rintro e w' ⟨v, ρ', F', rfl, hI', hg, hr'⟩
  refine ⟨v, ρ'.take M.length, F', rfl, hI'.cut hG hb, ⟨hg.hF, fun id hd hh => ?_, hg.hb⟩, hr'.bd2 hx⟩
  have hlt : id < ρ.length := (List.getElem?_eq_some_iff.1 hh).1
  rw [hI.len] at hlt
  rw [List.getElem?_take, if_pos hlt]
  exact hg.hρ id hd hh
end
/-- Behind a call: what is new and named by nothing is left out. -/
def cutM (n : Nat) (x : AV) (M : List Blk) (k : List Blk → Option R) : Option R :=
  match Nat.beq n M.length with
  | true => k M
  | false => fzL (fun b k => k b) (M.take n) fun M1 => match bd2 n x && allB (bdB n) M1 with | true => k M1 | false => k M
theorem cutM_some (hG : GlobFree X) {f : FuncId} {args : List AV} {M M' : List Blk} {x : AV} (h : ACalls X f args M x M') {k : List Blk → Option R} {r : R} (hk : cutM M.length x M' k = some r) : ∃ M2, ACalls X f args M x M2 ∧ k M2 = some r := by
  unfold cutM at hk
  split at hk
  · exact ⟨M', h, hk⟩
  · rw [fzL_eq (fun _ _ => rfl)] at hk
    split at hk
    · rename_i hb
      rw [Bool.and_eq_true] at hb
      exact ⟨_, h.cut hG hb.1 hb.2, hk⟩
    · exact ⟨M', h, hk⟩

/-! Loops: behind each round the temporaries that nobody reads any more are forgotten, and then the new blocks that nothing names. -/

def tidy (m dead : Nat) (st : St) (k : St → Option R) : Option R :=
  trm st.env dead [] fun env =>
    match Nat.beq m st.mem.length with
    | true => k { st with env := env }
    | false => fzL (fun b k => k b) (st.mem.take m) fun M1 =>
      match allB (fun p => bd1 m p.2) env && allB (bdB m) M1 with
      | true => k { st with env := env, mem := M1 }
      | false => k { st with env := env }
theorem tidy_some (hG : GlobFree X) {m dead : Nat} {st : St} {k : St → Option R} {r : R} (h : tidy m dead st k = some r) : ∃ st', k st' = some r ∧
    ∀ {nt : Nt} {rdc : Cy} {w0 : World} {S : Sc} {F : Addr → Prop} {ρ : List Hd} {a : Act} {w : World}, Inv X w0 S F ρ st.mem w → Sim X nt st rdc F ρ a w → ∃ ρ', Inv X w0 S F ρ' st'.mem w ∧ Sim X nt st' rdc F ρ' a w ∧ GrowF m F F ρ ρ' w w := by
  obtain ⟨out, h1, h2⟩ := trm_spec (R := R) st.env dead [] (fun env =>
    match Nat.beq m st.mem.length with
    | true => k { st with env := env }
    | false => fzL (fun b k => k b) (st.mem.take m) fun M1 =>
      match allB (fun p => bd1 m p.2) env && allB (bdB m) M1 with
      | true => k { st with env := env, mem := M1 }
      | false => k { st with env := env }) (fun t _ => rfl)
  unfold tidy at h
  rw [h1] at h
  have henv : ∀ {F : Addr → Prop} {ρ : List Hd} {a : Act} {w : World}, EnvRep X ρ F w st.env a.tmps → EnvRep X ρ F w out a.tmps := by
    intro F ρ a w he t
    rcases h2 t with e | e
    · rw [e]; exact .top _
    · rw [e]
      split
      · exact .top _
      · exact he t
  have gr : ∀ {F : Addr → Prop} {ρ : List Hd} {w : World}, GrowF m F F ρ ρ w w := ⟨fun _ h => h, fun _ _ _ h => h, fun _ _ => rfl⟩
  have plain : k { st with env := out } = some r → ∃ st', k st' = some r ∧
      ∀ {nt : Nt} {rdc : Cy} {w0 : World} {S : Sc} {F : Addr → Prop} {ρ : List Hd} {a : Act} {w : World}, Inv X w0 S F ρ st.mem w → Sim X nt st rdc F ρ a w → ∃ ρ', Inv X w0 S F ρ' st'.mem w ∧ Sim X nt st' rdc F ρ' a w ∧ GrowF m F F ρ ρ' w w :=
    fun h => ⟨_, h, fun {nt rdc w0 S F ρ a w} hI hs => ⟨ρ, hI, ⟨henv hs.env, hs.size, hs.defs, hs.rd, hs.kept⟩, gr⟩⟩
  split at h
  · exact plain h
  · rw [fzL_eq (fun _ _ => rfl)] at h
    split at h
    · rename_i hb
      rw [Bool.and_eq_true] at hb
      refine ⟨_, h, fun {nt rdc w0 S F ρ a w} hI hs => ⟨ρ.take m, hI.cut hG hb.2, ⟨fun t => ?_, hs.size, hs.defs, hs.rd, hs.kept⟩, fun _ h => h, fun id hd hlt hh => by rw [List.getElem?_take, if_pos hlt]; exact hh, fun _ _ => rfl⟩⟩
      show Rep X.K (ρ.take m) F w (look out t) _
      rcases look_bd hb.1 t with e | e
      · rw [e]; exact .top _
      · exact (henv hs.env t).bd1 e
    · exact plain h
/-- A loop, round by round in place. -/
def unrollC (X : Cx) (L : LTab R) (c : Code) (p m dead : Nat) : Nat → St → (Ex → St → Option R) → Option R
  | 0, _, _ => none
  | n + 1, st, k => evk X L c p st fun e st' => tidy m dead st' fun st' => match e with | .normal => unrollC X L c p m dead n st' k | .exit i => k (.exit i) st' | .ret => k .ret st'
theorem unrollC_sound (hX : X.Okb) (hG : GlobFree X) {root c : Code} {p m dead : Nat} {L : LTab R} (hL : L.Ok X root) (hat : At root p (.loop c)) : ∀ (fuel : Nat) {st : St} {k : Ex → St → Option R} {r : R}, unrollC X L c (2 * p) m dead fuel st k = some r →
    ∃ e st', k e st' = some r ∧ ∀ {rdc : Cy} {n : Nat} {w0 : World} {S : Sc} {F : Addr → Prop} {ρ : List Hd} {a : Act} {w : World} {Q : Exit → Act → World → Prop}, Inv X w0 S F ρ st.mem w → Sim X L.tab.nt st rdc F ρ a w →
      (∀ a' w' F' ρ', Inv X w0 S F' ρ' st'.mem w' → Sim X L.tab.nt st' rdc F' ρ' a' w' → GrowF m F F' ρ ρ' w w' → Q (Ex.exit' e) a' w') → Code.roundsIn (fen rdc.r) n X.P c Q fuel a w
  | 0, st, k, r, h => by cases h
  | fuel + 1, st, k, r, h => by
    simp only [unrollC] at h
    obtain ⟨e, st1, hrun, h⟩ := evk_sound hX hL c (hat.down false fun l hl => by simp [codeAt, hl]) h
    obtain ⟨st2, h, htd⟩ := tidy_some hG h
    cases e with
    | normal =>
      obtain ⟨e', st', hk, hr⟩ := unrollC_sound hX hG hL hat fuel h
      refine ⟨e', st', hk, fun {rdc n w0 S F ρ a w Q} hI hs hq => ?_⟩
      rw [roundsIn_succ]
      refine hrun hI hs fun a' w' F' ρ' hI' hs' hg => ?_
      obtain ⟨ρ2, hI2, hs2, hg2⟩ := htd hI' hs'
      exact hr hI2 hs2 fun a'' w'' F'' ρ'' hI'' hs'' hg'' => hq a'' w'' F'' ρ'' hI'' hs'' (((hg.toF m).trans hg2).trans hg'')
    | exit i =>
      refine ⟨.exit i, st2, h, fun {rdc n w0 S F ρ a w Q} hI hs hq => ?_⟩
      rw [roundsIn_succ]
      refine hrun hI hs fun a' w' F' ρ' hI' hs' hg => ?_
      obtain ⟨ρ2, hI2, hs2, hg2⟩ := htd hI' hs'
      exact hq a' w' F' ρ2 hI2 hs2 ((hg.toF m).trans hg2)
    | ret =>
      refine ⟨.ret, st2, h, fun {rdc n w0 S F ρ a w Q} hI hs hq => ?_⟩
      rw [roundsIn_succ]
      refine hrun hI hs fun a' w' F' ρ' hI' hs' hg => ?_
      obtain ⟨ρ2, hI2, hs2, hg2⟩ := htd hI' hs'
      exact hq a' w' F' ρ2 hI2 hs2 ((hg.toF m).trans hg2)
theorem GrowF.whole {F F' : Addr → Prop} {ρ ρ' : List Hd} {w w' : World} {m : Nat} (h : GrowF m F F' ρ ρ' w w') (hl : ρ.length = m) : Grow F F' ρ ρ' w w' :=
  ⟨h.hF, fun id hd hh => h.hρ id hd (by rw [← hl]; exact (List.getElem?_eq_some_iff.1 hh).1) hh, h.hb⟩
/-- Which temporaries are not read again behind a round of a loop. -/
def deadOf : List (Nat × Nat × Nat) → Nat → Nat → Nat
  | [], _, _ => 0
  | e :: es, f, p => match Nat.beq f e.1 && Nat.beq p e.2.1 with | true => e.2.2 | false => deadOf es f p

/-! Calls whose outcome is known already, whatever the memory. -/

section
variable {w : World} {F : Addr → Prop} {ρ : List Hd}
theorem Rep.free {K : TypeId → List Kind} {x : AV} {v : Value} (h : Rep K ρ F w x v) (hb : Eng.bd2 0 x = true) (ρ' : List Hd) : Rep K ρ' F w x v := by
  have := h.bd2 (n := 0) hb
  rw [List.take_zero] at this
  exact this.mono (fun id hd h => by simp at h) (fun _ h => h) (fun _ _ _ h => h)
theorem RepL.free {K : TypeId → List Kind} {xs : List AV} {vs : List Value} (h : RepL K ρ F w xs vs) (hb : allB (bd2 0) xs = true) (ρ' : List Hd) : RepL K ρ' F w xs vs :=
  ⟨h.1, fun j x v hx hv => (h.2 j x v hx hv).free (allB_mem hb x (List.mem_of_getElem? hx)) ρ'⟩
theorem ACalls.lift0 (hG : GlobFree X) {f : FuncId} {args : List AV} {x : AV} (h : ACalls X f args [] x []) (ha : allB (bd2 0) args = true) (hx : bd2 0 x = true) (M : List Blk) : ACalls X f args M x M := by
  refine ⟨h.1, fun {w0 S F ρ w vs} hI hr => ?_⟩
  have hi : Inv X w ⟨fun _ => False, F⟩ F [] [] w := {
    os := rfl, tape := rfl, output := rfl, size := Nat.le_refl _, frame := fun _ _ _ => rfl, len := rfl
    rep := fun id b hd hb _ => by simp at hb
    sep := fun id b hd g hb _ _ _ => by simp at hb
    disj := fun id id' b b' hd hd' g _ hb _ _ _ _ _ _ => by simp at hb
    fz := hI.fz, glob := fun g => hG g (hI.glob g)
    one := fun id hd hh => by simp at hh
    old := fun a ha => .inl ha, fin := fun a ha => ha }
  refine (h.2 hi (hr.free ha [])).mono ?_
  rintro e w' ⟨v, ρ', F', rfl, hI', hg, hv⟩
  have hfr : ∀ g, g < w.heap.size → w'.heap[g]? = w.heap[g]? := fun g hlt => hI'.frame g hlt (fun h => h)
  refine ⟨v, ρ, F', rfl, ?_, ⟨hg.hF, fun _ _ h => h, hg.hb⟩, hv.free hx ρ⟩
  exact {
    os := hI'.os.trans hI.os, tape := hI'.tape.trans hI.tape, output := hI'.output.trans hI.output, size := Nat.le_trans hI.size hI'.size
    frame := fun g hlt hn => (hfr g (Nat.lt_of_lt_of_le hlt hI.size)).trans (hI.frame g hlt hn)
    len := hI.len
    rep := fun id b hd h1 h2 => by
      cases hd' : b.isDead with
      | true => exact (hI.rep id b hd h1 h2).mono_dead (fun _ _ h => h) hg.hF hg.hw hd'
      | false => exact (hI.rep id b hd h1 h2).mono (fun _ _ h => h) hg.hF hg.hw (fun g hgb => hfr g (hI.sep id b hd g h1 hd' h2 hgb).1)
    sep := fun id b hd g h1 h2 h3 h4 => by
      obtain ⟨s1, s2, s3⟩ := hI.sep id b hd g h1 h2 h3 h4
      refine ⟨Nat.lt_of_lt_of_le s1 hI'.size, s2, fun a ha => ?_⟩
      rcases hI'.old a ha with h | h | h
      · exact s3 a h
      · exact h.elim
      · intro e; omega
    disj := hI.disj
    fz := hI'.fz
    glob := fun g => hG g (hI'.glob g)
    one := hI.one
    old := fun a ha => by
      rcases hI'.old a ha with h | h | h
      · exact hI.old a h
      · exact h.elim
      · exact .inr (.inr (Nat.le_trans hI.size h))
    fin := fun a ha => hg.hF a (hI.fin a ha) }
end
structure KC where
  f : Nat
  args : List AV
  x : AV
def pickK : List KC → Nat → List AV → Option AV
  | [], _, _ => none
  | e :: es, f, args => match Nat.beq f e.f && sameL same1 e.args args with | true => some e.x | false => pickK es f args
def KcOk (X : Cx) (e : KC) : Prop := ∀ M, ACalls X e.f e.args M e.x M
theorem pickK_ok {l : List KC} (h : AllE (KcOk X) l) {f : Nat} {args : List AV} {x : AV} (hp : pickK l f args = some x) (M : List Blk) : ACalls X f args M x M := by
  induction l with
  | nil => cases hp
  | cons e es ih =>
    simp only [pickK] at hp
    split at hp
    · rename_i hb
      rw [Bool.and_eq_true] at hb
      injection hp with hp
      subst hp
      have h1 := Nat.eq_of_beq_eq_true hb.1
      have h2 := sameL_eq same1_eq hb.2
      rw [h1, ← h2]
      exact h.1 M
    · exact ih h.2 hp

/-- A range over a function: its number, its function, its place. -/
structure SI where
  s : Nat
  f : Nat
  p : Nat
def siteAt : List SI → Nat → Nat → Option Nat
  | [], _, _ => none
  | e :: es, f, p => match Nat.beq f e.f && Nat.beq p e.p with | true => some e.s | false => siteAt es f p
def siteBy : List SI → Nat → Option (Nat × Nat)
  | [], _ => none
  | e :: es, s => match Nat.beq s e.s with | true => some (e.f, e.p) | false => siteBy es s

def codeF (I : List (Nat × FI)) (f : Nat) : Code := match pickF I f with | some fi => fi.c | none => .skip
def ntF (I : List (Nat × FI)) (f : Nat) : Nt := match pickF I f with | some fi => fi.nt | none => ⟨0, 0⟩
def SiOk (X : Cx) (I : List (Nat × FI)) (e : SI) : Prop := ∃ g, At (codeF I e.f) e.p (.rangeFunc g (X.site e.s).params (X.site e.s).assign (X.site e.s).body) ∧ (X.site e.s).nt = (ntF I e.f).n

/-- Everything in place, down to a depth of calls, loops and ranges. -/
def LA (X : Cx) (I : List (Nat × FI)) (Ss : List SI) (kc : List KC) (dd : List (Nat × Nat × Nat)) (rounds : Nat) : Nat → Nat → LTab R
  | 0, f => ⟨⟨ntF I f, fun _ _ _ => none, fun _ _ _ _ => none, noY⟩, fun _ _ _ => none, fun _ _ _ => none, fun _ => none⟩
  | n + 1, f => ⟨⟨ntF I f, fun _ _ M => some (List.range M.length),
      fun g args M k => fzL fz1 args fun args => match pickK kc g args with
        | some x => k x M
        | none => match pickF I g with
        | some fi => fzN M.length fun m => evfn X (LA X I Ss kc dd rounds n g) fi.c fi.rs args M fun x M' => fz2 x fun x => cutM m x M' fun M' => tst (Nat.ble m M'.length) (k x M')
        | none => none,
      fun id args M k => fzL fz1 args fun args => match gm M id with
        | some (.loop s _ _ _) => (match siteBy Ss s with
          | some (f', p) => evyield X (LA X I Ss kc dd rounds n f') s p id args M k
          | none => none)
        | _ => none⟩,
    fun p st k => match codeOf (codeF I f) p with
      | some (.loop c) => fzN st.mem.length fun m => unrollC X (LA X I Ss kc dd rounds n f) c (2 * p) m (deadOf dd f p) rounds st k
      | _ => none,
    fun p st k => match siteAt Ss f p, codeOf (codeF I f) p with
      | some s, some (.rangeFunc g _ _ _) => evrange X (LA X I Ss kc dd rounds n f).tab s (List.range (ntF I f).n) g st k
      | _, _ => none,
    fun _ => none⟩

theorem siteAt_ok {I : List (Nat × FI)} {Ss : List SI} (h : AllE (SiOk X I) Ss) {f p s : Nat} (hs : siteAt Ss f p = some s) : SiOk X I ⟨s, f, p⟩ := by
  induction Ss with
  | nil => cases hs
  | cons e es ih =>
    simp only [siteAt] at hs
    cases hb : Nat.beq f e.f && Nat.beq p e.p with
    | true =>
      rw [hb] at hs
      injection hs with hs
      rw [Bool.and_eq_true] at hb
      have h1 := Nat.eq_of_beq_eq_true hb.1
      have h2 := Nat.eq_of_beq_eq_true hb.2
      subst h1; subst h2; subst hs
      exact h.1
    | false => rw [hb] at hs; exact ih h.2 hs
theorem siteBy_ok {I : List (Nat × FI)} {Ss : List SI} (h : AllE (SiOk X I) Ss) {f p s : Nat} (hs : siteBy Ss s = some (f, p)) : SiOk X I ⟨s, f, p⟩ := by
  induction Ss with
  | nil => cases hs
  | cons e es ih =>
    simp only [siteBy] at hs
    cases hb : Nat.beq s e.s with
    | true =>
      rw [hb] at hs
      injection hs with hs
      injection hs with h1 h2
      have h3 := Nat.eq_of_beq_eq_true hb
      subst h1; subst h2; subst h3
      exact h.1
    | false => rw [hb] at hs; exact ih h.2 hs

theorem LA_nt {I : List (Nat × FI)} {Ss : List SI} {kc : List KC} {dd : List (Nat × Nat × Nat)} {rounds : Nat} (n f : Nat) : (LA (R := R) X I Ss kc dd rounds n f).tab.nt = ntF I f := by cases n <;> rfl

theorem evfn_LA (hX : X.Okb) {I : List (Nat × FI)} (hI : AllE (fun e => FiOk X e.1 e.2) I) {Ss : List SI} {kc : List KC} {dd : List (Nat × Nat × Nat)} {rounds n : Nat} {f : Nat} {fi : FI} (hf : pickF I f = some fi) (hL : (LA (R := R) X I Ss kc dd rounds n f).Ok X (codeF I f))
    {args : List AV} {M : List Blk} {k : AV → List Blk → Option R} {r : R} (h : evfn X (LA X I Ss kc dd rounds n f) fi.c fi.rs args M k = some r) : ∃ x M', ACalls X f args M x M' ∧ k x M' = some r := by
  obtain ⟨fn, h1, h2, h3, h4, h5⟩ := pickF_ok hI hf
  have hc : codeF I f = fi.c := by unfold codeF; rw [hf]
  rw [hc] at hL
  refine evfn_sound hX hL h1 h2 ?_ h5 h4 h
  rw [LA_nt, h3]
  show fi.nt.n = (ntF I f).n
  unfold ntF; rw [hf]

theorem LA_ok (hX : X.Okb) (hG : GlobFree X) {I : List (Nat × FI)} (hI : AllE (fun e => FiOk X e.1 e.2) I) {Ss : List SI} (hS : AllE (SiOk X I) Ss) {kc : List KC} (hK : AllE (KcOk X) kc) {dd : List (Nat × Nat × Nat)} {rounds : Nat} : ∀ (n f : Nat), (LA (R := R) X I Ss kc dd rounds n f).Ok X (codeF I f)
  | 0, f => ⟨⟨fun {_ _ _ _ _} h => (by cases h), fun {_ _ _ _ _} h => (by cases h)⟩, fun {_ _ _ _ _} _ h => (by cases h), fun {_ _ _ _ _ _ _ _} _ h => (by cases h), fun {_ _ _ _ _ _} _ h _ => (by cases h)⟩
  | n + 1, f => by
    refine ⟨⟨fun {g args M k r} h => ?_, fun {id args M k r} h => ?_⟩, fun {p c st k r} hat h => ?_, fun {p g ps x y st k r} hat h => ?_, fun {p c f' st k r} _ h _ => (by cases h)⟩
    · simp only [LA] at h
      rw [fzL_eq fz1_eq] at h
      split at h
      · rename_i y hy
        exact ⟨y, M, pickK_ok hK hy M, h, fun ids hi => Agree.refl _ _⟩
      split at h
      · rename_i fi hfi
        rw [fzN_eq] at h
        obtain ⟨x, M0, h1, h2⟩ := evfn_LA hX hI hfi (LA_ok hX hG hI hS hK n g) h
        rw [fz2_eq] at h2
        obtain ⟨M', h1, h2⟩ := cutM_some hG h1 h2
        replace h2 := tst_some h2
        obtain ⟨hle, h2⟩ := h2
        refine ⟨x, M', h1, h2, fun ids hi => ?_⟩
        injection hi with hi
        subst hi
        exact ⟨Nat.le_of_ble_eq_true hle, fun i hi hn => absurd (List.mem_range.2 hi) hn⟩
      · cases h
    · simp only [LA] at h
      rw [fzL_eq fz1_eq] at h
      split at h
      · rename_i s _ _ _ _
        split at h
        · rename_i f' p hsb
          obtain ⟨g, hat, hnt⟩ := siteBy_ok hS hsb
          exact evyield_sound hX (LA_ok hX hG hI hS hK n f') hat h
        · cases h
      · cases h
    · simp only [LA] at h
      split at h
      · rename_i c' hc
        have := codeOf_at hc hat
        injection this with this
        subst this
        rw [fzN_eq] at h
        obtain ⟨e, st', hk, hr⟩ := unrollC_sound hX hG (LA_ok hX hG hI hS hK n f) hat rounds h
        refine ⟨e, st', fun {rdc n' w0 S F ρ a w Q} hI' hs hq => wpIn_loop_rounds rounds (hr hI' ?_ ?_), hk⟩
        · rw [LA_nt] at hs ⊢; exact hs
        · intro a' w' F' ρ' h1 h2 h3
          refine hq a' w' F' ρ' h1 ?_ (h3.whole hI'.len)
          rw [LA_nt] at h2 ⊢; exact h2
      · cases h
    · simp only [LA] at h
      split at h
      · rename_i s g' ps' x' y' hs hc
        have hcc := codeOf_at hc hat
        injection hcc with e1 e2 e3 e4
        subst e1; subst e2; subst e3; subst e4
        obtain ⟨g2, hat2, hnt⟩ := siteAt_ok hS hs
        obtain ⟨l, hl1, hl2⟩ := hat2
        have := hat.det l hl1
        rw [hl2] at this
        injection this with this
        injection this with e1 e2 e3 e4
        have hsite : X.site s = ⟨(LA (R := R) X I Ss kc dd rounds n f).tab.nt.n, ps', x', y'⟩ := by
          rw [LA_nt]
          show X.site s = ⟨(ntF I f).n, ps', x', y'⟩
          rw [← hnt, ← e2, ← e3, ← e4]
        obtain ⟨e, st', h1, h2⟩ := evrange_sound hX (LA_ok hX hG hI hS hK n f).tab hsite h
        refine ⟨e, st', ?_, h2⟩
        rw [LA_nt] at h1 ⊢; exact h1
      · cases h

def asB (o : Option Bool) : Bool := match o with | some b => b | none => false
def kB (x : AV) (_ : List Blk) : Option Bool := match x with | .bool b => some b | _ => none
/-- A closed run. -/
theorem closed_run (hX : X.Okb) (hG : GlobFree X) {I : List (Nat × FI)} (hI : AllE (fun e => FiOk X e.1 e.2) I) {Ss : List SI} (hS : AllE (SiOk X I) Ss) {kc : List KC} (hK : AllE (KcOk X) kc) {dd : List (Nat × Nat × Nat)} {rounds n f : Nat} {fi : FI} (hf : pickF I f = some fi)
    (h : asB (evfn X (LA X I Ss kc dd rounds n f) fi.c fi.rs [] [] kB) = true) : ACalls X f [] [] (.bool true) [] := by
  unfold asB at h
  split at h
  · rename_i b hb
    subst h
    obtain ⟨x, M', h1, h2⟩ := evfn_LA hX hI hf (LA_ok hX hG hI hS hK n f) hb
    unfold kB at h2
    split at h2
    · injection h2 with h2
      subst h2
      have := h1.cut hG (x := .bool true) rfl (by rw [List.length_nil, List.take_zero]; rfl)
      rwa [List.length_nil, List.take_zero] at this
    · cases h2
  · cases h
theorem closed_kc (hG : GlobFree X) {f : Nat} (h : ACalls X f [] [] (.bool true) []) : KcOk X ⟨f, [], .bool true⟩ := fun M => h.lift0 hG rfl rfl M

/-- What a law's row asks of the function, where it has no arguments. -/
theorem law_closed (hl : laidOutB X.P = true) {f : FuncId} {fn : Func} {s : ChangeSpec} {tb : TypeId} (hts : fn.params.toList = []) (hrt : fn.resultTypes = #[tb]) (htb : X.P.underlying tb = some .bool)
    (hv : s.vars = []) {H : Type} {enc : TypeId × Value → H} (hs : s.fn H ([] : List (DataW H)) = { results := [.lit (.bool true)], args := [] })
    (hlaw : ACalls X f [] [] (.bool true) [])
    (W : World) (hg : ∀ g, Rep X.K [] (there W) W (X.glob g) (.pointer (some ⟨g, 0, none⟩))) (args : Array Value) (ds gs : List (DataW H)) (before : List MemPlace)
    (hW : DataW.Whole enc X.P fn.params.toList s.vars false W args.toList ds gs before) :
    Calls X.P f args W fun e W' => ∃ v, e = .returned v ∧ s.post enc X.P fn false true false false W args v W' := by
  have hW' := hW
  obtain ⟨p, q, hA, hV, hpq, hfz, hnd⟩ := hW
  rw [hv] at hV
  obtain ⟨rfl, rfl⟩ := trodVars_none hV
  rw [List.append_nil] at hpq
  have hpq' : p = before := hpq.symm
  subst hpq'
  have hA0 := hA
  rw [hts] at hA
  have hnil : args.toList = [] ∧ ds = [] := by
    revert hA
    generalize args.toList = vs
    intro hA
    cases vs with
    | nil => cases ds with
      | nil => exact ⟨rfl, rfl⟩
      | cons d ds => simp [DataW.TrodAll] at hA
    | cons v vs => cases ds <;> simp [DataW.TrodAll] at hA
  obtain ⟨ha, rfl⟩ := hnil
  have hrep : RepL X.K [] (there W) W [] args.toList := by rw [ha]; exact ⟨rfl, fun j x v hx => by simp at hx⟩
  have hi : Inv X W ⟨fun _ => False, there W⟩ (there W) [] [] W := {
    os := rfl, tape := rfl, output := rfl, size := Nat.le_refl _, frame := fun _ _ _ => rfl, len := rfl
    rep := fun id b hd hb _ => by simp at hb
    sep := fun id b hd g hb _ _ _ => by simp at hb
    disj := fun id id' b b' hd hd' g _ hb _ _ _ _ _ _ => by simp at hb
    fz := fun a ha => ha, glob := hg
    one := fun id hd hh => by simp at hh
    old := fun a ha => .inl ha, fin := fun a ha => ha }
  have := hlaw.2 hi hrep
  refine this.mono ?_
  rintro e W' ⟨v, ρ', F', rfl, hI, _, hr⟩
  refine ⟨v, rfl, ?_⟩
  cases hr
  have hb := below_of_inv hI
  have hlt : ∀ x ∈ p, x.block < W.heap.size := fun x hx => by simpa using hW'.lt x hx
  have hfn : s.fn H ([] ++ []) = { results := [.lit (.bool true)], args := [] } := hs
  refine ⟨[], [], p, [], p, [], hW', ?_, ?_, ?_, kept_of_below hb _, fun h => by cases h⟩
  · rw [hfn, hrt]
    exact trodAll_mk1 (shut_bool htb true)
  · rw [hfn, hts, ha]
    rw [ha] at hA
    exact hA
  · rw [hfn, hv]; exact rfl

/-! ### A closed run's outcome, called from functions of another view of the program -/

theorem ACalls.bridge {Y : Cx} (hP : Y.P = X.P) (hG : ∀ g, Y.glob g = .top) {f : FuncId} (h : ACalls Y f [] [] (.bool true) []) (M : List Blk) : ACalls X f [] M (.bool true) M := by
  refine ⟨by rw [← hP]; exact h.1, fun {w0 S F ρ w vs} hI hr => ?_⟩
  have hnil : vs = [] := List.eq_nil_of_length_eq_zero (show vs.length = 0 from by have := hr.1; simp only [List.length_nil] at this; omega)
  subst hnil
  have hi : Inv Y w ⟨fun _ => False, F⟩ F [] [] w := {
    os := rfl, tape := rfl, output := rfl, size := Nat.le_refl _, frame := fun _ _ _ => rfl, len := rfl
    rep := fun id b hd hb _ => by simp at hb
    sep := fun id b hd g hb _ _ _ => by simp at hb
    disj := fun id id' b b' hd hd' g _ hb _ _ _ _ _ _ => by simp at hb
    fz := hI.fz, glob := fun g => by rw [hG g]; exact .top _
    one := fun id hd hh => by simp at hh
    old := fun a ha => .inl ha, fin := fun a ha => ha }
  have h2 := h.2 hi (vs := []) ⟨rfl, fun j x v hx => by simp at hx⟩
  rw [hP] at h2
  refine h2.mono ?_
  rintro e w' ⟨v, ρ', F', rfl, hI', hg, hv⟩
  have hfr : ∀ g, g < w.heap.size → w'.heap[g]? = w.heap[g]? := fun g hlt => hI'.frame g hlt (fun h => h)
  refine ⟨v, ρ, F', rfl, ?_, ⟨hg.hF, fun _ _ h => h, hg.hb⟩, by cases hv; exact .bool _⟩
  exact {
    os := hI'.os.trans hI.os, tape := hI'.tape.trans hI.tape, output := hI'.output.trans hI.output, size := Nat.le_trans hI.size hI'.size
    frame := fun g hlt hn => (hfr g (Nat.lt_of_lt_of_le hlt hI.size)).trans (hI.frame g hlt hn)
    len := hI.len
    rep := fun id b hd h1 h2 => by
      cases hd' : b.isDead with
      | true => exact (hI.rep id b hd h1 h2).mono_dead (fun _ _ h => h) hg.hF hg.hw hd'
      | false => exact (hI.rep id b hd h1 h2).mono (fun _ _ h => h) hg.hF hg.hw (fun g hgb => hfr g (hI.sep id b hd g h1 hd' h2 hgb).1)
    sep := fun id b hd g h1 h2 h3 h4 => by
      obtain ⟨s1, s2, s3⟩ := hI.sep id b hd g h1 h2 h3 h4
      refine ⟨Nat.lt_of_lt_of_le s1 hI'.size, s2, fun a ha => ?_⟩
      rcases hI'.old a ha with h | h | h
      · exact s3 a h
      · exact h.elim
      · intro e; omega
    disj := hI.disj
    fz := hI'.fz
    glob := fun g => (hI.glob g).mono (fun _ _ h => h) hg.hF hg.hw
    one := hI.one
    old := fun a ha => by
      rcases hI'.old a ha with h | h | h
      · exact hI.old a h
      · exact h.elim
      · exact .inr (.inr (Nat.le_trans hI.size h))
    fin := fun a ha => hg.hF a (hI.fin a ha) }

/-- A call without arguments that returns true whatever the memory. -/
def kce {R : Type} (f : FuncId) : CE R := ⟨f, fun _ _ => true, fun _ _ => some [], fun args M k => match args with | [] => k (.bool true) M | _ => none⟩
theorem kce_ok {R : Type} {Y : Cx} (hP : Y.P = X.P) (hG : ∀ g, Y.glob g = .top) {f : FuncId} (h : ACalls Y f [] [] (.bool true) []) : CeOk X (kce (R := R) f) := by
  intro args M k r hr
  cases args with
  | cons a b => cases hr
  | nil => exact ⟨_, _, h.bridge hP hG M, hr, fun ids hi => Agree.refl _ _⟩

end
end Go.Eng

namespace Go.Proofs.YtomkobcipaligaaGreatDoor.Cl
open Go Go.Eng
set_option maxRecDepth 100000
noncomputable def code9 : Code := (Tryz.f9.body).getD .skip
noncomputable def code16 : Code := (Tryz.f16.body).getD .skip
noncomputable def code21 : Code := (Tryz.f21.body).getD .skip
noncomputable def code33 : Code := (Tryz.f33.body).getD .skip
noncomputable def code17 : Code := (Tryz.f17.body).getD .skip
noncomputable def code13 : Code := (Tryz.f13.body).getD .skip
noncomputable def code39 : Code := (Tryz.f39.body).getD .skip
noncomputable def code90 : Code := (Tryz.f90.body).getD .skip
noncomputable def code92 : Code := (Tryz.f92.body).getD .skip
noncomputable def code91 : Code := (Tryz.f91.body).getD .skip
noncomputable def code141 : Code := (Tryz.f141.body).getD .skip
noncomputable def code40 : Code := (Tryz.f40.body).getD .skip
noncomputable def code93 : Code := (Tryz.f93.body).getD .skip
noncomputable def code142 : Code := (Tryz.f142.body).getD .skip
noncomputable def code183 : Code := (Tryz.f183.body).getD .skip
noncomputable def code184 : Code := (Tryz.f184.body).getD .skip
noncomputable def code94 : Code := (Tryz.f94.body).getD .skip
noncomputable def code41 : Code := (Tryz.f41.body).getD .skip
noncomputable def code95 : Code := (Tryz.f95.body).getD .skip
noncomputable def code96 : Code := (Tryz.f96.body).getD .skip
noncomputable def code143 : Code := (Tryz.f143.body).getD .skip
noncomputable def code185 : Code := (Tryz.f185.body).getD .skip
noncomputable def code186 : Code := (Tryz.f186.body).getD .skip
noncomputable def code187 : Code := (Tryz.f187.body).getD .skip
noncomputable def code188 : Code := (Tryz.f188.body).getD .skip
noncomputable def code189 : Code := (Tryz.f189.body).getD .skip
noncomputable def code190 : Code := (Tryz.f190.body).getD .skip
noncomputable def code191 : Code := (Tryz.f191.body).getD .skip
noncomputable def code144 : Code := (Tryz.f144.body).getD .skip
noncomputable def code145 : Code := (Tryz.f145.body).getD .skip
noncomputable def code146 : Code := (Tryz.f146.body).getD .skip
noncomputable def code147 : Code := (Tryz.f147.body).getD .skip
noncomputable def code42 : Code := (Tryz.f42.body).getD .skip
noncomputable def code148 : Code := (Tryz.f148.body).getD .skip
noncomputable def code149 : Code := (Tryz.f149.body).getD .skip
noncomputable def code150 : Code := (Tryz.f150.body).getD .skip
noncomputable def code192 : Code := (Tryz.f192.body).getD .skip
noncomputable def code213 : Code := (Tryz.f213.body).getD .skip
noncomputable def code231 : Code := (Tryz.f231.body).getD .skip
noncomputable def code218 : Code := (Tryz.f218.body).getD .skip
noncomputable def code212 : Code := (Tryz.f212.body).getD .skip
noncomputable def code222 : Code := (Tryz.f222.body).getD .skip
noncomputable def code228 : Code := (Tryz.f228.body).getD .skip
noncomputable def code241 : Code := (Tryz.f241.body).getD .skip
noncomputable def code223 : Code := (Tryz.f223.body).getD .skip
noncomputable def code236 : Code := (Tryz.f236.body).getD .skip
noncomputable def code224 : Code := (Tryz.f224.body).getD .skip
noncomputable def code237 : Code := (Tryz.f237.body).getD .skip
noncomputable def code238 : Code := (Tryz.f238.body).getD .skip
noncomputable def code225 : Code := (Tryz.f225.body).getD .skip
noncomputable def code239 : Code := (Tryz.f239.body).getD .skip
noncomputable def code240 : Code := (Tryz.f240.body).getD .skip
noncomputable def code242 : Code := (Tryz.f242.body).getD .skip
noncomputable def code226 : Code := (Tryz.f226.body).getD .skip
noncomputable def code227 : Code := (Tryz.f227.body).getD .skip
noncomputable def code229 : Code := (Tryz.f229.body).getD .skip
noncomputable def code230 : Code := (Tryz.f230.body).getD .skip
noncomputable def code193 : Code := (Tryz.f193.body).getD .skip
noncomputable def code151 : Code := (Tryz.f151.body).getD .skip
noncomputable def code43 : Code := (Tryz.f43.body).getD .skip
noncomputable def code97 : Code := (Tryz.f97.body).getD .skip
noncomputable def code152 : Code := (Tryz.f152.body).getD .skip
noncomputable def code99 : Code := (Tryz.f99.body).getD .skip
noncomputable def code98 : Code := (Tryz.f98.body).getD .skip
noncomputable def code153 : Code := (Tryz.f153.body).getD .skip
noncomputable def code44 : Code := (Tryz.f44.body).getD .skip
noncomputable def code100 : Code := (Tryz.f100.body).getD .skip
noncomputable def code22 : Code := (Tryz.f22.body).getD .skip
noncomputable def code20 : Code := (Tryz.f20.body).getD .skip
noncomputable def code63 : Code := (Tryz.f63.body).getD .skip
noncomputable def code58 : Code := (Tryz.f58.body).getD .skip
noncomputable def code68 : Code := (Tryz.f68.body).getD .skip
noncomputable def code67 : Code := (Tryz.f67.body).getD .skip
noncomputable def code69 : Code := (Tryz.f69.body).getD .skip
noncomputable def code70 : Code := (Tryz.f70.body).getD .skip
noncomputable def code71 : Code := (Tryz.f71.body).getD .skip
noncomputable def code72 : Code := (Tryz.f72.body).getD .skip
noncomputable def code73 : Code := (Tryz.f73.body).getD .skip
noncomputable def code74 : Code := (Tryz.f74.body).getD .skip
noncomputable def code75 : Code := (Tryz.f75.body).getD .skip
noncomputable def code101 : Code := (Tryz.f101.body).getD .skip
noncomputable def code154 : Code := (Tryz.f154.body).getD .skip
noncomputable def code102 : Code := (Tryz.f102.body).getD .skip
noncomputable def code155 : Code := (Tryz.f155.body).getD .skip
noncomputable def code194 : Code := (Tryz.f194.body).getD .skip
noncomputable def code214 : Code := (Tryz.f214.body).getD .skip
noncomputable def code158 : Code := (Tryz.f158.body).getD .skip
noncomputable def code232 : Code := (Tryz.f232.body).getD .skip
noncomputable def code195 : Code := (Tryz.f195.body).getD .skip
noncomputable def code156 : Code := (Tryz.f156.body).getD .skip
noncomputable def code196 : Code := (Tryz.f196.body).getD .skip
noncomputable def code197 : Code := (Tryz.f197.body).getD .skip
noncomputable def code215 : Code := (Tryz.f215.body).getD .skip
noncomputable def code233 : Code := (Tryz.f233.body).getD .skip
noncomputable def code157 : Code := (Tryz.f157.body).getD .skip
noncomputable def code159 : Code := (Tryz.f159.body).getD .skip
noncomputable def code160 : Code := (Tryz.f160.body).getD .skip
noncomputable def code161 : Code := (Tryz.f161.body).getD .skip
noncomputable def code162 : Code := (Tryz.f162.body).getD .skip
noncomputable def code163 : Code := (Tryz.f163.body).getD .skip
noncomputable def code168 : Code := (Tryz.f168.body).getD .skip
noncomputable def code164 : Code := (Tryz.f164.body).getD .skip
noncomputable def code198 : Code := (Tryz.f198.body).getD .skip
noncomputable def code199 : Code := (Tryz.f199.body).getD .skip
noncomputable def code165 : Code := (Tryz.f165.body).getD .skip
noncomputable def code166 : Code := (Tryz.f166.body).getD .skip
noncomputable def code200 : Code := (Tryz.f200.body).getD .skip
noncomputable def code201 : Code := (Tryz.f201.body).getD .skip
noncomputable def code103 : Code := (Tryz.f103.body).getD .skip
noncomputable def code167 : Code := (Tryz.f167.body).getD .skip
noncomputable def code104 : Code := (Tryz.f104.body).getD .skip
noncomputable def code105 : Code := (Tryz.f105.body).getD .skip
noncomputable def code107 : Code := (Tryz.f107.body).getD .skip
noncomputable def code169 : Code := (Tryz.f169.body).getD .skip
noncomputable def code106 : Code := (Tryz.f106.body).getD .skip
noncomputable def code109 : Code := (Tryz.f109.body).getD .skip
noncomputable def code108 : Code := (Tryz.f108.body).getD .skip
noncomputable def code170 : Code := (Tryz.f170.body).getD .skip
noncomputable def code51 : Code := (Tryz.f51.body).getD .skip
noncomputable def code113 : Code := (Tryz.f113.body).getD .skip
noncomputable def code175 : Code := (Tryz.f175.body).getD .skip
noncomputable def code176 : Code := (Tryz.f176.body).getD .skip
noncomputable def code205 : Code := (Tryz.f205.body).getD .skip
noncomputable def code206 : Code := (Tryz.f206.body).getD .skip
noncomputable def code217 : Code := (Tryz.f217.body).getD .skip
noncomputable def code219 : Code := (Tryz.f219.body).getD .skip
noncomputable def code207 : Code := (Tryz.f207.body).getD .skip
noncomputable def code208 : Code := (Tryz.f208.body).getD .skip
noncomputable def code220 : Code := (Tryz.f220.body).getD .skip
noncomputable def code221 : Code := (Tryz.f221.body).getD .skip
noncomputable def code234 : Code := (Tryz.f234.body).getD .skip
noncomputable def code235 : Code := (Tryz.f235.body).getD .skip
noncomputable def code52 : Code := (Tryz.f52.body).getD .skip
noncomputable def code50 : Code := (Tryz.f50.body).getD .skip
noncomputable def code111 : Code := (Tryz.f111.body).getD .skip
noncomputable def code172 : Code := (Tryz.f172.body).getD .skip
noncomputable def code203 : Code := (Tryz.f203.body).getD .skip
noncomputable def code173 : Code := (Tryz.f173.body).getD .skip
noncomputable def code171 : Code := (Tryz.f171.body).getD .skip
noncomputable def code204 : Code := (Tryz.f204.body).getD .skip
noncomputable def code110 : Code := (Tryz.f110.body).getD .skip
noncomputable def code174 : Code := (Tryz.f174.body).getD .skip
noncomputable def code56 : Code := (Tryz.f56.body).getD .skip
noncomputable def code112 : Code := (Tryz.f112.body).getD .skip
noncomputable def code53 : Code := (Tryz.f53.body).getD .skip
noncomputable def code114 : Code := (Tryz.f114.body).getD .skip
noncomputable def code54 : Code := (Tryz.f54.body).getD .skip
noncomputable def code115 : Code := (Tryz.f115.body).getD .skip
noncomputable def code116 : Code := (Tryz.f116.body).getD .skip
noncomputable def code117 : Code := (Tryz.f117.body).getD .skip
noncomputable def code55 : Code := (Tryz.f55.body).getD .skip
noncomputable def code118 : Code := (Tryz.f118.body).getD .skip
noncomputable def code177 : Code := (Tryz.f177.body).getD .skip
noncomputable def code119 : Code := (Tryz.f119.body).getD .skip
noncomputable def code178 : Code := (Tryz.f178.body).getD .skip
noncomputable def code120 : Code := (Tryz.f120.body).getD .skip
noncomputable def code18 : Code := (Tryz.f18.body).getD .skip
noncomputable def code10 : Code := (Tryz.f10.body).getD .skip
noncomputable def code35 : Code := (Tryz.f35.body).getD .skip
noncomputable def code36 : Code := (Tryz.f36.body).getD .skip
noncomputable def code89 : Code := (Tryz.f89.body).getD .skip
noncomputable def code34 : Code := (Tryz.f34.body).getD .skip
noncomputable def code5 : Code := (Tryz.f5.body).getD .skip
noncomputable def code19 : Code := (Tryz.f19.body).getD .skip
noncomputable def code57 : Code := (Tryz.f57.body).getD .skip
noncomputable def code59 : Code := (Tryz.f59.body).getD .skip
noncomputable def code60 : Code := (Tryz.f60.body).getD .skip
noncomputable def code61 : Code := (Tryz.f61.body).getD .skip
noncomputable def code62 : Code := (Tryz.f62.body).getD .skip
noncomputable def code64 : Code := (Tryz.f64.body).getD .skip
noncomputable def code65 : Code := (Tryz.f65.body).getD .skip
noncomputable def code66 : Code := (Tryz.f66.body).getD .skip
noncomputable def nd0 : Operand × Array Tmp × Code × Code := match codeAt code35 [false, true, true, true] with | some (.rangeFunc g ps a b) => (g, ps, a, b) | _ => (.func 0, #[], .skip, .skip)
noncomputable def nd1 : Operand × Array Tmp × Code × Code := match codeAt code34 [false, true, false, true, true] with | some (.rangeFunc g ps a b) => (g, ps, a, b) | _ => (.func 0, #[], .skip, .skip)
noncomputable def siteL : List (Nat × Site) := [(0, ⟨17, nd0.2.1, nd0.2.2.1, nd0.2.2.2⟩), (1, ⟨13, nd1.2.1, nd1.2.2.1, nd1.2.2.2⟩)]
def tiL : List (Nat × TI) := [
  (0, ⟨true, .other, 1, 0, [.top], [.raw]⟩),
  (1, ⟨true, .other, 1, 8, [.nilfn], [.raw]⟩),
  (2, ⟨true, .int .i64, 1, 8, [.int .i64 0], [.int .i64]⟩),
  (3, ⟨true, .int .i64, 1, 8, [.int .i64 0], [.int .i64]⟩),
  (4, ⟨true, .bool, 1, 1, [.bool false], [.bool]⟩),
  (5, ⟨true, .int .u8, 1, 1, [.int .u8 0], [.int .u8]⟩),
  (9, ⟨true, .str, 1, 16, [.str ByteArray.empty], [.str]⟩),
  (20, ⟨true, .other, 1, 16, [.top], [.raw]⟩),
  (22, ⟨true, .slice 120, 1, 24, [.nilsl], [.slice 120]⟩),
  (23, ⟨true, .slice 57, 1, 24, [.nilsl], [.slice 57]⟩),
  (24, ⟨true, .slice 67, 1, 24, [.nilsl], [.slice 67]⟩),
  (26, ⟨true, .struct [(0, 22), (1, 3), (2, 23), (3, 24)], 4, 80, [.nilsl, .int .i64 0, .nilsl, .nilsl], [.slice 120, .int .i64, .slice 57, .slice 67]⟩),
  (29, ⟨true, .slice 41, 1, 24, [.nilsl], [.slice 41]⟩),
  (31, ⟨true, .other, 1, 8, [.nilfn], [.raw]⟩),
  (32, ⟨true, .int .u8, 1, 1, [.int .u8 0], [.int .u8]⟩),
  (33, ⟨true, .int .u8, 1, 1, [.int .u8 0], [.int .u8]⟩),
  (34, ⟨true, .slice 54, 1, 24, [.nilsl], [.slice 54]⟩),
  (35, ⟨true, .slice 118, 1, 24, [.nilsl], [.slice 118]⟩),
  (36, ⟨true, .slice 3, 1, 24, [.nilsl], [.slice 3]⟩),
  (37, ⟨true, .slice 110, 1, 24, [.nilsl], [.slice 110]⟩),
  (38, ⟨true, .slice 112, 1, 24, [.nilsl], [.slice 112]⟩),
  (39, ⟨true, .slice 115, 1, 24, [.nilsl], [.slice 115]⟩),
  (41, ⟨true, .struct [(0, 32), (1, 3), (2, 3), (3, 3), (4, 3), (5, 3), (6, 4), (7, 4), (8, 4), (9, 4), (10, 4), (11, 33), (12, 34), (13, 34), (14, 35), (15, 35), (16, 36), (17, 29), (18, 37), (19, 38), (20, 39)], 21, 272, [.int .u8 0, .int .i64 0, .int .i64 0, .int .i64 0, .int .i64 0, .int .i64 0, .bool false, .bool false, .bool false, .bool false, .bool false, .int .u8 0, .nilsl, .nilsl, .nilsl, .nilsl, .nilsl, .nilsl, .nilsl, .nilsl, .nilsl], [.int .u8, .int .i64, .int .i64, .int .i64, .int .i64, .int .i64, .bool, .bool, .bool, .bool, .bool, .int .u8, .slice 54, .slice 54, .slice 118, .slice 118, .slice 3, .slice 41, .slice 110, .slice 112, .slice 115]⟩),
  (44, ⟨true, .other, 1, 8, [.nilfn], [.raw]⟩),
  (46, ⟨true, .int .i64, 1, 8, [.int .i64 0], [.int .i64]⟩),
  (47, ⟨true, .other, 1, 0, [.top], [.raw]⟩),
  (49, ⟨true, .other, 1, 0, [.top], [.raw]⟩),
  (51, ⟨true, .int .u8, 1, 1, [.int .u8 0], [.int .u8]⟩),
  (52, ⟨true, .int .u8, 1, 1, [.int .u8 0], [.int .u8]⟩),
  (54, ⟨true, .struct [(0, 51), (1, 52), (2, 2), (3, 3), (4, 3), (5, 3), (6, 2), (7, 2), (8, 34)], 9, 80, [.int .u8 0, .int .u8 0, .int .i64 0, .int .i64 0, .int .i64 0, .int .i64 0, .int .i64 0, .int .i64 0, .nilsl], [.int .u8, .int .u8, .int .i64, .int .i64, .int .i64, .int .i64, .int .i64, .int .i64, .slice 54]⟩),
  (55, ⟨true, .slice 134, 1, 24, [.nilsl], [.slice 134]⟩),
  (57, ⟨true, .struct [(0, 3), (1, 55), (2, 41), (23, 2)], 24, 312, [.int .i64 0, .nilsl, .int .u8 0, .int .i64 0, .int .i64 0, .int .i64 0, .int .i64 0, .int .i64 0, .bool false, .bool false, .bool false, .bool false, .bool false, .int .u8 0, .nilsl, .nilsl, .nilsl, .nilsl, .nilsl, .nilsl, .nilsl, .nilsl, .nilsl, .int .i64 0], [.int .i64, .slice 134, .int .u8, .int .i64, .int .i64, .int .i64, .int .i64, .int .i64, .bool, .bool, .bool, .bool, .bool, .int .u8, .slice 54, .slice 54, .slice 118, .slice 118, .slice 3, .slice 41, .slice 110, .slice 112, .slice 115, .int .i64]⟩),
  (59, ⟨true, .other, 1, 8, [.nilfn], [.raw]⟩),
  (67, ⟨true, .struct [(0, 3), (1, 36), (2, 34)], 3, 56, [.int .i64 0, .nilsl, .nilsl], [.int .i64, .slice 3, .slice 54]⟩),
  (82, ⟨true, .other, 1, 8, [.nilfn], [.raw]⟩),
  (83, ⟨true, .other, 1, 8, [.nilfn], [.raw]⟩),
  (84, ⟨true, .other, 1, 8, [.nilfn], [.raw]⟩),
  (88, ⟨true, .slice 166, 1, 24, [.nilsl], [.slice 166]⟩),
  (89, ⟨true, .other, 1, 0, [.top], [.raw]⟩),
  (91, ⟨true, .ptr 96, 1, 8, [.nilp], [.raw]⟩),
  (93, ⟨true, .struct [(0, 22), (1, 3)], 2, 32, [.nilsl, .int .i64 0], [.slice 120, .int .i64]⟩),
  (94, ⟨true, .map 3 3, 1, 8, [.nilmp], [.raw]⟩),
  (96, ⟨true, .struct [(0, 93), (2, 26), (6, 88), (7, 3), (8, 94)], 9, 152, [.nilsl, .int .i64 0, .nilsl, .int .i64 0, .nilsl, .nilsl, .nilsl, .int .i64 0, .nilmp], [.slice 120, .int .i64, .slice 120, .int .i64, .slice 57, .slice 67, .slice 166, .int .i64, .raw]⟩),
  (98, ⟨true, .struct [(0, 4), (1, 4), (2, 36), (3, 2), (4, 2)], 5, 48, [.bool false, .bool false, .nilsl, .int .i64 0, .int .i64 0], [.bool, .bool, .slice 3, .int .i64, .int .i64]⟩),
  (99, ⟨true, .other, 1, 0, [.top], [.raw]⟩),
  (102, ⟨true, .struct [(0, 91), (1, 3), (2, 36), (3, 36), (4, 36), (5, 36), (6, 36), (7, 4), (8, 4), (9, 4), (10, 3), (11, 3)], 12, 160, [.nilp, .int .i64 0, .nilsl, .nilsl, .nilsl, .nilsl, .nilsl, .bool false, .bool false, .bool false, .int .i64 0, .int .i64 0], [.raw, .int .i64, .slice 3, .slice 3, .slice 3, .slice 3, .slice 3, .bool, .bool, .bool, .int .i64, .int .i64]⟩),
  (110, ⟨true, .struct [(0, 41), (21, 41)], 42, 544, [.int .u8 0, .int .i64 0, .int .i64 0, .int .i64 0, .int .i64 0, .int .i64 0, .bool false, .bool false, .bool false, .bool false, .bool false, .int .u8 0, .nilsl, .nilsl, .nilsl, .nilsl, .nilsl, .nilsl, .nilsl, .nilsl, .nilsl, .int .u8 0, .int .i64 0, .int .i64 0, .int .i64 0, .int .i64 0, .int .i64 0, .bool false, .bool false, .bool false, .bool false, .bool false, .int .u8 0, .nilsl, .nilsl, .nilsl, .nilsl, .nilsl, .nilsl, .nilsl, .nilsl, .nilsl], [.int .u8, .int .i64, .int .i64, .int .i64, .int .i64, .int .i64, .bool, .bool, .bool, .bool, .bool, .int .u8, .slice 54, .slice 54, .slice 118, .slice 118, .slice 3, .slice 41, .slice 110, .slice 112, .slice 115, .int .u8, .int .i64, .int .i64, .int .i64, .int .i64, .int .i64, .bool, .bool, .bool, .bool, .bool, .int .u8, .slice 54, .slice 54, .slice 118, .slice 118, .slice 3, .slice 41, .slice 110, .slice 112, .slice 115]⟩),
  (112, ⟨true, .struct [(0, 36), (1, 41)], 22, 296, [.nilsl, .int .u8 0, .int .i64 0, .int .i64 0, .int .i64 0, .int .i64 0, .int .i64 0, .bool false, .bool false, .bool false, .bool false, .bool false, .int .u8 0, .nilsl, .nilsl, .nilsl, .nilsl, .nilsl, .nilsl, .nilsl, .nilsl, .nilsl], [.slice 3, .int .u8, .int .i64, .int .i64, .int .i64, .int .i64, .int .i64, .bool, .bool, .bool, .bool, .bool, .int .u8, .slice 54, .slice 54, .slice 118, .slice 118, .slice 3, .slice 41, .slice 110, .slice 112, .slice 115]⟩),
  (113, ⟨true, .int .u8, 1, 1, [.int .u8 0], [.int .u8]⟩),
  (115, ⟨true, .struct [(0, 113), (1, 54), (10, 3), (11, 34), (12, 41), (33, 41)], 54, 664, [.int .u8 0, .int .u8 0, .int .u8 0, .int .i64 0, .int .i64 0, .int .i64 0, .int .i64 0, .int .i64 0, .int .i64 0, .nilsl, .int .i64 0, .nilsl, .int .u8 0, .int .i64 0, .int .i64 0, .int .i64 0, .int .i64 0, .int .i64 0, .bool false, .bool false, .bool false, .bool false, .bool false, .int .u8 0, .nilsl, .nilsl, .nilsl, .nilsl, .nilsl, .nilsl, .nilsl, .nilsl, .nilsl, .int .u8 0, .int .i64 0, .int .i64 0, .int .i64 0, .int .i64 0, .int .i64 0, .bool false, .bool false, .bool false, .bool false, .bool false, .int .u8 0, .nilsl, .nilsl, .nilsl, .nilsl, .nilsl, .nilsl, .nilsl, .nilsl, .nilsl], [.int .u8, .int .u8, .int .u8, .int .i64, .int .i64, .int .i64, .int .i64, .int .i64, .int .i64, .slice 54, .int .i64, .slice 54, .int .u8, .int .i64, .int .i64, .int .i64, .int .i64, .int .i64, .bool, .bool, .bool, .bool, .bool, .int .u8, .slice 54, .slice 54, .slice 118, .slice 118, .slice 3, .slice 41, .slice 110, .slice 112, .slice 115, .int .u8, .int .i64, .int .i64, .int .i64, .int .i64, .int .i64, .bool, .bool, .bool, .bool, .bool, .int .u8, .slice 54, .slice 54, .slice 118, .slice 118, .slice 3, .slice 41, .slice 110, .slice 112, .slice 115]⟩),
  (116, ⟨true, .int .u8, 1, 1, [.int .u8 0], [.int .u8]⟩),
  (118, ⟨true, .struct [(0, 116), (1, 3), (2, 3), (3, 3), (4, 34)], 5, 56, [.int .u8 0, .int .i64 0, .int .i64 0, .int .i64 0, .nilsl], [.int .u8, .int .i64, .int .i64, .int .i64, .slice 54]⟩),
  (120, ⟨true, .struct [(0, 3), (1, 2), (2, 2), (3, 4), (4, 36)], 5, 56, [.int .i64 0, .int .i64 0, .int .i64 0, .bool false, .nilsl], [.int .i64, .int .i64, .int .i64, .bool, .slice 3]⟩),
  (121, ⟨true, .ptr 127, 1, 8, [.nilp], [.raw]⟩),
  (122, ⟨true, .ptr 125, 1, 8, [.nilp], [.raw]⟩),
  (123, ⟨true, .slice 5, 1, 24, [.nilsl], [.slice 5]⟩),
  (125, ⟨true, .struct [(0, 122), (1, 123)], 2, 32, [.nilp, .nilsl], [.raw, .slice 5]⟩),
  (127, ⟨true, .struct [(0, 125), (2, 22)], 3, 56, [.nilp, .nilsl, .nilsl], [.raw, .slice 5, .slice 120]⟩),
  (134, ⟨true, .struct [(0, 36), (1, 36)], 2, 48, [.nilsl, .nilsl], [.slice 3, .slice 3]⟩),
  (137, ⟨true, .other, 1, 8, [.nilfn], [.raw]⟩),
  (138, ⟨true, .other, 1, 8, [.nilfn], [.raw]⟩),
  (140, ⟨true, .other, 1, 8, [.nilfn], [.raw]⟩),
  (142, ⟨true, .other, 1, 8, [.nilfn], [.raw]⟩),
  (147, ⟨true, .other, 1, 8, [.nilfn], [.raw]⟩),
  (149, ⟨true, .other, 1, 8, [.nilfn], [.raw]⟩),
  (150, ⟨true, .other, 1, 8, [.nilfn], [.raw]⟩),
  (151, ⟨true, .other, 1, 8, [.nilfn], [.raw]⟩),
  (163, ⟨true, .other, 1, 8, [.nilfn], [.raw]⟩),
  (166, ⟨true, .struct [(0, 3), (1, 3), (2, 3)], 3, 24, [.int .i64 0, .int .i64 0, .int .i64 0], [.int .i64, .int .i64, .int .i64]⟩),
  (167, ⟨true, .slice 36, 1, 24, [.nilsl], [.slice 36]⟩),
  (169, ⟨true, .ptr 3, 1, 8, [.nilp], [.raw]⟩),
  (172, ⟨true, .other, 1, 8, [.nilfn], [.raw]⟩),
  (176, ⟨true, .slice 9, 1, 24, [.nilsl], [.slice 9]⟩),
  (178, ⟨true, .other, 1, 16, [.top], [.raw]⟩),
  (179, ⟨true, .other, 1, 0, [.top], [.raw]⟩),
  (190, ⟨true, .ptr 5, 1, 8, [.nilp], [.raw]⟩),
  (198, ⟨true, .other, 1, 8, [.nilfn], [.raw]⟩),
  (203, ⟨true, .int .u64, 1, 8, [.int .u64 0], [.int .u64]⟩),
  (204, ⟨true, .other, 1, 0, [.top], [.raw]⟩),
  (206, ⟨true, .map 3 4, 1, 8, [.nilmp], [.raw]⟩),
  (207, ⟨true, .slice 98, 1, 24, [.nilsl], [.slice 98]⟩),
  (208, ⟨true, .other, 1, 0, [.top], [.raw]⟩),
  (218, ⟨true, .map 9 4, 1, 8, [.nilmp], [.raw]⟩),
  (219, ⟨true, .other, 1, 0, [.top], [.raw]⟩),
  (223, ⟨true, .map 113 3, 1, 8, [.nilmp], [.raw]⟩),
  (229, ⟨true, .array 19 9, 19, 304, [.str ByteArray.empty, .str ByteArray.empty, .str ByteArray.empty, .str ByteArray.empty, .str ByteArray.empty, .str ByteArray.empty, .str ByteArray.empty, .str ByteArray.empty, .str ByteArray.empty, .str ByteArray.empty, .str ByteArray.empty, .str ByteArray.empty, .str ByteArray.empty, .str ByteArray.empty, .str ByteArray.empty, .str ByteArray.empty, .str ByteArray.empty, .str ByteArray.empty, .str ByteArray.empty], [.str, .str, .str, .str, .str, .str, .str, .str, .str, .str, .str, .str, .str, .str, .str, .str, .str, .str, .str]⟩),
  (233, ⟨true, .int .u32, 1, 4, [.int .u32 0], [.int .u32]⟩),
  (234, ⟨true, .other, 1, 0, [.top], [.raw]⟩),
  (236, ⟨true, .int .u64, 1, 8, [.int .u64 0], [.int .u64]⟩),
  (237, ⟨true, .other, 1, 0, [.top], [.raw]⟩),
  (239, ⟨true, .slice 1, 1, 24, [.nilsl], [.slice 1]⟩),
  (240, ⟨true, .other, 1, 8, [.nilfn], [.raw]⟩),
  (244, ⟨true, .other, 1, 8, [.nilp], [.raw]⟩),
  (246, ⟨true, .array 24 5, 24, 24, [.int .u8 0, .int .u8 0, .int .u8 0, .int .u8 0, .int .u8 0, .int .u8 0, .int .u8 0, .int .u8 0, .int .u8 0, .int .u8 0, .int .u8 0, .int .u8 0, .int .u8 0, .int .u8 0, .int .u8 0, .int .u8 0, .int .u8 0, .int .u8 0, .int .u8 0, .int .u8 0, .int .u8 0, .int .u8 0, .int .u8 0, .int .u8 0], [.int .u8, .int .u8, .int .u8, .int .u8, .int .u8, .int .u8, .int .u8, .int .u8, .int .u8, .int .u8, .int .u8, .int .u8, .int .u8, .int .u8, .int .u8, .int .u8, .int .u8, .int .u8, .int .u8, .int .u8, .int .u8, .int .u8, .int .u8, .int .u8]⟩),
  (249, ⟨true, .other, 1, 0, [.top], [.raw]⟩),
  (257, ⟨true, .array 20 236, 20, 160, [.int .u64 0, .int .u64 0, .int .u64 0, .int .u64 0, .int .u64 0, .int .u64 0, .int .u64 0, .int .u64 0, .int .u64 0, .int .u64 0, .int .u64 0, .int .u64 0, .int .u64 0, .int .u64 0, .int .u64 0, .int .u64 0, .int .u64 0, .int .u64 0, .int .u64 0, .int .u64 0], [.int .u64, .int .u64, .int .u64, .int .u64, .int .u64, .int .u64, .int .u64, .int .u64, .int .u64, .int .u64, .int .u64, .int .u64, .int .u64, .int .u64, .int .u64, .int .u64, .int .u64, .int .u64, .int .u64, .int .u64]⟩),
  (258, ⟨true, .array 65 5, 65, 65, [.int .u8 0, .int .u8 0, .int .u8 0, .int .u8 0, .int .u8 0, .int .u8 0, .int .u8 0, .int .u8 0, .int .u8 0, .int .u8 0, .int .u8 0, .int .u8 0, .int .u8 0, .int .u8 0, .int .u8 0, .int .u8 0, .int .u8 0, .int .u8 0, .int .u8 0, .int .u8 0, .int .u8 0, .int .u8 0, .int .u8 0, .int .u8 0, .int .u8 0, .int .u8 0, .int .u8 0, .int .u8 0, .int .u8 0, .int .u8 0, .int .u8 0, .int .u8 0, .int .u8 0, .int .u8 0, .int .u8 0, .int .u8 0, .int .u8 0, .int .u8 0, .int .u8 0, .int .u8 0, .int .u8 0, .int .u8 0, .int .u8 0, .int .u8 0, .int .u8 0, .int .u8 0, .int .u8 0, .int .u8 0, .int .u8 0, .int .u8 0, .int .u8 0, .int .u8 0, .int .u8 0, .int .u8 0, .int .u8 0, .int .u8 0, .int .u8 0, .int .u8 0, .int .u8 0, .int .u8 0, .int .u8 0, .int .u8 0, .int .u8 0, .int .u8 0, .int .u8 0], [.int .u8, .int .u8, .int .u8, .int .u8, .int .u8, .int .u8, .int .u8, .int .u8, .int .u8, .int .u8, .int .u8, .int .u8, .int .u8, .int .u8, .int .u8, .int .u8, .int .u8, .int .u8, .int .u8, .int .u8, .int .u8, .int .u8, .int .u8, .int .u8, .int .u8, .int .u8, .int .u8, .int .u8, .int .u8, .int .u8, .int .u8, .int .u8, .int .u8, .int .u8, .int .u8, .int .u8, .int .u8, .int .u8, .int .u8, .int .u8, .int .u8, .int .u8, .int .u8, .int .u8, .int .u8, .int .u8, .int .u8, .int .u8, .int .u8, .int .u8, .int .u8, .int .u8, .int .u8, .int .u8, .int .u8, .int .u8, .int .u8, .int .u8, .int .u8, .int .u8, .int .u8, .int .u8, .int .u8, .int .u8, .int .u8]⟩),
  (260, ⟨true, .int .i64, 1, 8, [.int .i64 0], [.int .i64]⟩),
  (261, ⟨true, .other, 1, 0, [.top], [.raw]⟩),
  (264, ⟨true, .other, 1, 0, [.top], [.raw]⟩),
  (267, ⟨true, .int .u64, 1, 8, [.int .u64 0], [.int .u64]⟩),
  (272, ⟨true, .array 32 5, 32, 32, [.int .u8 0, .int .u8 0, .int .u8 0, .int .u8 0, .int .u8 0, .int .u8 0, .int .u8 0, .int .u8 0, .int .u8 0, .int .u8 0, .int .u8 0, .int .u8 0, .int .u8 0, .int .u8 0, .int .u8 0, .int .u8 0, .int .u8 0, .int .u8 0, .int .u8 0, .int .u8 0, .int .u8 0, .int .u8 0, .int .u8 0, .int .u8 0, .int .u8 0, .int .u8 0, .int .u8 0, .int .u8 0, .int .u8 0, .int .u8 0, .int .u8 0, .int .u8 0], [.int .u8, .int .u8, .int .u8, .int .u8, .int .u8, .int .u8, .int .u8, .int .u8, .int .u8, .int .u8, .int .u8, .int .u8, .int .u8, .int .u8, .int .u8, .int .u8, .int .u8, .int .u8, .int .u8, .int .u8, .int .u8, .int .u8, .int .u8, .int .u8, .int .u8, .int .u8, .int .u8, .int .u8, .int .u8, .int .u8, .int .u8, .int .u8]⟩),
  (273, ⟨true, .array 64 5, 64, 64, [.int .u8 0, .int .u8 0, .int .u8 0, .int .u8 0, .int .u8 0, .int .u8 0, .int .u8 0, .int .u8 0, .int .u8 0, .int .u8 0, .int .u8 0, .int .u8 0, .int .u8 0, .int .u8 0, .int .u8 0, .int .u8 0, .int .u8 0, .int .u8 0, .int .u8 0, .int .u8 0, .int .u8 0, .int .u8 0, .int .u8 0, .int .u8 0, .int .u8 0, .int .u8 0, .int .u8 0, .int .u8 0, .int .u8 0, .int .u8 0, .int .u8 0, .int .u8 0, .int .u8 0, .int .u8 0, .int .u8 0, .int .u8 0, .int .u8 0, .int .u8 0, .int .u8 0, .int .u8 0, .int .u8 0, .int .u8 0, .int .u8 0, .int .u8 0, .int .u8 0, .int .u8 0, .int .u8 0, .int .u8 0, .int .u8 0, .int .u8 0, .int .u8 0, .int .u8 0, .int .u8 0, .int .u8 0, .int .u8 0, .int .u8 0, .int .u8 0, .int .u8 0, .int .u8 0, .int .u8 0, .int .u8 0, .int .u8 0, .int .u8 0, .int .u8 0], [.int .u8, .int .u8, .int .u8, .int .u8, .int .u8, .int .u8, .int .u8, .int .u8, .int .u8, .int .u8, .int .u8, .int .u8, .int .u8, .int .u8, .int .u8, .int .u8, .int .u8, .int .u8, .int .u8, .int .u8, .int .u8, .int .u8, .int .u8, .int .u8, .int .u8, .int .u8, .int .u8, .int .u8, .int .u8, .int .u8, .int .u8, .int .u8, .int .u8, .int .u8, .int .u8, .int .u8, .int .u8, .int .u8, .int .u8, .int .u8, .int .u8, .int .u8, .int .u8, .int .u8, .int .u8, .int .u8, .int .u8, .int .u8, .int .u8, .int .u8, .int .u8, .int .u8, .int .u8, .int .u8, .int .u8, .int .u8, .int .u8, .int .u8, .int .u8, .int .u8, .int .u8, .int .u8, .int .u8, .int .u8]⟩),
  (274, ⟨true, .ptr 267, 1, 8, [.nilp], [.raw]⟩),
  (275, ⟨true, .other, 1, 0, [.top], [.raw]⟩)]
noncomputable def X : Cx := ⟨Tryz.prog, fun t => vTI (lookTI tiL t), lookS siteL, fun _ => .top, lookE [166], false, fun _ _ => false, some ⟨[.any, .any, .any], 127, 125, 122, 244, 202⟩⟩
theorem hX : X.Okb := cx_okv (l := tiL) (el := [166]) (fun u h => by injection h with h; subst h; exact ⟨by kernel_rfl, by kernel_rfl, ub_bt (by kernel_rfl), by kernel_rfl, by decide, ⟨_, Tryz.func202, by kernel_rfl, by kernel_rfl, by kernel_rfl, by kernel_rfl⟩⟩) (fun _ => .inl rfl) (by kernel_rfl) ⟨⟨by kernel_rfl, rfl⟩, ⟨by kernel_rfl, rfl⟩, ⟨by kernel_rfl, rfl⟩, ⟨by kernel_rfl, rfl⟩, ⟨by kernel_rfl, rfl⟩, ⟨by kernel_rfl, rfl⟩, ⟨by kernel_rfl, rfl⟩, ⟨by kernel_rfl, rfl⟩, ⟨by kernel_rfl, rfl⟩, ⟨by kernel_rfl, rfl⟩, ⟨by kernel_rfl, rfl⟩, ⟨by kernel_rfl, rfl⟩, ⟨by kernel_rfl, rfl⟩, ⟨by kernel_rfl, rfl⟩, ⟨by kernel_rfl, rfl⟩, ⟨by kernel_rfl, rfl⟩, ⟨by kernel_rfl, rfl⟩, ⟨by kernel_rfl, rfl⟩, ⟨by kernel_rfl, rfl⟩, ⟨by kernel_rfl, rfl⟩, ⟨by kernel_rfl, rfl⟩, ⟨by kernel_rfl, rfl⟩, ⟨by kernel_rfl, rfl⟩, ⟨by kernel_rfl, rfl⟩, ⟨by kernel_rfl, rfl⟩, ⟨by kernel_rfl, rfl⟩, ⟨by kernel_rfl, rfl⟩, ⟨by kernel_rfl, rfl⟩, ⟨by kernel_rfl, rfl⟩, ⟨by kernel_rfl, rfl⟩, ⟨by kernel_rfl, rfl⟩, ⟨by kernel_rfl, rfl⟩, ⟨by kernel_rfl, rfl⟩, ⟨by kernel_rfl, rfl⟩, ⟨by kernel_rfl, rfl⟩, ⟨by kernel_rfl, rfl⟩, ⟨by kernel_rfl, rfl⟩, ⟨by kernel_rfl, rfl⟩, ⟨by kernel_rfl, rfl⟩, ⟨by kernel_rfl, rfl⟩, ⟨by kernel_rfl, rfl⟩, ⟨by kernel_rfl, rfl⟩, ⟨by kernel_rfl, rfl⟩, ⟨by kernel_rfl, rfl⟩, ⟨by kernel_rfl, rfl⟩, ⟨by kernel_rfl, rfl⟩, ⟨by kernel_rfl, rfl⟩, ⟨by kernel_rfl, rfl⟩, ⟨by kernel_rfl, rfl⟩, ⟨by kernel_rfl, rfl⟩, ⟨by kernel_rfl, rfl⟩, ⟨by kernel_rfl, rfl⟩, ⟨by kernel_rfl, rfl⟩, ⟨by kernel_rfl, rfl⟩, ⟨by kernel_rfl, rfl⟩, ⟨by kernel_rfl, rfl⟩, ⟨by kernel_rfl, rfl⟩, ⟨by kernel_rfl, rfl⟩, ⟨by kernel_rfl, rfl⟩, ⟨by kernel_rfl, rfl⟩, ⟨by kernel_rfl, rfl⟩, ⟨by kernel_rfl, rfl⟩, ⟨by kernel_rfl, rfl⟩, ⟨by kernel_rfl, rfl⟩, ⟨by kernel_rfl, rfl⟩, ⟨by kernel_rfl, rfl⟩, ⟨by kernel_rfl, rfl⟩, ⟨by kernel_rfl, rfl⟩, ⟨by kernel_rfl, rfl⟩, ⟨by kernel_rfl, rfl⟩, ⟨by kernel_rfl, rfl⟩, ⟨by kernel_rfl, rfl⟩, ⟨by kernel_rfl, rfl⟩, ⟨by kernel_rfl, rfl⟩, ⟨by kernel_rfl, rfl⟩, ⟨by kernel_rfl, rfl⟩, ⟨by kernel_rfl, rfl⟩, ⟨by kernel_rfl, rfl⟩, ⟨by kernel_rfl, rfl⟩, ⟨by kernel_rfl, rfl⟩, ⟨by kernel_rfl, rfl⟩, ⟨by kernel_rfl, rfl⟩, ⟨by kernel_rfl, rfl⟩, ⟨by kernel_rfl, rfl⟩, ⟨by kernel_rfl, rfl⟩, ⟨by kernel_rfl, rfl⟩, ⟨by kernel_rfl, rfl⟩, ⟨by kernel_rfl, rfl⟩, ⟨by kernel_rfl, rfl⟩, ⟨by kernel_rfl, rfl⟩, ⟨by kernel_rfl, rfl⟩, ⟨by kernel_rfl, rfl⟩, ⟨by kernel_rfl, rfl⟩, ⟨by kernel_rfl, rfl⟩, ⟨by kernel_rfl, rfl⟩, ⟨by kernel_rfl, rfl⟩, ⟨by kernel_rfl, rfl⟩, ⟨by kernel_rfl, rfl⟩, ⟨by kernel_rfl, rfl⟩, ⟨by kernel_rfl, rfl⟩, ⟨by kernel_rfl, rfl⟩, ⟨by kernel_rfl, rfl⟩, ⟨by kernel_rfl, rfl⟩, ⟨by kernel_rfl, rfl⟩, ⟨by kernel_rfl, rfl⟩, trivial⟩ ⟨(by show eqOk Tryz.prog _ = true; kernel_rfl), trivial⟩
theorem hG : GlobFree X := fun g {ρ ρ' F w v} _ => .top v
theorem hb9 : Tryz.f9.body = some code9 := by kernel_rfl
theorem hb16 : Tryz.f16.body = some code16 := by kernel_rfl
theorem hb21 : Tryz.f21.body = some code21 := by kernel_rfl
theorem hb33 : Tryz.f33.body = some code33 := by kernel_rfl
theorem hb17 : Tryz.f17.body = some code17 := by kernel_rfl
theorem hb13 : Tryz.f13.body = some code13 := by kernel_rfl
theorem hb39 : Tryz.f39.body = some code39 := by kernel_rfl
theorem hb90 : Tryz.f90.body = some code90 := by kernel_rfl
theorem hb92 : Tryz.f92.body = some code92 := by kernel_rfl
theorem hb91 : Tryz.f91.body = some code91 := by kernel_rfl
theorem hb141 : Tryz.f141.body = some code141 := by kernel_rfl
theorem hb40 : Tryz.f40.body = some code40 := by kernel_rfl
theorem hb93 : Tryz.f93.body = some code93 := by kernel_rfl
theorem hb142 : Tryz.f142.body = some code142 := by kernel_rfl
theorem hb183 : Tryz.f183.body = some code183 := by kernel_rfl
theorem hb184 : Tryz.f184.body = some code184 := by kernel_rfl
theorem hb94 : Tryz.f94.body = some code94 := by kernel_rfl
theorem hb41 : Tryz.f41.body = some code41 := by kernel_rfl
theorem hb95 : Tryz.f95.body = some code95 := by kernel_rfl
theorem hb96 : Tryz.f96.body = some code96 := by kernel_rfl
theorem hb143 : Tryz.f143.body = some code143 := by kernel_rfl
theorem hb185 : Tryz.f185.body = some code185 := by kernel_rfl
theorem hb186 : Tryz.f186.body = some code186 := by kernel_rfl
theorem hb187 : Tryz.f187.body = some code187 := by kernel_rfl
theorem hb188 : Tryz.f188.body = some code188 := by kernel_rfl
theorem hb189 : Tryz.f189.body = some code189 := by kernel_rfl
theorem hb190 : Tryz.f190.body = some code190 := by kernel_rfl
theorem hb191 : Tryz.f191.body = some code191 := by kernel_rfl
theorem hb144 : Tryz.f144.body = some code144 := by kernel_rfl
theorem hb145 : Tryz.f145.body = some code145 := by kernel_rfl
theorem hb146 : Tryz.f146.body = some code146 := by kernel_rfl
theorem hb147 : Tryz.f147.body = some code147 := by kernel_rfl
theorem hb42 : Tryz.f42.body = some code42 := by kernel_rfl
theorem hb148 : Tryz.f148.body = some code148 := by kernel_rfl
theorem hb149 : Tryz.f149.body = some code149 := by kernel_rfl
theorem hb150 : Tryz.f150.body = some code150 := by kernel_rfl
theorem hb192 : Tryz.f192.body = some code192 := by kernel_rfl
theorem hb213 : Tryz.f213.body = some code213 := by kernel_rfl
theorem hb231 : Tryz.f231.body = some code231 := by kernel_rfl
theorem hb218 : Tryz.f218.body = some code218 := by kernel_rfl
theorem hb212 : Tryz.f212.body = some code212 := by kernel_rfl
theorem hb222 : Tryz.f222.body = some code222 := by kernel_rfl
theorem hb228 : Tryz.f228.body = some code228 := by kernel_rfl
theorem hb241 : Tryz.f241.body = some code241 := by kernel_rfl
theorem hb223 : Tryz.f223.body = some code223 := by kernel_rfl
theorem hb236 : Tryz.f236.body = some code236 := by kernel_rfl
theorem hb224 : Tryz.f224.body = some code224 := by kernel_rfl
theorem hb237 : Tryz.f237.body = some code237 := by kernel_rfl
theorem hb238 : Tryz.f238.body = some code238 := by kernel_rfl
theorem hb225 : Tryz.f225.body = some code225 := by kernel_rfl
theorem hb239 : Tryz.f239.body = some code239 := by kernel_rfl
theorem hb240 : Tryz.f240.body = some code240 := by kernel_rfl
theorem hb242 : Tryz.f242.body = some code242 := by kernel_rfl
theorem hb226 : Tryz.f226.body = some code226 := by kernel_rfl
theorem hb227 : Tryz.f227.body = some code227 := by kernel_rfl
theorem hb229 : Tryz.f229.body = some code229 := by kernel_rfl
theorem hb230 : Tryz.f230.body = some code230 := by kernel_rfl
theorem hb193 : Tryz.f193.body = some code193 := by kernel_rfl
theorem hb151 : Tryz.f151.body = some code151 := by kernel_rfl
theorem hb43 : Tryz.f43.body = some code43 := by kernel_rfl
theorem hb97 : Tryz.f97.body = some code97 := by kernel_rfl
theorem hb152 : Tryz.f152.body = some code152 := by kernel_rfl
theorem hb99 : Tryz.f99.body = some code99 := by kernel_rfl
theorem hb98 : Tryz.f98.body = some code98 := by kernel_rfl
theorem hb153 : Tryz.f153.body = some code153 := by kernel_rfl
theorem hb44 : Tryz.f44.body = some code44 := by kernel_rfl
theorem hb100 : Tryz.f100.body = some code100 := by kernel_rfl
theorem hb22 : Tryz.f22.body = some code22 := by kernel_rfl
theorem hb20 : Tryz.f20.body = some code20 := by kernel_rfl
theorem hb63 : Tryz.f63.body = some code63 := by kernel_rfl
theorem hb58 : Tryz.f58.body = some code58 := by kernel_rfl
theorem hb68 : Tryz.f68.body = some code68 := by kernel_rfl
theorem hb67 : Tryz.f67.body = some code67 := by kernel_rfl
theorem hb69 : Tryz.f69.body = some code69 := by kernel_rfl
theorem hb70 : Tryz.f70.body = some code70 := by kernel_rfl
theorem hb71 : Tryz.f71.body = some code71 := by kernel_rfl
theorem hb72 : Tryz.f72.body = some code72 := by kernel_rfl
theorem hb73 : Tryz.f73.body = some code73 := by kernel_rfl
theorem hb74 : Tryz.f74.body = some code74 := by kernel_rfl
theorem hb75 : Tryz.f75.body = some code75 := by kernel_rfl
theorem hb101 : Tryz.f101.body = some code101 := by kernel_rfl
theorem hb154 : Tryz.f154.body = some code154 := by kernel_rfl
theorem hb102 : Tryz.f102.body = some code102 := by kernel_rfl
theorem hb155 : Tryz.f155.body = some code155 := by kernel_rfl
theorem hb194 : Tryz.f194.body = some code194 := by kernel_rfl
theorem hb214 : Tryz.f214.body = some code214 := by kernel_rfl
theorem hb158 : Tryz.f158.body = some code158 := by kernel_rfl
theorem hb232 : Tryz.f232.body = some code232 := by kernel_rfl
theorem hb195 : Tryz.f195.body = some code195 := by kernel_rfl
theorem hb156 : Tryz.f156.body = some code156 := by kernel_rfl
theorem hb196 : Tryz.f196.body = some code196 := by kernel_rfl
theorem hb197 : Tryz.f197.body = some code197 := by kernel_rfl
theorem hb215 : Tryz.f215.body = some code215 := by kernel_rfl
theorem hb233 : Tryz.f233.body = some code233 := by kernel_rfl
theorem hb157 : Tryz.f157.body = some code157 := by kernel_rfl
theorem hb159 : Tryz.f159.body = some code159 := by kernel_rfl
theorem hb160 : Tryz.f160.body = some code160 := by kernel_rfl
theorem hb161 : Tryz.f161.body = some code161 := by kernel_rfl
theorem hb162 : Tryz.f162.body = some code162 := by kernel_rfl
theorem hb163 : Tryz.f163.body = some code163 := by kernel_rfl
theorem hb168 : Tryz.f168.body = some code168 := by kernel_rfl
theorem hb164 : Tryz.f164.body = some code164 := by kernel_rfl
theorem hb198 : Tryz.f198.body = some code198 := by kernel_rfl
theorem hb199 : Tryz.f199.body = some code199 := by kernel_rfl
theorem hb165 : Tryz.f165.body = some code165 := by kernel_rfl
theorem hb166 : Tryz.f166.body = some code166 := by kernel_rfl
theorem hb200 : Tryz.f200.body = some code200 := by kernel_rfl
theorem hb201 : Tryz.f201.body = some code201 := by kernel_rfl
theorem hb103 : Tryz.f103.body = some code103 := by kernel_rfl
theorem hb167 : Tryz.f167.body = some code167 := by kernel_rfl
theorem hb104 : Tryz.f104.body = some code104 := by kernel_rfl
theorem hb105 : Tryz.f105.body = some code105 := by kernel_rfl
theorem hb107 : Tryz.f107.body = some code107 := by kernel_rfl
theorem hb169 : Tryz.f169.body = some code169 := by kernel_rfl
theorem hb106 : Tryz.f106.body = some code106 := by kernel_rfl
theorem hb109 : Tryz.f109.body = some code109 := by kernel_rfl
theorem hb108 : Tryz.f108.body = some code108 := by kernel_rfl
theorem hb170 : Tryz.f170.body = some code170 := by kernel_rfl
theorem hb51 : Tryz.f51.body = some code51 := by kernel_rfl
theorem hb113 : Tryz.f113.body = some code113 := by kernel_rfl
theorem hb175 : Tryz.f175.body = some code175 := by kernel_rfl
theorem hb176 : Tryz.f176.body = some code176 := by kernel_rfl
theorem hb205 : Tryz.f205.body = some code205 := by kernel_rfl
theorem hb206 : Tryz.f206.body = some code206 := by kernel_rfl
theorem hb217 : Tryz.f217.body = some code217 := by kernel_rfl
theorem hb219 : Tryz.f219.body = some code219 := by kernel_rfl
theorem hb207 : Tryz.f207.body = some code207 := by kernel_rfl
theorem hb208 : Tryz.f208.body = some code208 := by kernel_rfl
theorem hb220 : Tryz.f220.body = some code220 := by kernel_rfl
theorem hb221 : Tryz.f221.body = some code221 := by kernel_rfl
theorem hb234 : Tryz.f234.body = some code234 := by kernel_rfl
theorem hb235 : Tryz.f235.body = some code235 := by kernel_rfl
theorem hb52 : Tryz.f52.body = some code52 := by kernel_rfl
theorem hb50 : Tryz.f50.body = some code50 := by kernel_rfl
theorem hb111 : Tryz.f111.body = some code111 := by kernel_rfl
theorem hb172 : Tryz.f172.body = some code172 := by kernel_rfl
theorem hb203 : Tryz.f203.body = some code203 := by kernel_rfl
theorem hb173 : Tryz.f173.body = some code173 := by kernel_rfl
theorem hb171 : Tryz.f171.body = some code171 := by kernel_rfl
theorem hb204 : Tryz.f204.body = some code204 := by kernel_rfl
theorem hb110 : Tryz.f110.body = some code110 := by kernel_rfl
theorem hb174 : Tryz.f174.body = some code174 := by kernel_rfl
theorem hb56 : Tryz.f56.body = some code56 := by kernel_rfl
theorem hb112 : Tryz.f112.body = some code112 := by kernel_rfl
theorem hb53 : Tryz.f53.body = some code53 := by kernel_rfl
theorem hb114 : Tryz.f114.body = some code114 := by kernel_rfl
theorem hb54 : Tryz.f54.body = some code54 := by kernel_rfl
theorem hb115 : Tryz.f115.body = some code115 := by kernel_rfl
theorem hb116 : Tryz.f116.body = some code116 := by kernel_rfl
theorem hb117 : Tryz.f117.body = some code117 := by kernel_rfl
theorem hb55 : Tryz.f55.body = some code55 := by kernel_rfl
theorem hb118 : Tryz.f118.body = some code118 := by kernel_rfl
theorem hb177 : Tryz.f177.body = some code177 := by kernel_rfl
theorem hb119 : Tryz.f119.body = some code119 := by kernel_rfl
theorem hb178 : Tryz.f178.body = some code178 := by kernel_rfl
theorem hb120 : Tryz.f120.body = some code120 := by kernel_rfl
theorem hb18 : Tryz.f18.body = some code18 := by kernel_rfl
theorem hb10 : Tryz.f10.body = some code10 := by kernel_rfl
theorem hb35 : Tryz.f35.body = some code35 := by kernel_rfl
theorem hb36 : Tryz.f36.body = some code36 := by kernel_rfl
theorem hb89 : Tryz.f89.body = some code89 := by kernel_rfl
theorem hb34 : Tryz.f34.body = some code34 := by kernel_rfl
theorem hb5 : Tryz.f5.body = some code5 := by kernel_rfl
theorem hb19 : Tryz.f19.body = some code19 := by kernel_rfl
theorem hb57 : Tryz.f57.body = some code57 := by kernel_rfl
theorem hb59 : Tryz.f59.body = some code59 := by kernel_rfl
theorem hb60 : Tryz.f60.body = some code60 := by kernel_rfl
theorem hb61 : Tryz.f61.body = some code61 := by kernel_rfl
theorem hb62 : Tryz.f62.body = some code62 := by kernel_rfl
theorem hb64 : Tryz.f64.body = some code64 := by kernel_rfl
theorem hb65 : Tryz.f65.body = some code65 := by kernel_rfl
theorem hb66 : Tryz.f66.body = some code66 := by kernel_rfl
noncomputable def I : List (Nat × FI) := [(9, ⟨code9, ⟨63, 9223372036854775807⟩, Tryz.f9.results.toList⟩), (16, ⟨code16, ⟨23, 8388607⟩, Tryz.f16.results.toList⟩), (21, ⟨code21, ⟨5, 31⟩, Tryz.f21.results.toList⟩), (33, ⟨code33, ⟨9, 511⟩, Tryz.f33.results.toList⟩), (17, ⟨code17, ⟨143, 11150372599265311570767859136324180752990207⟩, Tryz.f17.results.toList⟩), (13, ⟨code13, ⟨196, 100433627766186892221372630771322662657637687111424552206335⟩, Tryz.f13.results.toList⟩), (39, ⟨code39, ⟨85, 38685626227668133590597631⟩, Tryz.f39.results.toList⟩), (90, ⟨code90, ⟨38, 274877906943⟩, Tryz.f90.results.toList⟩), (92, ⟨code92, ⟨17, 131071⟩, Tryz.f92.results.toList⟩), (91, ⟨code91, ⟨9, 511⟩, Tryz.f91.results.toList⟩), (141, ⟨code141, ⟨19, 524287⟩, Tryz.f141.results.toList⟩), (40, ⟨code40, ⟨165, 46768052394588893382517914646921056628989841375231⟩, Tryz.f40.results.toList⟩), (93, ⟨code93, ⟨48, 281474976710655⟩, Tryz.f93.results.toList⟩), (142, ⟨code142, ⟨30, 1073741823⟩, Tryz.f142.results.toList⟩), (183, ⟨code183, ⟨17, 131071⟩, Tryz.f183.results.toList⟩), (184, ⟨code184, ⟨51, 2251799813685247⟩, Tryz.f184.results.toList⟩), (94, ⟨code94, ⟨33, 8589934591⟩, Tryz.f94.results.toList⟩), (41, ⟨code41, ⟨16, 65535⟩, Tryz.f41.results.toList⟩), (95, ⟨code95, ⟨36, 68719476735⟩, Tryz.f95.results.toList⟩), (96, ⟨code96, ⟨380, 2462625387274654950767440006258975862817483704404090416746768337765357610718575663213391640930307227550414249394175⟩, Tryz.f96.results.toList⟩), (143, ⟨code143, ⟨102, 5070602400912917605986812821503⟩, Tryz.f143.results.toList⟩), (185, ⟨code185, ⟨20, 1048575⟩, Tryz.f185.results.toList⟩), (186, ⟨code186, ⟨5, 31⟩, Tryz.f186.results.toList⟩), (187, ⟨code187, ⟨5, 31⟩, Tryz.f187.results.toList⟩), (188, ⟨code188, ⟨5, 31⟩, Tryz.f188.results.toList⟩), (189, ⟨code189, ⟨5, 31⟩, Tryz.f189.results.toList⟩), (190, ⟨code190, ⟨5, 31⟩, Tryz.f190.results.toList⟩), (191, ⟨code191, ⟨8, 255⟩, Tryz.f191.results.toList⟩), (144, ⟨code144, ⟨8, 255⟩, Tryz.f144.results.toList⟩), (145, ⟨code145, ⟨30, 1073741823⟩, Tryz.f145.results.toList⟩), (146, ⟨code146, ⟨57, 144115188075855871⟩, Tryz.f146.results.toList⟩), (147, ⟨code147, ⟨2, 3⟩, Tryz.f147.results.toList⟩), (42, ⟨code42, ⟨16, 65535⟩, Tryz.f42.results.toList⟩), (148, ⟨code148, ⟨2, 3⟩, Tryz.f148.results.toList⟩), (149, ⟨code149, ⟨75, 37778931862957161709567⟩, Tryz.f149.results.toList⟩), (150, ⟨code150, ⟨63, 9223372036854775807⟩, Tryz.f150.results.toList⟩), (192, ⟨code192, ⟨11, 2047⟩, Tryz.f192.results.toList⟩), (213, ⟨code213, ⟨8, 255⟩, Tryz.f213.results.toList⟩), (231, ⟨code231, ⟨19, 524287⟩, Tryz.f231.results.toList⟩), (218, ⟨code218, ⟨25, 33554431⟩, Tryz.f218.results.toList⟩), (212, ⟨code212, ⟨134, 21778071482940061661655974875633165533183⟩, Tryz.f212.results.toList⟩), (222, ⟨code222, ⟨49, 562949953421311⟩, Tryz.f222.results.toList⟩), (228, ⟨code228, ⟨17, 131071⟩, Tryz.f228.results.toList⟩), (241, ⟨code241, ⟨6, 63⟩, Tryz.f241.results.toList⟩), (223, ⟨code223, ⟨56, 72057594037927935⟩, Tryz.f223.results.toList⟩), (236, ⟨code236, ⟨76, 75557863725914323419135⟩, Tryz.f236.results.toList⟩), (224, ⟨code224, ⟨65, 36893488147419103231⟩, Tryz.f224.results.toList⟩), (237, ⟨code237, ⟨7, 127⟩, Tryz.f237.results.toList⟩), (238, ⟨code238, ⟨33, 8589934591⟩, Tryz.f238.results.toList⟩), (225, ⟨code225, ⟨57, 144115188075855871⟩, Tryz.f225.results.toList⟩), (239, ⟨code239, ⟨15, 32767⟩, Tryz.f239.results.toList⟩), (240, ⟨code240, ⟨36, 68719476735⟩, Tryz.f240.results.toList⟩), (242, ⟨code242, ⟨28, 268435455⟩, Tryz.f242.results.toList⟩), (226, ⟨code226, ⟨32, 4294967295⟩, Tryz.f226.results.toList⟩), (227, ⟨code227, ⟨133, 10889035741470030830827987437816582766591⟩, Tryz.f227.results.toList⟩), (229, ⟨code229, ⟨84, 19342813113834066795298815⟩, Tryz.f229.results.toList⟩), (230, ⟨code230, ⟨168, 374144419156711147060143317175368453031918731001855⟩, Tryz.f230.results.toList⟩), (193, ⟨code193, ⟨61, 2305843009213693951⟩, Tryz.f193.results.toList⟩), (151, ⟨code151, ⟨53, 9007199254740991⟩, Tryz.f151.results.toList⟩), (43, ⟨code43, ⟨53, 9007199254740991⟩, Tryz.f43.results.toList⟩), (97, ⟨code97, ⟨9, 511⟩, Tryz.f97.results.toList⟩), (152, ⟨code152, ⟨19, 524287⟩, Tryz.f152.results.toList⟩), (99, ⟨code99, ⟨10, 1023⟩, Tryz.f99.results.toList⟩), (98, ⟨code98, ⟨9, 511⟩, Tryz.f98.results.toList⟩), (153, ⟨code153, ⟨19, 524287⟩, Tryz.f153.results.toList⟩), (44, ⟨code44, ⟨150, 1427247692705959881058285969449495136382746623⟩, Tryz.f44.results.toList⟩), (100, ⟨code100, ⟨214, 26328072917139296674479506920917608079723773850137277813577744383⟩, Tryz.f100.results.toList⟩), (22, ⟨code22, ⟨158, 365375409332725729550921208179070754913983135743⟩, Tryz.f22.results.toList⟩), (20, ⟨code20, ⟨65, 36893488147419103231⟩, Tryz.f20.results.toList⟩), (63, ⟨code63, ⟨32, 4294967295⟩, Tryz.f63.results.toList⟩), (58, ⟨code58, ⟨26, 67108863⟩, Tryz.f58.results.toList⟩), (68, ⟨code68, ⟨38, 274877906943⟩, Tryz.f68.results.toList⟩), (67, ⟨code67, ⟨32, 4294967295⟩, Tryz.f67.results.toList⟩), (69, ⟨code69, ⟨32, 4294967295⟩, Tryz.f69.results.toList⟩), (70, ⟨code70, ⟨17, 131071⟩, Tryz.f70.results.toList⟩), (71, ⟨code71, ⟨17, 131071⟩, Tryz.f71.results.toList⟩), (72, ⟨code72, ⟨45, 35184372088831⟩, Tryz.f72.results.toList⟩), (73, ⟨code73, ⟨32, 4294967295⟩, Tryz.f73.results.toList⟩), (74, ⟨code74, ⟨32, 4294967295⟩, Tryz.f74.results.toList⟩), (75, ⟨code75, ⟨32, 4294967295⟩, Tryz.f75.results.toList⟩), (101, ⟨code101, ⟨38, 274877906943⟩, Tryz.f101.results.toList⟩), (154, ⟨code154, ⟨21, 2097151⟩, Tryz.f154.results.toList⟩), (102, ⟨code102, ⟨346, 143343663499379469475676305956380433799785311823017570233599302461682679755530300504376159569382855409663⟩, Tryz.f102.results.toList⟩), (155, ⟨code155, ⟨145, 44601490397061246283071436545296723011960831⟩, Tryz.f155.results.toList⟩), (194, ⟨code194, ⟨25, 33554431⟩, Tryz.f194.results.toList⟩), (214, ⟨code214, ⟨33, 8589934591⟩, Tryz.f214.results.toList⟩), (158, ⟨code158, ⟨39, 549755813887⟩, Tryz.f158.results.toList⟩), (232, ⟨code232, ⟨8, 255⟩, Tryz.f232.results.toList⟩), (195, ⟨code195, ⟨8, 255⟩, Tryz.f195.results.toList⟩), (156, ⟨code156, ⟨22, 4194303⟩, Tryz.f156.results.toList⟩), (196, ⟨code196, ⟨17, 131071⟩, Tryz.f196.results.toList⟩), (197, ⟨code197, ⟨37, 137438953471⟩, Tryz.f197.results.toList⟩), (215, ⟨code215, ⟨9, 511⟩, Tryz.f215.results.toList⟩), (233, ⟨code233, ⟨8, 255⟩, Tryz.f233.results.toList⟩), (157, ⟨code157, ⟨18, 262143⟩, Tryz.f157.results.toList⟩), (159, ⟨code159, ⟨19, 524287⟩, Tryz.f159.results.toList⟩), (160, ⟨code160, ⟨34, 17179869183⟩, Tryz.f160.results.toList⟩), (161, ⟨code161, ⟨39, 549755813887⟩, Tryz.f161.results.toList⟩), (162, ⟨code162, ⟨39, 549755813887⟩, Tryz.f162.results.toList⟩), (163, ⟨code163, ⟨52, 4503599627370495⟩, Tryz.f163.results.toList⟩), (168, ⟨code168, ⟨6, 63⟩, Tryz.f168.results.toList⟩), (164, ⟨code164, ⟨98, 316912650057057350374175801343⟩, Tryz.f164.results.toList⟩), (198, ⟨code198, ⟨30, 1073741823⟩, Tryz.f198.results.toList⟩), (199, ⟨code199, ⟨36, 68719476735⟩, Tryz.f199.results.toList⟩), (165, ⟨code165, ⟨17, 131071⟩, Tryz.f165.results.toList⟩), (166, ⟨code166, ⟨87, 154742504910672534362390527⟩, Tryz.f166.results.toList⟩), (200, ⟨code200, ⟨46, 70368744177663⟩, Tryz.f200.results.toList⟩), (201, ⟨code201, ⟨32, 4294967295⟩, Tryz.f201.results.toList⟩), (103, ⟨code103, ⟨146, 89202980794122492566142873090593446023921663⟩, Tryz.f103.results.toList⟩), (167, ⟨code167, ⟨7, 127⟩, Tryz.f167.results.toList⟩), (104, ⟨code104, ⟨161, 2923003274661805836407369665432566039311865085951⟩, Tryz.f104.results.toList⟩), (105, ⟨code105, ⟨15, 32767⟩, Tryz.f105.results.toList⟩), (107, ⟨code107, ⟨10, 1023⟩, Tryz.f107.results.toList⟩), (169, ⟨code169, ⟨8, 255⟩, Tryz.f169.results.toList⟩), (106, ⟨code106, ⟨13, 8191⟩, Tryz.f106.results.toList⟩), (109, ⟨code109, ⟨8, 255⟩, Tryz.f109.results.toList⟩), (108, ⟨code108, ⟨9, 511⟩, Tryz.f108.results.toList⟩), (170, ⟨code170, ⟨19, 524287⟩, Tryz.f170.results.toList⟩), (51, ⟨code51, ⟨5, 31⟩, Tryz.f51.results.toList⟩), (113, ⟨code113, ⟨5, 31⟩, Tryz.f113.results.toList⟩), (175, ⟨code175, ⟨5, 31⟩, Tryz.f175.results.toList⟩), (176, ⟨code176, ⟨54, 18014398509481983⟩, Tryz.f176.results.toList⟩), (205, ⟨code205, ⟨15, 32767⟩, Tryz.f205.results.toList⟩), (206, ⟨code206, ⟨15, 32767⟩, Tryz.f206.results.toList⟩), (217, ⟨code217, ⟨6, 63⟩, Tryz.f217.results.toList⟩), (219, ⟨code219, ⟨4, 15⟩, Tryz.f219.results.toList⟩), (207, ⟨code207, ⟨167, 187072209578355573530071658587684226515959365500927⟩, Tryz.f207.results.toList⟩), (208, ⟨code208, ⟨102, 5070602400912917605986812821503⟩, Tryz.f208.results.toList⟩), (220, ⟨code220, ⟨8, 255⟩, Tryz.f220.results.toList⟩), (221, ⟨code221, ⟨8, 255⟩, Tryz.f221.results.toList⟩), (234, ⟨code234, ⟨14, 16383⟩, Tryz.f234.results.toList⟩), (235, ⟨code235, ⟨14, 16383⟩, Tryz.f235.results.toList⟩), (52, ⟨code52, ⟨19, 524287⟩, Tryz.f52.results.toList⟩), (50, ⟨code50, ⟨30, 1073741823⟩, Tryz.f50.results.toList⟩), (111, ⟨code111, ⟨125, 42535295865117307932921825928971026431⟩, Tryz.f111.results.toList⟩), (172, ⟨code172, ⟨8, 255⟩, Tryz.f172.results.toList⟩), (203, ⟨code203, ⟨18, 262143⟩, Tryz.f203.results.toList⟩), (173, ⟨code173, ⟨25, 33554431⟩, Tryz.f173.results.toList⟩), (171, ⟨code171, ⟨20, 1048575⟩, Tryz.f171.results.toList⟩), (204, ⟨code204, ⟨30, 1073741823⟩, Tryz.f204.results.toList⟩), (110, ⟨code110, ⟨19, 524287⟩, Tryz.f110.results.toList⟩), (174, ⟨code174, ⟨8, 255⟩, Tryz.f174.results.toList⟩), (56, ⟨code56, ⟨14, 16383⟩, Tryz.f56.results.toList⟩), (112, ⟨code112, ⟨17, 131071⟩, Tryz.f112.results.toList⟩), (53, ⟨code53, ⟨5, 31⟩, Tryz.f53.results.toList⟩), (114, ⟨code114, ⟨8, 255⟩, Tryz.f114.results.toList⟩), (54, ⟨code54, ⟨174, 23945242826029513411849172299223580994042798784118783⟩, Tryz.f54.results.toList⟩), (115, ⟨code115, ⟨26, 67108863⟩, Tryz.f115.results.toList⟩), (116, ⟨code116, ⟨6, 63⟩, Tryz.f116.results.toList⟩), (117, ⟨code117, ⟨75, 37778931862957161709567⟩, Tryz.f117.results.toList⟩), (55, ⟨code55, ⟨168, 374144419156711147060143317175368453031918731001855⟩, Tryz.f55.results.toList⟩), (118, ⟨code118, ⟨278, 485667223056432267729865476705879726660601709763034880312953102434726071301302124543⟩, Tryz.f118.results.toList⟩), (177, ⟨code177, ⟨47, 140737488355327⟩, Tryz.f177.results.toList⟩), (119, ⟨code119, ⟨7, 127⟩, Tryz.f119.results.toList⟩), (178, ⟨code178, ⟨27, 134217727⟩, Tryz.f178.results.toList⟩), (120, ⟨code120, ⟨31, 2147483647⟩, Tryz.f120.results.toList⟩), (18, ⟨code18, ⟨30, 1073741823⟩, Tryz.f18.results.toList⟩), (10, ⟨code10, ⟨24, 16777215⟩, Tryz.f10.results.toList⟩), (35, ⟨code35, ⟨17, 131071⟩, Tryz.f35.results.toList⟩), (36, ⟨code36, ⟨4, 15⟩, Tryz.f36.results.toList⟩), (89, ⟨code89, ⟨76, 75557863725914323419135⟩, Tryz.f89.results.toList⟩), (34, ⟨code34, ⟨13, 8191⟩, Tryz.f34.results.toList⟩), (5, ⟨code5, ⟨101, 2535301200456458802993406410751⟩, Tryz.f5.results.toList⟩), (19, ⟨code19, ⟨39, 549755813887⟩, Tryz.f19.results.toList⟩), (57, ⟨code57, ⟨38, 274877906943⟩, Tryz.f57.results.toList⟩), (59, ⟨code59, ⟨17, 131071⟩, Tryz.f59.results.toList⟩), (60, ⟨code60, ⟨33, 8589934591⟩, Tryz.f60.results.toList⟩), (61, ⟨code61, ⟨32, 4294967295⟩, Tryz.f61.results.toList⟩), (62, ⟨code62, ⟨24, 16777215⟩, Tryz.f62.results.toList⟩), (64, ⟨code64, ⟨32, 4294967295⟩, Tryz.f64.results.toList⟩), (65, ⟨code65, ⟨32, 4294967295⟩, Tryz.f65.results.toList⟩), (66, ⟨code66, ⟨32, 4294967295⟩, Tryz.f66.results.toList⟩)]
theorem hI : AllE (fun e => FiOk X e.1 e.2) I := ⟨⟨Tryz.f9, Tryz.func9, hb9, by kernel_rfl, rfl, enters Tryz.func9 hb9 (by kernel_rfl)⟩, ⟨Tryz.f16, Tryz.func16, hb16, by kernel_rfl, rfl, enters Tryz.func16 hb16 (by kernel_rfl)⟩, ⟨Tryz.f21, Tryz.func21, hb21, by kernel_rfl, rfl, enters Tryz.func21 hb21 (by kernel_rfl)⟩, ⟨Tryz.f33, Tryz.func33, hb33, by kernel_rfl, rfl, enters Tryz.func33 hb33 (by kernel_rfl)⟩, ⟨Tryz.f17, Tryz.func17, hb17, by kernel_rfl, rfl, enters Tryz.func17 hb17 (by kernel_rfl)⟩, ⟨Tryz.f13, Tryz.func13, hb13, by kernel_rfl, rfl, enters Tryz.func13 hb13 (by kernel_rfl)⟩, ⟨Tryz.f39, Tryz.func39, hb39, by kernel_rfl, rfl, enters Tryz.func39 hb39 (by kernel_rfl)⟩, ⟨Tryz.f90, Tryz.func90, hb90, by kernel_rfl, rfl, enters Tryz.func90 hb90 (by kernel_rfl)⟩, ⟨Tryz.f92, Tryz.func92, hb92, by kernel_rfl, rfl, enters Tryz.func92 hb92 (by kernel_rfl)⟩, ⟨Tryz.f91, Tryz.func91, hb91, by kernel_rfl, rfl, enters Tryz.func91 hb91 (by kernel_rfl)⟩, ⟨Tryz.f141, Tryz.func141, hb141, by kernel_rfl, rfl, enters Tryz.func141 hb141 (by kernel_rfl)⟩, ⟨Tryz.f40, Tryz.func40, hb40, by kernel_rfl, rfl, enters Tryz.func40 hb40 (by kernel_rfl)⟩, ⟨Tryz.f93, Tryz.func93, hb93, by kernel_rfl, rfl, enters Tryz.func93 hb93 (by kernel_rfl)⟩, ⟨Tryz.f142, Tryz.func142, hb142, by kernel_rfl, rfl, enters Tryz.func142 hb142 (by kernel_rfl)⟩, ⟨Tryz.f183, Tryz.func183, hb183, by kernel_rfl, rfl, enters Tryz.func183 hb183 (by kernel_rfl)⟩, ⟨Tryz.f184, Tryz.func184, hb184, by kernel_rfl, rfl, enters Tryz.func184 hb184 (by kernel_rfl)⟩, ⟨Tryz.f94, Tryz.func94, hb94, by kernel_rfl, rfl, enters Tryz.func94 hb94 (by kernel_rfl)⟩, ⟨Tryz.f41, Tryz.func41, hb41, by kernel_rfl, rfl, enters Tryz.func41 hb41 (by kernel_rfl)⟩, ⟨Tryz.f95, Tryz.func95, hb95, by kernel_rfl, rfl, enters Tryz.func95 hb95 (by kernel_rfl)⟩, ⟨Tryz.f96, Tryz.func96, hb96, by kernel_rfl, rfl, enters Tryz.func96 hb96 (by kernel_rfl)⟩, ⟨Tryz.f143, Tryz.func143, hb143, by kernel_rfl, rfl, enters Tryz.func143 hb143 (by kernel_rfl)⟩, ⟨Tryz.f185, Tryz.func185, hb185, by kernel_rfl, rfl, enters Tryz.func185 hb185 (by kernel_rfl)⟩, ⟨Tryz.f186, Tryz.func186, hb186, by kernel_rfl, rfl, enters Tryz.func186 hb186 (by kernel_rfl)⟩, ⟨Tryz.f187, Tryz.func187, hb187, by kernel_rfl, rfl, enters Tryz.func187 hb187 (by kernel_rfl)⟩, ⟨Tryz.f188, Tryz.func188, hb188, by kernel_rfl, rfl, enters Tryz.func188 hb188 (by kernel_rfl)⟩, ⟨Tryz.f189, Tryz.func189, hb189, by kernel_rfl, rfl, enters Tryz.func189 hb189 (by kernel_rfl)⟩, ⟨Tryz.f190, Tryz.func190, hb190, by kernel_rfl, rfl, enters Tryz.func190 hb190 (by kernel_rfl)⟩, ⟨Tryz.f191, Tryz.func191, hb191, by kernel_rfl, rfl, enters Tryz.func191 hb191 (by kernel_rfl)⟩, ⟨Tryz.f144, Tryz.func144, hb144, by kernel_rfl, rfl, enters Tryz.func144 hb144 (by kernel_rfl)⟩, ⟨Tryz.f145, Tryz.func145, hb145, by kernel_rfl, rfl, enters Tryz.func145 hb145 (by kernel_rfl)⟩, ⟨Tryz.f146, Tryz.func146, hb146, by kernel_rfl, rfl, enters Tryz.func146 hb146 (by kernel_rfl)⟩, ⟨Tryz.f147, Tryz.func147, hb147, by kernel_rfl, rfl, enters Tryz.func147 hb147 (by kernel_rfl)⟩, ⟨Tryz.f42, Tryz.func42, hb42, by kernel_rfl, rfl, enters Tryz.func42 hb42 (by kernel_rfl)⟩, ⟨Tryz.f148, Tryz.func148, hb148, by kernel_rfl, rfl, enters Tryz.func148 hb148 (by kernel_rfl)⟩, ⟨Tryz.f149, Tryz.func149, hb149, by kernel_rfl, rfl, enters Tryz.func149 hb149 (by kernel_rfl)⟩, ⟨Tryz.f150, Tryz.func150, hb150, by kernel_rfl, rfl, enters Tryz.func150 hb150 (by kernel_rfl)⟩, ⟨Tryz.f192, Tryz.func192, hb192, by kernel_rfl, rfl, enters Tryz.func192 hb192 (by kernel_rfl)⟩, ⟨Tryz.f213, Tryz.func213, hb213, by kernel_rfl, rfl, enters Tryz.func213 hb213 (by kernel_rfl)⟩, ⟨Tryz.f231, Tryz.func231, hb231, by kernel_rfl, rfl, enters Tryz.func231 hb231 (by kernel_rfl)⟩, ⟨Tryz.f218, Tryz.func218, hb218, by kernel_rfl, rfl, enters Tryz.func218 hb218 (by kernel_rfl)⟩, ⟨Tryz.f212, Tryz.func212, hb212, by kernel_rfl, rfl, enters Tryz.func212 hb212 (by kernel_rfl)⟩, ⟨Tryz.f222, Tryz.func222, hb222, by kernel_rfl, rfl, enters Tryz.func222 hb222 (by kernel_rfl)⟩, ⟨Tryz.f228, Tryz.func228, hb228, by kernel_rfl, rfl, enters Tryz.func228 hb228 (by kernel_rfl)⟩, ⟨Tryz.f241, Tryz.func241, hb241, by kernel_rfl, rfl, enters Tryz.func241 hb241 (by kernel_rfl)⟩, ⟨Tryz.f223, Tryz.func223, hb223, by kernel_rfl, rfl, enters Tryz.func223 hb223 (by kernel_rfl)⟩, ⟨Tryz.f236, Tryz.func236, hb236, by kernel_rfl, rfl, enters Tryz.func236 hb236 (by kernel_rfl)⟩, ⟨Tryz.f224, Tryz.func224, hb224, by kernel_rfl, rfl, enters Tryz.func224 hb224 (by kernel_rfl)⟩, ⟨Tryz.f237, Tryz.func237, hb237, by kernel_rfl, rfl, enters Tryz.func237 hb237 (by kernel_rfl)⟩, ⟨Tryz.f238, Tryz.func238, hb238, by kernel_rfl, rfl, enters Tryz.func238 hb238 (by kernel_rfl)⟩, ⟨Tryz.f225, Tryz.func225, hb225, by kernel_rfl, rfl, enters Tryz.func225 hb225 (by kernel_rfl)⟩, ⟨Tryz.f239, Tryz.func239, hb239, by kernel_rfl, rfl, enters Tryz.func239 hb239 (by kernel_rfl)⟩, ⟨Tryz.f240, Tryz.func240, hb240, by kernel_rfl, rfl, enters Tryz.func240 hb240 (by kernel_rfl)⟩, ⟨Tryz.f242, Tryz.func242, hb242, by kernel_rfl, rfl, enters Tryz.func242 hb242 (by kernel_rfl)⟩, ⟨Tryz.f226, Tryz.func226, hb226, by kernel_rfl, rfl, enters Tryz.func226 hb226 (by kernel_rfl)⟩, ⟨Tryz.f227, Tryz.func227, hb227, by kernel_rfl, rfl, enters Tryz.func227 hb227 (by kernel_rfl)⟩, ⟨Tryz.f229, Tryz.func229, hb229, by kernel_rfl, rfl, enters Tryz.func229 hb229 (by kernel_rfl)⟩, ⟨Tryz.f230, Tryz.func230, hb230, by kernel_rfl, rfl, enters Tryz.func230 hb230 (by kernel_rfl)⟩, ⟨Tryz.f193, Tryz.func193, hb193, by kernel_rfl, rfl, enters Tryz.func193 hb193 (by kernel_rfl)⟩, ⟨Tryz.f151, Tryz.func151, hb151, by kernel_rfl, rfl, enters Tryz.func151 hb151 (by kernel_rfl)⟩, ⟨Tryz.f43, Tryz.func43, hb43, by kernel_rfl, rfl, enters Tryz.func43 hb43 (by kernel_rfl)⟩, ⟨Tryz.f97, Tryz.func97, hb97, by kernel_rfl, rfl, enters Tryz.func97 hb97 (by kernel_rfl)⟩, ⟨Tryz.f152, Tryz.func152, hb152, by kernel_rfl, rfl, enters Tryz.func152 hb152 (by kernel_rfl)⟩, ⟨Tryz.f99, Tryz.func99, hb99, by kernel_rfl, rfl, enters Tryz.func99 hb99 (by kernel_rfl)⟩, ⟨Tryz.f98, Tryz.func98, hb98, by kernel_rfl, rfl, enters Tryz.func98 hb98 (by kernel_rfl)⟩, ⟨Tryz.f153, Tryz.func153, hb153, by kernel_rfl, rfl, enters Tryz.func153 hb153 (by kernel_rfl)⟩, ⟨Tryz.f44, Tryz.func44, hb44, by kernel_rfl, rfl, enters Tryz.func44 hb44 (by kernel_rfl)⟩, ⟨Tryz.f100, Tryz.func100, hb100, by kernel_rfl, rfl, enters Tryz.func100 hb100 (by kernel_rfl)⟩, ⟨Tryz.f22, Tryz.func22, hb22, by kernel_rfl, rfl, enters Tryz.func22 hb22 (by kernel_rfl)⟩, ⟨Tryz.f20, Tryz.func20, hb20, by kernel_rfl, rfl, enters Tryz.func20 hb20 (by kernel_rfl)⟩, ⟨Tryz.f63, Tryz.func63, hb63, by kernel_rfl, rfl, enters Tryz.func63 hb63 (by kernel_rfl)⟩, ⟨Tryz.f58, Tryz.func58, hb58, by kernel_rfl, rfl, enters Tryz.func58 hb58 (by kernel_rfl)⟩, ⟨Tryz.f68, Tryz.func68, hb68, by kernel_rfl, rfl, enters Tryz.func68 hb68 (by kernel_rfl)⟩, ⟨Tryz.f67, Tryz.func67, hb67, by kernel_rfl, rfl, enters Tryz.func67 hb67 (by kernel_rfl)⟩, ⟨Tryz.f69, Tryz.func69, hb69, by kernel_rfl, rfl, enters Tryz.func69 hb69 (by kernel_rfl)⟩, ⟨Tryz.f70, Tryz.func70, hb70, by kernel_rfl, rfl, enters Tryz.func70 hb70 (by kernel_rfl)⟩, ⟨Tryz.f71, Tryz.func71, hb71, by kernel_rfl, rfl, enters Tryz.func71 hb71 (by kernel_rfl)⟩, ⟨Tryz.f72, Tryz.func72, hb72, by kernel_rfl, rfl, enters Tryz.func72 hb72 (by kernel_rfl)⟩, ⟨Tryz.f73, Tryz.func73, hb73, by kernel_rfl, rfl, enters Tryz.func73 hb73 (by kernel_rfl)⟩, ⟨Tryz.f74, Tryz.func74, hb74, by kernel_rfl, rfl, enters Tryz.func74 hb74 (by kernel_rfl)⟩, ⟨Tryz.f75, Tryz.func75, hb75, by kernel_rfl, rfl, enters Tryz.func75 hb75 (by kernel_rfl)⟩, ⟨Tryz.f101, Tryz.func101, hb101, by kernel_rfl, rfl, enters Tryz.func101 hb101 (by kernel_rfl)⟩, ⟨Tryz.f154, Tryz.func154, hb154, by kernel_rfl, rfl, enters Tryz.func154 hb154 (by kernel_rfl)⟩, ⟨Tryz.f102, Tryz.func102, hb102, by kernel_rfl, rfl, enters Tryz.func102 hb102 (by kernel_rfl)⟩, ⟨Tryz.f155, Tryz.func155, hb155, by kernel_rfl, rfl, enters Tryz.func155 hb155 (by kernel_rfl)⟩, ⟨Tryz.f194, Tryz.func194, hb194, by kernel_rfl, rfl, enters Tryz.func194 hb194 (by kernel_rfl)⟩, ⟨Tryz.f214, Tryz.func214, hb214, by kernel_rfl, rfl, enters Tryz.func214 hb214 (by kernel_rfl)⟩, ⟨Tryz.f158, Tryz.func158, hb158, by kernel_rfl, rfl, enters Tryz.func158 hb158 (by kernel_rfl)⟩, ⟨Tryz.f232, Tryz.func232, hb232, by kernel_rfl, rfl, enters Tryz.func232 hb232 (by kernel_rfl)⟩, ⟨Tryz.f195, Tryz.func195, hb195, by kernel_rfl, rfl, enters Tryz.func195 hb195 (by kernel_rfl)⟩, ⟨Tryz.f156, Tryz.func156, hb156, by kernel_rfl, rfl, enters Tryz.func156 hb156 (by kernel_rfl)⟩, ⟨Tryz.f196, Tryz.func196, hb196, by kernel_rfl, rfl, enters Tryz.func196 hb196 (by kernel_rfl)⟩, ⟨Tryz.f197, Tryz.func197, hb197, by kernel_rfl, rfl, enters Tryz.func197 hb197 (by kernel_rfl)⟩, ⟨Tryz.f215, Tryz.func215, hb215, by kernel_rfl, rfl, enters Tryz.func215 hb215 (by kernel_rfl)⟩, ⟨Tryz.f233, Tryz.func233, hb233, by kernel_rfl, rfl, enters Tryz.func233 hb233 (by kernel_rfl)⟩, ⟨Tryz.f157, Tryz.func157, hb157, by kernel_rfl, rfl, enters Tryz.func157 hb157 (by kernel_rfl)⟩, ⟨Tryz.f159, Tryz.func159, hb159, by kernel_rfl, rfl, enters Tryz.func159 hb159 (by kernel_rfl)⟩, ⟨Tryz.f160, Tryz.func160, hb160, by kernel_rfl, rfl, enters Tryz.func160 hb160 (by kernel_rfl)⟩, ⟨Tryz.f161, Tryz.func161, hb161, by kernel_rfl, rfl, enters Tryz.func161 hb161 (by kernel_rfl)⟩, ⟨Tryz.f162, Tryz.func162, hb162, by kernel_rfl, rfl, enters Tryz.func162 hb162 (by kernel_rfl)⟩, ⟨Tryz.f163, Tryz.func163, hb163, by kernel_rfl, rfl, enters Tryz.func163 hb163 (by kernel_rfl)⟩, ⟨Tryz.f168, Tryz.func168, hb168, by kernel_rfl, rfl, enters Tryz.func168 hb168 (by kernel_rfl)⟩, ⟨Tryz.f164, Tryz.func164, hb164, by kernel_rfl, rfl, enters Tryz.func164 hb164 (by kernel_rfl)⟩, ⟨Tryz.f198, Tryz.func198, hb198, by kernel_rfl, rfl, enters Tryz.func198 hb198 (by kernel_rfl)⟩, ⟨Tryz.f199, Tryz.func199, hb199, by kernel_rfl, rfl, enters Tryz.func199 hb199 (by kernel_rfl)⟩, ⟨Tryz.f165, Tryz.func165, hb165, by kernel_rfl, rfl, enters Tryz.func165 hb165 (by kernel_rfl)⟩, ⟨Tryz.f166, Tryz.func166, hb166, by kernel_rfl, rfl, enters Tryz.func166 hb166 (by kernel_rfl)⟩, ⟨Tryz.f200, Tryz.func200, hb200, by kernel_rfl, rfl, enters Tryz.func200 hb200 (by kernel_rfl)⟩, ⟨Tryz.f201, Tryz.func201, hb201, by kernel_rfl, rfl, enters Tryz.func201 hb201 (by kernel_rfl)⟩, ⟨Tryz.f103, Tryz.func103, hb103, by kernel_rfl, rfl, enters Tryz.func103 hb103 (by kernel_rfl)⟩, ⟨Tryz.f167, Tryz.func167, hb167, by kernel_rfl, rfl, enters Tryz.func167 hb167 (by kernel_rfl)⟩, ⟨Tryz.f104, Tryz.func104, hb104, by kernel_rfl, rfl, enters Tryz.func104 hb104 (by kernel_rfl)⟩, ⟨Tryz.f105, Tryz.func105, hb105, by kernel_rfl, rfl, enters Tryz.func105 hb105 (by kernel_rfl)⟩, ⟨Tryz.f107, Tryz.func107, hb107, by kernel_rfl, rfl, enters Tryz.func107 hb107 (by kernel_rfl)⟩, ⟨Tryz.f169, Tryz.func169, hb169, by kernel_rfl, rfl, enters Tryz.func169 hb169 (by kernel_rfl)⟩, ⟨Tryz.f106, Tryz.func106, hb106, by kernel_rfl, rfl, enters Tryz.func106 hb106 (by kernel_rfl)⟩, ⟨Tryz.f109, Tryz.func109, hb109, by kernel_rfl, rfl, enters Tryz.func109 hb109 (by kernel_rfl)⟩, ⟨Tryz.f108, Tryz.func108, hb108, by kernel_rfl, rfl, enters Tryz.func108 hb108 (by kernel_rfl)⟩, ⟨Tryz.f170, Tryz.func170, hb170, by kernel_rfl, rfl, enters Tryz.func170 hb170 (by kernel_rfl)⟩, ⟨Tryz.f51, Tryz.func51, hb51, by kernel_rfl, rfl, enters Tryz.func51 hb51 (by kernel_rfl)⟩, ⟨Tryz.f113, Tryz.func113, hb113, by kernel_rfl, rfl, enters Tryz.func113 hb113 (by kernel_rfl)⟩, ⟨Tryz.f175, Tryz.func175, hb175, by kernel_rfl, rfl, enters Tryz.func175 hb175 (by kernel_rfl)⟩, ⟨Tryz.f176, Tryz.func176, hb176, by kernel_rfl, rfl, enters Tryz.func176 hb176 (by kernel_rfl)⟩, ⟨Tryz.f205, Tryz.func205, hb205, by kernel_rfl, rfl, enters Tryz.func205 hb205 (by kernel_rfl)⟩, ⟨Tryz.f206, Tryz.func206, hb206, by kernel_rfl, rfl, enters Tryz.func206 hb206 (by kernel_rfl)⟩, ⟨Tryz.f217, Tryz.func217, hb217, by kernel_rfl, rfl, enters Tryz.func217 hb217 (by kernel_rfl)⟩, ⟨Tryz.f219, Tryz.func219, hb219, by kernel_rfl, rfl, enters Tryz.func219 hb219 (by kernel_rfl)⟩, ⟨Tryz.f207, Tryz.func207, hb207, by kernel_rfl, rfl, enters Tryz.func207 hb207 (by kernel_rfl)⟩, ⟨Tryz.f208, Tryz.func208, hb208, by kernel_rfl, rfl, enters Tryz.func208 hb208 (by kernel_rfl)⟩, ⟨Tryz.f220, Tryz.func220, hb220, by kernel_rfl, rfl, enters Tryz.func220 hb220 (by kernel_rfl)⟩, ⟨Tryz.f221, Tryz.func221, hb221, by kernel_rfl, rfl, enters Tryz.func221 hb221 (by kernel_rfl)⟩, ⟨Tryz.f234, Tryz.func234, hb234, by kernel_rfl, rfl, enters Tryz.func234 hb234 (by kernel_rfl)⟩, ⟨Tryz.f235, Tryz.func235, hb235, by kernel_rfl, rfl, enters Tryz.func235 hb235 (by kernel_rfl)⟩, ⟨Tryz.f52, Tryz.func52, hb52, by kernel_rfl, rfl, enters Tryz.func52 hb52 (by kernel_rfl)⟩, ⟨Tryz.f50, Tryz.func50, hb50, by kernel_rfl, rfl, enters Tryz.func50 hb50 (by kernel_rfl)⟩, ⟨Tryz.f111, Tryz.func111, hb111, by kernel_rfl, rfl, enters Tryz.func111 hb111 (by kernel_rfl)⟩, ⟨Tryz.f172, Tryz.func172, hb172, by kernel_rfl, rfl, enters Tryz.func172 hb172 (by kernel_rfl)⟩, ⟨Tryz.f203, Tryz.func203, hb203, by kernel_rfl, rfl, enters Tryz.func203 hb203 (by kernel_rfl)⟩, ⟨Tryz.f173, Tryz.func173, hb173, by kernel_rfl, rfl, enters Tryz.func173 hb173 (by kernel_rfl)⟩, ⟨Tryz.f171, Tryz.func171, hb171, by kernel_rfl, rfl, enters Tryz.func171 hb171 (by kernel_rfl)⟩, ⟨Tryz.f204, Tryz.func204, hb204, by kernel_rfl, rfl, enters Tryz.func204 hb204 (by kernel_rfl)⟩, ⟨Tryz.f110, Tryz.func110, hb110, by kernel_rfl, rfl, enters Tryz.func110 hb110 (by kernel_rfl)⟩, ⟨Tryz.f174, Tryz.func174, hb174, by kernel_rfl, rfl, enters Tryz.func174 hb174 (by kernel_rfl)⟩, ⟨Tryz.f56, Tryz.func56, hb56, by kernel_rfl, rfl, enters Tryz.func56 hb56 (by kernel_rfl)⟩, ⟨Tryz.f112, Tryz.func112, hb112, by kernel_rfl, rfl, enters Tryz.func112 hb112 (by kernel_rfl)⟩, ⟨Tryz.f53, Tryz.func53, hb53, by kernel_rfl, rfl, enters Tryz.func53 hb53 (by kernel_rfl)⟩, ⟨Tryz.f114, Tryz.func114, hb114, by kernel_rfl, rfl, enters Tryz.func114 hb114 (by kernel_rfl)⟩, ⟨Tryz.f54, Tryz.func54, hb54, by kernel_rfl, rfl, enters Tryz.func54 hb54 (by kernel_rfl)⟩, ⟨Tryz.f115, Tryz.func115, hb115, by kernel_rfl, rfl, enters Tryz.func115 hb115 (by kernel_rfl)⟩, ⟨Tryz.f116, Tryz.func116, hb116, by kernel_rfl, rfl, enters Tryz.func116 hb116 (by kernel_rfl)⟩, ⟨Tryz.f117, Tryz.func117, hb117, by kernel_rfl, rfl, enters Tryz.func117 hb117 (by kernel_rfl)⟩, ⟨Tryz.f55, Tryz.func55, hb55, by kernel_rfl, rfl, enters Tryz.func55 hb55 (by kernel_rfl)⟩, ⟨Tryz.f118, Tryz.func118, hb118, by kernel_rfl, rfl, enters Tryz.func118 hb118 (by kernel_rfl)⟩, ⟨Tryz.f177, Tryz.func177, hb177, by kernel_rfl, rfl, enters Tryz.func177 hb177 (by kernel_rfl)⟩, ⟨Tryz.f119, Tryz.func119, hb119, by kernel_rfl, rfl, enters Tryz.func119 hb119 (by kernel_rfl)⟩, ⟨Tryz.f178, Tryz.func178, hb178, by kernel_rfl, rfl, enters Tryz.func178 hb178 (by kernel_rfl)⟩, ⟨Tryz.f120, Tryz.func120, hb120, by kernel_rfl, rfl, enters Tryz.func120 hb120 (by kernel_rfl)⟩, ⟨Tryz.f18, Tryz.func18, hb18, by kernel_rfl, rfl, enters Tryz.func18 hb18 (by kernel_rfl)⟩, ⟨Tryz.f10, Tryz.func10, hb10, by kernel_rfl, rfl, enters Tryz.func10 hb10 (by kernel_rfl)⟩, ⟨Tryz.f35, Tryz.func35, hb35, by kernel_rfl, rfl, enters Tryz.func35 hb35 (by kernel_rfl)⟩, ⟨Tryz.f36, Tryz.func36, hb36, by kernel_rfl, rfl, enters Tryz.func36 hb36 (by kernel_rfl)⟩, ⟨Tryz.f89, Tryz.func89, hb89, by kernel_rfl, rfl, enters Tryz.func89 hb89 (by kernel_rfl)⟩, ⟨Tryz.f34, Tryz.func34, hb34, by kernel_rfl, rfl, enters Tryz.func34 hb34 (by kernel_rfl)⟩, ⟨Tryz.f5, Tryz.func5, hb5, by kernel_rfl, rfl, enters Tryz.func5 hb5 (by kernel_rfl)⟩, ⟨Tryz.f19, Tryz.func19, hb19, by kernel_rfl, rfl, enters Tryz.func19 hb19 (by kernel_rfl)⟩, ⟨Tryz.f57, Tryz.func57, hb57, by kernel_rfl, rfl, enters Tryz.func57 hb57 (by kernel_rfl)⟩, ⟨Tryz.f59, Tryz.func59, hb59, by kernel_rfl, rfl, enters Tryz.func59 hb59 (by kernel_rfl)⟩, ⟨Tryz.f60, Tryz.func60, hb60, by kernel_rfl, rfl, enters Tryz.func60 hb60 (by kernel_rfl)⟩, ⟨Tryz.f61, Tryz.func61, hb61, by kernel_rfl, rfl, enters Tryz.func61 hb61 (by kernel_rfl)⟩, ⟨Tryz.f62, Tryz.func62, hb62, by kernel_rfl, rfl, enters Tryz.func62 hb62 (by kernel_rfl)⟩, ⟨Tryz.f64, Tryz.func64, hb64, by kernel_rfl, rfl, enters Tryz.func64 hb64 (by kernel_rfl)⟩, ⟨Tryz.f65, Tryz.func65, hb65, by kernel_rfl, rfl, enters Tryz.func65 hb65 (by kernel_rfl)⟩, ⟨Tryz.f66, Tryz.func66, hb66, by kernel_rfl, rfl, enters Tryz.func66 hb66 (by kernel_rfl)⟩, trivial⟩
def Ss : List SI := [⟨0, 35, 30⟩, ⟨1, 34, 58⟩]
theorem hS : AllE (SiOk X I) Ss := ⟨⟨nd0.1, ⟨[false, true, true, true], by kernel_rfl, by kernel_rfl⟩, by kernel_rfl⟩, ⟨nd1.1, ⟨[false, true, false, true, true], by kernel_rfl, by kernel_rfl⟩, by kernel_rfl⟩, trivial⟩
def Dd : List (Nat × Nat × Nat) := [(90, 26, 274877903288), (141, 26, 523884), (39, 122, 38685626227668133590482929), (93, 508, 281474976710255), (94, 58, 8589920057), (40, 64102, 46757983608131756806169511270120955893769891217379), (40, 250, 46767974341980698525336919271907102359724570443747), (40, 4107062478, 46768052394588893347023562374467451371407617816033), (40, 8021606, 46768052394588893382517779180857874613315307566561), (40, 31334, 46768052394588893382517914580549671451782874660321), (40, 122, 46768052394588893382517914646662802211957907652577), (40, 29902, 46768052394588893382517914646921056382695478656961), (40, 58, 46768052394588893382517914646921056628986083278817), (95, 122, 68660756409), (185, 26, 1044890), (222, 402, 562949953421112), (222, 6, 562949953421240), (236, 6, 75557863725914323418866), (223, 126, 72057594037926718), (223, 122, 72057594037926974), (224, 238, 36893488147419102268), (226, 14, 4294967102), (227, 477690, 10889035741470030830827987437816582765112), (227, 477674, 10889035741470030830827987437816582765624), (227, 3728, 10889035741470030830827987437816582766136), (227, 58, 10889035741470030830827987437816582766136), (229, 1924, 19342813113834066795297020), (229, 960, 19342813113834066795297020), (229, 60, 19342813113834066795297020), (230, 130948, 374144419156711147060143317175368453031918730998012), (230, 65472, 374144419156711147060143317175368453031918730998012), (230, 4092, 374144419156711147060143317175368453031918730998012), (230, 124, 374144419156711147060143317175368453031918730998012), (230, 60, 374144419156711147060143317175368453031918730998012), (212, 14, 21778071482940061661655974875633165532400), (193, 59690, 2305843009213693890), (193, 58, 2305843009213693938), (150, 122, 9223372021822390159), (151, 122, 9007199247400843), (96, 250, 2462625387274654950767440006258975862817483704404090416746768337765357610718575663213391624005345752945605803506467), (152, 26, 523884), (153, 26, 523884), (63, 58, 4294737849), (58, 58, 67096556), (67, 58, 4294737849), (69, 58, 4294737849), (73, 58, 4294737849), (74, 58, 4294737849), (75, 58, 4294737849), (164, 506, 316911592246965187573647933387), (164, 250, 316912650055039737741113819075), (201, 58, 4294737849), (103, 16771482, 89200598817553491399761029617978268838778851), (103, 16378, 89202980794121937969005273240230291216267235), (103, 506, 89202980794122492566142356581759382156476003), (103, 58, 89202980794122492566142873090470300721610723), (104, 506, 2923003274661805836407369665432565916166562774979), (170, 26, 523884), (13, 4090, 100429030279564294554797555730241211730086830894058001399675), (13, 2042, 100433627684342800530842067351916312025525838010692329799545), (13, 521422, 100433627766186892220181641919191909133269104114890327457145), (13, 1018, 100433627766186892221372630203415193755390915240901516197753), (13, 58, 100433627766186892221372630771322662657633651886158428241913), (207, 12, 187072209578355573530071658587684226515959365500908), (208, 16220, 5070602400912917605986812691428), (208, 4060, 5070602400912917605986812675044), (52, 58, 523827), (111, 65532, 42535295865117307932921825928971025519), (50, 26, 1073627134), (117, 4090, 37714368258699178278637), (117, 250, 37778931859108871012300), (54, 58, 23945242826029513411849172299223580994042798784061382), (118, 3710851743706, 485667223056432267729865454736023652807219036337771899086120646076482015677181329286), (118, 1855425871850, 485667223056432267729865476704538793062344057011971326664196581899059674569391472518), (55, 254, 373505012190378877033429205061055079210819260514300), (55, 15034, 374144419156711147060143317043142191511568665018332), (55, 1874, 374144419156711147060143317175368453031917791477724), (55, 7538, 374144419156711146989154883562587606548103351500764), (17, 1042842, 11150370273111882170064282751756586801164259), (17, 1018, 11150372599260874793667060333418942291771363), (17, 259278, 11150372599265311435367909085068681252175841), (17, 506, 11150372599265311570767600881907148819267553), (17, 122, 11150372599265311570767859136324180694269921), (89, 62, 75556854919597792428030), (89, 58, 75557863602769021108220), (89, 26, 75557863725884258648060), (89, 10, 75557863725914323390460), (10, 506, 16748515), (61, 58, 4294737849), (64, 58, 4294737849), (65, 58, 4294737849), (66, 58, 4294737849)]
end Go.Proofs.YtomkobcipaligaaGreatDoor.Cl
