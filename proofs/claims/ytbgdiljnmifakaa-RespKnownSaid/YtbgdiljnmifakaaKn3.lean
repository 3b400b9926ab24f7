/-
  The engine, part W: loops. What is carried from round to round is cut down to a shape.
  The engine, part X: loops, on: the rounds; the loop as a piece of the code around it.
  The engine, part Y: a function as a piece of the code that calls it.
  The engine, part Z: ranges over functions: the statement, and the call of yield.
  The engine, part Aa: pieces of code cut out; tables made of lists.
  The engine, part Ab: tables of types and places; entering a function.
  The engine, part Ac: what is read of the arguments, as abstract values; from a function's contract to a law's row.
  The engine, part Ad: closed runs: calls, loops and ranges all run in place.
  Functions run closed: what was read off the program. Printed by closed.py.
-/
import Derived.Test.YtbgdiljnmifakaaKn2
import Derived.RangeFuncNested
import Derived.ProofKit
import Derived.OpenShut
import Derived.Carry
import Derived.ChangeArms
import Derived.Test.YtbgdiljnmifakaaChecked
import Derived.KernelRfl
set_option linter.all false
set_option linter.deprecated false
namespace Go.Eng
open Go
noncomputable section

variable {X : Cx} {R O : Type}

inductive Sh0 where
  | cell (k : Kind)
  | own (j : Nat)
  | ptr (j i off : Nat)
  | yld (j : Nat)
  | mpr (j : Nat)
  | nilp
  | nilfn
  | fn (f : FuncId)
  | cl (f : FuncId) (ps : List (Nat × Nat × Nat))
  | any
inductive Sh where
  | one (s : Sh0)
  | agg (ss : List Sh0)
  | clos (f : FuncId) (ss : List Sh0)
inductive BSh where
  | row (t : TypeId)
  | fro (t : TypeId)
  | var (ks : List Kind) (ss : List Sh0)
  | arr (ks : List Kind)
  | mp (k : Kind) (ag : Bool) (ks : List Kind)
  | loop (s : Nat) (es : List (Nat × Sh)) (pend : Option Ex)
  | gone

def AV.caps : AV → List AV | .clos _ _ cs => cs | _ => []
def AV.id : AV → Nat | .own id => id | .ptr id _ _ => id | .yld id => id | .mp id => id | _ => 0
def Blk.rows : Blk → List Row | .row _ xs => xs | .fro _ xs => xs | _ => []
def Blk.cells : Blk → List AV | .var _ cs => cs | _ => []
def Blk.ents : Blk → List (AV × AV) | .map _ _ _ es => es | _ => []
def Blk.lenv : Blk → List (Nat × AV) | .loop _ env _ _ => env | _ => []
def Blk.pend : Blk → Option Ex | .loop _ _ _ p => p | _ => none

def can0 : Sh0 → AV → AV
  | .cell k, x => ld k x
  | .own j, _ => .own j
  | .ptr j i off, _ => .ptr j i off
  | .yld j, _ => .yld j
  | .mpr j, _ => .mp j
  | .nilp, _ => .nilp
  | .nilfn, _ => .nilfn
  | .fn f, _ => .clos f [] []
  | .cl f ps, _ => .clos f [] (ps.map fun p => .ptr p.1 p.2.1 p.2.2)
  | .any, x => x
def okP : List (Nat × Nat × Nat) → List AV → Bool
  | [], [] => true
  | p :: ps, .ptr j i off :: cs => Nat.beq j p.1 && Nat.beq i p.2.1 && Nat.beq off p.2.2 && okP ps cs
  | _, _ => false
theorem okP_eq : ∀ {ps : List (Nat × Nat × Nat)} {cs : List AV}, okP ps cs = true → (ps.map fun p => AV.ptr p.1 p.2.1 p.2.2) = cs := by
  intro ps cs h
  induction ps generalizing cs with
  | nil =>
    cases cs with
    | nil => rfl
    | cons _ _ => simp [okP] at h
  | cons p ps ih =>
    cases cs with
    | nil => simp [okP] at h
    | cons c cs =>
      cases c <;> simp only [okP, Bool.false_eq_true] at h
      rw [Bool.and_eq_true, Bool.and_eq_true, Bool.and_eq_true] at h
      rw [List.map_cons, ih h.2, Nat.eq_of_beq_eq_true h.1.1.1, Nat.eq_of_beq_eq_true h.1.1.2, Nat.eq_of_beq_eq_true h.1.2]
def ok0 : Sh0 → AV → Bool
  | .cell k, x => kok k x
  | .own j, .own i => Nat.beq i j
  | .ptr j i off, .ptr j' i' off' => Nat.beq j' j && Nat.beq i' i && Nat.beq off' off
  | .yld j, .yld i => Nat.beq i j
  | .mpr j, .mp i => Nat.beq i j
  | .nilp, .nilp => true
  | .nilfn, .nilfn => true
  | .fn f, .clos g [] [] => Nat.beq g f
  | .cl f ps, .clos g [] cs => Nat.beq g f && okP ps cs
  | .any, _ => true
  | _, _ => false
theorem can0_eq {s : Sh0} {x : AV} (h : ok0 s x = true) : can0 s x = x := by
  unfold ok0 at h
  split at h
  · exact ld_of_kok h
  · rw [Nat.eq_of_beq_eq_true h]; rfl
  · rw [Bool.and_eq_true, Bool.and_eq_true] at h
    rw [Nat.eq_of_beq_eq_true h.1.1, Nat.eq_of_beq_eq_true h.1.2, Nat.eq_of_beq_eq_true h.2]; rfl
  · rw [Nat.eq_of_beq_eq_true h]; rfl
  · rw [Nat.eq_of_beq_eq_true h]; rfl
  · rfl
  · rfl
  · rw [Nat.eq_of_beq_eq_true h]; rfl
  · rw [Bool.and_eq_true] at h
    simp only [can0]; rw [okP_eq h.2, Nat.eq_of_beq_eq_true h.1]
  · rfl
  · cases h

def can0L : List Sh0 → List AV → List AV
  | [], _ => []
  | s :: ss, xs => can0 s (xs.headD .top) :: can0L ss xs.tail
def ok0L : List Sh0 → List AV → Bool
  | [], [] => true
  | s :: ss, x :: xs => ok0 s x && ok0L ss xs
  | _, _ => false
theorem can0L_eq : ∀ {ss : List Sh0} {xs : List AV}, ok0L ss xs = true → can0L ss xs = xs
  | [], [], _ => rfl
  | s :: ss, x :: xs, h => by
    simp only [ok0L, Bool.and_eq_true] at h
    simp only [can0L, List.headD_cons, List.tail_cons]
    rw [can0_eq h.1, can0L_eq h.2]
  | [], _ :: _, h => by simp [ok0L] at h
  | _ :: _, [], h => by simp [ok0L] at h

def canV : Sh → AV → AV
  | .one s, x => can0 s x
  | .agg ss, x => .agg (can0L ss x.cells)
  | .clos f ss, x => .clos f [] (can0L ss x.caps)
def okV : Sh → AV → Bool
  | .one s, x => ok0 s x
  | .agg ss, .agg cs => ok0L ss cs
  | .clos f ss, .clos g [] cs => Nat.beq g f && ok0L ss cs
  | _, _ => false
theorem canV_eq {s : Sh} {x : AV} (h : okV s x = true) : canV s x = x := by
  unfold okV at h
  split at h
  · exact can0_eq h
  · simp only [canV, AV.cells]; rw [can0L_eq h]
  · rw [Bool.and_eq_true] at h
    simp only [canV, AV.caps]; rw [can0L_eq h.2, Nat.eq_of_beq_eq_true h.1]
  · cases h

def canEs : List (Nat × Sh) → List (Nat × AV) → List (Nat × AV)
  | [], _ => []
  | e :: es, env => (e.1, canV e.2 (env.headD (0, .top)).2) :: canEs es env.tail
def okEs : List (Nat × Sh) → List (Nat × AV) → Bool
  | [], [] => true
  | e :: es, x :: env => Nat.beq x.1 e.1 && okV e.2 x.2 && okEs es env
  | _, _ => false
theorem canEs_eq : ∀ {es : List (Nat × Sh)} {env : List (Nat × AV)}, okEs es env = true → canEs es env = env
  | [], [], _ => rfl
  | e :: es, x :: env, h => by
    simp only [okEs, Bool.and_eq_true] at h
    simp only [canEs, List.headD_cons, List.tail_cons]
    rw [canV_eq h.1.2, canEs_eq h.2, ← Nat.eq_of_beq_eq_true h.1.1]
  | [], _ :: _, h => by simp [okEs] at h
  | _ :: _, [], h => by simp [okEs] at h
def okX : Option Ex → Option Ex → Bool
  | none, none => true
  | some .ret, some .ret => true
  | some (.exit i), some (.exit j) => Nat.beq i j
  | _, _ => false
theorem okX_eq {a b : Option Ex} (h : okX a b = true) : a = b := by
  unfold okX at h
  split at h
  · rfl
  · rfl
  · rw [Nat.eq_of_beq_eq_true h]
  · cases h

def canB : BSh → Blk → Blk
  | .row t, b => .row t b.rows
  | .fro t, b => .fro t b.rows
  | .var ks ss, b => .var ks (can0L ss b.cells)
  | .arr ks, b => .var ks b.cells
  | .mp k ag ks, b => .map k ag ks b.ents
  | .loop s es p, b => .loop s (canEs es b.lenv) false p
  | .gone, _ => .dead
def okB : BSh → Blk → Bool
  | .row t, .row t' _ => t' == t
  | .fro t, .fro t' _ => t' == t
  | .var ks ss, .var ks' cs => ks' == ks && ok0L ss cs
  | .arr ks, .var ks' _ => ks' == ks
  | .mp k ag ks, .map k' ag' ks' _ => k' == k && ag' == ag && ks' == ks
  | .loop s es p, .loop s' env false p' => Nat.beq s' s && okEs es env && okX p' p
  | .gone, .dead => true
  | _, _ => false
theorem canB_eq {s : BSh} {b : Blk} (h : okB s b = true) : canB s b = b := by
  unfold okB at h
  split at h
  · simp only [canB, Blk.rows]; rw [eq_of_beq h]
  · simp only [canB, Blk.rows]; rw [eq_of_beq h]
  · rw [Bool.and_eq_true] at h
    simp only [canB, Blk.cells]; rw [can0L_eq h.2, eq_of_beq h.1]
  · simp only [canB, Blk.cells]; rw [eq_of_beq h]
  · rw [Bool.and_eq_true, Bool.and_eq_true] at h
    simp only [canB, Blk.ents]; rw [eq_of_beq h.1.1, eq_of_beq h.1.2, eq_of_beq h.2]
  · rw [Bool.and_eq_true, Bool.and_eq_true] at h
    simp only [canB, Blk.lenv]; rw [canEs_eq h.1.2, Nat.eq_of_beq_eq_true h.1.1, okX_eq h.2]
  · rfl
  · cases h
def canM : List BSh → List Blk → List Blk
  | [], _ => []
  | s :: ss, M => canB s (M.headD .dead) :: canM ss M.tail
def okM : List BSh → List Blk → Bool
  | [], [] => true
  | s :: ss, b :: M => okB s b && okM ss M
  | _, _ => false
theorem canM_eq : ∀ {ss : List BSh} {M : List Blk}, okM ss M = true → canM ss M = M
  | [], [], _ => rfl
  | s :: ss, x :: xs, h => by
    simp only [okM, Bool.and_eq_true] at h
    simp only [canM, List.headD_cons, List.tail_cons]
    rw [canB_eq h.1, canM_eq h.2]
  | [], _ :: _, h => by simp [okM] at h
  | _ :: _, [], h => by simp [okM] at h

structure LSh where
  env : List (Nat × Sh)
  mem : List BSh

def canE (lk : Nat → AV) : List (Nat × Sh) → List (Nat × AV)
  | [] => []
  | (t, s) :: es => (t, canV s (lk t)) :: canE lk es
def okE (lk : Nat → AV) : List (Nat × Sh) → Bool
  | [] => true
  | (t, s) :: es => okV s (lk t) && okE lk es
def canS (σ : LSh) (lk : Nat → AV) (M : List Blk) : St := ⟨canE lk σ.env, canM σ.mem M, [], .unk⟩

theorem canE_look {lk : Nat → AV} : ∀ {es : List (Nat × Sh)}, okE lk es = true → ∀ t, look (canE lk es) t = lk t ∨ look (canE lk es) t = .top
  | [], _, t => .inr rfl
  | (u, s) :: es, h, t => by
    simp only [okE, Bool.and_eq_true] at h
    simp only [canE, look_cons, look_nil]
    by_cases ht : t = u
    · subst ht; simp only [beq_self_eq_true, if_true]; rw [canV_eq h.1]; exact .inl rfl
    · have : (t == u) = false := by simpa using ht
      simp only [this, Bool.false_eq_true, if_false]
      exact canE_look h.2 t

def enterS (σ : LSh) (sel : List Nat) (st : St) : St := canS σ (fun t => ren (idx sel) 4 (look st.env t)) (subM st.mem sel)
def enterOk (σ : LSh) (sel : List Nat) (st : St) : Bool := subOk st.mem sel && okE (fun t => ren (idx sel) 4 (look st.env t)) σ.env && okM σ.mem (subM st.mem sel)

theorem enter_facts {σ : LSh} {sel : List Nat} {st : St} (h : enterOk σ sel st = true) : subOk st.mem sel = true ∧ (enterS σ sel st).mem = subM st.mem sel ∧
    ∀ t, look (enterS σ sel st).env t = ren (idx sel) 4 (look st.env t) ∨ look (enterS σ sel st).env t = .top := by
  unfold enterOk at h
  rw [Bool.and_eq_true, Bool.and_eq_true] at h
  exact ⟨h.1.1, canM_eq h.2, canE_look h.1.2⟩

theorem enter_env (hX : X.Ok) {σ : LSh} {sel : List Nat} {st : St} (h : enterOk σ sel st = true) {w0 w : World} {S : Sc} {F : Addr → Prop} {ρ : List Hd} (hI : Inv X w0 S F ρ st.mem w) {tmps : Array Value} (he : EnvRep X ρ F w st.env tmps) : EnvRep X (sub hd0 ρ sel) F w (enterS σ sel st).env tmps := by
  obtain ⟨h1, h2, h3⟩ := enter_facts h
  have hs := sub_facts h1
  have hlt : ∀ i ∈ sel, i < ρ.length := fun i hi => by rw [hI.len]; exact hs.lt i hi
  intro t
  rcases h3 t with e | e
  · rw [e]; exact (he t).ren hX.kinds (ren_idx hlt hd0) 4
  · rw [e]; exact .top _

/-! ### Turning a value into what the shape asks -/

inductive Cv where
  | frz (t : Nat) (k : Kind)
  | mk (t : Nat) (ty : TypeId)
  | mkc (i : List (Nat × AV) → List Blk → Nat) (c : Nat) (ty : TypeId)
  | frzb (i : List (Nat × AV) → List Blk → Nat) (t : TypeId)
  | frza (t : Nat) (ks : List Kind)

def evcv (X : Cx) : List Cv → St → (St → Option R) → Option R
  | [], st, k => k st
  | .frz t kd :: cs, st, k => frz kd (look st.env t) st.mem fun x M => evcv X cs { st with env := (t, x) :: st.env, mem := M } k
  | .mk t ty :: cs, st, k =>
    match look st.env t with
    | .nilsl => evcv X cs { st with env := (t, .own st.mem.length) :: st.env, mem := st.mem ++ [.row ty []] } k
    | _ => evcv X cs st k
  | .mkc i c ty :: cs, st, k =>
    match gm st.mem (i st.env st.mem) with
    | some (.var ks xs) =>
      match xs[c]?, ks[c]? with
      | some .nilsl, some .any => evcv X cs { st with mem := (st.mem ++ [Blk.row ty []]).set (i st.env st.mem) (.var ks (xs.set c (.own st.mem.length))) } k
      | _, _ => evcv X cs st k
    | _ => evcv X cs st k
  | .frza t ks :: cs, st, k =>
    match look st.env t with
    | .agg xs => tst (Nat.beq xs.length ks.length) (frzL ks xs st.mem fun ys M => evcv X cs { st with env := (t, .agg ys) :: st.env, mem := M } k)
    | _ => evcv X cs st k
  | .frzb i t :: cs, st, k => frz (.slice t) (.own (i st.env st.mem)) st.mem fun _ M => evcv X cs { st with mem := M } k

theorem EnvRep.over {ρ : List Hd} {F : Addr → Prop} {w : World} {env : List (Nat × AV)} {tmps : Array Value} (h : EnvRep X ρ F w env tmps) {d : Nat} {x : AV} (hx : Rep X.K ρ F w x (tmps.getD d undef)) : EnvRep X ρ F w ((d, x) :: env) tmps := by
  intro t
  simp only [look_cons, look_nil]
  by_cases ht : t = d
  · subst ht; simpa using hx
  · have : (t == d) = false := by simpa using ht
    simp only [this, Bool.false_eq_true, if_false]
    exact h t

theorem evcv_sound (hX : X.Ok) {k : St → Option R} {r : R} : ∀ (cs : List Cv) {st : St}, evcv X cs st k = some r → ∃ st', k st' = some r ∧ st'.dfs = st.dfs ∧ st'.rd = st.rd ∧
    ∀ {nt : Nt} {rdc : Cy} {w0 : World} {S : Sc} {F : Addr → Prop} {ρ : List Hd} {a : Act} {w : World}, Inv X w0 S F ρ st.mem w → Sim X nt st rdc F ρ a w → ∃ F' ρ', Inv X w0 S F' ρ' st'.mem w ∧ Sim X nt st' rdc F' ρ' a w ∧ Grow F F' ρ ρ' w w
  | [], st, h => ⟨st, h, rfl, rfl, fun {nt rdc w0 S F ρ a w} hI hs => ⟨F, ρ, hI, hs, Grow.refl _ _ _⟩⟩
  | .frz t kd :: cs, st, h => by
    simp only [evcv, gm_eq] at h
    obtain ⟨x, M', h, hl, _, hd⟩ := frz_sound (X := X) h
    obtain ⟨st', h, e1, e2, hr⟩ := evcv_sound hX cs h
    refine ⟨st', h, e1, e2, fun {nt rdc w0 S F ρ a w} hI hs => ?_⟩
    obtain ⟨F1, i1, g1, r1⟩ := hd hI
    obtain ⟨F2, ρ2, i2, s2, g2⟩ := hr (nt := nt) (rdc := rdc) (a := a) i1 ⟨(hs.env.grow g1).over (r1 _ (hs.env t)), hs.size, (hs.grow g1).defs, (hs.grow g1).rd, hs.kept⟩
    exact ⟨F2, ρ2, i2, s2, g1.trans g2⟩
  | .frza t ks :: cs, st, h => by
    simp only [evcv, gm_eq] at h
    split at h
    · rename_i xs hx
      replace h := tst_some h
      obtain ⟨_, h⟩ := h
      obtain ⟨ys, M', h, hl, _, hd⟩ := frzL_sound (X := X) _ _ _ h
      obtain ⟨st', h, e1, e2, hr⟩ := evcv_sound hX cs h
      refine ⟨st', h, e1, e2, fun {nt rdc w0 S F ρ a w} hI hs => ?_⟩
      obtain ⟨F1, i1, g1, r1⟩ := hd hI
      have hs1 := hs.grow g1
      have hv := hs.env t
      rw [hx] at hv
      have hrep : Rep X.K ρ F1 w (.agg ys) (a.tmps.getD t undef) := by
        generalize a.tmps.getD t undef = v at hv
        cases hv with
        | agg _ vs hl hr =>
          have := r1 vs ⟨hl, hr⟩
          exact .agg ys vs this.1 this.2
      obtain ⟨F2, ρ2, i2, s2, g2⟩ := hr (nt := nt) (rdc := rdc) (a := a) i1 ⟨hs1.env.over hrep, hs1.size, hs1.defs, hs1.rd, hs1.kept⟩
      exact ⟨F2, ρ2, i2, s2, g1.trans g2⟩
    · exact evcv_sound hX cs h
  | .frzb i t :: cs, st, h => by
    simp only [evcv, gm_eq] at h
    obtain ⟨x, M', h, hl, _, hd⟩ := frz_sound (X := X) h
    obtain ⟨st', h, e1, e2, hr⟩ := evcv_sound hX cs h
    refine ⟨st', h, e1, e2, fun {nt rdc w0 S F ρ a w} hI hs => ?_⟩
    obtain ⟨F1, i1, g1, r1⟩ := hd hI
    have hs1 := hs.grow g1
    obtain ⟨F2, ρ2, i2, s2, g2⟩ := hr (nt := nt) (rdc := rdc) (a := a) i1 ⟨hs1.env, hs1.size, hs1.defs, hs1.rd, hs1.kept⟩
    exact ⟨F2, ρ2, i2, s2, g1.trans g2⟩
  | .mk t ty :: cs, st, h => by
    simp only [evcv, gm_eq] at h
    split at h
    · rename_i hn
      obtain ⟨st', h, e1, e2, hr⟩ := evcv_sound hX cs h
      refine ⟨st', h, e1, e2, fun {nt rdc w0 S F ρ a w} hI hs => ?_⟩
      have hv : a.tmps.getD t undef = .slice none 0 0 := by
        have := hs.env t
        rw [hn] at this
        generalize a.tmps.getD t undef = v at this
        cases this
        rfl
      have i1 : Inv X w0 S F (ρ ++ [⟨.slice none 0 0, (X.K ty).length⟩]) (st.mem ++ [.row ty []]) w := hI.push' (hd := ⟨.slice none 0 0, (X.K ty).length⟩) (fun g hg => by simp [Hd.blk?, Value.blk?] at hg) rfl
        ⟨rfl, fun i row h => by simp at h, .inl ⟨rfl, rfl⟩⟩
      have g1 : Grow F F ρ (ρ ++ [⟨.slice none 0 0, (X.K ty).length⟩]) w w := ⟨fun _ h => h, fun _ _ h => getElem?_append_old h, fun _ _ => rfl⟩
      have r1 : Rep X.K (ρ ++ [⟨.slice none 0 0, (X.K ty).length⟩]) F w (.own st.mem.length) (a.tmps.getD t undef) := by
        rw [hv]
        exact Rep.own (K := X.K) _ ⟨.slice none 0 0, (X.K ty).length⟩ (by rw [← hI.len]; simp)
      have hs1 := hs.grow g1
      obtain ⟨F2, ρ2, i2, s2, g2⟩ := hr (nt := nt) (rdc := rdc) (a := a) i1 ⟨hs1.env.over r1, hs1.size, hs1.defs, hs1.rd, hs1.kept⟩
      exact ⟨F2, ρ2, i2, s2, g1.trans g2⟩
    · exact evcv_sound hX cs h
  | .mkc i c ty :: cs, st, h => by
    simp only [evcv, gm_eq] at h
    split at h
    · rename_i ks xs hb
      split at h
      · rename_i hx hk
        obtain ⟨st', h, e1, e2, hr⟩ := evcv_sound hX cs h
        refine ⟨st', h, e1, e2, fun {nt rdc w0 S F ρ a w} hI hs => ?_⟩
        have i1 : Inv X w0 S F (ρ ++ [⟨.slice none 0 0, (X.K ty).length⟩]) (st.mem ++ [.row ty []]) w := hI.push' (hd := ⟨.slice none 0 0, (X.K ty).length⟩) (fun g hg => by simp [Hd.blk?, Value.blk?] at hg) rfl
          ⟨rfl, fun i row h => by simp at h, .inl ⟨rfl, rfl⟩⟩
        have g1 : Grow F F ρ (ρ ++ [⟨.slice none 0 0, (X.K ty).length⟩]) w w := ⟨fun _ h => h, fun _ _ h => getElem?_append_old h, fun _ _ => rfl⟩
        have hlt : i st.env st.mem < ρ.length := by rw [hI.len]; exact (List.getElem?_eq_some_iff.1 hb).1
        have hh : (ρ ++ [(⟨.slice none 0 0, (X.K ty).length⟩ : Hd)])[i st.env st.mem]? = some ρ[i st.env st.mem] := getElem?_append_old (List.getElem?_eq_getElem hlt)
        have hb1 : (st.mem ++ [Blk.row ty []])[i st.env st.mem]? = some (.var ks xs) := getElem?_append_old hb
        obtain ⟨q1, q2, g, cur, e, q3, q4, q5, q6⟩ := i1.rep _ _ _ hb1 hh
        have i2 : Inv X w0 S F (ρ ++ [⟨.slice none 0 0, (X.K ty).length⟩]) ((st.mem ++ [Blk.row ty []]).set (i st.env st.mem) (.var ks (xs.set c (.own st.mem.length)))) w := by
          refine i1.write hb1 rfl hh (g := g) (by simp [Hd.blk?, Value.blk?, q3]) ⟨rfl, rfl, rfl, Nat.le_refl _, fun _ _ _ => rfl⟩ ⟨?_, by simpa using q2, g, cur, e, q3, q4, by simpa using q5, fun j x v hx' hv => ?_⟩
          · refine koks_of (by simpa using koks_length q1) fun j k x hk' hx' => ?_
            rw [List.getElem?_set] at hx'
            split at hx'
            · rename_i ej; subst ej
              split at hx'
              · injection hx' with hx'; subst hx'; rw [hk] at hk'; injection hk' with hk'; subst hk'; rfl
              · cases hx'
            · exact koks_get q1 hk' hx'
          · rw [List.getElem?_set] at hx'
            split at hx'
            · rename_i ej; subst ej
              split at hx'
              · injection hx' with hx'; subst hx'
                have := q6 c _ v hx hv
                cases this
                exact Rep.own (K := X.K) _ ⟨.slice none 0 0, (X.K ty).length⟩ (by rw [← hI.len]; simp)
              · cases hx'
            · exact q6 j x v hx' hv
        have hs1 := hs.grow g1
        obtain ⟨F2, ρ2, i2, s2, g2⟩ := hr (nt := nt) (rdc := rdc) (a := a) i2 ⟨hs1.env, hs1.size, hs1.defs, hs1.rd, hs1.kept⟩
        exact ⟨F2, ρ2, i2, s2, g1.trans g2⟩
      · exact evcv_sound hX cs h
    · exact evcv_sound hX cs h

end
end Go.Eng

namespace Go.Eng
open Go
noncomputable section

variable {X : Cx} {R O : Type}

/-- As 'CodeRuns', but only the first m blocks stay the same. -/
def FRuns (X : Cx) (nt : Nt) (c : Code) (m : Nat) (st : St) (e : Exit) (st' : St) : Prop :=
  ∀ {rdc : Cy} {n : Nat} {w0 : World} {S : Sc} {F : Addr → Prop} {ρ : List Hd} {a : Act} {w : World} {Q : Exit → Act → World → Prop}, Inv X w0 S F ρ st.mem w → Sim X nt st rdc F ρ a w →
    (∀ a' w' F' ρ', Inv X w0 S F' ρ' st'.mem w' → Sim X nt st' rdc F' ρ' a' w' → GrowF m F F' ρ ρ' w w' → Q e a' w') → c.wpIn (fen rdc.r) n X.P Q a w

theorem GrowF.trans {m : Nat} {F F' F'' : Addr → Prop} {ρ ρ' ρ'' : List Hd} {w w' w'' : World} (h : GrowF m F F' ρ ρ' w w') (k : GrowF m F' F'' ρ' ρ'' w' w'') : GrowF m F F'' ρ ρ'' w w'' :=
  ⟨fun a ha => k.hF a (h.hF a ha), fun id hd hm hh => k.hρ id hd hm (h.hρ id hd hm hh), fun a ha => (k.hb a (h.hF a ha)).trans (h.hb a ha)⟩

def pre (m : Nat) (sel : List Nat) : Bool := (sel.take m) == List.range m
theorem pre_get {m : Nat} {sel : List Nat} (h : pre m sel = true) {j : Nat} (hj : j < m) : sel[j]? = some j := by
  have e : sel.take m = List.range m := by simpa [pre] using h
  have : (sel.take m)[j]? = some j := by rw [e, List.getElem?_range hj]
  rw [List.getElem?_take, if_pos hj] at this
  exact this

def goS (X : Cx) (m : Nat) (cv : List Cv) (σ : LSh) (sel : St → List Nat) (st : St) (f : St → Option O) : Option O :=
  evcv X cv st fun st1 => tst (enterOk σ (sel st1) st1 && pre m (sel st1) && st1.dfs.isEmpty) (f (enterS σ (sel st1) st1))

/-- Into the shape: the run goes on with what the shape keeps. -/
theorem goS_sound (hX : X.Ok) {m : Nat} {cv : List Cv} {σ : LSh} {sel : St → List Nat} {st : St} {f : St → Option O} {o : O} (h : goS X m cv σ sel st f = some o) :
    ∃ lk M, f (canS σ lk M) = some o ∧ ∀ {nt : Nt} {rdc : Cy} {w0 : World} {S : Sc} {F : Addr → Prop} {ρ : List Hd} {a : Act} {w : World}, Inv X w0 S F ρ st.mem w → Sim X nt st rdc F ρ a w →
      ∃ F' ρ', Inv X w0 S F' ρ' (canS σ lk M).mem w ∧ Sim X nt (canS σ lk M) rdc F' ρ' a w ∧ GrowF m F F' ρ ρ' w w := by
  obtain ⟨st1, h, e1, e2, hr⟩ := evcv_sound hX cv h
  replace h := tst_some h
  obtain ⟨h1, h⟩ := h
  rw [Bool.and_eq_true, Bool.and_eq_true] at h1
  obtain ⟨⟨h1, h2⟩, h3⟩ := h1
  refine ⟨_, _, h, fun {nt rdc w0 S F ρ a w} hI hs => ?_⟩
  obtain ⟨F1, ρ1, i1, s1, g1⟩ := hr (nt := nt) (rdc := rdc) (a := a) hI hs
  obtain ⟨hok, hmem, _⟩ := enter_facts h1
  refine ⟨F1, sub hd0 ρ1 (sel st1), ?_, ⟨enter_env hX h1 i1 s1.env, s1.size, ?_, s1.rd, s1.kept⟩, ?_⟩
  · have := (i1.sub' hX hok hd0).1
    rw [← hmem] at this
    exact this
  · have := s1.defs
    have hd : st1.dfs = [] := by simpa using h3
    rw [hd] at this
    exact this
  · refine (g1.toF m).trans ⟨fun _ h => h, fun id hd hm hh => ?_, fun _ _ => rfl⟩
    have := pre_get h2 hm
    rw [sub_get this (List.getElem?_eq_some_iff.1 hh).1]
    exact hh

/-- A way out of a loop: what is kept, and its name. -/
structure XSh (O : Type) where
  cv : List Cv
  σ : LSh
  sel : St → List Nat
  out : St → O

def kont (X : Cx) (m : Nat) (cv : List Cv) (σ : LSh) (sel : St → List Nat) (xs : Ex → St → Option (XSh O)) (LFn : St → Option O) (e : Ex) (st : St) : Option O :=
  match e with
  | .normal => goS X m cv σ sel st LFn
  | .exit i => match xs (.exit i) st with | some x => goS X m x.cv x.σ x.sel st fun s => some (x.out s) | none => none
  | .ret => match xs .ret st with | some x => goS X m x.cv x.σ x.sel st fun s => some (x.out s) | none => none

def outOk (x : XSh O) (e : Ex) (exOf : O → Ex) (stOf : O → St) : Prop := ∀ lk M, exOf (x.out (canS x.σ lk M)) = e ∧ stOf (x.out (canS x.σ lk M)) = canS x.σ lk M

theorem kont_sound (hX : X.Ok) {m : Nat} {cv : List Cv} {σ : LSh} {sel : St → List Nat} {xs : Ex → St → Option (XSh O)} {LFn : St → Option O} {exOf : O → Ex} {stOf : O → St} (hx : ∀ e st x, xs e st = some x → outOk x e exOf stOf) {e : Ex} {st : St} {o : O}
    (h : kont X m cv σ sel xs LFn e st = some o) :
    (e = .normal ∧ goS X m cv σ sel st LFn = some o) ∨ (e ≠ .normal ∧ exOf o = e ∧ ∀ {nt : Nt} {rdc : Cy} {w0 : World} {S : Sc} {F : Addr → Prop} {ρ : List Hd} {a : Act} {w : World}, Inv X w0 S F ρ st.mem w → Sim X nt st rdc F ρ a w →
      ∃ F' ρ', Inv X w0 S F' ρ' (stOf o).mem w ∧ Sim X nt (stOf o) rdc F' ρ' a w ∧ GrowF m F F' ρ ρ' w w) := by
  have out : ∀ {x : XSh O}, xs e st = some x → e ≠ .normal → goS X m x.cv x.σ x.sel st (fun s => some (x.out s)) = some o → (e ≠ .normal ∧ exOf o = e ∧ ∀ {nt : Nt} {rdc : Cy} {w0 : World} {S : Sc} {F : Addr → Prop} {ρ : List Hd} {a : Act} {w : World}, Inv X w0 S F ρ st.mem w → Sim X nt st rdc F ρ a w →
      ∃ F' ρ', Inv X w0 S F' ρ' (stOf o).mem w ∧ Sim X nt (stOf o) rdc F' ρ' a w ∧ GrowF m F F' ρ ρ' w w) := by
    intro x hxe hne hg
    obtain ⟨lk, M, ho, hr⟩ := goS_sound hX hg
    injection ho with ho
    obtain ⟨q1, q2⟩ := hx e st x hxe lk M
    rw [ho] at q1 q2
    refine ⟨hne, q1, fun {nt rdc w0 S F ρ a w} hI hs => ?_⟩
    rw [q2]
    exact hr hI hs
  unfold kont at h
  cases e with
  | normal => exact .inl ⟨rfl, h⟩
  | exit i =>
    simp only at h
    split at h
    · rename_i x hxe; exact .inr (out hxe (by simp) h)
    · cases h
  | ret =>
    simp only at h
    split at h
    · rename_i x hxe; exact .inr (out hxe (by simp) h)
    · cases h

theorem rounds_sound (hX : X.Ok) {root c : Code} {p : Nat} {L : LTab O} (hL : L.Ok X root) (hat : At root p (.loop c)) {m : Nat} {cv : List Cv} {σ : LSh} {sel : St → List Nat} {xs : Ex → St → Option (XSh O)} {LF : Nat → St → Option O} {exOf : O → Ex} {stOf : O → St}
    (h0 : ∀ lk M, LF 0 (canS σ lk M) = none) (hstep : ∀ n lk M, LF (n + 1) (canS σ lk M) = evk X L c (2 * p) (canS σ lk M) (kont X m cv σ sel xs (LF n))) (hx : ∀ e st x, xs e st = some x → outOk x e exOf stOf) :
    ∀ (fuel : Nat) {lk : Nat → AV} {M : List Blk} {o : O}, LF fuel (canS σ lk M) = some o → ∀ {rdc : Cy} {n : Nat} {w0 : World} {S : Sc} {F : Addr → Prop} {ρ : List Hd} {a : Act} {w : World} {Q : Exit → Act → World → Prop},
      Inv X w0 S F ρ (canS σ lk M).mem w → Sim X L.tab.nt (canS σ lk M) rdc F ρ a w →
      (∀ a' w' F' ρ', Inv X w0 S F' ρ' (stOf o).mem w' → Sim X L.tab.nt (stOf o) rdc F' ρ' a' w' → GrowF m F F' ρ ρ' w w' → Q (Ex.exit' (exOf o)) a' w') → Code.roundsIn (fen rdc.r) n X.P c Q fuel a w
  | 0, lk, M, o, h, _, _, _, _, _, _, _, _, _, _, _, _ => by rw [h0] at h; cases h
  | fuel + 1, lk, M, o, h, rdc, n, w0, S, F, ρ, a, w, Q, hI, hs, hq => by
    rw [hstep] at h
    obtain ⟨e, st', hrun, h⟩ := evk_sound hX hL c (hat.down false fun l hl => by simp [codeAt, hl]) h
    rcases kont_sound hX hx h with ⟨rfl, h⟩ | ⟨hne, heo, hr⟩
    · obtain ⟨lk', M', h, hr⟩ := goS_sound hX h
      rw [roundsIn_succ]
      refine hrun hI hs fun a' w' F' ρ' hI' hs' hg => ?_
      obtain ⟨F2, ρ2, i2, s2, g2⟩ := hr hI' hs'
      exact rounds_sound hX hL hat h0 hstep hx fuel h i2 s2 fun a'' w'' F'' ρ'' hI'' hs'' hg'' => hq a'' w'' F'' ρ'' hI'' hs'' ((hg.toF m).trans (g2.trans hg''))
    · rw [roundsIn_succ]
      refine hrun hI hs fun a' w' F' ρ' hI' hs' hg => ?_
      obtain ⟨F2, ρ2, i2, s2, g2⟩ := hr hI' hs'
      have := hq a' w' F2 ρ2 i2 s2 ((hg.toF m).trans g2)
      rw [heo] at this
      cases e with
      | normal => exact absurd rfl hne
      | exit i => exact this
      | ret => exact this

/-- A loop, as a piece of the code around it. -/
def leaveS (m mask : Nat) (sel : List Nat) (st so : St) : St :=
  { env := renE (rno m sel st.mem.length) 4 so.env ++ st.env.filter (fun p => !mask.testBit p.1), mem := merge m st.mem sel so.mem, dfs := st.dfs, rd := st.rd }

def callLoop (X : Cx) (m mask : Nat) (cv : List Cv) (σ : LSh) (sel : St → List Nat) (nt : Nt) (LFn : St → Option O) (elim : O → (Ex → St → Option R) → Option R) (st : St) (k : Ex → St → Option R) : Option R :=
  evcv X cv st fun st1 =>
    tst (enterOk σ (sel st1) st1 && Nat.beq (nt.mask &&& mask) mask && st1.dfs.isEmpty)
      (match LFn (enterS σ (sel st1) st1) with
       | none => none
       | some o => elim o fun e so => tst (mergeOk m st1.mem (sel st1) so.mem && so.dfs.isEmpty) (k e (leaveS m mask (sel st1) st1 so)))

theorem look_append : ∀ (A B : List (Nat × AV)) (t : Nat), look (A ++ B) t = look A t ∨ look (A ++ B) t = look B t
  | [], B, t => .inr rfl
  | (u, x) :: A, B, t => by
    simp only [List.cons_append, look_cons, look_nil]
    by_cases ht : t = u
    · subst ht; simp
    · have : (t == u) = false := by simpa using ht
      simp only [this, Bool.false_eq_true, if_false]
      exact look_append A B t
theorem look_mask (mask : Nat) : ∀ (env : List (Nat × AV)) (t : Nat), look (env.filter (fun p => !mask.testBit p.1)) t = .top ∨ (mask.testBit t = false ∧ look (env.filter (fun p => !mask.testBit p.1)) t = look env t)
  | [], t => .inl rfl
  | (u, x) :: env, t => by
    have ih := look_mask mask env t
    rw [List.filter_cons]
    by_cases hu : mask.testBit u = true
    · rw [if_neg (by simp [hu])]
      rcases ih with h | ⟨h1, h2⟩
      · exact .inl h
      · refine .inr ⟨h1, ?_⟩
        have ht : (t == u) = false := by
          by_cases ht : t = u
          · subst ht; rw [hu] at h1; cases h1
          · simpa using ht
        simp only [look_cons, look_nil, ht, Bool.false_eq_true, if_false]
        exact h2
    · have hu' : mask.testBit u = false := by simpa using hu
      rw [if_pos (by simp [hu'])]
      simp only [look_cons, look_nil]
      by_cases ht : t = u
      · subst ht; exact .inr ⟨hu', by simp⟩
      · have : (t == u) = false := by simpa using ht
        simp only [this, Bool.false_eq_true, if_false]
        exact ih

theorem callLoop_sound (hX : X.Ok) {root c : Code} {p : Nat} {L : LTab O} (hL : L.Ok X root) (hat : At root p (.loop c)) {m mask : Nat} {cv cv' : List Cv} {σ : LSh} {sel sel' : St → List Nat} {xs : Ex → St → Option (XSh O)} {LF : Nat → St → Option O} {exOf : O → Ex} {stOf : O → St}
    (h0 : ∀ lk M, LF 0 (canS σ lk M) = none) (hstep : ∀ n lk M, LF (n + 1) (canS σ lk M) = evk X L c (2 * p) (canS σ lk M) (kont X m cv σ sel xs (LF n))) (hx : ∀ e st x, xs e st = some x → outOk x e exOf stOf)
    {nt : Nt} (hnt : L.tab.nt = ⟨nt.n, mask⟩) {elim : O → (Ex → St → Option R) → Option R} (helim : ∀ o k, elim o k = k (exOf o) (stOf o)) {fuel : Nat} {st : St} {k : Ex → St → Option R} {r : R}
    (h : callLoop X m mask cv' σ sel' nt (LF fuel) elim st k = some r) : ∃ e st', CodeRuns X nt (.loop c) st (Ex.exit' e) st' ∧ k e st' = some r := by
  unfold callLoop at h
  obtain ⟨st1, h, e1, e2, hcv⟩ := evcv_sound hX cv' h
  replace h := tst_some h
  obtain ⟨h1, h⟩ := h
  rw [Bool.and_eq_true, Bool.and_eq_true] at h1
  obtain ⟨⟨h1, hmask⟩, hdf1⟩ := h1
  have hdf1 : st1.dfs = [] := by simpa using hdf1
  have hmask : nt.mask &&& mask = mask := Nat.eq_of_beq_eq_true hmask
  split at h
  · cases h
  · rename_i o ho
    rw [helim] at h
    replace h := tst_some h
    obtain ⟨h2, h⟩ := h
    rw [Bool.and_eq_true] at h2
    obtain ⟨hm, hdfs⟩ := h2
    have hdfs : (stOf o).dfs = [] := by simpa using hdfs
    refine ⟨_, _, fun {rdc n w0 S F ρ a w Q} hI hs hq => ?_, h⟩
    obtain ⟨F1, ρ1, i1, s1, g1⟩ := hcv (nt := nt) (rdc := rdc) (a := a) hI hs
    obtain ⟨hok, hmem, _⟩ := enter_facts h1
    have hsub := i1.sub hX hok hd0
    have hro := rounds_sound hX hL hat h0 hstep hx fuel (lk := fun t => ren (idx (sel' st1)) 4 (look st1.env t)) (M := subM st1.mem (sel' st1)) ho (rdc := ⟨rdc.r, rdc.db, fun t => a.tmps.getD t undef⟩) (n := n) (w0 := w) (S := hand ρ1 st1.mem (sel' st1) F1) (F := F1) (ρ := sub hd0 ρ1 (sel' st1)) (a := a) (w := w) (Q := Q)
      (by have : (canS σ (fun t => ren (idx (sel' st1)) 4 (look st1.env t)) (subM st1.mem (sel' st1))).mem = subM st1.mem (sel' st1) := hmem
          rw [this]; exact hsub)
      ⟨enter_env hX h1 i1 s1.env, by rw [hnt]; exact s1.size, ?_, s1.rd, fun _ _ => rfl⟩ ?_
    · exact wpIn_loop_rounds fuel hro
    · have := s1.defs
      rw [hdf1] at this
      exact this
    · intro a' w' F' ρ' hI' hs' hg'
      obtain ⟨i3, g3, r3⟩ := i1.merge hX hok hd0 hI' hg' hm
      refine hq a' w' F' _ i3 ⟨fun t => ?_, by have := hs'.size; rw [hnt] at this; exact this, ?_, hs'.rd, fun t ht => ?_⟩ (g1.trans g3)
      · rcases look_append (renE (rno m (sel' st1) st1.mem.length) 4 (stOf o).env) (st1.env.filter (fun p => !mask.testBit p.1)) t with e | e
        · simp only [leaveS]; rw [e]; exact (hs'.env.ren hX r3 4) t
        · simp only [leaveS]; rw [e]
          rcases look_mask mask st1.env t with e' | ⟨hb, e'⟩
          · rw [e']; exact .top _
          · rw [e']
            have hk := hs'.kept t (by rw [hnt]; exact hb)
            rw [hk]
            exact (s1.env t).grow g3
      · have hd := hs'.defs
        rw [hdfs] at hd
        simp only [leaveS]
        rw [hdf1]
        exact hd
      · have hb : mask.testBit t = false := by
          rw [← hmask, Nat.testBit_and, ht, Bool.false_and]
        have hk := hs'.kept t (by rw [hnt]; exact hb)
        rw [hk]
        exact s1.kept t ht

end
end Go.Eng

namespace Go.Eng
open Go
noncomputable section

variable {X : Cx} {R O : Type}

/-- As 'ACalls', but only the first m blocks stay the same. -/
def FCalls (X : Cx) (f : FuncId) (m : Nat) (args : List AV) (M : List Blk) (x : AV) (M' : List Blk) : Prop :=
  ∀ {w0 : World} {S : Sc} {F : Addr → Prop} {ρ : List Hd} {w : World} {vs : List Value}, Inv X w0 S F ρ M w → RepL X.K ρ F w args vs →
    Calls X.P f vs.toArray w (fun e w' => ∃ v ρ' F', e = .returned v ∧ Inv X w0 S F' ρ' M' w' ∧ GrowF m F F' ρ ρ' w w' ∧ Rep X.K ρ' F' w' x v)

/-- A result, cut down to a shape. -/
def goR (X : Cx) (m : Nat) (ys : St → Option (XSh O)) (x : AV) (M : List Blk) : Option O :=
  match ys ⟨[(0, x)], M, [], .unk⟩ with
  | some y => goS X m y.cv y.σ y.sel ⟨[(0, x)], M, [], .unk⟩ fun s => some (y.out s)
  | none => none

def retOk (y : XSh O) (valOf : O → AV) (memOf : O → List Blk) : Prop := ∀ lk M, valOf (y.out (canS y.σ lk M)) = look (canS y.σ lk M).env 0 ∧ memOf (y.out (canS y.σ lk M)) = (canS y.σ lk M).mem

theorem goR_sound (hX : X.Ok) {f : FuncId} {m : Nat} {ys : St → Option (XSh O)} {valOf : O → AV} {memOf : O → List Blk} (hys : ∀ st y, ys st = some y → retOk y valOf memOf) {args : List AV} {M : List Blk} {x : AV} {M1 : List Blk} (hc : ACalls X f args M x M1) {o : O} (h : goR X m ys x M1 = some o) :
    FCalls X f m args M (valOf o) (memOf o) := by
  unfold goR at h
  split at h
  case h_2 => cases h
  rename_i y hys'
  have hy := hys _ _ hys'
  obtain ⟨lk, Mx, ho, hr⟩ := goS_sound hX h
  injection ho with ho
  obtain ⟨q1, q2⟩ := hy lk Mx
  rw [ho] at q1 q2
  intro w0 S F ρ w vs hI hargs
  refine (hc.2 hI hargs).mono ?_
  rintro e w' ⟨v, ρ', F', rfl, hI', hg, hx⟩
  obtain ⟨F2, ρ2, i2, s2, g2⟩ := hr (nt := ⟨1, 0⟩) (rdc := ⟨none, fun _ => False, fun t => (#[v] : Array Value).getD t undef⟩) (a := { tmps := #[v], defers := [] }) hI' ⟨fun t => by
    simp only [look_cons, look_nil]
    by_cases ht : t = 0
    · subst ht; simpa using hx
    · have : (t == 0) = false := by simpa using ht
      simp only [this, Bool.false_eq_true, if_false]
      exact .top _, rfl, Marks.nil _ _ (fun _ h => h.elim), .inl rfl, fun _ _ => rfl⟩
  refine ⟨v, ρ2, F2, rfl, by rw [q2]; exact i2, (hg.toF m).trans g2, ?_⟩
  rw [q1]
  exact s2.env 0

def argsE (n : Nat) (env : List (Nat × AV)) : List AV := (List.range n).map fun t => look env t

theorem repL_args {ρ : List Hd} {F : Addr → Prop} {w : World} {args : List AV} {vs : List Value} (h : RepL X.K ρ F w args vs) : EnvRep X ρ F w (argEnv 0 args) vs.toArray := by
  intro t
  rw [look_argEnv, if_pos (Nat.zero_le _)]
  cases hx : args[t - 0]? with
  | none => exact .top _
  | some y =>
    have ht : t < vs.length := by have := (List.getElem?_eq_some_iff.1 hx).1; have := h.1; omega
    have hv : vs.toArray.getD t undef = vs[t] := by simp [Array.getD_eq_getD_getElem?, ht]
    rw [hv]
    exact h.2 t y _ (by simpa using hx) (List.getElem?_eq_getElem ht)
theorem repL_env {ρ : List Hd} {F : Addr → Prop} {w : World} {env : List (Nat × AV)} {vs : List Value} (h : EnvRep X ρ F w env vs.toArray) : RepL X.K ρ F w (argsE vs.length env) vs := by
  refine ⟨by simp [argsE], fun j x v hx hv => ?_⟩
  simp only [argsE, List.getElem?_map] at hx
  have hj : j < vs.length := (List.getElem?_eq_some_iff.1 hv).1
  rw [List.getElem?_range hj] at hx
  simp only [Option.map_some, Option.some.injEq] at hx
  subst hx
  have := h j
  have hv2 : vs.toArray.getD j undef = v := by
    rw [List.getElem?_eq_getElem hj] at hv
    injection hv with hv
    simp [Array.getD_eq_getD_getElem?, hj, hv]
  rw [hv2] at this
  exact this

/-- Several results (or none), cut down to shapes. -/
def goRt (X : Cx) (m n : Nat) (ys : St → Option (XSh O)) (x : AV) (M : List Blk) : Option O :=
  match x with
  | .tup xs =>
    match ys ⟨argEnv 0 xs, M, [], .unk⟩ with
    | some y => tst (Nat.beq xs.length n) (goS X m y.cv y.σ y.sel ⟨argEnv 0 xs, M, [], .unk⟩ fun s => some (y.out s))
    | none => none
  | _ => none

def retOkt (n : Nat) (y : XSh O) (valOf : O → AV) (memOf : O → List Blk) : Prop := ∀ lk M, valOf (y.out (canS y.σ lk M)) = .tup (argsE n (canS y.σ lk M).env) ∧ memOf (y.out (canS y.σ lk M)) = (canS y.σ lk M).mem

theorem goRt_sound (hX : X.Ok) {f : FuncId} {m n : Nat} {ys : St → Option (XSh O)} {valOf : O → AV} {memOf : O → List Blk} (hys : ∀ st y, ys st = some y → retOkt n y valOf memOf) {args : List AV} {M : List Blk} {x : AV} {M1 : List Blk} (hc : ACalls X f args M x M1) {o : O} (h : goRt X m n ys x M1 = some o) :
    FCalls X f m args M (valOf o) (memOf o) := by
  unfold goRt at h
  split at h
  · rename_i xs
    split at h
    case h_2 => cases h
    rename_i y hys'
    have hy := hys _ _ hys'
    replace h := tst_some h
    obtain ⟨hn, h⟩ := h
    have hn : xs.length = n := Nat.eq_of_beq_eq_true hn
    obtain ⟨lk, Mx, ho, hr⟩ := goS_sound hX h
    injection ho with ho
    obtain ⟨q1, q2⟩ := hy lk Mx
    rw [ho] at q1 q2
    intro w0 S F ρ w vs hI hargs
    refine (hc.2 hI hargs).mono ?_
    rintro e w' ⟨v, ρ', F', rfl, hI', hg, hx⟩
    cases hx with
    | tup cs us hl hr2 =>
      obtain ⟨F2, ρ2, i2, s2, g2⟩ := hr (nt := ⟨us.length, 0⟩) (rdc := ⟨none, fun _ => False, fun t => us.toArray.getD t undef⟩) (a := { tmps := us.toArray, defers := [] }) hI' ⟨repL_args ⟨hl, hr2⟩, by simp, Marks.nil _ _ (fun _ h => h.elim), .inl rfl, fun _ _ => rfl⟩
      refine ⟨.tuple us.toArray, ρ2, F2, rfl, by rw [q2]; exact i2, (hg.toF m).trans g2, ?_⟩
      rw [q1]
      have := repL_env s2.env
      rw [hl, hn] at this
      exact .tup _ us this.1 this.2
  · cases h

/-- A call, cut down to the shape that the function's contract is stated in. -/
def callFn (X : Cx) (m : Nat) (cv : List Cv) (σ : LSh) (sel : St → List Nat) (FFn : St → Option O) (elim : O → (AV → List Blk → Option R) → Option R) (args : List AV) (M : List Blk) (k : AV → List Blk → Option R) : Option R :=
  evcv X cv ⟨argEnv 0 args, M, [], .unk⟩ fun st1 =>
    tst (enterOk σ (sel st1) st1)
      (match FFn (enterS σ (sel st1) st1) with
       | none => none
       | some o => elim o fun x Mc => tst (mergeOk m st1.mem (sel st1) Mc) (k (ren (rno m (sel st1) st1.mem.length) 4 x) (merge m st1.mem (sel st1) Mc)))

theorem callFn_sound (hX : X.Ok) {f : FuncId} {m na : Nat} {cv : List Cv} {σ : LSh} {sel : St → List Nat} {FFn : St → Option O} {valOf : O → AV} {memOf : O → List Blk} {elim : O → (AV → List Blk → Option R) → Option R} (helim : ∀ o k, elim o k = k (valOf o) (memOf o))
    (hf : ∀ lk M o, FFn (canS σ lk M) = some o → FCalls X f m (argsE na (canS σ lk M).env) (canS σ lk M).mem (valOf o) (memOf o)) (hc : ∀ (vs : Array Value) (w : World), (callFunc f vs).run X.P w = .ok (.enter f vs) w)
    {args : List AV} (hna : args.length = na) {M : List Blk} {k : AV → List Blk → Option R} {r : R} (h : callFn X m cv σ sel FFn elim args M k = some r) : ∃ x M', ACalls X f args M x M' ∧ k x M' = some r ∧ (cv = [] → Agree (sel ⟨argEnv 0 args, M, [], .unk⟩) M M') := by
  unfold callFn at h
  have hst0 : ∃ st1, (tst (enterOk σ (sel st1) st1) (match FFn (enterS σ (sel st1) st1) with | none => none | some o => elim o fun x Mc => tst (mergeOk m st1.mem (sel st1) Mc) (k (ren (rno m (sel st1) st1.mem.length) 4 x) (merge m st1.mem (sel st1) Mc)))) = some r ∧ (cv = [] → st1 = ⟨argEnv 0 args, M, [], .unk⟩) ∧
      ∀ {nt : Nt} {rdc : Cy} {w0 : World} {S : Sc} {F : Addr → Prop} {ρ : List Hd} {a : Act} {w : World}, Inv X w0 S F ρ M w → Sim X nt ⟨argEnv 0 args, M, [], .unk⟩ rdc F ρ a w → ∃ F' ρ', Inv X w0 S F' ρ' st1.mem w ∧ Sim X nt st1 rdc F' ρ' a w ∧ Grow F F' ρ ρ' w w := by
    cases cv with
    | nil => exact ⟨_, h, fun _ => rfl, fun {nt rdc w0 S F ρ a w} hI hs => ⟨F, ρ, hI, hs, Grow.refl _ _ _⟩⟩
    | cons c cs =>
      obtain ⟨st1, h, _, _, hcv⟩ := evcv_sound hX (c :: cs) h
      exact ⟨st1, h, (fun e => by cases e), hcv⟩
  clear h
  obtain ⟨st1, h, hnil, hcv⟩ := hst0
  replace h := tst_some h
  obtain ⟨h1, h⟩ := h
  split at h
  · cases h
  · rename_i o ho
    rw [helim] at h
    replace h := tst_some h
    obtain ⟨hm, h⟩ := h
    refine ⟨_, _, ⟨hc, fun {w0 S F ρ w vs} hI hr => ?_⟩, h, fun e => by rw [hnil e]; exact merge_agree⟩
    obtain ⟨F1, ρ1, i1, s1, g1⟩ := hcv (nt := ⟨vs.length, 0⟩) (rdc := ⟨none, fun _ => False, fun t => vs.toArray.getD t undef⟩) (a := { tmps := vs.toArray, defers := [] }) hI ⟨repL_args hr, by simp, Marks.nil _ _ (fun _ h => h.elim), .inl rfl, fun _ _ => rfl⟩
    obtain ⟨hok, hmem, _⟩ := enter_facts h1
    have hsub := i1.sub hX hok hd0
    have henv := enter_env hX h1 i1 s1.env
    have hargs := repL_env henv
    have hl : vs.length = na := by rw [hr.1]; exact hna
    rw [hl] at hargs
    have hcall := hf (fun t => ren (idx (sel st1)) 4 (look st1.env t)) (subM st1.mem (sel st1)) o ho (w0 := w) (S := hand ρ1 st1.mem (sel st1) F1) (F := F1) (ρ := sub hd0 ρ1 (sel st1)) (w := w) (vs := vs)
      (by have : (canS σ (fun t => ren (idx (sel st1)) 4 (look st1.env t)) (subM st1.mem (sel st1))).mem = subM st1.mem (sel st1) := hmem
          rw [this]; exact hsub) hargs
    refine hcall.mono ?_
    rintro e w' ⟨v, ρ', F', rfl, hI', hg, hx⟩
    obtain ⟨i3, g3, r3⟩ := i1.merge hX hok hd0 hI' hg hm
    exact ⟨v, _, F', rfl, i3, g1.trans g3, hx.ren hX.kinds r3 4⟩

end
end Go.Eng

namespace Go.Eng
open Go
noncomputable section

variable {X : Cx} {R : Type}

theorem Marks.putObj {F : Addr → Prop} {w : World} {db : Addr → Prop} {ds : List Deferred} (h : Marks F w db ds) {g : Nat} {lp : Loop} (hg : w.heap[g]? = some (.loop lp)) (o : Obj) : Marks F (w.putObj g o) db ds := by
  obtain ⟨h0, ms, h1, h2, h3⟩ := h
  refine ⟨h0, ms, h1, h2, fun D hD => ⟨(h3 D hD).1, (h3 D hD).2.1, ?_⟩⟩
  have hne : D ≠ g := by
    rintro rfl
    have := (h3 D hD).2.2
    rw [hg] at this
    cases this
  rw [World.putObj_heap_other hne]; exact (h3 D hD).2.2

/-- A block that is kept (and holds no cells) is written, and still kept. -/
theorem Inv.rewrite {w0 w : World} {S : Sc} {F : Addr → Prop} {ρ : List Hd} {M : List Blk} (hI : Inv X w0 S F ρ M w) {D : Nat} (hF : F ⟨D, 0, none⟩) (hD : ∀ a v, a.block = D → w.cell? a ≠ some v) (hN : ∀ a, S.F0 a → a.block ≠ D) (o : Obj) :
    Inv X w0 S F ρ M (w.putObj D o) := by
  have i := hI.write_kept hF hD hN o
  exact ⟨i.os, i.tape, i.output, i.size, i.frame, i.len, fun id b hd hb hh => (i.rep id b hd hb hh).mono (fun _ _ h => h) (fun _ h => h.1) (fun _ _ _ h => h) (fun _ _ => rfl),
    fun id b hd g hb hdd hh hgb => ⟨by simpa using (hI.sep id b hd g hb hdd hh hgb).1, (hI.sep id b hd g hb hdd hh hgb).2⟩,
    i.disj, fun a ha => by simpa using hI.fz a ha, fun g => (i.glob g).mono (fun _ _ h => h) (fun _ h => h.1) (fun _ _ _ h => h), i.one, hI.old, hI.fin⟩

/-- A block that is nobody's is kept from now on. -/
theorem Inv.keep {w0 w : World} {S : Sc} {F : Addr → Prop} {ρ : List Hd} {M : List Blk} (hI : Inv X w0 S F ρ M w) {mk : Option Nat} (h1 : ∀ D, mk = some D → D < w.heap.size ∧ w0.heap.size ≤ D)
    (h2 : ∀ (D : Nat) (id : Nat) b hd, mk = some D → M[id]? = some b → b.isDead = false → ρ[id]? = some hd → hd.blk? ≠ some D) :
    Inv X w0 S (fun a => F a ∨ ∃ D, mk = some D ∧ a.block = D) ρ M w where
  os := hI.os
  tape := hI.tape
  output := hI.output
  size := hI.size
  frame := hI.frame
  len := hI.len
  rep := fun id b hd hb hh => (hI.rep id b hd hb hh).mono (fun _ _ h => h) (fun _ h => .inl h) (fun _ _ hF hc => hc) (fun _ _ => rfl)
  sep := fun id b hd g hb hdd hh hgb => let ⟨a1, a2, a3⟩ := hI.sep id b hd g hb hdd hh hgb; ⟨a1, a2, fun a ha => by
    rcases ha with ha | ⟨D, hD, e⟩
    · exact a3 a ha
    · intro e'; exact h2 D id b hd hD hb hdd hh (by rw [hgb, ← e', e])⟩
  disj := hI.disj
  fz := fun a ha => by
    rcases ha with ha | ⟨D, hD, e⟩
    · exact hI.fz a ha
    · rw [e]; exact (h1 D hD).1
  glob := fun g => (hI.glob g).mono (fun _ _ h => h) (fun _ h => .inl h) (fun _ _ _ h => h)
  one := hI.one
  old := fun a ha => by
    rcases ha with ha | ⟨D, hD, e⟩
    · exact hI.old a ha
    · rw [e]; exact .inr (.inr (h1 D hD).2)
  fin := fun a ha => .inl (hI.fin a ha)

/-! ### The call of yield -/

def putA : List Nat → List AV → List (Nat × AV) → Option (List (Nat × AV))
  | [], [], env => some env
  | p :: ps, x :: xs, env => putA ps xs ((p, x) :: env)
  | _, _, _ => none

theorem putA_rep {ρ : List Hd} {F : Addr → Prop} {w : World} : ∀ (ps : List Nat) {xs : List AV} {env env' : List (Nat × AV)} {tmps : Array Value} {vs : List Value}, putA ps xs env = some env' → EnvRep X ρ F w env tmps → RepL X.K ρ F w xs vs → (∀ p ∈ ps, p < tmps.size) →
    EnvRep X ρ F w env' ((ps.zip vs).foldl (fun t p => t.setIfInBounds p.1 p.2) tmps) ∧ ((ps.zip vs).foldl (fun t p => t.setIfInBounds p.1 p.2) tmps).size = tmps.size
  | [], [], env, env', tmps, vs, h, he, _, _ => by
    simp only [putA, Option.some.injEq] at h; subst h; simpa using he
  | p :: ps, x :: xs, env, env', tmps, [], h, he, hr, hp => by have := hr.1; simp at this
  | p :: ps, x :: xs, env, env', tmps, v :: vs, h, he, hr, hp => by
    simp only [putA] at h
    have hx := hr.2 0 x v rfl rfl
    have hr' : RepL X.K ρ F w xs vs := ⟨by simpa using hr.1, fun j x' v' hx' hv' => hr.2 (j + 1) x' v' (by simpa using hx') (by simpa using hv')⟩
    have := putA_rep ps h (he.put (hp p (by simp)) hx) hr' (fun q hq => by simpa using hp q (by simp [hq]))
    simp only [List.zip_cons_cons, List.foldl_cons]
    exact ⟨this.1, by rw [this.2]; simp⟩
  | [], _ :: _, _, _, _, _, h, _, _, _ => by simp [putA] at h
  | _ :: _, [], _, _, _, _, h, _, _, _ => by simp [putA] at h

/-- How a round has ended. -/
def endOf (e : Ex) : Option Ex := match e with | .normal => none | .exit i => some (.exit i) | .ret => some .ret
def goesOn (e : Ex) : Bool := match e with | .normal => true | _ => false

def evyield (X : Cx) (L : LTab R) (s p : Nat) (id : Nat) (args : List AV) (M : List Blk) (k : AV → List Blk → Option R) : Option R :=
  match gm M id with
  | some (.loop s' env false none) =>
    tst (Nat.beq s' s && Nat.beq (X.site s).nt L.tab.nt.n && (X.site s).params.toList.all fun t => Nat.blt t L.tab.nt.n)
      (match putA (X.site s).params.toList args env with
       | none => none
       | some env' =>
         evk X L (X.site s).assign (2 * p) ⟨env', M.set id .dead, [], .unk⟩ fun e st1 =>
           match e, st1.dfs with
           | .normal, [] =>
             evk X L (X.site s).body (2 * p + 1) st1 fun e st2 =>
               match gm st2.mem id with
               | some .dead => k (.bool (goesOn e)) (st2.mem.set id (.loop s env false (endOf e)))
               | _ => none
           | _, _ => none)
  | _ => none

theorem evyield_sound (hX : X.Okb) {root : Code} {L : LTab R} (hL : L.Ok X root) {s p : Nat} {g : Operand} {ps : Array Tmp} (hat : At root p (.rangeFunc g ps (X.site s).assign (X.site s).body)) {id : Nat} {args : List AV} {M : List Blk} {k : AV → List Blk → Option R} {r : R}
    (h : evyield X L s p id args M k = some r) : ∃ x M', AYields X id args M x M' ∧ k x M' = some r := by
  unfold evyield at h
  simp only [gm_eq] at h
  split at h
  case h_2 => cases h
  rename_i s' env hb
  replace h := tst_some h
  obtain ⟨hc, h⟩ := h
  rw [Bool.and_eq_true, Bool.and_eq_true] at hc
  obtain ⟨⟨hs', hnt⟩, hps⟩ := hc
  have hs' : s' = s := Nat.eq_of_beq_eq_true hs'
  subst hs'
  have hnt : (X.site s').nt = L.tab.nt.n := Nat.eq_of_beq_eq_true hnt
  have hps : ∀ t ∈ (X.site s').params.toList, t < L.tab.nt.n := fun t ht => by have := List.all_eq_true.1 hps t ht; simpa using this
  split at h
  case h_1 => cases h
  rename_i env' hput
  obtain ⟨e1, st1, hrun1, h⟩ := evk_sound hX hL _ (hat.down false fun l hl => by simp [codeAt, hl]) h
  split at h
  case h_2 => cases h
  rename_i hdf1
  obtain ⟨e2, st2, hrun2, h⟩ := evk_sound hX hL _ (hat.down true fun l hl => by simp [codeAt, hl]) h
  split at h
  case h_2 => cases h
  rename_i hdead
  refine ⟨_, _, fun {rd n w0 S F ρ w vs hd g} hI hr hhd hv => ?_, h⟩
  obtain ⟨g', lp, hv', hheap, hp1, hp2, hp3, hp4, hp5, _, hp6, _, hp7, _⟩ := hI.rep _ _ _ hb hhd
  rw [hv] at hv'
  injection hv' with hv'; injection hv' with hv'; injection hv' with hv'; subst hv'
  have hready : lp.state = .ready := hp6 rfl rfl
  have hpend : lp.pending = none := hp7
  have hblk : hd.blk? = some g := by simp [Hd.blk?, Value.blk?, hv]
  obtain ⟨q1, q2, q3⟩ := hI.sep _ _ _ _ hb rfl hhd hblk
  have hN : ∀ a, S.F0 a → a.block ≠ g := fun a ha => q3 a (hI.fin a ha)
  have hnc := cell_ne_of_loop hheap
  have hlen : args.length = (X.site s').params.toList.length := by
    have : ∀ (ps : List Nat) (xs : List AV) (env env' : List (Nat × AV)), putA ps xs env = some env' → xs.length = ps.length := by
      intro ps
      induction ps with
      | nil => intro xs env env' h; cases xs with | nil => rfl | cons _ _ => simp [putA] at h
      | cons p ps ih => intro xs env env' h; cases xs with | nil => simp [putA] at h | cons x xs => simp only [putA] at h; simp [ih _ _ _ h]
    exact this _ _ _ _ hput
  refine ⟨lp.fn, _, lp.assign, lp.body, run_yield hheap (by rw [hp1]; simp [hr.1, hlen]), roundIn_of_wpIn trivial ?_⟩
  rw [hp2, hp3]
  -- the record is laid aside
  have i1 : Inv X w0 S (fun a => F a ∨ a.block = g) ρ (M.set id .dead) w := hI.freeze hb rfl hhd hblk rfl trivial
  have g1 : Grow F (fun a => F a ∨ a.block = g) ρ ρ w w := ⟨fun _ h => .inl h, fun _ _ h => h, fun _ _ => rfl⟩
  have hfold : (Array.foldl (fun tmps (x : Nat × Value) => tmps.setIfInBounds x.1 x.2) lp.tmps (lp.params.zip vs.toArray)) = ((X.site s').params.toList.zip vs).foldl (fun t p => t.setIfInBounds p.1 p.2) lp.tmps := by
    rw [← Array.foldl_toList, Array.toList_zip, hp1]
  have hput' := putA_rep (X := X) _ hput (hp5.grow g1) (hr.grow g1) (fun t ht => by rw [hp4, hnt]; exact hps t ht)
  refine hrun1 (rdc := ⟨some g, fun _ => False, fun t => (((X.site s').params.toList.zip vs).foldl (fun t p => t.setIfInBounds p.1 p.2) lp.tmps).getD t undef⟩) (n := n) i1
    ⟨by simp only [hfold]; exact hput'.1, by simp only [hfold]; rw [hput'.2, hp4, hnt], Marks.nil _ _ (fun _ h => h.elim), .inr ⟨g, lp, rfl, .inr rfl, hheap⟩, fun t _ => by simp only [hfold]⟩ ?_
  intro a1 w1 F1 ρ1 i2 s2 g2
  have hg0 : Grow F F1 ρ ρ1 w w1 := g1.trans g2
  have hF1 : F1 ⟨g, 0, none⟩ := g2.hF _ (.inr rfl)
  have hh1 : w1.heap[g]? = some (.loop lp) := (g2.hb ⟨g, 0, none⟩ (.inr rfl)).trans hheap
  refine ⟨_, run_beginRound hh1 hready, ?_⟩
  have i3 := i2.rewrite hF1 (cell_ne_of_loop hh1) hN (.loop { lp with state := .busy })
  have hlt1 : g < w1.heap.size := (Array.getElem?_eq_some_iff.1 hh1).1
  have hh2 : (w1.putObj g (.loop { lp with state := .busy })).heap[g]? = some (.loop { lp with state := .busy }) := World.putObj_heap_same hlt1
  have hg1 : Grow F F1 ρ ρ1 w (w1.putObj g (.loop { lp with state := .busy })) := ⟨hg0.hF, hg0.hρ, fun a ha => by rw [World.putObj_heap_other (q3 a ha)]; exact hg0.hb a ha⟩
  have s3 : Sim X L.tab.nt st1 ⟨some g, fun _ => False, fun t => (((X.site s').params.toList.zip vs).foldl (fun t p => t.setIfInBounds p.1 p.2) lp.tmps).getD t undef⟩ F1 ρ1 a1 (w1.putObj g (.loop { lp with state := .busy })) := by
    refine ⟨fun t => ((s2.env t).less (cell_ne_of_loop hh1) _).mono (fun _ _ h => h) (fun _ h => h.1) (fun _ _ _ h => h), s2.size, ?_, .inr ⟨g, _, rfl, hF1, hh2⟩, s2.kept⟩
    have := s2.defs
    rw [hdf1] at this ⊢
    exact Marks.putObj this hh1 _
  refine hrun2 (rdc := ⟨some g, fun _ => False, fun t => (((X.site s').params.toList.zip vs).foldl (fun t p => t.setIfInBounds p.1 p.2) lp.tmps).getD t undef⟩) (n := n) i3 s3 ?_
  intro a2 w3 F3 ρ3 i4 s4 g4
  have hF3 : F3 ⟨g, 0, none⟩ := g4.hF _ hF1
  have hh3 : w3.heap[g]? = some (.loop { lp with state := .busy }) := (g4.hb ⟨g, 0, none⟩ hF1).trans hh2
  have hlt3 : g < w3.heap.size := (Array.getElem?_eq_some_iff.1 hh3).1
  have hgall : Grow F F3 ρ ρ3 w w3 := hg1.trans g4
  have hhd3 : ρ3[id]? = some hd := hgall.hρ _ _ hhd
  have key : ∀ (jump : Option Code) (pe : Option Ex), jump = pe.bind Ex.code → jump.isNone = pe.isNone → pe ≠ some .normal → ∃ v w', (Instr.endRound g jump).run X.P w3 = .ok v w' ∧ ∃ v' ρ' F', Ending.returned v = .returned v' ∧ Inv X w0 S F' ρ' (st2.mem.set id (.loop s' env false pe)) w' ∧ Grow F F' ρ ρ' w w' ∧ Rep X.K ρ' F' w' (.bool pe.isNone) v' := by
    intro jump pe hj hjn hpe
    have hcell := cell_ne_of_loop hh3
    refine ⟨_, _, run_endRound jump hh3, _, ρ3, less F3 g, rfl, ?_, hgall.less q3 _, by rw [hjn]; exact .bool _⟩
    refine (i4.write_kept hF3 hcell hN _).revive hdead hhd3 hblk (by simpa using hlt3) q2 (fun a ha => ha.2) (fun id' b' hd' hb' hdd' hh' hgb' => (i4.sep id' b' hd' g hb' hdd' hh' hgb').2.2 _ hF3 rfl) ?_
    have hE : EnvRep X ρ3 (less F3 g) (w3.putObj g (.loop { lp with state := if jump.isNone then .ready else .done, pending := jump })) env lp.tmps := (hp5.grow hgall).less hcell _
    refine ⟨g, _, hv, World.putObj_heap_same hlt3, hp1, hp2, hp3, hp4, hE, (fun h => by cases h), fun _ h => ?_, fun _ h => ?_, hj, hpe⟩
    · subst h; simp only [Option.isNone_none] at hjn; simp [hjn]
    · cases pe with
      | none => exact absurd rfl h
      | some _ => simp only [Option.isNone_some] at hjn; simp [hjn]
  cases e2 with
  | normal => obtain ⟨v, w', k1, k2⟩ := key none none rfl rfl (by simp); exact ⟨v, w', k1, k2⟩
  | exit i => obtain ⟨v, w', k1, k2⟩ := key (some (.exit i)) (some (.exit i)) rfl rfl (by simp); exact ⟨v, w', k1, k2⟩
  | ret => obtain ⟨v, w', k1, k2⟩ := key (some .ret) (some .ret) rfl rfl (by simp); exact ⟨v, w', k1, k2⟩

/-! ### The statement -/

def evrange (X : Cx) (T : Tab R) (s : Nat) (keep : List Nat) (g : Operand) (st : St) (k : Ex → St → Option R) : Option R :=
  match evv X st.env g, st.dfs with
  | .clos f [] caps, [] =>
    T.call f (.yld st.mem.length :: caps) (st.mem ++ [.loop s (rst keep st.env) false none]) fun _ M2 =>
      match gm M2 (st.mem.length) with
      | some (.loop _ _ false pe) => k (pe.getD .normal) { st with mem := M2.set st.mem.length .dead }
      | _ => none
  | _, _ => none

/-- Entering: the record, and (at an outermost loop) the block for deferred calls with its mark. -/
theorem enter_loop {rdc : Option Nat} {F : Addr → Prop} {w : World} (hrd : RdRep F w rdc) (fn : FuncId) (tmps : Array Value) (ps : Array Tmp) (ag bd : Code) :
    ∃ l mk w1 lp, (Instr.enterLoop fn tmps ps ag bd rdc).run X.P w = .ok (l, (mk : Option Nat).toList.map (fun D => ({ target := .collected D, args := #[] } : Deferred))) w1 ∧ w.grownBy w1 none ∧ w1.heap[l]? = some (.loop lp) ∧ w.heap.size ≤ l ∧
      (∀ D, mk = some D → w.heap.size ≤ D ∧ D ≠ l ∧ w1.heap[D]? = some (.deferred (some []))) ∧ lp.state = .ready ∧ lp.pending = none ∧ lp.params = ps ∧ lp.assign = ag ∧ lp.body = bd ∧ lp.tmps = tmps := by
  have ga : ∀ (w : World) (o : Obj), w.grownBy (w.alloc o) none := fun w o => World.grownBy_alloc w o none
  rcases hrd with rfl | ⟨g, r, rfl, _, hg⟩
  · refine ⟨w.heap.size + 1, some w.heap.size, (w.alloc (.deferred (some []))).alloc (.loop { state := .ready, pending := none, fn, tmps, params := ps, assign := ag, body := bd, defers := w.heap.size }), { state := .ready, pending := none, fn, tmps, params := ps, assign := ag, body := bd, defers := w.heap.size }, run_enterLoop_outer fn tmps ps ag bd, ?_, ?_, by omega, (fun D hD => ?_), rfl, rfl, rfl, rfl, rfl, rfl⟩
    · exact ⟨rfl, rfl, rfl, by simp; omega, fun k hk _ => by rw [(ga (w.alloc (.deferred (some []))) _).block k (by simp; omega) (by simp), (ga w _).block k hk (by simp)]⟩
    · have := World.alloc_heap_new (w.alloc (.deferred (some []))) (.loop { state := .ready, pending := none, fn, tmps, params := ps, assign := ag, body := bd, defers := w.heap.size })
      rwa [World.size_alloc] at this
    · injection hD with hD
      subst hD
      refine ⟨Nat.le_refl _, by omega, ?_⟩
      rw [(ga (w.alloc (.deferred (some []))) _).block _ (by simp) (by simp)]
      exact World.alloc_heap_new w _
  · exact ⟨w.heap.size, none, w.alloc (.loop { state := .ready, pending := none, fn, tmps, params := ps, assign := ag, body := bd, defers := r.defers }), { state := .ready, pending := none, fn, tmps, params := ps, assign := ag, body := bd, defers := r.defers }, run_enterLoop_inner hg fn tmps ps ag bd, ga _ _, World.alloc_heap_new w _, Nat.le_refl _, (fun D hD => by cases hD), rfl, rfl, rfl, rfl, rfl, rfl⟩

theorem evrange_sound (hX : X.Okb) {T : Tab R} (hT : T.CallOk X) {s : Nat} {keep : List Nat} {g : Operand} {ps : Array Tmp} {ag bd : Code} (hsite : X.site s = ⟨T.nt.n, ps, ag, bd⟩) {st : St} {k : Ex → St → Option R} {r : R}
    (h : evrange X T s keep g st k = some r) : ∃ e st', CodeRuns X T.nt (.rangeFunc g ps ag bd) st (Ex.exit' e) st' ∧ k e st' = some r := by
  unfold evrange at h
  simp only [gm_eq] at h
  split at h
  case h_2 => cases h
  rename_i f caps hg hdf
  obtain ⟨x, M2, ⟨hc1, hc2⟩, h, _⟩ := hT.call h
  split at h
  case h_2 => cases h
  rename_i s2 env2 pe hb2
  refine ⟨_, _, fun {rdc n w0 S F ρ a w Q} hI hs hq => ?_, h⟩
  have h1 := evv_rep hI hs.env g
  rw [hg] at h1
  generalize hv : a.eval g = vf at h1
  cases h1 with
  | clos _ _ _ v1 v2 hl1 hl2 r1 r2 =>
  have hv1 : v1 = [] := List.length_eq_zero_iff.1 (by simpa using hl1)
  subst hv1
  refine wpIn_rangeFunc fun fn _ => ?_
  obtain ⟨l, mk, w1, lp, henter, hgr, hl, hlge, hmk, p1, p2, p3, p4, p5, p6⟩ := enter_loop (X := X) hs.rd fn a.tmps ps ag bd
  have hlt : l < w1.heap.size := (Array.getElem?_eq_some_iff.1 hl).1
  refine ⟨l, _, w1, { target := .fn (.func f) v2.toArray, args := #[.func (.yield l) #[] #[]] }, w1, f, #[.func (.yield l) #[] #[]] ++ v2.toArray, w1, henter, ?_, fun _ _ => trivial, ?_, fun hd => by simp [fen, Fence.wide] at hd, ?_⟩
  · simp only [resolve, hv]
    simp [go_sem]
  · simp [invoke, go_sem, hc1]
  -- the memory, with the record and the mark
  have gr0 : Grow F F ρ ρ w w1 := ⟨fun _ h => h, fun _ _ h => h, fun a ha => hgr.block _ (hI.fz a ha) (by simp)⟩
  have i1 : Inv X w0 S F (ρ ++ [⟨.pointer (some ⟨l, 0, none⟩), 0⟩]) (st.mem ++ [.loop s (rst keep st.env) false none]) w1 := by
    refine hI.push hgr (fun g' hg' => ?_) rfl ?_
    · simp only [Hd.blk?, Value.blk?, Option.some.injEq] at hg'; subst hg'; exact ⟨hlge, hlt⟩
    · refine ⟨l, lp, rfl, hl, by rw [p3, hsite], by rw [p4, hsite], by rw [p5, hsite], by rw [p6, hsite]; exact hs.size, ?_, (fun h => by cases h), fun _ _ => p1, fun _ h => absurd rfl h, p2, by simp⟩
      rw [p6]
      have he : EnvRep X (ρ ++ [⟨.pointer (some ⟨l, 0, none⟩), 0⟩]) F w1 st.env a.tmps := (hs.env.grow gr0).grow ⟨fun _ h => h, fun _ _ h => getElem?_append_old h, fun _ _ => rfl⟩
      exact envRep_rst fun u _ => he u
  have i2 : Inv X w0 S (fun a => F a ∨ ∃ D, mk = some D ∧ a.block = D) (ρ ++ [⟨.pointer (some ⟨l, 0, none⟩), 0⟩]) (st.mem ++ [.loop s (rst keep st.env) false none]) w1 := by
    refine i1.keep (fun D hD => ?_) (fun D id b hd hD hb hdd hh e => ?_)
    · obtain ⟨m1, _, m3⟩ := hmk D hD
      exact ⟨(Array.getElem?_eq_some_iff.1 m3).1, Nat.le_trans hI.size m1⟩
    · obtain ⟨m1, m2, _⟩ := hmk D hD
      by_cases hid : id < st.mem.length
      · rw [List.getElem?_append_left hid] at hb
        rw [List.getElem?_append_left (by rw [hI.len]; exact hid)] at hh
        have := (hI.sep id b hd D hb hdd hh e).1
        omega
      · rw [List.getElem?_append_right (by rw [hI.len]; omega)] at hh
        have hid' : id - ρ.length = 0 := by
          have := (List.getElem?_eq_some_iff.1 hh).1
          simp at this; exact this
        rw [hid'] at hh
        simp only [List.getElem?_cons_zero, Option.some.injEq] at hh
        subst hh
        simp only [Hd.blk?, Value.blk?, Option.some.injEq] at e
        exact m2 e.symm
  have g2 : Grow F (fun a => F a ∨ ∃ D, mk = some D ∧ a.block = D) ρ (ρ ++ [⟨.pointer (some ⟨l, 0, none⟩), 0⟩]) w w1 := ⟨fun _ h => .inl h, fun _ _ h => getElem?_append_old h, gr0.hb⟩
  have hyl : (ρ ++ [(⟨.pointer (some ⟨l, 0, none⟩), 0⟩ : Hd)])[st.mem.length]? = some ⟨.pointer (some ⟨l, 0, none⟩), 0⟩ := by rw [← hI.len]; simp
  have hargs : RepL X.K (ρ ++ [⟨.pointer (some ⟨l, 0, none⟩), 0⟩]) (fun a => F a ∨ ∃ D, mk = some D ∧ a.block = D) w1 (.yld st.mem.length :: caps) (.func (.yield l) #[] #[] :: v2) := by
    refine ⟨by simp [hl2], fun j y v hy hv => ?_⟩
    cases j with
    | zero => simp at hy hv; subst hy; subst hv; exact .yld _ _ l hyl rfl
    | succ j => simp at hy hv; exact (r2 j y v hy hv).grow g2
  have hcall := hc2 i2 hargs
  have hin : CallsIn Fence.wide (n - 1) X.P f (.func (.yield l) #[] #[] :: v2).toArray w1 _ := callsIn_wide.2 hcall
  have hin2 : CallsIn (fen rdc.r) (n - 1) X.P f (.func (.yield l) #[] #[] :: v2).toArray w1 _ := hin
  have e1 : #[Value.func (.yield l) #[] #[]] ++ v2.toArray = (.func (.yield l) #[] #[] :: v2).toArray := by apply Array.ext'; simp
  rw [e1]
  refine hin2.mono ?_
  rintro en w2 ⟨v, ρ', F', rfl, i3, g3, _⟩
  have hid : ρ'[st.mem.length]? = some ⟨.pointer (some ⟨l, 0, none⟩), 0⟩ := g3.hρ _ _ hyl
  obtain ⟨g', lp', hv', hh2, _, _, _, _, _, _, k1, k2, k3, k4⟩ := i3.rep _ _ _ hb2 hid
  simp only [Value.pointer.injEq, Option.some.injEq, Addr.mk.injEq] at hv'
  obtain ⟨rfl, _⟩ := hv'
  have hnb : lp'.state ≠ .busy := by
    cases pe with
    | none => rw [k1 rfl rfl]; simp
    | some _ => rw [k2 rfl (by simp)]; simp
  have hFl : ∀ a, F a → a.block ≠ l := fun a ha e => by have := hI.fz a ha; omega
  have i4 : Inv X w0 S (fun a => F' a ∨ a.block = l) ρ' (M2.set st.mem.length .dead) w2 := i3.freeze hb2 rfl hid rfl rfl trivial
  have i5 := i4.write_kept (D := l) (.inr rfl) (cell_ne_of_loop hh2) (fun a ha => hFl a (hI.fin a ha)) (.loop { lp' with state := .exhausted })
  have g5 : Grow F (less (fun a => F' a ∨ a.block = l) l) ρ ρ' w (w2.putObj l (.loop { lp' with state := .exhausted })) := (g2.trans (g3.trans ⟨fun _ h => .inl h, fun _ _ h => h, fun _ _ => rfl⟩)).less hFl _
  have hsim : Sim X T.nt { st with mem := M2.set st.mem.length .dead } rdc (less (fun a => F' a ∨ a.block = l) l) ρ' { a with defers := mk.toList.map (fun D => ({ target := .collected D, args := #[] } : Deferred)) ++ a.defers } (w2.putObj l (.loop { lp' with state := .exhausted })) := by
    refine ⟨hs.env.grow g5, hs.size, ?_, hs.rd.mono g5.hF g5.hb, hs.kept⟩
    have hd := hs.defs
    rw [hdf] at hd
    simp only [hdf]
    obtain ⟨d0, ms, d1, d2, d3⟩ := Marks.mono g5.hF g5.hb hd
    refine ⟨d0, mk.toList ++ ms, by rw [List.map_append, d1], ?_, fun D hD => ?_⟩
    · cases mk with
      | none => simpa using d2
      | some D =>
        simp only [Option.toList_some, List.singleton_append, List.nodup_cons]
        refine ⟨fun hD => ?_, d2⟩
        obtain ⟨_, ms', e1', _, e3⟩ := hd
        have : ms = ms' := by
          have := d1.symm.trans e1'
          have inj : ∀ (a b : List Nat), a.map (fun D => ({ target := .collected D, args := #[] } : Deferred)) = b.map (fun D => ({ target := .collected D, args := #[] } : Deferred)) → a = b := by
            intro a
            induction a with
            | nil => intro b hb; cases b with | nil => rfl | cons _ _ => simp at hb
            | cons x a ih => intro b hb; cases b with
              | nil => simp at hb
              | cons y b => simp only [List.map_cons, List.cons.injEq, Deferred.mk.injEq, Target.collected.injEq] at hb; rw [hb.1.1, ih b hb.2]
          exact inj _ _ this
        subst this
        have := hI.fz _ (e3 D hD).2.1
        have := (hmk D rfl).1
        simp at *; omega
    · rw [List.mem_append] at hD
      rcases hD with hD | hD
      · have hD : mk = some D := by simpa using hD
        obtain ⟨m1, m2, m3⟩ := hmk D hD
        have hkept : w2.heap[D]? = w1.heap[D]? := g3.hb ⟨D, 0, none⟩ (.inr ⟨D, hD, rfl⟩)
        refine ⟨fun a ha e => ?_, ⟨.inl (g3.hF _ (.inr ⟨D, hD, rfl⟩)), m2⟩, ?_⟩
        · have := hI.fz a (hd.1 a ha); omega
        · rw [World.putObj_heap_other m2, hkept]; exact m3
      · exact d3 D hD
  refine ⟨pe.bind Ex.code, _, by rw [← k3]; exact run_endLoop hh2 hnb, ?_⟩
  cases pe with
  | none => exact hq _ _ _ _ i5 hsim g5
  | some e =>
    cases e with
    | normal => exact absurd rfl k4
    | exit i => exact wpIn_exit (hq _ _ _ _ i5 hsim g5)
    | ret => exact wpIn_ret (hq _ _ _ _ i5 hsim g5)

end
end Go.Eng

namespace Go.Eng
open Go
noncomputable section

variable {X : Cx} {R O : Type}

def kontX (X : Cx) (m : Nat) (xs : Ex → St → Option (XSh O)) (e : Ex) (st : St) : Option O :=
  match xs e st with
  | some x => goS X m x.cv x.σ x.sel st fun s => some (x.out s)
  | none => none

theorem callCut_sound (hX : X.Ok) {root c : Code} {p : Nat} {L : LTab O} (hL : L.Ok X root) (hat : At root p c) {m mask : Nat} {cv' : List Cv} {σ : LSh} {sel' : St → List Nat} {xs : Ex → St → Option (XSh O)} {JF : St → Option O} {exOf : O → Ex} {stOf : O → St}
    (hstep : ∀ lk M, JF (canS σ lk M) = evk X L c p (canS σ lk M) (kontX X m xs)) (hx : ∀ e st x, xs e st = some x → outOk x e exOf stOf)
    {nt : Nt} (hnt : L.tab.nt = ⟨nt.n, mask⟩) {elim : O → (Ex → St → Option R) → Option R} (helim : ∀ o k, elim o k = k (exOf o) (stOf o)) {st : St} {k : Ex → St → Option R} {r : R}
    (h : callLoop X m mask cv' σ sel' nt JF elim st k = some r) : ∃ e st', CodeRuns X nt c st (Ex.exit' e) st' ∧ k e st' = some r := by
  unfold callLoop at h
  obtain ⟨st1, h, e1, e2, hcv⟩ := evcv_sound hX cv' h
  replace h := tst_some h
  obtain ⟨h1, h⟩ := h
  rw [Bool.and_eq_true, Bool.and_eq_true] at h1
  obtain ⟨⟨h1, hmask⟩, hdf1⟩ := h1
  have hdf1 : st1.dfs = [] := by simpa using hdf1
  have hmask : nt.mask &&& mask = mask := Nat.eq_of_beq_eq_true hmask
  split at h
  · cases h
  · rename_i o ho
    rw [helim] at h
    replace h := tst_some h
    obtain ⟨h2, h⟩ := h
    rw [Bool.and_eq_true] at h2
    obtain ⟨hm, hdfs⟩ := h2
    have hdfs : (stOf o).dfs = [] := by simpa using hdfs
    refine ⟨_, _, fun {rdc n w0 S F ρ a w Q} hI hs hq => ?_, h⟩
    obtain ⟨F1, ρ1, i1, s1, g1⟩ := hcv (nt := nt) (rdc := rdc) (a := a) hI hs
    obtain ⟨hok, hmem, _⟩ := enter_facts h1
    have hsub := i1.sub hX hok hd0
    have ho' : evk X L c p (canS σ (fun t => ren (idx (sel' st1)) 4 (look st1.env t)) (subM st1.mem (sel' st1))) (kontX X m xs) = some o := (hstep _ _).symm.trans ho
    obtain ⟨e, st2, hrun, hk⟩ := evk_sound hX hL c hat ho'
    have hout : exOf o = e ∧ ∀ {nt : Nt} {rdc : Cy} {w0 : World} {S : Sc} {F : Addr → Prop} {ρ : List Hd} {a : Act} {w : World}, Inv X w0 S F ρ st2.mem w → Sim X nt st2 rdc F ρ a w →
        ∃ F' ρ', Inv X w0 S F' ρ' (stOf o).mem w ∧ Sim X nt (stOf o) rdc F' ρ' a w ∧ GrowF m F F' ρ ρ' w w := by
      unfold kontX at hk
      split at hk
      case h_2 => cases hk
      rename_i x hxe
      obtain ⟨lk, M, ho2, hr⟩ := goS_sound hX hk
      injection ho2 with ho2
      obtain ⟨q1, q2⟩ := hx e st2 x hxe lk M
      rw [ho2] at q1 q2
      refine ⟨q1, fun {nt rdc w0 S F ρ a w} hI hs => ?_⟩
      rw [q2]
      exact hr hI hs
    refine hrun (rdc := ⟨rdc.r, rdc.db, fun t => a.tmps.getD t undef⟩) (n := n) (w0 := w) (S := hand ρ1 st1.mem (sel' st1) F1) (F := F1) (ρ := sub hd0 ρ1 (sel' st1)) (a := a) (w := w)
      (by have : (canS σ (fun t => ren (idx (sel' st1)) 4 (look st1.env t)) (subM st1.mem (sel' st1))).mem = subM st1.mem (sel' st1) := hmem
          rw [this]; exact hsub)
      ⟨enter_env hX h1 i1 s1.env, by rw [hnt]; exact s1.size, by have := s1.defs; rw [hdf1] at this; exact this, s1.rd, fun _ _ => rfl⟩ ?_
    intro a' w' F0 ρ0 hI0 hs0 hg0
    obtain ⟨F', ρ', hI', hs', hg1⟩ := hout.2 hI0 hs0
    have hg' := (hg0.toF m).trans hg1
    rw [← hout.1]
    obtain ⟨i3, g3, r3⟩ := i1.merge hX hok hd0 hI' hg' hm
    refine hq a' w' F' _ i3 ⟨fun t => ?_, by have := hs'.size; rw [hnt] at this; exact this, ?_, hs'.rd, fun t ht => ?_⟩ (g1.trans g3)
    · rcases look_append (renE (rno m (sel' st1) st1.mem.length) 4 (stOf o).env) (st1.env.filter (fun p => !mask.testBit p.1)) t with e | e
      · simp only [leaveS]; rw [e]; exact (hs'.env.ren hX r3 4) t
      · simp only [leaveS]; rw [e]
        rcases look_mask mask st1.env t with e' | ⟨hb, e'⟩
        · rw [e']; exact .top _
        · rw [e']
          have hk := hs'.kept t (by rw [hnt]; exact hb)
          rw [hk]
          exact (s1.env t).grow g3
    · have hd := hs'.defs
      rw [hdfs] at hd
      simp only [leaveS]
      rw [hdf1]
      exact hd
    · have hb : mask.testBit t = false := by
        rw [← hmask, Nat.testBit_and, ht, Bool.false_and]
      have hk := hs'.kept t (by rw [hnt]; exact hb)
      rw [hk]
      exact s1.kept t ht

/-! ### Tables out of lists -/

abbrev Ent1 (R : Type) := St → (Ex → St → Option R) → Option R

def pickE : List (Nat × Ent1 R) → Nat → Ent1 R
  | [], _ => fun _ _ => none
  | e :: es, p => match Nat.beq p e.1 with | true => e.2 | false => pickE es p
def pickO : List (Nat × Ent1 R) → Nat → Option (Ent1 R)
  | [], _ => none
  | e :: es, p => match Nat.beq p e.1 with | true => some e.2 | false => pickO es p

def AllE {α : Type} (P : α → Prop) : List α → Prop
  | [] => True
  | e :: es => P e ∧ AllE P es

theorem pickE_some {es : List (Nat × Ent1 R)} {P : Nat × Ent1 R → Prop} (hP : AllE P es) {p : Nat} {st : St} {k : Ex → St → Option R} {r : R} (h : pickE es p st k = some r) : ∃ f, P (p, f) ∧ f st k = some r := by
  induction es with
  | nil => simp [pickE] at h
  | cons e es ih =>
    simp only [pickE] at h
    cases hb : Nat.beq p e.1 with
    | true =>
      simp only [hb] at h
      have := Nat.eq_of_beq_eq_true hb
      subst this
      exact ⟨e.2, hP.1, h⟩
    | false => simp only [hb] at h; exact ih hP.2 h
theorem pickO_some {es : List (Nat × Ent1 R)} {P : Nat × Ent1 R → Prop} (hP : AllE P es) {p : Nat} {f : Ent1 R} (h : pickO es p = some f) : P (p, f) := by
  induction es with
  | nil => simp [pickO] at h
  | cons e es ih =>
    simp only [pickO] at h
    split at h
    · rename_i hb
      have := Nat.eq_of_beq_eq_true hb
      subst this
      injection h with h
      subst h
      exact hP.1
    · exact ih hP.2 h

/-- An entry for a loop, a range over a function, a piece cut out. -/
def LoopOk (X : Cx) (root : Code) (nt : Nt) (e : Nat × Ent1 R) : Prop := ∀ {c st k r}, At root e.1 (.loop c) → e.2 st k = some r → ∃ x st', CodeRuns X nt (.loop c) st (Ex.exit' x) st' ∧ k x st' = some r
def RangeOk (X : Cx) (root : Code) (nt : Nt) (e : Nat × Ent1 R) : Prop := ∀ {g ps a b st k r}, At root e.1 (.rangeFunc g ps a b) → e.2 st k = some r → ∃ x st', CodeRuns X nt (.rangeFunc g ps a b) st (Ex.exit' x) st' ∧ k x st' = some r
def CutOk (X : Cx) (root : Code) (nt : Nt) (e : Nat × Ent1 R) : Prop := ∀ {c st k r}, At root e.1 c → e.2 st k = some r → ∃ x st', CodeRuns X nt c st (Ex.exit' x) st' ∧ k x st' = some r

/-- An entry for the call of a function at arguments of some shape. -/
structure CE (R : Type) where
  f : FuncId
  test : List AV → List Blk → Bool
  wr : List AV → List Blk → Option (List Nat)
  run : List AV → List Blk → (AV → List Blk → Option R) → Option R

def pickC : List (CE R) → FuncId → List AV → List Blk → (AV → List Blk → Option R) → Option R
  | [], _, _, _, _ => none
  | e :: es, f, args, M, k => match Nat.beq f e.f && e.test args M with | true => e.run args M k | false => pickC es f args M k
def pickW : List (CE R) → FuncId → List AV → List Blk → Option (List Nat)
  | [], _, _, _ => none
  | e :: es, f, args, M => match Nat.beq f e.f && e.test args M with | true => e.wr args M | false => pickW es f args M

def CeOk (X : Cx) (e : CE R) : Prop := ∀ {args M k r}, e.run args M k = some r → ∃ x M', ACalls X e.f args M x M' ∧ k x M' = some r ∧ ∀ ids, e.wr args M = some ids → Agree ids M M'

theorem pickC_some {es : List (CE R)} (hP : AllE (CeOk X) es) {f : FuncId} {args : List AV} {M : List Blk} {k : AV → List Blk → Option R} {r : R} (h : pickC es f args M k = some r) :
    ∃ x M', ACalls X f args M x M' ∧ k x M' = some r ∧ ∀ ids, pickW es f args M = some ids → Agree ids M M' := by
  induction es with
  | nil => simp [pickC] at h
  | cons e es ih =>
    simp only [pickC] at h
    split at h
    · rename_i hb
      have hb' := hb
      rw [Bool.and_eq_true] at hb
      have := Nat.eq_of_beq_eq_true hb.1
      subst this
      obtain ⟨x, M', h1, h2, h3⟩ := hP.1 h
      refine ⟨x, M', h1, h2, fun ids hi => ?_⟩
      simp only [pickW, hb'] at hi
      exact h3 ids hi
    · rename_i hb
      obtain ⟨x, M', h1, h2, h3⟩ := ih hP.2 h
      refine ⟨x, M', h1, h2, fun ids hi => ?_⟩
      simp only [pickW, hb] at hi
      exact h3 ids hi

def mkTab (nt : Nt) (cs : List (CE R)) (y : Nat → List AV → List Blk → (AV → List Blk → Option R) → Option R) (ls rs ks : List (Nat × Ent1 R)) : LTab R :=
  ⟨⟨nt, pickW cs, pickC cs, y⟩, pickE ls, pickE rs, pickO ks⟩
def YOk (X : Cx) (y : Nat → List AV → List Blk → (AV → List Blk → Option R) → Option R) : Prop := ∀ {id args M k r}, y id args M k = some r → ∃ x M', AYields X id args M x M' ∧ k x M' = some r
def noY : Nat → List AV → List Blk → (AV → List Blk → Option R) → Option R := fun _ _ _ _ => none
theorem noY_ok : YOk X (noY (R := R)) := fun {_ _ _ _ _} h => by cases h

theorem mkTab_ok {root : Code} {nt : Nt} {cs : List (CE R)} {y : Nat → List AV → List Blk → (AV → List Blk → Option R) → Option R} {ls rs ks : List (Nat × Ent1 R)} (hc : AllE (CeOk X) cs) (hy : YOk X y)
    (hl : AllE (LoopOk X root nt) ls) (hr : AllE (RangeOk X root nt) rs) (hk : AllE (CutOk X root nt) ks) : (mkTab nt cs y ls rs ks).Ok X root where
  tab := ⟨fun {f args M k r} h => pickC_some hc h, fun {id args M k r} h => hy h⟩
  loop := fun {p c st k r} hat h => by
    obtain ⟨f, h1, h2⟩ := pickE_some hl h
    exact h1 hat h2
  range := fun {p g ps a b st k r} hat h => by
    obtain ⟨f, h1, h2⟩ := pickE_some hr h
    exact h1 hat h2
  cut := fun {p c f st k r} hat hf h => pickO_some hk hf hat h

/-- A loop's entry is right. -/
theorem loop_ok (hX : X.Ok) {root c0 : Code} {path : List Bool} (hc0 : codeAt root path = some (.loop c0)) {p : Nat} (hp : enc path = p) {L : LTab O} (hL : L.Ok X root) {m mask : Nat} {cv cv' : List Cv} {σ : LSh} {sel sel' : St → List Nat} {xs : Ex → St → Option (XSh O)} {LF : Nat → St → Option O} {exOf : O → Ex} {stOf : O → St}
    (h0 : ∀ lk M, LF 0 (canS σ lk M) = none) (hstep : ∀ n lk M, LF (n + 1) (canS σ lk M) = evk X L c0 (2 * p) (canS σ lk M) (kont X m cv σ sel xs (LF n))) (hx : ∀ e st x, xs e st = some x → outOk x e exOf stOf)
    {nt : Nt} (hnt : L.tab.nt = ⟨nt.n, mask⟩) {elim : O → (Ex → St → Option R) → Option R} (helim : ∀ o k, elim o k = k (exOf o) (stOf o)) {fuel : Nat} :
    LoopOk X root nt (p, fun st k => callLoop X m mask cv' σ sel' nt (LF fuel) elim st k) := by
  intro c st k r hat h
  have hd := hat.det path hp
  rw [hc0] at hd
  injection hd with hd; injection hd with hd; subst hd
  exact callLoop_sound hX hL hat h0 hstep hx hnt helim h

/-- A loop, run round by round in place. -/
def unroll (X : Cx) (L : LTab R) (c : Code) (p : Nat) : Nat → St → (Ex → St → Option R) → Option R
  | 0, _, _ => none
  | n + 1, st, k => evk X L c p st fun e st' => match e with | .normal => unroll X L c p n st' k | .exit i => k (.exit i) st' | .ret => k .ret st'
theorem unroll_sound (hX : X.Okb) {root c : Code} {p : Nat} {L : LTab R} (hL : L.Ok X root) (hat : At root p (.loop c)) : ∀ (fuel : Nat) {st : St} {k : Ex → St → Option R} {r : R}, unroll X L c (2 * p) fuel st k = some r →
    ∃ e st', k e st' = some r ∧ ∀ {rdc : Cy} {n : Nat} {w0 : World} {S : Sc} {F : Addr → Prop} {ρ : List Hd} {a : Act} {w : World} {Q : Exit → Act → World → Prop}, Inv X w0 S F ρ st.mem w → Sim X L.tab.nt st rdc F ρ a w →
      (∀ a' w' F' ρ', Inv X w0 S F' ρ' st'.mem w' → Sim X L.tab.nt st' rdc F' ρ' a' w' → Grow F F' ρ ρ' w w' → Q (Ex.exit' e) a' w') → Code.roundsIn (fen rdc.r) n X.P c Q fuel a w
  | 0, st, k, r, h => by cases h
  | fuel + 1, st, k, r, h => by
    simp only [unroll] at h
    obtain ⟨e, st1, hrun, h⟩ := evk_sound hX hL c (hat.down false fun l hl => by simp [codeAt, hl]) h
    cases e with
    | normal =>
      obtain ⟨e', st', hk, hr⟩ := unroll_sound hX hL hat fuel h
      refine ⟨e', st', hk, fun {rdc n w0 S F ρ a w Q} hI hs hq => ?_⟩
      rw [roundsIn_succ]
      refine hrun hI hs fun a' w' F' ρ' hI' hs' hg => ?_
      exact hr hI' hs' fun a'' w'' F'' ρ'' hI'' hs'' hg'' => hq a'' w'' F'' ρ'' hI'' hs'' (hg.trans hg'')
    | exit i =>
      refine ⟨.exit i, st1, h, fun {rdc n w0 S F ρ a w Q} hI hs hq => ?_⟩
      rw [roundsIn_succ]
      exact hrun hI hs fun a' w' F' ρ' hI' hs' hg => hq a' w' F' ρ' hI' hs' hg
    | ret =>
      refine ⟨.ret, st1, h, fun {rdc n w0 S F ρ a w Q} hI hs hq => ?_⟩
      rw [roundsIn_succ]
      exact hrun hI hs fun a' w' F' ρ' hI' hs' hg => hq a' w' F' ρ' hI' hs' hg
theorem unroll_ok (hX : X.Okb) {root c0 : Code} {path : List Bool} (hc0 : codeAt root path = some (.loop c0)) {p : Nat} (hp : enc path = p) {L : LTab R} (hL : L.Ok X root) {nt : Nt} (hnt : L.tab.nt = nt) {fuel : Nat} :
    LoopOk X root nt (p, fun st k => unroll X L c0 (2 * p) fuel st k) := by
  intro c st k r hat h
  have hd := hat.det path hp
  rw [hc0] at hd
  injection hd with hd; injection hd with hd; subst hd
  obtain ⟨e, st', hk, hr⟩ := unroll_sound hX hL hat fuel h
  subst hnt
  exact ⟨e, st', fun {rdc n w0 S F ρ a w Q} hI hs hq => wpIn_loop_rounds fuel (hr hI hs hq), hk⟩

theorem cut_ok (hX : X.Ok) {root c0 : Code} {path : List Bool} (hc0 : codeAt root path = some c0) {p : Nat} (hp : enc path = p) {L : LTab O} (hL : L.Ok X root) {m mask : Nat} {cv' : List Cv} {σ : LSh} {sel' : St → List Nat} {xs : Ex → St → Option (XSh O)} {JF : St → Option O} {exOf : O → Ex} {stOf : O → St}
    (hstep : ∀ lk M, JF (canS σ lk M) = evk X L c0 p (canS σ lk M) (kontX X m xs)) (hx : ∀ e st x, xs e st = some x → outOk x e exOf stOf)
    {nt : Nt} (hnt : L.tab.nt = ⟨nt.n, mask⟩) {elim : O → (Ex → St → Option R) → Option R} (helim : ∀ o k, elim o k = k (exOf o) (stOf o)) :
    CutOk X root nt (p, fun st k => callLoop X m mask cv' σ sel' nt JF elim st k) := by
  intro c st k r hat h
  have hd := hat.det path hp
  rw [hc0] at hd
  injection hd with hd; subst hd
  exact callCut_sound hX hL hat hstep hx hnt helim h

/-- A range's entry is right: the function that is ranged over, run in line. -/
def inl (g : FuncId) (run : List AV → List Blk → (AV → List Blk → Option R) → Option R) : List (CE R) := [⟨g, fun _ _ => true, fun _ _ => none, run⟩]
def oneTab (nt : Nt) (cs : List (CE R)) : Tab R := ⟨nt, pickW cs, pickC cs, noY⟩
theorem oneTab_ok {nt : Nt} {cs : List (CE R)} (hc : AllE (CeOk X) cs) : (oneTab nt cs).CallOk X := ⟨fun {f args M k r} h => pickC_some hc h, fun {_ _ _ _ _} h => by cases h⟩

theorem range_ok (hX : X.Okb) {root : Code} {path : List Bool} {g0 : Operand} {ps0 : Array Tmp} {a0 b0 : Code} (hc0 : codeAt root path = some (.rangeFunc g0 ps0 a0 b0)) {p : Nat} (hp : enc path = p) {nt : Nt} {cs : List (CE R)} (hc : AllE (CeOk X) cs) {s : Nat} {keep : List Nat}
    (hsite : X.site s = ⟨nt.n, ps0, a0, b0⟩) : RangeOk X root nt (p, fun st k => evrange X (oneTab nt cs) s keep g0 st k) := by
  intro g ps a b st k r hat h
  have hd := hat.det path hp
  rw [hc0] at hd
  injection hd with hd; injection hd with h1 h2 h3 h4; subst h1; subst h2; subst h3; subst h4
  exact evrange_sound hX (T := oneTab nt cs) (oneTab_ok hc) hsite h

theorem inl_ok {g : FuncId} {run : List AV → List Blk → (AV → List Blk → Option R) → Option R} (h : ∀ {args M k r}, run args M k = some r → ∃ x M', ACalls X g args M x M' ∧ k x M' = some r) : AllE (CeOk X) (inl g run) :=
  ⟨fun {args M k r} hr => by
    obtain ⟨x, M', h1, h2⟩ := h hr
    exact ⟨x, M', h1, h2, fun ids hi => by cases hi⟩, trivial⟩

/-- Which entry of a list of places the loop of a range is at: the yields of several places. -/
def pickY : List (Nat × (Nat → List AV → List Blk → (AV → List Blk → Option R) → Option R)) → Nat → List AV → List Blk → (AV → List Blk → Option R) → Option R
  | [], _, _, _, _ => none
  | e :: es, id, args, M, k =>
    match gm M id with
    | some (.loop s _ _ _) => (match Nat.beq s e.1 with | true => e.2 id args M k | false => pickY es id args M k)
    | _ => none
theorem pickY_ok {es : List (Nat × (Nat → List AV → List Blk → (AV → List Blk → Option R) → Option R))} (h : AllE (fun e => YOk X e.2) es) : YOk X (pickY es) := by
  induction es with
  | nil => intro id args M k r h; cases h
  | cons e es ih =>
    intro id args M k r hk
    simp only [pickY, gm_eq] at hk
    split at hk
    · split at hk
      · exact h.1 hk
      · exact ih h.2 hk
    · cases hk

/-- A call, cut down to a contract's shape, as an entry. -/
theorem ce_ok (hX : X.Ok) {f : FuncId} {m na : Nat} {cv : List Cv} {σ : LSh} {sel : St → List Nat} {FFn : St → Option O} {valOf : O → AV} {memOf : O → List Blk} {elim : O → (AV → List Blk → Option R) → Option R} (helim : ∀ o k, elim o k = k (valOf o) (memOf o))
    (hf : ∀ lk M o, FFn (canS σ lk M) = some o → FCalls X f m (argsE na (canS σ lk M).env) (canS σ lk M).mem (valOf o) (memOf o)) (hc : ∀ (vs : Array Value) (w : World), (callFunc f vs).run X.P w = .ok (.enter f vs) w)
    {test : List AV → List Blk → Bool} {wr : List AV → List Blk → Option (List Nat)} (hwr : ∀ args M ids, wr args M = some ids → cv = [] ∧ ids = sel ⟨argEnv 0 args, M, [], .unk⟩) :
    CeOk X ⟨f, test, wr, fun args M k => tst (Nat.beq args.length na) (callFn X m cv σ sel FFn elim args M k)⟩ := by
  intro args M k r h
  replace h := tst_some h
  obtain ⟨hna, h⟩ := h
  obtain ⟨x, M', h1, h2, h3⟩ := callFn_sound hX helim hf hc (Nat.eq_of_beq_eq_true hna) h
  refine ⟨x, M', h1, h2, fun ids hi => ?_⟩
  obtain ⟨e1, e2⟩ := hwr args M ids hi
  rw [e2]; exact h3 e1

/-- A call whose entry changes blocks: all of them may be written. -/
theorem ce_okc (hX : X.Ok) {f : FuncId} {m na : Nat} {cv : List Cv} {σ : LSh} {sel : St → List Nat} {FFn : St → Option O} {valOf : O → AV} {memOf : O → List Blk} {elim : O → (AV → List Blk → Option R) → Option R} (helim : ∀ o k, elim o k = k (valOf o) (memOf o))
    (hf : ∀ lk M o, FFn (canS σ lk M) = some o → FCalls X f m (argsE na (canS σ lk M).env) (canS σ lk M).mem (valOf o) (memOf o)) (hc : ∀ (vs : Array Value) (w : World), (callFunc f vs).run X.P w = .ok (.enter f vs) w)
    {test : List AV → List Blk → Bool} :
    CeOk X ⟨f, test, fun _ M => some (List.range M.length), fun args M k => tst (Nat.beq args.length na) (callFn X m cv σ sel FFn elim args M fun x M' => tst (Nat.ble M.length M'.length) (k x M'))⟩ := by
  intro args M k r h
  replace h := tst_some h
  obtain ⟨hna, h⟩ := h
  obtain ⟨x, M', h1, h2, h3⟩ := callFn_sound hX helim hf hc (Nat.eq_of_beq_eq_true hna) h
  replace h2 := tst_some h2
  obtain ⟨hle, h2⟩ := h2
  refine ⟨x, M', h1, h2, fun ids hi => ?_⟩
  injection hi with hi
  subst hi
  exact ⟨Nat.le_of_ble_eq_true hle, fun i hi hn => absurd (List.mem_range.2 hi) hn⟩

/-- A call whose code is run in place. -/
theorem inl1_ok {g : FuncId} {test : List AV → List Blk → Bool} {run : List AV → List Blk → (AV → List Blk → Option R) → Option R} (h : ∀ {args M k r}, run args M k = some r → ∃ x M', ACalls X g args M x M' ∧ k x M' = some r) :
    CeOk X ⟨g, test, fun _ M => some (List.range M.length), fun args M k => run args M fun x M' => tst (Nat.ble M.length M'.length) (k x M')⟩ := by
  intro args M k r hr
  obtain ⟨x, M', h1, h2⟩ := h hr
  replace h2 := tst_some h2
  obtain ⟨hle, h2⟩ := h2
  refine ⟨x, M', h1, h2, fun ids hi => ?_⟩
  injection hi with hi
  subst hi
  exact ⟨Nat.le_of_ble_eq_true hle, fun i hi hn => absurd (List.mem_range.2 hi) hn⟩

/-- Nil slices handed on as slices that nobody writes. -/
def nilfix : List (Nat × TypeId) → List AV → List AV
  | [], xs => xs
  | p :: ps, xs => nilfix ps (match xs[p.1]? with | some .nilsl => xs.set p.1 (.list p.2 []) | _ => xs)
theorem repL_nilfix {ρ : List Hd} {F : Addr → Prop} {w : World} {vs : List Value} : ∀ (ps : List (Nat × TypeId)) {xs : List AV}, RepL X.K ρ F w xs vs → RepL X.K ρ F w (nilfix ps xs) vs
  | [], xs, h => h
  | p :: ps, xs, h => by
    refine repL_nilfix ps ?_
    split
    · rename_i hx
      refine ⟨by simp [h.1], fun j y v hy hv => ?_⟩
      by_cases e : j = p.1
      · subst e
        have hlt : p.1 < xs.length := (List.getElem?_eq_some_iff.1 hx).1
        rw [List.getElem?_set_self hlt] at hy
        injection hy with hy
        subst hy
        have := h.2 p.1 _ v hx hv
        cases this
        exact .list0 _
      · rw [List.getElem?_set_ne (Ne.symm e)] at hy
        exact h.2 j y v hy hv
    · exact h
theorem nil_ok {e : CE R} (h : CeOk X e) (ps : List (Nat × TypeId)) (test : List AV → List Blk → Bool) : CeOk X ⟨e.f, test, fun args M => e.wr (nilfix ps args) M, fun args M k => e.run (nilfix ps args) M k⟩ := by
  intro args M k r hr
  obtain ⟨x, M', h1, h2, h3⟩ := h hr
  exact ⟨x, M', ⟨h1.1, fun {w0 S F ρ w vs} hI hv => h1.2 hI (repL_nilfix ps hv)⟩, h2, h3⟩

def testV (X : Cx) (cv : List Cv) (σ : LSh) (sel : St → List Nat) (args : List AV) (M : List Blk) : Bool :=
  match evcv X cv ⟨argEnv 0 args, M, [], .unk⟩ (fun st1 => some (enterOk σ (sel st1) st1)) with
  | some true => true
  | _ => false

/-- A function's contract out of its code: the last step. -/
theorem fn_sound (hX : X.Ok) {f : FuncId} {fn : Func} {c : Code} {L : LTab O} (hL : L.Ok X c) (hf : X.P.funcs[f]? = some fn) (hb : fn.body = some c) (hn : fn.ntmps = L.tab.nt.n)
    (hc : ∀ (vs : Array Value) (w : World), (callFunc f vs).run X.P w = .ok (.enter f vs) w) {rs : List ResultVar} (hrs : fn.results.toList = rs) {m : Nat} {ys : St → Option (XSh O)} {valOf : O → AV} {memOf : O → List Blk} (hys : ∀ st y, ys st = some y → retOk y valOf memOf)
    {args : List AV} {M : List Blk} {o : O} (h : evfn X L c rs args M (goR X m ys) = some o) : FCalls X f m args M (valOf o) (memOf o) := by
  obtain ⟨x, M', h1, h2⟩ := evfn_sound hX hL hf hb hn hc hrs h
  exact goR_sound hX hys h1 h2
theorem fn_soundt (hX : X.Ok) {f : FuncId} {fn : Func} {c : Code} {L : LTab O} (hL : L.Ok X c) (hf : X.P.funcs[f]? = some fn) (hb : fn.body = some c) (hn : fn.ntmps = L.tab.nt.n)
    (hc : ∀ (vs : Array Value) (w : World), (callFunc f vs).run X.P w = .ok (.enter f vs) w) {rs : List ResultVar} (hrs : fn.results.toList = rs) {m n : Nat} {ys : St → Option (XSh O)} {valOf : O → AV} {memOf : O → List Blk} (hys : ∀ st y, ys st = some y → retOkt n y valOf memOf)
    {args : List AV} {M : List Blk} {o : O} (h : evfn X L c rs args M (goRt X m n ys) = some o) : FCalls X f m args M (valOf o) (memOf o) := by
  obtain ⟨x, M', h1, h2⟩ := evfn_sound hX hL hf hb hn hc hrs h
  exact goRt_sound hX hys h1 h2

end
end Go.Eng

namespace Go.Eng
open Go
noncomputable section

variable {X : Cx}

def badTI : TI := ⟨false, .other, 0, 0, [], []⟩
def lookTI : List (Nat × TI) → Nat → TI
  | [], _ => badTI
  | e :: es, t => match Nat.beq t e.1 with | true => e.2 | false => lookTI es t
def lookS : List (Nat × Site) → Nat → Site
  | [], _ => ⟨0, #[], .skip, .skip⟩
  | e :: es, t => match Nat.beq t e.1 with | true => e.2 | false => lookS es t

theorem lookTI_ok {P : Program} {l : List (Nat × TI)} (h : AllE (fun e => e.2 = tiOf P e.1 ∧ e.2.ok = true) l) (t : Nat) : ((lookTI l t).ok = true → lookTI l t = tiOf P t) ∧ ((lookTI l t).ok = false → (lookTI l t).ks = []) := by
  induction l with
  | nil => exact ⟨fun h => (by cases h), fun _ => rfl⟩
  | cons e es ih =>
    simp only [lookTI]
    cases hb : Nat.beq t e.1 with
    | true =>
      have := Nat.eq_of_beq_eq_true hb
      subst this
      exact ⟨fun _ => h.1.1, fun hf => (by have := h.1.2; rw [hf] at this; cases this)⟩
    | false => exact ih h.2

def lookE : List Nat → Nat → Bool
  | [], _ => false
  | e :: es, t => match Nat.beq t e with | true => true | false => lookE es t
theorem lookE_ok {P : Program} {l : List Nat} (h : AllE (fun e => eqOk P e = true) l) (t : Nat) (ht : lookE l t = true) : eqOk P t = true := by
  induction l with
  | nil => cases ht
  | cons e es ih =>
    simp only [lookE] at ht
    cases hb : Nat.beq t e with
    | true =>
      have := Nat.eq_of_beq_eq_true hb
      subst this
      exact h.1
    | false => rw [hb] at ht; exact ih h.2 ht
theorem alike_refl (a : TI) : TI.alike a a := ⟨rfl, rfl, rfl, rfl, rfl, rfl⟩
theorem cx_ok {P : Program} {l : List (Nat × TI)} {s : Nat → Site} {el : List Nat} {gl : Nat → AV} (hgl : ∀ g, gl g = .top ∨ (gl g).pure = true) (hm : P.follows .mixedOrders = true) (h : AllE (fun e => e.2 = tiOf P e.1 ∧ e.2.ok = true) l) (he : AllE (fun e => eqOk P e = true) el) : (⟨P, lookTI l, s, gl, lookE el, true⟩ : Cx).Ok where
  eqs := lookE_ok he
  facts := fun {t} ht => facts_of_ti (X := ⟨P, lookTI l, s, gl, lookE el, true⟩) (by rw [show (Cx.ti ⟨P, lookTI l, s, gl, lookE el, true⟩ t) = lookTI l t from rfl, (lookTI_ok h t).1 ht]; exact alike_refl _) ht
  mixed := hm
  bad := fun t => (lookTI_ok h t).2
  glob := hgl
  kindsP := fun _ => kinds_of_ti (X := ⟨P, lookTI l, s, gl, lookE el, true⟩) (fun t => (lookTI_ok h t).1) (fun t => (lookTI_ok h t).2)
  pkt := rfl

/-- The same types with kinds of which cells may name blocks. -/
def vTI (e : TI) : TI := ⟨e.ok, e.u, e.size, e.bytes, e.zero, e.ks.map Kind.v⟩
theorem cx_okv {P : Program} {l : List (Nat × TI)} {s : Nat → Site} {el : List Nat} {gl : Nat → AV} (hgl : ∀ g, gl g = .top ∨ (gl g).pure = true) (hm : P.follows .mixedOrders = true) (h : AllE (fun e => e.2 = tiOf P e.1 ∧ e.2.ok = true) l) (he : AllE (fun e => eqOk P e = true) el) : (⟨P, fun t => vTI (lookTI l t), s, gl, lookE el, false⟩ : Cx).Okb where
  eqs := lookE_ok he
  facts := fun {t} ht => facts_of_ti (X := ⟨P, fun t => vTI (lookTI l t), s, gl, lookE el, false⟩) (by
    rw [show (Cx.ti ⟨P, fun t => vTI (lookTI l t), s, gl, lookE el, false⟩ t) = vTI (lookTI l t) from rfl, (lookTI_ok h t).1 ht]
    exact ⟨rfl, rfl, rfl, rfl, rfl, by simp [vTI]⟩) ht
  mixed := hm
  bad := fun t ht => by
    show (vTI (lookTI l t)).ks = []
    have := (lookTI_ok h t).2 ht
    simp [vTI, this]
  glob := hgl
  kindsP := fun h => by cases h

theorem enters {P : Program} {f : FuncId} {fn : Func} {c : Code} (hf : P.funcs[f]? = some fn) (hb : fn.body = some c) (hn : (fn.name == "runtime.NumGoroutine") = false) (vs : Array Value) (w : World) : (callFunc f vs).run P w = .ok (.enter f vs) w := by
  have hp : (program).run P w = .ok P w := rfl
  have hn' : fn.name ≠ "runtime.NumGoroutine" := by simpa using hn
  simp [callFunc, Sem.run_bind, hp, Result.andThen, hf, hn', hb]

end
end Go.Eng

namespace Go.Eng
open Go Go.ChangeShapes Go.WideShapes Go.ChangeAt Go.RowKit
noncomputable section

variable {X : Cx}

/-- Integers within their kinds; slices and strings not too long. -/
inductive Wf (K : TypeId → List Kind) : AV → Prop
  | int (k : IntKind) (n : Int) (h : (Lit.int k n).wf = true) : Wf K (.int k n)
  | bool (b : Bool) : Wf K (.bool b)
  | str (s : ByteArray) (h : s.size ≤ maxLen) : Wf K (.str s)
  | list (t : TypeId) (xs : List Row) (hl : xs.length ≤ maxLen) (hk : ∀ row ∈ xs, koks (K t) row = true) (h : ∀ row ∈ xs, ∀ x ∈ row, Wf K x) : Wf K (.list t xs)
def WfL (K : TypeId → List Kind) (row : Row) : Prop := ∀ x ∈ row, Wf K x

def offsOk (X : Cx) : Nat → List (Nat × TypeId) → Nat → Bool
  | o, [], n => o == n
  | o, f :: fs, n => f.1 == o && offsOk X (o + (X.ti f.2).size) fs n
/-- A type whose data can be read so, if those of the list's types can. -/
def rd1 (X : Cx) (S : List TypeId) (t : TypeId) : Bool :=
  (X.ti t).ok && match (X.ti t).u with
    | .int k => (X.ti t).ks == [.int k]
    | .bool => (X.ti t).ks == [.bool]
    | .str => (X.ti t).ks == [.str]
    | .slice e => (X.ti t).ks == [.slice e] && S.contains e && Nat.blt 0 (X.ti e).size
    | .struct fs => (X.ti t).ks == fs.flatMap (fun f => (X.ti f.2).ks) && offsOk X 0 fs (X.ti t).size && fs.all (fun f => S.contains f.2)
    | .array m e => (X.ti t).ks == (List.replicate m (X.ti e).ks).flatten && S.contains e && (m * (X.ti e).size == (X.ti t).size)
    | _ => false
/-- All of the list can be read. -/
def rdS (X : Cx) (S : List TypeId) : Bool := S.all (rd1 X S)
theorem rd1_of {S : List TypeId} (h : rdS X S = true) {t : TypeId} (ht : S.contains t = true) : rd1 X S t = true := by
  unfold rdS at h
  exact List.all_eq_true.1 h t (by simpa using ht)

theorem koks_append : ∀ {ks ls : List Kind} {r s : Row}, koks ks r = true → koks ls s = true → koks (ks ++ ls) (r ++ s) = true
  | [], _, [], _, _, h => h
  | k :: ks, ls, x :: r, s, h, h' => by
    simp only [koks, Bool.and_eq_true] at h
    simp only [List.cons_append, koks, Bool.and_eq_true]
    exact ⟨h.1, koks_append h.2 h'⟩
  | [], _, _ :: _, _, h, _ => by simp [koks] at h
  | _ :: _, _, [], _, h, _ => by simp [koks] at h

section
variable {w : World} {ρ : List Hd}

/-- The cells that were there. -/
def there (w : World) (a : Addr) : Prop := a.block < w.heap.size

def Reads (X : Cx) (ρ : List Hd) (w : World) (ks : List Kind) (cs : List Value) (row : Row) : Prop := RepL X.K ρ (there w) w row cs ∧ koks ks row = true ∧ WfL X.K row

theorem reads_fields {cs : List Value} : ∀ (fs : List (Nat × TypeId)) (o : Nat), o ≤ cs.length → offsOk X o fs cs.length = true → (∀ f ∈ fs, (X.ti f.2).ks.length = (X.ti f.2).size) →
    (∀ f ∈ fs, ∃ row, Reads X ρ w (X.ti f.2).ks ((cs.drop f.1).take (X.ti f.2).size) row) → ∃ row, Reads X ρ w (fs.flatMap fun f => (X.ti f.2).ks) (cs.drop o) row
  | [], o, ho, h, _, _ => by
    have : o = cs.length := by simpa [offsOk] using h
    subst this
    exact ⟨[], ⟨by simp [RepL], rfl, fun x hx => by simp at hx⟩⟩
  | f :: fs, o, ho, h, hks, hr => by
    simp only [offsOk, Bool.and_eq_true, beq_iff_eq] at h
    obtain ⟨h1, h2⟩ := h
    obtain ⟨r1, a1, a2, a3⟩ := hr f (by simp)
    rw [h1] at a1
    have hl1 : ((cs.drop o).take (X.ti f.2).size).length = (X.ti f.2).size := by rw [a1.1, koks_length a2]; exact hks f (by simp)
    have ho2 : o + (X.ti f.2).size ≤ cs.length := by simp at hl1; omega
    obtain ⟨r2, b1, b2, b3⟩ := reads_fields fs (o + (X.ti f.2).size) ho2 h2 (fun g hg => hks g (by simp [hg])) (fun g hg => hr g (by simp [hg]))
    refine ⟨r1 ++ r2, ?_, ?_, fun x hx => ?_⟩
    · have := RepL.append a1 b1
      rwa [← List.drop_drop, List.take_append_drop] at this
    · simp only [List.flatMap_cons]; exact koks_append a2 b2
    · rw [List.mem_append] at hx
      rcases hx with hx | hx
      · exact a3 x hx
      · exact b3 x hx

theorem reads_elems {cs : List Value} {ks : List Kind} {sz : Nat} (hks : ks.length = sz) : ∀ (m o : Nat), o + m * sz = cs.length → (∀ i, i < m → ∃ row, Reads X ρ w ks ((cs.drop (o + i * sz)).take sz) row) → ∃ row, Reads X ρ w (List.replicate m ks).flatten (cs.drop o) row
  | 0, o, ho, _ => by
    have : o = cs.length := by simpa using ho
    subst this
    exact ⟨[], ⟨by simp [RepL], rfl, fun x hx => by simp at hx⟩⟩
  | m + 1, o, ho, hr => by
    obtain ⟨r1, a1, a2, a3⟩ := hr 0 (by omega)
    simp only [Nat.zero_mul, Nat.add_zero] at a1
    have e1 : (m + 1) * sz = m * sz + sz := Nat.succ_mul m sz
    obtain ⟨r2, b1, b2, b3⟩ := reads_elems (cs := cs) hks m (o + sz) (by omega) (fun i hi => by
      have := hr (i + 1) (by omega)
      have e2 : (i + 1) * sz = i * sz + sz := Nat.succ_mul i sz
      rw [e2, show o + (i * sz + sz) = o + sz + i * sz by omega] at this
      exact this)
    refine ⟨r1 ++ r2, ?_, ?_, fun x hx => ?_⟩
    · have := RepL.append a1 b1
      rwa [← List.drop_drop, List.take_append_drop] at this
    · simp only [List.replicate_succ, List.flatten_cons]; exact koks_append a2 b2
    · rw [List.mem_append] at hx
      rcases hx with hx | hx
      · exact a3 x hx
      · exact b3 x hx

theorem reads_one {k : Kind} {x : AV} {v : Value} (hr : Rep X.K ρ (there w) w x v) (hk : kok k x = true) (hw : Wf X.K x) : Reads X ρ w [k] [v] [x] :=
  ⟨⟨rfl, fun j y u hy hu => by
    cases j with
    | zero => simp at hy hu; subst hy; subst hu; exact hr
    | succ j => simp at hy⟩, by simp [koks, hk], fun y hy => by simp at hy; subst hy; exact hw⟩

theorem reads_of_trod (hX : X.Ok) {S : List TypeId} (hS : rdS X S = true) {H : Type} {enc : TypeId × Value → H} : ∀ (n : Nat) {fuel : Nat} {t : TypeId} {cs : List Value} {x : DataW H × List MemPlace}, fuel < n → S.contains t = true →
    DataW.trod enc X.P w 0 (fun _ => true) true fuel t cs = some x → ∃ row, Reads X ρ w (X.ti t).ks cs row
  | 0, _, _, _, _, h, _, _ => absurd h (Nat.not_lt_zero _)
  | n + 1, fuel, t, cs, x, hfu, ht, hx => by
    have h := rd1_of hS ht
    simp only [rd1, Bool.and_eq_true] at h
    obtain ⟨hok, h⟩ := h
    obtain ⟨i, d, z, f⟩ := hX.facts hok
    have hcell : ∀ t', (X.ti t').ok = true → X.P.cellsOf t' = (X.ti t').size := fun t' hok' => by
      obtain ⟨i', d', z', f'⟩ := hX.facts hok'
      simp [Program.cellsOf, f'.info, f'.size]
    have hlen : ∀ t', (X.ti t').ok = true → (X.ti t').ks.length = (X.ti t').size := fun t' hok' => by
      obtain ⟨i', d', z', f'⟩ := hX.facts hok'
      rw [f'.ks, f'.size]
    have okof : ∀ {t'}, S.contains t' = true → (X.ti t').ok = true := fun {t'} hm => by
      have := rd1_of hS hm
      simp only [rd1, Bool.and_eq_true] at this
      exact this.1
    split at h
    · rename_i k hu
      have hk : (X.ti t).ks = [.int k] := by simpa using h
      obtain ⟨m, rfl, _, hwf⟩ := DataW.trod_int (f.intK hu) hx
      rw [hk]
      exact ⟨_, reads_one (.int k m) (by simp [kok]) (.int k m hwf)⟩
    · rename_i hu
      have hk : (X.ti t).ks = [.bool] := by simpa using h
      have hund : X.P.underlying t = some .bool := by
        have := f.und; rw [f.u] at hu
        cases d <;> simp_all [tyOf]
      obtain ⟨b, rfl, _⟩ := DataW.trod_bool hund hx
      rw [hk]
      exact ⟨_, reads_one (.bool b) rfl (.bool b)⟩
    · rename_i hu
      have hk : (X.ti t).ks = [.str] := by simpa using h
      have hund : X.P.underlying t = some .string := by
        have := f.und; rw [f.u] at hu
        cases d <;> simp_all [tyOf]
      obtain ⟨s, rfl, _, hs⟩ := DataW.trod_string hund hx
      rw [hk]
      exact ⟨_, reads_one (.str s) rfl (.str s hs)⟩
    · rename_i e hu
      simp only [Bool.and_eq_true, beq_iff_eq] at h
      obtain ⟨⟨hk, hrd⟩, hpos⟩ := h
      have hpos : 0 < (X.ti e).size := by simpa using hpos
      have hoke := okof hrd
      rcases DataW.trod_slice (f.slice hu) hx with ⟨rfl, _⟩ | ⟨a, len, cap, elems, rest, m, hfm, rfl, _, _, hlc, hcm, hel, hread, _, _⟩
      · rw [hk]
        exact ⟨_, reads_one (.list0 e) (by simp [kok]) (.list e [] (by simp) (fun row h => by simp at h) (fun row h => by simp at h))⟩
      · rw [hk]
        have each : ∀ i, i < len → ∃ vs row, w.cells? 0 (a.add (i * (X.ti e).size)) (X.ti e).size = some vs ∧ Reads X ρ w (X.ti e).ks vs row := by
          intro i hi
          have := hread i hi
          rw [hcell e hoke, List.getElem?_eq_getElem (by omega)] at this
          rw [Option.bind_eq_some_iff] at this
          obtain ⟨vs, h1, h2⟩ := this
          obtain ⟨row, h3⟩ := reads_of_trod hX hS n (by omega) hrd h2
          exact ⟨vs, row, h1, h3⟩
        have hch : ∃ g : Nat → List Value × Row, ∀ i, i < len → w.cells? 0 (a.add (i * (X.ti e).size)) (X.ti e).size = some (g i).1 ∧ Reads X ρ w (X.ti e).ks (g i).1 (g i).2 := by
          refine ⟨fun i => if hi : i < len then ((each i hi).choose, (each i hi).choose_spec.choose) else ([], []), fun i hi => ?_⟩
          simp only [hi, dif_pos]
          exact (each i hi).choose_spec.choose_spec
        obtain ⟨g, hg⟩ := hch
        have hkl := hlen e hoke
        have hxs : ((List.range len).map fun i => (g i).2).length = len := by simp
        have rep := Rep.list (K := X.K) (ρ := ρ) (F := there w) (w := w) e ((List.range len).map fun i => (g i).2) a cap ((List.range len).map fun i => (g i).1) (by simp) (by simpa using hlc) hcm
          (fun i row hi => by
            have hlt : i < len := by have := (List.getElem?_eq_some_iff.1 hi).1; simpa using this
            simp only [List.getElem?_map, List.getElem?_range hlt, Option.map_some, Option.some.injEq] at hi
            subst hi
            exact (hg i hlt).2.2.1)
          (fun i vs hi => by
            have hlt : i < len := by have := (List.getElem?_eq_some_iff.1 hi).1; simpa using this
            simp only [List.getElem?_map, List.getElem?_range hlt, Option.map_some, Option.some.injEq] at hi
            subst hi
            obtain ⟨c1, c2⟩ := hg i hlt
            have hvl : (g i).1.length = (X.K e).length := by rw [c2.1.1, koks_length c2.2.1]; rfl
            refine ⟨hvl, fun j v hj => ?_⟩
            have hjl : j < (X.ti e).size := by have := (List.getElem?_eq_some_iff.1 hj).1; rw [hvl] at this; rw [← hkl]; exact this
            have hcell' : w.cell? (a.add (i * (X.K e).length + j)) = some v := by
              have hsome := World.cells?_some c1
              obtain ⟨_, hsome⟩ := hsome
              have := hsome.2 j hjl
              rw [hj] at this
              have e2 : (X.K e).length = (X.ti e).size := hkl
              rw [e2]
              rwa [Addr.add_add] at this
            exact ⟨hcell', World.block_lt_of_cell? w _ hcell'⟩)
          (fun i row vs hi hvs j y v hy hv => by
            have hlt : i < len := by have := (List.getElem?_eq_some_iff.1 hi).1; simpa using this
            simp only [List.getElem?_map, List.getElem?_range hlt, Option.map_some, Option.some.injEq] at hi hvs
            subst hi; subst hvs
            exact (hg i hlt).2.1.2 j y v hy hv)
        rw [hxs] at rep
        refine ⟨_, reads_one rep (by simp [kok]) (.list e _ (by rw [hxs]; omega) (fun row hrow => ?_) fun row hrow y hy => ?_)⟩
        · obtain ⟨i, hi, rfl⟩ := List.mem_map.1 hrow
          exact (hg i (List.mem_range.1 hi)).2.2.1
        · obtain ⟨i, hi, rfl⟩ := List.mem_map.1 hrow
          exact (hg i (List.mem_range.1 hi)).2.2.2 y hy
    · rename_i fs hu
      simp only [Bool.and_eq_true, beq_iff_eq] at h
      obtain ⟨⟨hk, hoff⟩, hall⟩ := h
      obtain ⟨gs, hund, rfl⟩ := f.struct hu
      obtain ⟨xs, m, hfm, _, hcl, hxl, hfield⟩ := DataW.trod_struct hund hx
      rw [hk]
      rw [hcell t hok] at hcl
      have := reads_fields (X := X) (ρ := ρ) (w := w) (cs := cs) (gs.toList.map fun f => (f.offset, f.type)) 0 (Nat.zero_le _) (by rw [hcl]; exact hoff)
        (fun g hg => hlen _ (okof (List.all_eq_true.1 hall g hg))) (fun g hg => by
          have hrd := List.all_eq_true.1 hall g hg
          obtain ⟨q, hq, rfl⟩ := List.mem_map.1 hg
          obtain ⟨j, hj, hq⟩ := List.mem_iff_getElem.1 hq
          have hj' : gs[j]? = some q := by rw [← hq]; simp [Array.length_toList ▸ hj]
          have hf := hfield j q hj'
          rw [hcell _ (okof hrd)] at hf
          have hjx : j < xs.length := by rw [hxl]; simpa using hj
          rw [List.getElem?_eq_getElem hjx] at hf
          exact reads_of_trod hX hS n (by omega) hrd hf)
      simpa using this
    · rename_i m e hu
      simp only [Bool.and_eq_true, beq_iff_eq] at h
      obtain ⟨⟨hk, hrd⟩, hmul⟩ := h
      have hoke := okof hrd
      obtain ⟨xs, m', hfm, _, hcl, hxl, hread⟩ := DataW.trod_array (f.array hu) hx
      rw [hk]
      rw [hcell t hok] at hcl
      have := reads_elems (X := X) (ρ := ρ) (w := w) (cs := cs) (hlen e hoke) m 0 (by omega) (fun i hi => by
        have hf := hread i hi
        rw [hcell _ hoke, List.getElem?_eq_getElem (by omega)] at hf
        simpa using reads_of_trod hX hS n (by omega) hrd hf)
      simpa using this
    · cases h

end

/-- An argument of a type, as an abstract value. -/
def ArgAV (X : Cx) (t : TypeId) (x : AV) : Prop := ((X.ti t).u.agg = true ∧ ∃ row, x = .agg row ∧ koks (X.ti t).ks row = true ∧ WfL X.K row) ∨ ((X.ti t).u.agg = false ∧ koks (X.ti t).ks [x] = true ∧ Wf X.K x)

theorem argAV_of_trod (hX : X.Ok) {S : List TypeId} (hS : rdS X S = true) {w : World} {base : Nat} {ρ : List Hd} {H : Type} {enc : TypeId × Value → H} {t : TypeId} {v : Value} {d : DataW H} {ps : List MemPlace} (hrd : S.contains t = true) (h : DataW.Trod enc X.P w 0 (fun _ => true) true t v d ps)
    (hok : Value.okWide X.P w .any base t v) : ∃ x, ArgAV X t x ∧ Rep X.K ρ (there w) w x v := by
  obtain ⟨fuel, h⟩ := h
  obtain ⟨row, hr⟩ := reads_of_trod hX hS (ρ := ρ) (fuel + 1) (by omega) hrd h
  have hr1 := rd1_of hS hrd
  have hto : (X.ti t).ok = true := by
    simp only [rd1, Bool.and_eq_true] at hr1
    exact hr1.1
  obtain ⟨i, dd, z, f⟩ := hX.facts hto
  cases hag : (X.ti t).u.agg with
  | true =>
    have hv : ∃ cs, v = .agg cs := by
      unfold Value.okWide at hok
      rw [f.und] at hok
      rw [f.u] at hag
      cases dd <;> simp [tyOf, TyI.agg] at hag
      · obtain ⟨cs, h1, _⟩ := hok; exact ⟨cs, h1⟩
      · obtain ⟨cs, h1, _⟩ := hok; exact ⟨cs, h1⟩
    obtain ⟨cs, rfl⟩ := hv
    have hc : (Value.agg cs).cells.toList = cs.toList := rfl
    rw [hc] at hr
    refine ⟨.agg row, .inl ⟨hag, row, rfl, hr.2.1, hr.2.2⟩, ?_⟩
    have := Rep.agg (K := X.K) (ρ := ρ) (F := there w) (w := w) row cs.toList hr.1.1 hr.1.2
    simpa using this
  | false =>
    have hkl : (X.ti t).ks.length = 1 := by
      simp only [rd1, Bool.and_eq_true] at hr1
      have h2 := hr1.2
      split at h2
      · rename_i k hu
        have : (X.ti t).ks = [.int k] := by simpa using h2
        rw [this]; rfl
      · have : (X.ti t).ks = [.bool] := by simpa using h2
        rw [this]; rfl
      · have : (X.ti t).ks = [.str] := by simpa using h2
        rw [this]; rfl
      · simp only [Bool.and_eq_true, beq_iff_eq] at h2
        rw [h2.1.1]; rfl
      · rename_i hu; rw [hu] at hag; simp [TyI.agg] at hag
      · rename_i hu; rw [hu] at hag; simp [TyI.agg] at hag
      · cases h2
    have hrl := koks_length hr.2.1
    rw [hkl] at hrl
    obtain ⟨x, rfl⟩ := List.length_eq_one_iff.1 hrl
    have hcl : v.cells.toList.length = 1 := by rw [hr.1.1, hrl]
    have hv : v.cells.toList = [v] := by
      cases v with
      | agg cs =>
        exfalso
        unfold Value.okWide at hok
        rw [f.und] at hok
        rw [f.u] at hag
        cases dd <;> simp [tyOf, TyI.agg] at hag <;> simp [Cell.okWide, Cell.ok, f.und] at hok
      | _ => rfl
    rw [hv] at hr
    exact ⟨x, .inr ⟨hag, hr.2.1, hr.2.2 x (by simp)⟩, hr.1.2 0 x v rfl rfl⟩

/-! ### A law's row -/

theorem below_of_inv {w0 w : World} {F : Addr → Prop} {ρ : List Hd} {M : List Blk} {F0 : Addr → Prop} (hI : Inv X w0 ⟨fun _ => False, F0⟩ F ρ M w) : Below w0.heap.size w0 w :=
  ⟨hI.os, hI.tape, hI.output, hI.size, fun k hk => hI.frame k hk (fun h => h)⟩

theorem kept_of_below {w w' : World} (h : Below w.heap.size w w') (may : MemPlace → Prop) : w.keptBut w' may := by
  refine ⟨h.os, h.output, fun i hi => ?_⟩
  rw [h.block i hi]
  exact (World.keptBut_refl w may).2.2 i hi

theorem inv_start (hX : X.Ok) (w : World) (hg : ∀ g, Rep X.K [] (there w) w (X.glob g) (.pointer (some ⟨g, 0, none⟩))) : Inv X w ⟨fun _ => False, there w⟩ (there w) [] [] w where
  os := rfl
  tape := rfl
  output := rfl
  size := Nat.le_refl _
  frame := fun _ _ _ => rfl
  len := rfl
  rep := fun id b hd hb _ => by simp at hb
  sep := fun id b hd g hb _ _ _ => by simp at hb
  disj := fun id id' b b' hd hd' g _ hb _ _ _ _ _ _ => by simp at hb
  fz := fun a ha => ha
  glob := hg
  one := fun id hd hh => by simp at hh
  old := fun a ha => .inl ha
  fin := fun a ha => ha

def ArgsAV (X : Cx) : List TypeId → List AV → Prop
  | [], [] => True
  | t :: ts, x :: xs => ArgAV X t x ∧ ArgsAV X ts xs
  | _, _ => False

theorem argsAV_of_trod (hX : X.Ok) {S : List TypeId} (hS : rdS X S = true) {w : World} {base : Nat} {ρ : List Hd} {H : Type} {enc : TypeId × Value → H} : ∀ {ts : List TypeId} {vs : List Value} {ds : List (DataW H)} {ps : List MemPlace}, (ts.all S.contains) = true →
    DataW.TrodAll enc X.P w 0 (fun _ => true) true ts vs ds ps → (∀ (j : Nat) t v, ts[j]? = some t → vs[j]? = some v → Value.okWide X.P w .any base t v) → ∃ xs, ArgsAV X ts xs ∧ RepL X.K ρ (there w) w xs vs
  | [], [], [], ps, _, _, _ => ⟨[], trivial, by simp [RepL]⟩
  | t :: ts, v :: vs, d :: ds, ps, hrd, h, hok => by
    obtain ⟨p, q, h1, h2, _⟩ := h
    simp only [List.all_cons, Bool.and_eq_true] at hrd
    obtain ⟨x, hx, hr⟩ := argAV_of_trod hX hS (ρ := ρ) hrd.1 h1 (hok 0 t v rfl rfl)
    obtain ⟨xs, hxs, hrs⟩ := argsAV_of_trod hX hS (ρ := ρ) (ts := ts) (vs := vs) hrd.2 h2 (fun j t' v' ht hv => hok (j + 1) t' v' (by simpa using ht) (by simpa using hv))
    refine ⟨x :: xs, ⟨hx, hxs⟩, by simp [hrs.1], fun j y u hy hu => ?_⟩
    cases j with
    | zero => simp at hy hu; subst hy; subst hu; exact hr
    | succ j => simp at hy hu; exact hrs.2 j y u hy hu
  | [], [], _ :: _, _, _, h, _ => by simp [DataW.TrodAll] at h
  | [], _ :: _, _, _, _, h, _ => by simp [DataW.TrodAll] at h
  | _ :: _, [], _, _, _, h, _ => by simp [DataW.TrodAll] at h
  | _ :: _, _ :: _, [], _, _, h, _ => by simp [DataW.TrodAll] at h

theorem trodAll_behind {P : Program} {H : Type} {enc : TypeId × Value → H} (hl : laidOutB P = true) {w w' : World} (hb : Below w.heap.size w w') : ∀ {ts : List TypeId} {vs : List Value} {ds : List (DataW H)} {ps : List MemPlace}, (ts.all fun t => P.readableRec t && Nat.blt t P.types.size) = true →
    DataW.TrodAll enc P w 0 (fun _ => true) true ts vs ds ps → (∀ x ∈ ps, x.block < w.heap.size) → DataW.TrodAll enc P w' 0 (fun b => decide (b < w.heap.size)) true ts vs ds ps
  | [], [], [], ps, _, h, _ => h
  | t :: ts, v :: vs, d :: ds, ps, hrd, h, hlt => by
    obtain ⟨p, q, h1, h2, rfl⟩ := h
    simp only [List.all_cons, Bool.and_eq_true] at hrd
    exact ⟨p, q, Below.trod hl hrd.1.1 (by simpa using hrd.1.2) h1 hb (fun x hx => hlt x (by simp [hx])), trodAll_behind hl hb (ts := ts) (vs := vs) hrd.2 h2 (fun x hx => hlt x (by simp [hx])), rfl⟩
  | [], [], _ :: _, _, _, h, _ => by simp [DataW.TrodAll] at h
  | [], _ :: _, _, _, _, h, _ => by simp [DataW.TrodAll] at h
  | _ :: _, [], _, _, _, h, _ => by simp [DataW.TrodAll] at h
  | _ :: _, _ :: _, [], _, _, h, _ => by simp [DataW.TrodAll] at h

/-- The cells of a variable of the package that holds an array of numbers. -/
theorem rep_table {w : World} {t : TypeId} {row : Row} {g : Nat} (hk : koks (X.K t) row = true) (hc : ∀ j x, row[j]? = some x → ∃ k n, x = .int k n ∧ w.cell? ⟨g, j, none⟩ = some (.int k n)) (hb : g < w.heap.size) : Rep X.K [] (there w) w (.iptr t row 0) (.pointer (some ⟨g, 0, none⟩)) := by
  have hv : ∀ (j : Nat) v, (row.map fun x => match x with | .int k n => Value.int k n | _ => .bool false)[j]? = some v → ∃ k n, row[j]? = some (.int k n) ∧ v = .int k n := by
    intro j v hj
    rw [List.getElem?_map] at hj
    cases hx : row[j]? with
    | none => rw [hx] at hj; cases hj
    | some x =>
      obtain ⟨k, n, rfl, _⟩ := hc j x hx
      rw [hx] at hj
      exact ⟨k, n, rfl, by simpa using hj.symm⟩
  have := Rep.iptr (K := X.K) (ρ := []) (F := there w) (w := w) t row 0 ⟨g, 0, none⟩ (row.map fun x => match x with | .int k n => Value.int k n | _ => .bool false) hk (by simp) (fun j v hj => by
      obtain ⟨k, n, hr, rfl⟩ := hv j v hj
      obtain ⟨k', n', e, h⟩ := hc j _ hr
      cases e
      have e : (⟨g, 0, none⟩ : Addr).add j = ⟨g, j, none⟩ := by
        unfold Addr.add
        by_cases hj0 : j = 0
        · subst hj0; simp
        · simp [hj0]
      rw [e]
      exact ⟨h, hb⟩) (fun j x v hx hj => by
      obtain ⟨k, n, hr, rfl⟩ := hv j v hj
      rw [hx] at hr
      cases hr
      exact .int k n)
  simpa [Addr.add] using this

/-- What a law's row asks of the function: from its contract at all that can be read. -/
theorem law_contract' (hX : X.Ok) (hl : laidOutB X.P = true) {f : FuncId} {fn : Func} {s : ChangeSpec} {ts : List TypeId} {tb : TypeId} (hts : fn.params.toList = ts) (hrt : fn.resultTypes = #[tb]) (htb : X.P.underlying tb = some .bool)
    {S : List TypeId} (hS : rdS X S = true) (hrd : (ts.all S.contains) = true) (hrr : (ts.all fun t => X.P.readableRec t && Nat.blt t X.P.types.size) = true) (hv : s.vars = []) {H : Type} {enc : TypeId × Value → H}
    (hs : ∀ ds : List (DataW H), ds.length = ts.length → s.fn H ds = { results := [.lit (.bool true)], args := ds })
    (hlaw : ∀ xs, ArgsAV X ts xs → ∃ m M', FCalls X f m xs [] (.bool true) M')
    (W : World) (hg : ∀ g, Rep X.K [] (there W) W (X.glob g) (.pointer (some ⟨g, 0, none⟩))) (base : Nat) (args : Array Value) (ds gs : List (DataW H)) (before : List MemPlace) (hval : ∀ (j : Nat) t v, fn.params[j]? = some t → args[j]? = some v → Value.okWide X.P W .any base t v)
    (hW : DataW.Whole enc X.P fn.params.toList s.vars false W args.toList ds gs before) :
    Calls X.P f args W fun e W' => ∃ v, e = .returned v ∧ s.post enc X.P fn false true false false W args v W' := by
  have hW' := hW
  obtain ⟨p, q, hA, hV, hpq, hfz, hnd⟩ := hW
  rw [hv] at hV
  obtain ⟨rfl, rfl⟩ := trodVars_none hV
  rw [List.append_nil] at hpq
  have hpq' : p = before := hpq.symm
  subst hpq'
  have hA0 := hA
  rw [hts] at hA
  have hlen : ds.length = ts.length := by
    have : ∀ (ts : List TypeId) (vs : List Value) (ds : List (DataW H)) (ps : List MemPlace), DataW.TrodAll enc X.P W 0 (fun _ => true) true ts vs ds ps → ds.length = ts.length := by
      intro ts
      induction ts with
      | nil => intro vs ds ps h; cases vs <;> cases ds <;> simp_all [DataW.TrodAll]
      | cons t ts ih =>
        intro vs ds ps h
        cases vs with
        | nil => cases ds <;> simp [DataW.TrodAll] at h
        | cons v vs =>
          cases ds with
          | nil => simp [DataW.TrodAll] at h
          | cons d ds => obtain ⟨_, _, _, h2, _⟩ := h; simp [ih _ _ _ h2]
    exact this _ _ _ _ hA
  obtain ⟨xs, hxs, hrep⟩ := argsAV_of_trod hX hS (ρ := []) hrd hA (fun j t v ht hv => hval j t v (by rw [← hts] at ht; simpa using ht) (by simpa using hv))
  obtain ⟨m, M', hcall⟩ := hlaw xs hxs
  have := hcall (inv_start hX W hg) hrep
  refine this.mono ?_
  rintro e W' ⟨v, ρ', F', rfl, hI, _, hr⟩
  refine ⟨v, rfl, ?_⟩
  cases hr
  have hb := below_of_inv hI
  have hlt : ∀ x ∈ p, x.block < W.heap.size := fun x hx => by simpa using hW'.lt x hx
  have hfn : s.fn H (ds ++ []) = { results := [.lit (.bool true)], args := ds } := by rw [List.append_nil]; exact hs ds hlen
  refine ⟨ds, [], p, [], p, [], hW', ?_, ?_, ?_, kept_of_below hb _, fun h => by cases h⟩
  · rw [hfn, hrt]
    exact trodAll_mk1 (shut_bool htb true)
  · rw [hfn]
    rw [hts]
    exact trodAll_behind hl hb hrr hA hlt
  · rw [hfn, hv]; exact rfl

theorem law_contract (hX : X.Ok) (hg : ∀ g, X.glob g = .top) (hl : laidOutB X.P = true) {f : FuncId} {fn : Func} {s : ChangeSpec} {ts : List TypeId} {tb : TypeId} (hts : fn.params.toList = ts) (hrt : fn.resultTypes = #[tb]) (htb : X.P.underlying tb = some .bool)
    {S : List TypeId} (hS : rdS X S = true) (hrd : (ts.all S.contains) = true) (hrr : (ts.all fun t => X.P.readableRec t && Nat.blt t X.P.types.size) = true) (hv : s.vars = []) {H : Type} {enc : TypeId × Value → H}
    (hs : ∀ ds : List (DataW H), ds.length = ts.length → s.fn H ds = { results := [.lit (.bool true)], args := ds })
    (hlaw : ∀ xs, ArgsAV X ts xs → ∃ m M', FCalls X f m xs [] (.bool true) M')
    (W : World) (base : Nat) (args : Array Value) (ds gs : List (DataW H)) (before : List MemPlace) (hval : ∀ (j : Nat) t v, fn.params[j]? = some t → args[j]? = some v → Value.okWide X.P W .any base t v)
    (hW : DataW.Whole enc X.P fn.params.toList s.vars false W args.toList ds gs before) :
    Calls X.P f args W fun e W' => ∃ v, e = .returned v ∧ s.post enc X.P fn false true false false W args v W' :=
  law_contract' hX hl hts hrt htb hS hrd hrr hv hs hlaw W (fun g => by rw [hg]; exact .top _) base args ds gs before hval hW

end
end Go.Eng

namespace Go.Eng
open Go Go.ChangeShapes Go.WideShapes Go.ChangeAt Go.RowKit
noncomputable section

variable {X : Cx} {R : Type}

/-- A function: code, number of temporaries, results. -/
structure FI where
  c : Code
  nt : Nt
  rs : List ResultVar

def FiOk (X : Cx) (f : Nat) (fi : FI) : Prop := ∃ fn, X.P.funcs[f]? = some fn ∧ fn.body = some fi.c ∧ fn.ntmps = fi.nt.n ∧ fn.results.toList = fi.rs ∧ ∀ (vs : Array Value) (w : World), (callFunc f vs).run X.P w = .ok (.enter f vs) w

def pickF : List (Nat × FI) → Nat → Option FI
  | [], _ => none
  | e :: es, f => match Nat.beq f e.1 with | true => some e.2 | false => pickF es f
theorem pickF_ok {I : List (Nat × FI)} (h : AllE (fun e => FiOk X e.1 e.2) I) {f : Nat} {fi : FI} (hf : pickF I f = some fi) : FiOk X f fi := by
  induction I with
  | nil => cases hf
  | cons e es ih =>
    simp only [pickF] at hf
    cases hb : Nat.beq f e.1 with
    | true =>
      rw [hb] at hf
      injection hf with hf
      subst hf
      have := Nat.eq_of_beq_eq_true hb
      subst this
      exact h.1
    | false => rw [hb] at hf; exact ih h.2 hf

/-- The way to a place, from its number. -/
def decP : Nat → Nat → List Bool
  | 0, _ => []
  | n + 1, p => match Nat.ble p 1 with | true => [] | false => (Nat.beq (p % 2) 1) :: decP n (p / 2)
/-- What stands at a place. -/
def codeOf (root : Code) (p : Nat) : Option Code := match Nat.beq (enc (decP p.log2.succ.succ p)) p with | true => codeAt root (decP p.log2.succ.succ p) | false => none
theorem codeOf_at {root c d : Code} {p : Nat} (h : codeOf root p = some d) (hat : At root p c) : d = c := by
  unfold codeOf at h
  split at h
  · rename_i hb
    have := hat.det _ (Nat.eq_of_beq_eq_true hb)
    rw [h] at this
    injection this
  · cases h

/-- Only the newest value of each temporary. -/
def trm (env : List (Nat × AV)) : Nat → List (Nat × AV) → (List (Nat × AV) → Option R) → Option R :=
  List.rec (motive := fun _ => Nat → List (Nat × AV) → (List (Nat × AV) → Option R) → Option R) (fun _ acc k => k acc)
    (fun p _ ih seen acc k => Bool.rec (motive := fun _ => Option R) (ih (Nat.lor seen (Nat.shiftLeft 1 p.1)) (p :: acc) k) (ih seen acc k) (Nat.beq (Nat.land (Nat.shiftRight seen p.1) 1) 1)) env
theorem look_cons' (p : Nat × AV) (env : List (Nat × AV)) (u : Nat) : look (p :: env) u = if u == p.1 then p.2 else look env u := look_cons p.1 p.2 env u
theorem lor_bit (seen p t : Nat) : (Nat.lor seen (Nat.shiftLeft 1 p)).testBit t = (seen.testBit t || t == p) := by
  show (seen ||| (1 <<< p)).testBit t = _
  rw [Nat.testBit_or, Nat.one_shiftLeft, Nat.testBit_two_pow]
  congr 1
  by_cases h : p = t
  · subst h; simp
  · simp [h, Ne.symm h]
/-- What is kept says the same. -/
theorem trm_spec : ∀ (env : List (Nat × AV)) (seen : Nat) (acc : List (Nat × AV)) (k : List (Nat × AV) → Option R), (∀ t, seen.testBit t = false → look acc t = .top) →
    ∃ out, trm env seen acc k = k out ∧ ∀ t, look out t = .top ∨ look out t = (if seen.testBit t then look acc t else look env t)
  | [], seen, acc, k, h => ⟨acc, rfl, fun t => by
    cases hs : seen.testBit t with
    | true => exact .inr (by simp)
    | false => exact .inl (h t hs)⟩
  | p :: env, seen, acc, k, h => by
    cases hb : seen.testBit p.1 with
    | true =>
      obtain ⟨out, h1, h2⟩ := trm_spec env seen acc k h
      refine ⟨out, ?_, fun t => ?_⟩
      · rw [← h1]
        show Bool.rec (motive := fun _ => Option R) _ (trm env seen acc k) (Nat.beq (Nat.land (Nat.shiftRight seen p.1) 1) 1) = _
        rw [bit_eq, hb]
      · rcases h2 t with h2 | h2
        · exact .inl h2
        · refine .inr ?_
          rw [h2]
          by_cases ht : seen.testBit t = true
          · simp [ht]
          · have hne : t ≠ p.1 := fun e => ht (e ▸ hb)
            simp [ht, look_cons', hne]
    | false =>
      obtain ⟨out, h1, h2⟩ := trm_spec env (Nat.lor seen (Nat.shiftLeft 1 p.1)) (p :: acc) k (fun t ht => by
        rw [lor_bit] at ht
        rw [Bool.or_eq_false_iff] at ht
        have hne : t ≠ p.1 := by simpa using ht.2
        rw [look_cons']
        simp [hne, h t ht.1])
      refine ⟨out, ?_, fun t => ?_⟩
      · rw [← h1]
        show Bool.rec (motive := fun _ => Option R) (trm env (Nat.lor seen (Nat.shiftLeft 1 p.1)) (p :: acc) k) _ (Nat.beq (Nat.land (Nat.shiftRight seen p.1) 1) 1) = _
        rw [bit_eq, hb]
      · rcases h2 t with h2 | h2
        · exact .inl h2
        · refine .inr ?_
          rw [h2, lor_bit]
          by_cases hne : t = p.1
          · subst hne
            simp [hb, look_cons']
          · simp [look_cons', hne]
/-! New blocks that nothing names are given up when a call returns. -/

def allB {α : Type} (f : α → Bool) (l : List α) : Bool := List.rec (motive := fun _ => Bool) true (fun x _ ih => Bool.rec (motive := fun _ => Bool) false ih (f x)) l
theorem allB_mem {α : Type} {f : α → Bool} : ∀ {l : List α}, allB f l = true → ∀ x ∈ l, f x = true
  | [], _, x, hx => by simp at hx
  | y :: l, h, x, hx => by
    have h' : Bool.rec (motive := fun _ => Bool) false (allB f l) (f y) = true := h
    cases hy : f y with
    | false => rw [hy] at h'; cases h'
    | true =>
      rw [hy] at h'
      rcases List.mem_cons.1 hx with rfl | hx
      · exact hy
      · exact allB_mem h' x hx
/-- Names no block from n on. -/
def bd0 (n : Nat) (x : AV) : Bool :=
  match x with
  | .int _ _ => true
  | .bool _ => true
  | .str _ => true
  | .nilp => true
  | .nilsl => true
  | .nilfn => true
  | .nilmp => true
  | .top => true
  | .ptr id _ _ => Nat.ble (Nat.succ id) n
  | .own id => Nat.ble (Nat.succ id) n
  | .yld id => Nat.ble (Nat.succ id) n
  | .mp id => Nat.ble (Nat.succ id) n
  | .vsl id _ => Nat.ble (Nat.succ id) n
  | _ => false
def bd1 (n : Nat) (x : AV) : Bool :=
  match x with
  | .agg cs => allB (bd0 n) cs
  | .clos _ a b => allB (bd0 n) a && allB (bd0 n) b
  | x => bd0 n x
def bd2 (n : Nat) (x : AV) : Bool :=
  match x with
  | .tup cs => allB (bd1 n) cs
  | x => bd1 n x
def bdB (n : Nat) (b : Blk) : Bool :=
  match b with
  | .var _ cs => allB (bd1 n) cs
  | .row _ xs => allB (allB (bd1 n)) xs
  | .map _ _ _ es => allB (fun e => bd1 n e.1 && bd1 n e.2) es
  | .loop _ env _ _ => allB (fun p => bd1 n p.2) env
  | .dfr => true
  | .dead => true
  | .fro _ _ => false

section
variable {w : World} {F : Addr → Prop} {ρ : List Hd} {n : Nat}
theorem take_get {α : Type} {l : List α} {n id : Nat} (hid : Nat.ble (Nat.succ id) n = true) {x : α} (h : l[id]? = some x) : (l.take n)[id]? = some x := by
  have := Nat.le_of_ble_eq_true hid
  rw [List.getElem?_take, if_pos (by omega)]; exact h
theorem Rep.bd0 {K : TypeId → List Kind} {x : AV} {v : Value} (h : Rep K ρ F w x v) (hb : bd0 n x = true) : Rep K (ρ.take n) F w x v := by
  cases h <;> simp only [Eng.bd0, Bool.false_eq_true] at hb <;> first
    | exact .top _
    | exact .int _ _
    | exact .bool _
    | exact .str _
    | exact .nilp
    | exact .nilsl
    | exact .nilfn
    | exact .nilmp
    | skip
  · rename_i id i off hd g o m c hid hv; exact .ptr id i off hd g o m c (take_get hb hid) hv
  · rename_i id hd hid; exact .own id hd (take_get hb hid)
  · rename_i id hd g hid hv; exact .yld id hd g (take_get hb hid) hv
  · rename_i id hd hid; exact .mp id hd (take_get hb hid)
  · rename_i id m hd g o k c cap hid hv; exact .vsl id m hd g o k c cap (take_get hb hid) hv
theorem RepL.bd {K : TypeId → List Kind} {xs : List AV} {vs : List Value} (h : RepL K ρ F w xs vs) {f : AV → Bool} (hf : ∀ {x v}, Rep K ρ F w x v → f x = true → Rep K (ρ.take n) F w x v) (hb : allB f xs = true) : RepL K (ρ.take n) F w xs vs :=
  ⟨h.1, fun j x v hx hv => hf (h.2 j x v hx hv) (allB_mem hb x (List.mem_of_getElem? hx))⟩
theorem Rep.bd1 {K : TypeId → List Kind} {x : AV} {v : Value} (h : Rep K ρ F w x v) (hb : bd1 n x = true) : Rep K (ρ.take n) F w x v := by
  unfold Eng.bd1 at hb
  split at hb
  · cases h with
    | agg cs vs hl hc => exact .agg _ _ hl (RepL.bd (vs := vs) ⟨hl, hc⟩ (fun h hb => Rep.bd0 h hb) hb).2
  · rw [Bool.and_eq_true] at hb
    cases h with
    | clos f a b vf vc hf hc h1 h2 => exact .clos _ _ _ _ _ hf hc (RepL.bd (vs := vf) ⟨hf, h1⟩ (fun h hb => Rep.bd0 h hb) hb.1).2 (RepL.bd (vs := vc) ⟨hc, h2⟩ (fun h hb => Rep.bd0 h hb) hb.2).2
  · exact h.bd0 hb
theorem Rep.bd2 {K : TypeId → List Kind} {x : AV} {v : Value} (h : Rep K ρ F w x v) (hb : bd2 n x = true) : Rep K (ρ.take n) F w x v := by
  unfold Eng.bd2 at hb
  split at hb
  · cases h with
    | tup cs vs hl hc => exact .tup _ _ hl (RepL.bd (vs := vs) ⟨hl, hc⟩ (fun h hb => Rep.bd1 h hb) hb).2
  · exact h.bd1 hb
theorem look_bd {env : List (Nat × AV)} (hb : allB (fun p => bd1 n p.2) env = true) (t : Nat) : look env t = .top ∨ bd1 n (look env t) = true := by
  induction env with
  | nil => exact .inl rfl
  | cons p env ih =>
    have h1 := allB_mem hb p List.mem_cons_self
    have h2 : allB (fun p : Nat × AV => bd1 n p.2) env = true := by
      have h' : Bool.rec (motive := fun _ => Bool) false (allB (fun p : Nat × AV => bd1 n p.2) env) (bd1 n p.2) = true := hb
      rw [h1] at h'
      exact h'
    obtain ⟨u, x⟩ := p
    rw [look_cons]
    split
    · exact .inr h1
    · exact ih h2
theorem BRep.bd {hd : Hd} {b : Blk} (h : BRep X ρ F w hd b) (hb : bdB n b = true) : BRep X (ρ.take n) F w hd b := by
  cases b with
  | var ks cs =>
    obtain ⟨h1, h2, g, cur, e, h3, h4, h5⟩ := h
    exact ⟨h1, h2, g, cur, e, h3, h4, h5.bd (fun h hb => Rep.bd1 h hb) hb⟩
  | row t xs =>
    obtain ⟨h1, h2, h3⟩ := h
    refine ⟨h1, h2, ?_⟩
    rcases h3 with h3 | ⟨g, o, c, cur, e1, e2, e3, e4, e5, e6⟩
    · exact .inl h3
    · refine .inr ⟨g, o, c, cur, e1, e2, e3, e4, e5, fun i row hi j x hx => ?_⟩
      obtain ⟨v, hv, hr⟩ := e6 i row hi j x hx
      exact ⟨v, hv, hr.bd1 (allB_mem (allB_mem hb row (List.mem_of_getElem? hi)) x (List.mem_of_getElem? hx))⟩
  | map kd ag ks es =>
    obtain ⟨h0, g, mes, clock, h1, h2, h3, h4⟩ := h
    refine ⟨h0, g, mes, clock, h1, h2, h3, fun i e me he hm => ?_⟩
    obtain ⟨h5, h6, h7⟩ := h4 i e me he hm
    have := allB_mem hb e (List.mem_of_getElem? he)
    rw [Bool.and_eq_true] at this
    exact ⟨h5, h6.bd1 this.1, h7.bd1 this.2⟩
  | loop s env busy pend =>
    obtain ⟨g, lp, h1, h2, h3, h4, h5, h6, h7, h8⟩ := h
    refine ⟨g, lp, h1, h2, h3, h4, h5, h6, fun t => ?_, h8⟩
    rcases look_bd hb t with e | e
    · rw [e]; exact .top _
    · exact (h7 t).bd1 e
  | dfr => exact h
  | fro t xs => simp [bdB] at hb
  | dead => trivial
/-- The package's variables name no block. -/
def GlobFree (X : Cx) : Prop := ∀ (g : Nat) {ρ ρ' : List Hd} {F : Addr → Prop} {w : World} {v : Value}, Rep X.K ρ F w (X.glob g) v → Rep X.K ρ' F w (X.glob g) v
theorem Inv.cut (hG : GlobFree X) {w0 : World} {S : Sc} {M : List Blk} (hI : Inv X w0 S F ρ M w) (hb : allB (bdB n) (M.take n) = true) : Inv X w0 S F (ρ.take n) (M.take n) w := by
  have tk : ∀ {α : Type} {l : List α} {i : Nat} {x : α}, (l.take n)[i]? = some x → l[i]? = some x := by
    intro α l i x h
    rw [List.getElem?_take] at h
    split at h
    · exact h
    · cases h
  exact {
    os := hI.os, tape := hI.tape, output := hI.output, size := hI.size, frame := hI.frame
    len := by rw [List.length_take, List.length_take, hI.len]
    rep := fun id b hd h1 h2 => (hI.rep id b hd (tk h1) (tk h2)).bd (allB_mem hb b (List.mem_of_getElem? h1))
    sep := fun id b hd g h1 h2 h3 => hI.sep id b hd g (tk h1) h2 (tk h3)
    disj := fun id id' b b' hd hd' g hne h1 h2 h3 h4 h5 h6 => hI.disj id id' b b' hd hd' g hne (tk h1) (tk h2) h3 h4 (tk h5) (tk h6)
    fz := hI.fz
    glob := fun g => hG g (hI.glob g)
    one := fun id hd h => hI.one id hd (tk h)
    old := hI.old, fin := hI.fin }
theorem ACalls.cut (hG : GlobFree X) {f : FuncId} {args : List AV} {M M' : List Blk} {x : AV} (h : ACalls X f args M x M') (hx : bd2 M.length x = true) (hb : allB (bdB M.length) (M'.take M.length) = true) : ACalls X f args M x (M'.take M.length) := by
  refine ⟨h.1, fun {w0 S F ρ w vs} hI hr => (h.2 hI hr).mono ?_⟩
  rintro e w' ⟨v, ρ', F', rfl, hI', hg, hr'⟩
  refine ⟨v, ρ'.take M.length, F', rfl, hI'.cut hG hb, ⟨hg.hF, fun id hd hh => ?_, hg.hb⟩, hr'.bd2 hx⟩
  have hlt : id < ρ.length := (List.getElem?_eq_some_iff.1 hh).1
  rw [hI.len] at hlt
  rw [List.getElem?_take, if_pos hlt]
  exact hg.hρ id hd hh
end
/-- Behind a call: what is new and named by nothing is left out. -/
def cutM (n : Nat) (x : AV) (M : List Blk) (k : List Blk → Option R) : Option R :=
  match Nat.beq n M.length with
  | true => k M
  | false => fzL (fun b k => k b) (M.take n) fun M1 => match bd2 n x && allB (bdB n) M1 with | true => k M1 | false => k M
theorem cutM_some (hG : GlobFree X) {f : FuncId} {args : List AV} {M M' : List Blk} {x : AV} (h : ACalls X f args M x M') {k : List Blk → Option R} {r : R} (hk : cutM M.length x M' k = some r) : ∃ M2, ACalls X f args M x M2 ∧ k M2 = some r := by
  unfold cutM at hk
  split at hk
  · exact ⟨M', h, hk⟩
  · rw [fzL_eq (fun _ _ => rfl)] at hk
    split at hk
    · rename_i hb
      rw [Bool.and_eq_true] at hb
      exact ⟨_, h.cut hG hb.1 hb.2, hk⟩
    · exact ⟨M', h, hk⟩

/-! Loops: behind each round the temporaries that nobody reads any more are forgotten, and then the new blocks that nothing names. -/

def tidy (m dead : Nat) (st : St) (k : St → Option R) : Option R :=
  trm st.env dead [] fun env =>
    match Nat.beq m st.mem.length with
    | true => k { st with env := env }
    | false => fzL (fun b k => k b) (st.mem.take m) fun M1 =>
      match allB (fun p => bd1 m p.2) env && allB (bdB m) M1 with
      | true => k { st with env := env, mem := M1 }
      | false => k { st with env := env }
theorem tidy_some (hG : GlobFree X) {m dead : Nat} {st : St} {k : St → Option R} {r : R} (h : tidy m dead st k = some r) : ∃ st', k st' = some r ∧
    ∀ {nt : Nt} {rdc : Cy} {w0 : World} {S : Sc} {F : Addr → Prop} {ρ : List Hd} {a : Act} {w : World}, Inv X w0 S F ρ st.mem w → Sim X nt st rdc F ρ a w → ∃ ρ', Inv X w0 S F ρ' st'.mem w ∧ Sim X nt st' rdc F ρ' a w ∧ GrowF m F F ρ ρ' w w := by
  obtain ⟨out, h1, h2⟩ := trm_spec (R := R) st.env dead [] (fun env =>
    match Nat.beq m st.mem.length with
    | true => k { st with env := env }
    | false => fzL (fun b k => k b) (st.mem.take m) fun M1 =>
      match allB (fun p => bd1 m p.2) env && allB (bdB m) M1 with
      | true => k { st with env := env, mem := M1 }
      | false => k { st with env := env }) (fun t _ => rfl)
  unfold tidy at h
  rw [h1] at h
  have henv : ∀ {F : Addr → Prop} {ρ : List Hd} {a : Act} {w : World}, EnvRep X ρ F w st.env a.tmps → EnvRep X ρ F w out a.tmps := by
    intro F ρ a w he t
    rcases h2 t with e | e
    · rw [e]; exact .top _
    · rw [e]
      split
      · exact .top _
      · exact he t
  have gr : ∀ {F : Addr → Prop} {ρ : List Hd} {w : World}, GrowF m F F ρ ρ w w := ⟨fun _ h => h, fun _ _ _ h => h, fun _ _ => rfl⟩
  have plain : k { st with env := out } = some r → ∃ st', k st' = some r ∧
      ∀ {nt : Nt} {rdc : Cy} {w0 : World} {S : Sc} {F : Addr → Prop} {ρ : List Hd} {a : Act} {w : World}, Inv X w0 S F ρ st.mem w → Sim X nt st rdc F ρ a w → ∃ ρ', Inv X w0 S F ρ' st'.mem w ∧ Sim X nt st' rdc F ρ' a w ∧ GrowF m F F ρ ρ' w w :=
    fun h => ⟨_, h, fun {nt rdc w0 S F ρ a w} hI hs => ⟨ρ, hI, ⟨henv hs.env, hs.size, hs.defs, hs.rd, hs.kept⟩, gr⟩⟩
  split at h
  · exact plain h
  · rw [fzL_eq (fun _ _ => rfl)] at h
    split at h
    · rename_i hb
      rw [Bool.and_eq_true] at hb
      refine ⟨_, h, fun {nt rdc w0 S F ρ a w} hI hs => ⟨ρ.take m, hI.cut hG hb.2, ⟨fun t => ?_, hs.size, hs.defs, hs.rd, hs.kept⟩, fun _ h => h, fun id hd hlt hh => by rw [List.getElem?_take, if_pos hlt]; exact hh, fun _ _ => rfl⟩⟩
      show Rep X.K (ρ.take m) F w (look out t) _
      rcases look_bd hb.1 t with e | e
      · rw [e]; exact .top _
      · exact (henv hs.env t).bd1 e
    · exact plain h
/-- A loop, round by round in place. -/
def unrollC (X : Cx) (L : LTab R) (c : Code) (p m dead : Nat) : Nat → St → (Ex → St → Option R) → Option R
  | 0, _, _ => none
  | n + 1, st, k => evk X L c p st fun e st' => tidy m dead st' fun st' => match e with | .normal => unrollC X L c p m dead n st' k | .exit i => k (.exit i) st' | .ret => k .ret st'
theorem unrollC_sound (hX : X.Okb) (hG : GlobFree X) {root c : Code} {p m dead : Nat} {L : LTab R} (hL : L.Ok X root) (hat : At root p (.loop c)) : ∀ (fuel : Nat) {st : St} {k : Ex → St → Option R} {r : R}, unrollC X L c (2 * p) m dead fuel st k = some r →
    ∃ e st', k e st' = some r ∧ ∀ {rdc : Cy} {n : Nat} {w0 : World} {S : Sc} {F : Addr → Prop} {ρ : List Hd} {a : Act} {w : World} {Q : Exit → Act → World → Prop}, Inv X w0 S F ρ st.mem w → Sim X L.tab.nt st rdc F ρ a w →
      (∀ a' w' F' ρ', Inv X w0 S F' ρ' st'.mem w' → Sim X L.tab.nt st' rdc F' ρ' a' w' → GrowF m F F' ρ ρ' w w' → Q (Ex.exit' e) a' w') → Code.roundsIn (fen rdc.r) n X.P c Q fuel a w
  | 0, st, k, r, h => by cases h
  | fuel + 1, st, k, r, h => by
    simp only [unrollC] at h
    obtain ⟨e, st1, hrun, h⟩ := evk_sound hX hL c (hat.down false fun l hl => by simp [codeAt, hl]) h
    obtain ⟨st2, h, htd⟩ := tidy_some hG h
    cases e with
    | normal =>
      obtain ⟨e', st', hk, hr⟩ := unrollC_sound hX hG hL hat fuel h
      refine ⟨e', st', hk, fun {rdc n w0 S F ρ a w Q} hI hs hq => ?_⟩
      rw [roundsIn_succ]
      refine hrun hI hs fun a' w' F' ρ' hI' hs' hg => ?_
      obtain ⟨ρ2, hI2, hs2, hg2⟩ := htd hI' hs'
      exact hr hI2 hs2 fun a'' w'' F'' ρ'' hI'' hs'' hg'' => hq a'' w'' F'' ρ'' hI'' hs'' (((hg.toF m).trans hg2).trans hg'')
    | exit i =>
      refine ⟨.exit i, st2, h, fun {rdc n w0 S F ρ a w Q} hI hs hq => ?_⟩
      rw [roundsIn_succ]
      refine hrun hI hs fun a' w' F' ρ' hI' hs' hg => ?_
      obtain ⟨ρ2, hI2, hs2, hg2⟩ := htd hI' hs'
      exact hq a' w' F' ρ2 hI2 hs2 ((hg.toF m).trans hg2)
    | ret =>
      refine ⟨.ret, st2, h, fun {rdc n w0 S F ρ a w Q} hI hs hq => ?_⟩
      rw [roundsIn_succ]
      refine hrun hI hs fun a' w' F' ρ' hI' hs' hg => ?_
      obtain ⟨ρ2, hI2, hs2, hg2⟩ := htd hI' hs'
      exact hq a' w' F' ρ2 hI2 hs2 ((hg.toF m).trans hg2)
theorem GrowF.whole {F F' : Addr → Prop} {ρ ρ' : List Hd} {w w' : World} {m : Nat} (h : GrowF m F F' ρ ρ' w w') (hl : ρ.length = m) : Grow F F' ρ ρ' w w' :=
  ⟨h.hF, fun id hd hh => h.hρ id hd (by rw [← hl]; exact (List.getElem?_eq_some_iff.1 hh).1) hh, h.hb⟩
/-- Which temporaries are not read again behind a round of a loop. -/
def deadOf : List (Nat × Nat × Nat) → Nat → Nat → Nat
  | [], _, _ => 0
  | e :: es, f, p => match Nat.beq f e.1 && Nat.beq p e.2.1 with | true => e.2.2 | false => deadOf es f p

/-! Calls whose outcome is known already, whatever the memory. -/

section
variable {w : World} {F : Addr → Prop} {ρ : List Hd}
theorem Rep.free {K : TypeId → List Kind} {x : AV} {v : Value} (h : Rep K ρ F w x v) (hb : Eng.bd2 0 x = true) (ρ' : List Hd) : Rep K ρ' F w x v := by
  have := h.bd2 (n := 0) hb
  rw [List.take_zero] at this
  exact this.mono (fun id hd h => by simp at h) (fun _ h => h) (fun _ _ _ h => h)
theorem RepL.free {K : TypeId → List Kind} {xs : List AV} {vs : List Value} (h : RepL K ρ F w xs vs) (hb : allB (bd2 0) xs = true) (ρ' : List Hd) : RepL K ρ' F w xs vs :=
  ⟨h.1, fun j x v hx hv => (h.2 j x v hx hv).free (allB_mem hb x (List.mem_of_getElem? hx)) ρ'⟩
theorem ACalls.lift0 (hG : GlobFree X) {f : FuncId} {args : List AV} {x : AV} (h : ACalls X f args [] x []) (ha : allB (bd2 0) args = true) (hx : bd2 0 x = true) (M : List Blk) : ACalls X f args M x M := by
  refine ⟨h.1, fun {w0 S F ρ w vs} hI hr => ?_⟩
  have hi : Inv X w ⟨fun _ => False, F⟩ F [] [] w := {
    os := rfl, tape := rfl, output := rfl, size := Nat.le_refl _, frame := fun _ _ _ => rfl, len := rfl
    rep := fun id b hd hb _ => by simp at hb
    sep := fun id b hd g hb _ _ _ => by simp at hb
    disj := fun id id' b b' hd hd' g _ hb _ _ _ _ _ _ => by simp at hb
    fz := hI.fz, glob := fun g => hG g (hI.glob g)
    one := fun id hd hh => by simp at hh
    old := fun a ha => .inl ha, fin := fun a ha => ha }
  refine (h.2 hi (hr.free ha [])).mono ?_
  rintro e w' ⟨v, ρ', F', rfl, hI', hg, hv⟩
  have hfr : ∀ g, g < w.heap.size → w'.heap[g]? = w.heap[g]? := fun g hlt => hI'.frame g hlt (fun h => h)
  refine ⟨v, ρ, F', rfl, ?_, ⟨hg.hF, fun _ _ h => h, hg.hb⟩, hv.free hx ρ⟩
  exact {
    os := hI'.os.trans hI.os, tape := hI'.tape.trans hI.tape, output := hI'.output.trans hI.output, size := Nat.le_trans hI.size hI'.size
    frame := fun g hlt hn => (hfr g (Nat.lt_of_lt_of_le hlt hI.size)).trans (hI.frame g hlt hn)
    len := hI.len
    rep := fun id b hd h1 h2 => by
      cases hd' : b.isDead with
      | true => exact (hI.rep id b hd h1 h2).mono_dead (fun _ _ h => h) hg.hF hg.hw hd'
      | false => exact (hI.rep id b hd h1 h2).mono (fun _ _ h => h) hg.hF hg.hw (fun g hgb => hfr g (hI.sep id b hd g h1 hd' h2 hgb).1)
    sep := fun id b hd g h1 h2 h3 h4 => by
      obtain ⟨s1, s2, s3⟩ := hI.sep id b hd g h1 h2 h3 h4
      refine ⟨Nat.lt_of_lt_of_le s1 hI'.size, s2, fun a ha => ?_⟩
      rcases hI'.old a ha with h | h | h
      · exact s3 a h
      · exact h.elim
      · intro e; omega
    disj := hI.disj
    fz := hI'.fz
    glob := fun g => hG g (hI'.glob g)
    one := hI.one
    old := fun a ha => by
      rcases hI'.old a ha with h | h | h
      · exact hI.old a h
      · exact h.elim
      · exact .inr (.inr (Nat.le_trans hI.size h))
    fin := fun a ha => hg.hF a (hI.fin a ha) }
end
structure KC where
  f : Nat
  args : List AV
  x : AV
def pickK : List KC → Nat → List AV → Option AV
  | [], _, _ => none
  | e :: es, f, args => match Nat.beq f e.f && sameL same1 e.args args with | true => some e.x | false => pickK es f args
def KcOk (X : Cx) (e : KC) : Prop := ∀ M, ACalls X e.f e.args M e.x M
theorem pickK_ok {l : List KC} (h : AllE (KcOk X) l) {f : Nat} {args : List AV} {x : AV} (hp : pickK l f args = some x) (M : List Blk) : ACalls X f args M x M := by
  induction l with
  | nil => cases hp
  | cons e es ih =>
    simp only [pickK] at hp
    split at hp
    · rename_i hb
      rw [Bool.and_eq_true] at hb
      injection hp with hp
      subst hp
      have h1 := Nat.eq_of_beq_eq_true hb.1
      have h2 := sameL_eq same1_eq hb.2
      rw [h1, ← h2]
      exact h.1 M
    · exact ih h.2 hp

/-- A range over a function: its number, its function, its place. -/
structure SI where
  s : Nat
  f : Nat
  p : Nat
def siteAt : List SI → Nat → Nat → Option Nat
  | [], _, _ => none
  | e :: es, f, p => match Nat.beq f e.f && Nat.beq p e.p with | true => some e.s | false => siteAt es f p
def siteBy : List SI → Nat → Option (Nat × Nat)
  | [], _ => none
  | e :: es, s => match Nat.beq s e.s with | true => some (e.f, e.p) | false => siteBy es s

def codeF (I : List (Nat × FI)) (f : Nat) : Code := match pickF I f with | some fi => fi.c | none => .skip
def ntF (I : List (Nat × FI)) (f : Nat) : Nt := match pickF I f with | some fi => fi.nt | none => ⟨0, 0⟩
def SiOk (X : Cx) (I : List (Nat × FI)) (e : SI) : Prop := ∃ g, At (codeF I e.f) e.p (.rangeFunc g (X.site e.s).params (X.site e.s).assign (X.site e.s).body) ∧ (X.site e.s).nt = (ntF I e.f).n

/-- Everything in place, down to a depth of calls, loops and ranges. -/
def LA (X : Cx) (I : List (Nat × FI)) (Ss : List SI) (kc : List KC) (dd : List (Nat × Nat × Nat)) (rounds : Nat) : Nat → Nat → LTab R
  | 0, f => ⟨⟨ntF I f, fun _ _ _ => none, fun _ _ _ _ => none, noY⟩, fun _ _ _ => none, fun _ _ _ => none, fun _ => none⟩
  | n + 1, f => ⟨⟨ntF I f, fun _ _ M => some (List.range M.length),
      fun g args M k => fzL fz1 args fun args => match pickK kc g args with
        | some x => k x M
        | none => match pickF I g with
        | some fi => fzN M.length fun m => evfn X (LA X I Ss kc dd rounds n g) fi.c fi.rs args M fun x M' => fz2 x fun x => cutM m x M' fun M' => tst (Nat.ble m M'.length) (k x M')
        | none => none,
      fun id args M k => fzL fz1 args fun args => match gm M id with
        | some (.loop s _ _ _) => (match siteBy Ss s with
          | some (f', p) => evyield X (LA X I Ss kc dd rounds n f') s p id args M k
          | none => none)
        | _ => none⟩,
    fun p st k => match codeOf (codeF I f) p with
      | some (.loop c) => fzN st.mem.length fun m => unrollC X (LA X I Ss kc dd rounds n f) c (2 * p) m (deadOf dd f p) rounds st k
      | _ => none,
    fun p st k => match siteAt Ss f p, codeOf (codeF I f) p with
      | some s, some (.rangeFunc g _ _ _) => evrange X (LA X I Ss kc dd rounds n f).tab s (List.range (ntF I f).n) g st k
      | _, _ => none,
    fun _ => none⟩

theorem siteAt_ok {I : List (Nat × FI)} {Ss : List SI} (h : AllE (SiOk X I) Ss) {f p s : Nat} (hs : siteAt Ss f p = some s) : SiOk X I ⟨s, f, p⟩ := by
  induction Ss with
  | nil => cases hs
  | cons e es ih =>
    simp only [siteAt] at hs
    cases hb : Nat.beq f e.f && Nat.beq p e.p with
    | true =>
      rw [hb] at hs
      injection hs with hs
      rw [Bool.and_eq_true] at hb
      have h1 := Nat.eq_of_beq_eq_true hb.1
      have h2 := Nat.eq_of_beq_eq_true hb.2
      subst h1; subst h2; subst hs
      exact h.1
    | false => rw [hb] at hs; exact ih h.2 hs
theorem siteBy_ok {I : List (Nat × FI)} {Ss : List SI} (h : AllE (SiOk X I) Ss) {f p s : Nat} (hs : siteBy Ss s = some (f, p)) : SiOk X I ⟨s, f, p⟩ := by
  induction Ss with
  | nil => cases hs
  | cons e es ih =>
    simp only [siteBy] at hs
    cases hb : Nat.beq s e.s with
    | true =>
      rw [hb] at hs
      injection hs with hs
      injection hs with h1 h2
      have h3 := Nat.eq_of_beq_eq_true hb
      subst h1; subst h2; subst h3
      exact h.1
    | false => rw [hb] at hs; exact ih h.2 hs

theorem LA_nt {I : List (Nat × FI)} {Ss : List SI} {kc : List KC} {dd : List (Nat × Nat × Nat)} {rounds : Nat} (n f : Nat) : (LA (R := R) X I Ss kc dd rounds n f).tab.nt = ntF I f := by cases n <;> rfl

theorem evfn_LA (hX : X.Okb) {I : List (Nat × FI)} (hI : AllE (fun e => FiOk X e.1 e.2) I) {Ss : List SI} {kc : List KC} {dd : List (Nat × Nat × Nat)} {rounds n : Nat} {f : Nat} {fi : FI} (hf : pickF I f = some fi) (hL : (LA (R := R) X I Ss kc dd rounds n f).Ok X (codeF I f))
    {args : List AV} {M : List Blk} {k : AV → List Blk → Option R} {r : R} (h : evfn X (LA X I Ss kc dd rounds n f) fi.c fi.rs args M k = some r) : ∃ x M', ACalls X f args M x M' ∧ k x M' = some r := by
  obtain ⟨fn, h1, h2, h3, h4, h5⟩ := pickF_ok hI hf
  have hc : codeF I f = fi.c := by unfold codeF; rw [hf]
  rw [hc] at hL
  refine evfn_sound hX hL h1 h2 ?_ h5 h4 h
  rw [LA_nt, h3]
  show fi.nt.n = (ntF I f).n
  unfold ntF; rw [hf]

theorem LA_ok (hX : X.Okb) (hG : GlobFree X) {I : List (Nat × FI)} (hI : AllE (fun e => FiOk X e.1 e.2) I) {Ss : List SI} (hS : AllE (SiOk X I) Ss) {kc : List KC} (hK : AllE (KcOk X) kc) {dd : List (Nat × Nat × Nat)} {rounds : Nat} : ∀ (n f : Nat), (LA (R := R) X I Ss kc dd rounds n f).Ok X (codeF I f)
  | 0, f => ⟨⟨fun {_ _ _ _ _} h => (by cases h), fun {_ _ _ _ _} h => (by cases h)⟩, fun {_ _ _ _ _} _ h => (by cases h), fun {_ _ _ _ _ _ _ _} _ h => (by cases h), fun {_ _ _ _ _ _} _ h _ => (by cases h)⟩
  | n + 1, f => by
    refine ⟨⟨fun {g args M k r} h => ?_, fun {id args M k r} h => ?_⟩, fun {p c st k r} hat h => ?_, fun {p g ps x y st k r} hat h => ?_, fun {p c f' st k r} _ h _ => (by cases h)⟩
    · simp only [LA] at h
      rw [fzL_eq fz1_eq] at h
      split at h
      · rename_i y hy
        exact ⟨y, M, pickK_ok hK hy M, h, fun ids hi => Agree.refl _ _⟩
      split at h
      · rename_i fi hfi
        rw [fzN_eq] at h
        obtain ⟨x, M0, h1, h2⟩ := evfn_LA hX hI hfi (LA_ok hX hG hI hS hK n g) h
        rw [fz2_eq] at h2
        obtain ⟨M', h1, h2⟩ := cutM_some hG h1 h2
        replace h2 := tst_some h2
        obtain ⟨hle, h2⟩ := h2
        refine ⟨x, M', h1, h2, fun ids hi => ?_⟩
        injection hi with hi
        subst hi
        exact ⟨Nat.le_of_ble_eq_true hle, fun i hi hn => absurd (List.mem_range.2 hi) hn⟩
      · cases h
    · simp only [LA] at h
      rw [fzL_eq fz1_eq] at h
      split at h
      · rename_i s _ _ _ _
        split at h
        · rename_i f' p hsb
          obtain ⟨g, hat, hnt⟩ := siteBy_ok hS hsb
          exact evyield_sound hX (LA_ok hX hG hI hS hK n f') hat h
        · cases h
      · cases h
    · simp only [LA] at h
      split at h
      · rename_i c' hc
        have := codeOf_at hc hat
        injection this with this
        subst this
        rw [fzN_eq] at h
        obtain ⟨e, st', hk, hr⟩ := unrollC_sound hX hG (LA_ok hX hG hI hS hK n f) hat rounds h
        refine ⟨e, st', fun {rdc n' w0 S F ρ a w Q} hI' hs hq => wpIn_loop_rounds rounds (hr hI' ?_ ?_), hk⟩
        · rw [LA_nt] at hs ⊢; exact hs
        · intro a' w' F' ρ' h1 h2 h3
          refine hq a' w' F' ρ' h1 ?_ (h3.whole hI'.len)
          rw [LA_nt] at h2 ⊢; exact h2
      · cases h
    · simp only [LA] at h
      split at h
      · rename_i s g' ps' x' y' hs hc
        have hcc := codeOf_at hc hat
        injection hcc with e1 e2 e3 e4
        subst e1; subst e2; subst e3; subst e4
        obtain ⟨g2, hat2, hnt⟩ := siteAt_ok hS hs
        obtain ⟨l, hl1, hl2⟩ := hat2
        have := hat.det l hl1
        rw [hl2] at this
        injection this with this
        injection this with e1 e2 e3 e4
        have hsite : X.site s = ⟨(LA (R := R) X I Ss kc dd rounds n f).tab.nt.n, ps', x', y'⟩ := by
          rw [LA_nt]
          show X.site s = ⟨(ntF I f).n, ps', x', y'⟩
          rw [← hnt, ← e2, ← e3, ← e4]
        obtain ⟨e, st', h1, h2⟩ := evrange_sound hX (LA_ok hX hG hI hS hK n f).tab hsite h
        refine ⟨e, st', ?_, h2⟩
        rw [LA_nt] at h1 ⊢; exact h1
      · cases h

def asB (o : Option Bool) : Bool := match o with | some b => b | none => false
def kB (x : AV) (_ : List Blk) : Option Bool := match x with | .bool b => some b | _ => none
/-- A closed run. -/
theorem closed_run (hX : X.Okb) (hG : GlobFree X) {I : List (Nat × FI)} (hI : AllE (fun e => FiOk X e.1 e.2) I) {Ss : List SI} (hS : AllE (SiOk X I) Ss) {kc : List KC} (hK : AllE (KcOk X) kc) {dd : List (Nat × Nat × Nat)} {rounds n f : Nat} {fi : FI} (hf : pickF I f = some fi)
    (h : asB (evfn X (LA X I Ss kc dd rounds n f) fi.c fi.rs [] [] kB) = true) : ACalls X f [] [] (.bool true) [] := by
  unfold asB at h
  split at h
  · rename_i b hb
    subst h
    obtain ⟨x, M', h1, h2⟩ := evfn_LA hX hI hf (LA_ok hX hG hI hS hK n f) hb
    unfold kB at h2
    split at h2
    · injection h2 with h2
      subst h2
      have := h1.cut hG (x := .bool true) rfl (by rw [List.length_nil, List.take_zero]; rfl)
      rwa [List.length_nil, List.take_zero] at this
    · cases h2
  · cases h
theorem closed_kc (hG : GlobFree X) {f : Nat} (h : ACalls X f [] [] (.bool true) []) : KcOk X ⟨f, [], .bool true⟩ := fun M => h.lift0 hG rfl rfl M

/-- What a law's row asks of the function, where it has no arguments. -/
theorem law_closed (hl : laidOutB X.P = true) {f : FuncId} {fn : Func} {s : ChangeSpec} {tb : TypeId} (hts : fn.params.toList = []) (hrt : fn.resultTypes = #[tb]) (htb : X.P.underlying tb = some .bool)
    (hv : s.vars = []) {H : Type} {enc : TypeId × Value → H} (hs : s.fn H ([] : List (DataW H)) = { results := [.lit (.bool true)], args := [] })
    (hlaw : ACalls X f [] [] (.bool true) [])
    (W : World) (hg : ∀ g, Rep X.K [] (there W) W (X.glob g) (.pointer (some ⟨g, 0, none⟩))) (args : Array Value) (ds gs : List (DataW H)) (before : List MemPlace)
    (hW : DataW.Whole enc X.P fn.params.toList s.vars false W args.toList ds gs before) :
    Calls X.P f args W fun e W' => ∃ v, e = .returned v ∧ s.post enc X.P fn false true false false W args v W' := by
  have hW' := hW
  obtain ⟨p, q, hA, hV, hpq, hfz, hnd⟩ := hW
  rw [hv] at hV
  obtain ⟨rfl, rfl⟩ := trodVars_none hV
  rw [List.append_nil] at hpq
  have hpq' : p = before := hpq.symm
  subst hpq'
  have hA0 := hA
  rw [hts] at hA
  have hnil : args.toList = [] ∧ ds = [] := by
    revert hA
    generalize args.toList = vs
    intro hA
    cases vs with
    | nil => cases ds with
      | nil => exact ⟨rfl, rfl⟩
      | cons d ds => simp [DataW.TrodAll] at hA
    | cons v vs => cases ds <;> simp [DataW.TrodAll] at hA
  obtain ⟨ha, rfl⟩ := hnil
  have hrep : RepL X.K [] (there W) W [] args.toList := by rw [ha]; exact ⟨rfl, fun j x v hx => by simp at hx⟩
  have hi : Inv X W ⟨fun _ => False, there W⟩ (there W) [] [] W := {
    os := rfl, tape := rfl, output := rfl, size := Nat.le_refl _, frame := fun _ _ _ => rfl, len := rfl
    rep := fun id b hd hb _ => by simp at hb
    sep := fun id b hd g hb _ _ _ => by simp at hb
    disj := fun id id' b b' hd hd' g _ hb _ _ _ _ _ _ => by simp at hb
    fz := fun a ha => ha, glob := hg
    one := fun id hd hh => by simp at hh
    old := fun a ha => .inl ha, fin := fun a ha => ha }
  have := hlaw.2 hi hrep
  refine this.mono ?_
  rintro e W' ⟨v, ρ', F', rfl, hI, _, hr⟩
  refine ⟨v, rfl, ?_⟩
  cases hr
  have hb := below_of_inv hI
  have hlt : ∀ x ∈ p, x.block < W.heap.size := fun x hx => by simpa using hW'.lt x hx
  have hfn : s.fn H ([] ++ []) = { results := [.lit (.bool true)], args := [] } := hs
  refine ⟨[], [], p, [], p, [], hW', ?_, ?_, ?_, kept_of_below hb _, fun h => by cases h⟩
  · rw [hfn, hrt]
    exact trodAll_mk1 (shut_bool htb true)
  · rw [hfn, hts, ha]
    rw [ha] at hA
    exact hA
  · rw [hfn, hv]; exact rfl

end
end Go.Eng

namespace Go.Proofs.Ytbgdiljnmifakaa.Cl
open Go Go.Eng
set_option maxRecDepth 100000
noncomputable def code10 : Code := (Try.f10.body).getD .skip
noncomputable def code24 : Code := (Try.f24.body).getD .skip
noncomputable def code21 : Code := (Try.f21.body).getD .skip
noncomputable def code13 : Code := (Try.f13.body).getD .skip
noncomputable def code31 : Code := (Try.f31.body).getD .skip
noncomputable def code33 : Code := (Try.f33.body).getD .skip
noncomputable def code32 : Code := (Try.f32.body).getD .skip
noncomputable def code45 : Code := (Try.f45.body).getD .skip
noncomputable def code34 : Code := (Try.f34.body).getD .skip
noncomputable def code38 : Code := (Try.f38.body).getD .skip
noncomputable def code40 : Code := (Try.f40.body).getD .skip
noncomputable def code46 : Code := (Try.f46.body).getD .skip
noncomputable def code49 : Code := (Try.f49.body).getD .skip
noncomputable def code25 : Code := (Try.f25.body).getD .skip
noncomputable def code11 : Code := (Try.f11.body).getD .skip
noncomputable def code27 : Code := (Try.f27.body).getD .skip
noncomputable def code28 : Code := (Try.f28.body).getD .skip
noncomputable def code44 : Code := (Try.f44.body).getD .skip
noncomputable def code48 : Code := (Try.f48.body).getD .skip
noncomputable def code43 : Code := (Try.f43.body).getD .skip
noncomputable def code47 : Code := (Try.f47.body).getD .skip
noncomputable def code42 : Code := (Try.f42.body).getD .skip
noncomputable def code8 : Code := (Try.f8.body).getD .skip
noncomputable def code19 : Code := (Try.f19.body).getD .skip
noncomputable def code17 : Code := (Try.f17.body).getD .skip
noncomputable def nd0 : Operand × Array Tmp × Code × Code := match codeAt code40 [false, true, false, true, true] with | some (.rangeFunc g ps a b) => (g, ps, a, b) | _ => (.func 0, #[], .skip, .skip)
noncomputable def nd1 : Operand × Array Tmp × Code × Code := match codeAt code47 [false, true, false, true] with | some (.rangeFunc g ps a b) => (g, ps, a, b) | _ => (.func 0, #[], .skip, .skip)
noncomputable def siteL : List (Nat × Site) := [(0, ⟨37, nd0.2.1, nd0.2.2.1, nd0.2.2.2⟩), (1, ⟨13, nd1.2.1, nd1.2.2.1, nd1.2.2.2⟩)]
def tiL : List (Nat × TI) := [
  (0, ⟨true, .other, 1, 0, [.top], [.raw]⟩),
  (2, ⟨true, .int .i64, 1, 8, [.int .i64 0], [.int .i64]⟩),
  (3, ⟨true, .int .i64, 1, 8, [.int .i64 0], [.int .i64]⟩),
  (4, ⟨true, .bool, 1, 1, [.bool false], [.bool]⟩),
  (22, ⟨true, .slice 38, 1, 24, [.nilsl], [.slice 38]⟩),
  (23, ⟨true, .slice 3, 1, 24, [.nilsl], [.slice 3]⟩),
  (25, ⟨true, .struct [(0, 22), (1, 23), (2, 2), (3, 2)], 4, 64, [.nilsl, .nilsl, .int .i64 0, .int .i64 0], [.slice 38, .slice 3, .int .i64, .int .i64]⟩),
  (28, ⟨true, .slice 48, 1, 24, [.nilsl], [.slice 48]⟩),
  (29, ⟨true, .int .i64, 1, 8, [.int .i64 0], [.int .i64]⟩),
  (30, ⟨true, .other, 1, 0, [.top], [.raw]⟩),
  (36, ⟨true, .slice 55, 1, 24, [.nilsl], [.slice 55]⟩),
  (38, ⟨true, .struct [(0, 3), (1, 3), (2, 2), (3, 2), (4, 2), (5, 2), (6, 36)], 7, 72, [.int .i64 0, .int .i64 0, .int .i64 0, .int .i64 0, .int .i64 0, .int .i64 0, .nilsl], [.int .i64, .int .i64, .int .i64, .int .i64, .int .i64, .int .i64, .slice 55]⟩),
  (48, ⟨true, .struct [(0, 3), (1, 2), (2, 2), (3, 4)], 4, 32, [.int .i64 0, .int .i64 0, .int .i64 0, .bool false], [.int .i64, .int .i64, .int .i64, .bool]⟩),
  (50, ⟨true, .other, 1, 0, [.top], [.raw]⟩),
  (53, ⟨true, .ptr 38, 1, 8, [.nilp], [.raw]⟩),
  (55, ⟨true, .struct [(0, 3), (1, 2)], 2, 16, [.int .i64 0, .int .i64 0], [.int .i64, .int .i64]⟩),
  (57, ⟨true, .other, 1, 0, [.top], [.raw]⟩),
  (69, ⟨true, .array 3 2, 3, 24, [.int .i64 0, .int .i64 0, .int .i64 0], [.int .i64, .int .i64, .int .i64]⟩),
  (71, ⟨true, .other, 1, 0, [.top], [.raw]⟩),
  (76, ⟨true, .other, 1, 8, [.nilfn], [.raw]⟩),
  (77, ⟨true, .map 3 4, 1, 8, [.nilmp], [.raw]⟩),
  (85, ⟨true, .slice 2, 1, 24, [.nilsl], [.slice 2]⟩),
  (87, ⟨true, .other, 1, 8, [.nilfn], [.raw]⟩),
  (88, ⟨true, .other, 1, 8, [.nilfn], [.raw]⟩),
  (91, ⟨true, .other, 1, 8, [.nilfn], [.raw]⟩),
  (92, ⟨true, .other, 1, 8, [.nilfn], [.raw]⟩),
  (95, ⟨true, .other, 1, 8, [.nilfn], [.raw]⟩),
  (96, ⟨true, .other, 1, 8, [.nilfn], [.raw]⟩)]
noncomputable def X : Cx := ⟨Try.prog, fun t => vTI (lookTI tiL t), lookS siteL, fun _ => .top, lookE [], false⟩
theorem hX : X.Okb := cx_okv (l := tiL) (el := []) (fun _ => .inl rfl) (by kernel_rfl) ⟨⟨by kernel_rfl, rfl⟩, ⟨by kernel_rfl, rfl⟩, ⟨by kernel_rfl, rfl⟩, ⟨by kernel_rfl, rfl⟩, ⟨by kernel_rfl, rfl⟩, ⟨by kernel_rfl, rfl⟩, ⟨by kernel_rfl, rfl⟩, ⟨by kernel_rfl, rfl⟩, ⟨by kernel_rfl, rfl⟩, ⟨by kernel_rfl, rfl⟩, ⟨by kernel_rfl, rfl⟩, ⟨by kernel_rfl, rfl⟩, ⟨by kernel_rfl, rfl⟩, ⟨by kernel_rfl, rfl⟩, ⟨by kernel_rfl, rfl⟩, ⟨by kernel_rfl, rfl⟩, ⟨by kernel_rfl, rfl⟩, ⟨by kernel_rfl, rfl⟩, ⟨by kernel_rfl, rfl⟩, ⟨by kernel_rfl, rfl⟩, ⟨by kernel_rfl, rfl⟩, ⟨by kernel_rfl, rfl⟩, ⟨by kernel_rfl, rfl⟩, ⟨by kernel_rfl, rfl⟩, ⟨by kernel_rfl, rfl⟩, ⟨by kernel_rfl, rfl⟩, ⟨by kernel_rfl, rfl⟩, ⟨by kernel_rfl, rfl⟩, trivial⟩ trivial
theorem hG : GlobFree X := fun g {ρ ρ' F w v} _ => .top v
theorem hb10 : Try.f10.body = some code10 := by kernel_rfl
theorem hb24 : Try.f24.body = some code24 := by kernel_rfl
theorem hb21 : Try.f21.body = some code21 := by kernel_rfl
theorem hb13 : Try.f13.body = some code13 := by kernel_rfl
theorem hb31 : Try.f31.body = some code31 := by kernel_rfl
theorem hb33 : Try.f33.body = some code33 := by kernel_rfl
theorem hb32 : Try.f32.body = some code32 := by kernel_rfl
theorem hb45 : Try.f45.body = some code45 := by kernel_rfl
theorem hb34 : Try.f34.body = some code34 := by kernel_rfl
theorem hb38 : Try.f38.body = some code38 := by kernel_rfl
theorem hb40 : Try.f40.body = some code40 := by kernel_rfl
theorem hb46 : Try.f46.body = some code46 := by kernel_rfl
theorem hb49 : Try.f49.body = some code49 := by kernel_rfl
theorem hb25 : Try.f25.body = some code25 := by kernel_rfl
theorem hb11 : Try.f11.body = some code11 := by kernel_rfl
theorem hb27 : Try.f27.body = some code27 := by kernel_rfl
theorem hb28 : Try.f28.body = some code28 := by kernel_rfl
theorem hb44 : Try.f44.body = some code44 := by kernel_rfl
theorem hb48 : Try.f48.body = some code48 := by kernel_rfl
theorem hb43 : Try.f43.body = some code43 := by kernel_rfl
theorem hb47 : Try.f47.body = some code47 := by kernel_rfl
theorem hb42 : Try.f42.body = some code42 := by kernel_rfl
theorem hb8 : Try.f8.body = some code8 := by kernel_rfl
theorem hb19 : Try.f19.body = some code19 := by kernel_rfl
theorem hb17 : Try.f17.body = some code17 := by kernel_rfl
noncomputable def I : List (Nat × FI) := [(10, ⟨code10, ⟨64, 18446744073709551615⟩, Try.f10.results.toList⟩), (24, ⟨code24, ⟨37, 137438953471⟩, Try.f24.results.toList⟩), (21, ⟨code21, ⟨35, 34359738367⟩, Try.f21.results.toList⟩), (13, ⟨code13, ⟨93, 9903520314283042199192993791⟩, Try.f13.results.toList⟩), (31, ⟨code31, ⟨15, 32767⟩, Try.f31.results.toList⟩), (33, ⟨code33, ⟨9, 511⟩, Try.f33.results.toList⟩), (32, ⟨code32, ⟨9, 511⟩, Try.f32.results.toList⟩), (45, ⟨code45, ⟨19, 524287⟩, Try.f45.results.toList⟩), (34, ⟨code34, ⟨49, 562949953421311⟩, Try.f34.results.toList⟩), (38, ⟨code38, ⟨19, 524287⟩, Try.f38.results.toList⟩), (40, ⟨code40, ⟨37, 137438953471⟩, Try.f40.results.toList⟩), (46, ⟨code46, ⟨6, 63⟩, Try.f46.results.toList⟩), (49, ⟨code49, ⟨35, 34359738367⟩, Try.f49.results.toList⟩), (25, ⟨code25, ⟨60, 1152921504606846975⟩, Try.f25.results.toList⟩), (11, ⟨code11, ⟨39, 549755813887⟩, Try.f11.results.toList⟩), (27, ⟨code27, ⟨49, 562949953421311⟩, Try.f27.results.toList⟩), (28, ⟨code28, ⟨13, 8191⟩, Try.f28.results.toList⟩), (44, ⟨code44, ⟨13, 8191⟩, Try.f44.results.toList⟩), (48, ⟨code48, ⟨43, 8796093022207⟩, Try.f48.results.toList⟩), (43, ⟨code43, ⟨5, 31⟩, Try.f43.results.toList⟩), (47, ⟨code47, ⟨13, 8191⟩, Try.f47.results.toList⟩), (42, ⟨code42, ⟨18, 262143⟩, Try.f42.results.toList⟩), (8, ⟨code8, ⟨251, 3618502788666131106986593281521497120414687020801267626233049500247285301247⟩, Try.f8.results.toList⟩), (19, ⟨code19, ⟨16, 65535⟩, Try.f19.results.toList⟩), (17, ⟨code17, ⟨22, 4194303⟩, Try.f17.results.toList⟩)]
theorem hI : AllE (fun e => FiOk X e.1 e.2) I := ⟨⟨Try.f10, Try.func10, hb10, by kernel_rfl, rfl, enters Try.func10 hb10 (by kernel_rfl)⟩, ⟨Try.f24, Try.func24, hb24, by kernel_rfl, rfl, enters Try.func24 hb24 (by kernel_rfl)⟩, ⟨Try.f21, Try.func21, hb21, by kernel_rfl, rfl, enters Try.func21 hb21 (by kernel_rfl)⟩, ⟨Try.f13, Try.func13, hb13, by kernel_rfl, rfl, enters Try.func13 hb13 (by kernel_rfl)⟩, ⟨Try.f31, Try.func31, hb31, by kernel_rfl, rfl, enters Try.func31 hb31 (by kernel_rfl)⟩, ⟨Try.f33, Try.func33, hb33, by kernel_rfl, rfl, enters Try.func33 hb33 (by kernel_rfl)⟩, ⟨Try.f32, Try.func32, hb32, by kernel_rfl, rfl, enters Try.func32 hb32 (by kernel_rfl)⟩, ⟨Try.f45, Try.func45, hb45, by kernel_rfl, rfl, enters Try.func45 hb45 (by kernel_rfl)⟩, ⟨Try.f34, Try.func34, hb34, by kernel_rfl, rfl, enters Try.func34 hb34 (by kernel_rfl)⟩, ⟨Try.f38, Try.func38, hb38, by kernel_rfl, rfl, enters Try.func38 hb38 (by kernel_rfl)⟩, ⟨Try.f40, Try.func40, hb40, by kernel_rfl, rfl, enters Try.func40 hb40 (by kernel_rfl)⟩, ⟨Try.f46, Try.func46, hb46, by kernel_rfl, rfl, enters Try.func46 hb46 (by kernel_rfl)⟩, ⟨Try.f49, Try.func49, hb49, by kernel_rfl, rfl, enters Try.func49 hb49 (by kernel_rfl)⟩, ⟨Try.f25, Try.func25, hb25, by kernel_rfl, rfl, enters Try.func25 hb25 (by kernel_rfl)⟩, ⟨Try.f11, Try.func11, hb11, by kernel_rfl, rfl, enters Try.func11 hb11 (by kernel_rfl)⟩, ⟨Try.f27, Try.func27, hb27, by kernel_rfl, rfl, enters Try.func27 hb27 (by kernel_rfl)⟩, ⟨Try.f28, Try.func28, hb28, by kernel_rfl, rfl, enters Try.func28 hb28 (by kernel_rfl)⟩, ⟨Try.f44, Try.func44, hb44, by kernel_rfl, rfl, enters Try.func44 hb44 (by kernel_rfl)⟩, ⟨Try.f48, Try.func48, hb48, by kernel_rfl, rfl, enters Try.func48 hb48 (by kernel_rfl)⟩, ⟨Try.f43, Try.func43, hb43, by kernel_rfl, rfl, enters Try.func43 hb43 (by kernel_rfl)⟩, ⟨Try.f47, Try.func47, hb47, by kernel_rfl, rfl, enters Try.func47 hb47 (by kernel_rfl)⟩, ⟨Try.f42, Try.func42, hb42, by kernel_rfl, rfl, enters Try.func42 hb42 (by kernel_rfl)⟩, ⟨Try.f8, Try.func8, hb8, by kernel_rfl, rfl, enters Try.func8 hb8 (by kernel_rfl)⟩, ⟨Try.f19, Try.func19, hb19, by kernel_rfl, rfl, enters Try.func19 hb19 (by kernel_rfl)⟩, ⟨Try.f17, Try.func17, hb17, by kernel_rfl, rfl, enters Try.func17 hb17 (by kernel_rfl)⟩, trivial⟩
def Ss : List SI := [⟨0, 40, 58⟩, ⟨1, 47, 26⟩]
theorem hS : AllE (SiOk X I) Ss := ⟨⟨nd0.1, ⟨[false, true, false, true, true], by kernel_rfl, by kernel_rfl⟩, by kernel_rfl⟩, ⟨nd1.1, ⟨[false, true, false, true], by kernel_rfl, by kernel_rfl⟩, by kernel_rfl⟩, trivial⟩
def Dd : List (Nat × Nat × Nat) := [(24, 58, 137438953442), (45, 26, 523884), (34, 58, 562949953417667), (13, 250, 9903520314283042078933909489), (49, 6, 34359737464), (48, 3278, 8796085678584), (48, 6, 8796093018616), (42, 26, 261230), (27, 444, 562949953420809), (11, 122, 549755756513), (25, 122, 1152921504548126607), (8, 65530, 3618502788666131106986593281521497120414687020801267626233049500247283231486), (8, 58, 3618502788666131106986593281521497120414687020801267626233049500247285301244)]
end Go.Proofs.Ytbgdiljnmifakaa.Cl
