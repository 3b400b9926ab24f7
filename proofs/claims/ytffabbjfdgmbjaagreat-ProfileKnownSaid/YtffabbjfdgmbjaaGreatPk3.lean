/-
  The engine, part R: regions, evaluated.
  The engine, part Ra: regions, evaluated; several new variables at once.
  The engine, part Rb: regions that draw their order, in closed runs: what does not hang on the values is looked at once.
  The engine, part Rc: regions that draw their order, in which new variables have no order against other writers of memory: a new variable that is taken early stands aside until the writers before it in the text are taken.
  The engine, part Rd: regions that draw their order, in which stores to different blocks have no order against each other.
  The engine, part U: code.
  The engine, part V: calls on a part of the memory; a function's contract out of its code.
  The engine, part W: loops. What is carried from round to round is cut down to a shape.
  The engine, part X: loops, on: the rounds; the loop as a piece of the code around it.
-/
import Derived.Test.YtffabbjfdgmbjaaGreatPk2
import Derived.LoopNIn
import Derived.RangeFuncLeaves
set_option linter.all false
set_option linter.deprecated false
namespace Go.Eng
open Go
noncomputable section

variable {X : Cx} {R : Type}

def pushE (T : Tab R) (ops : Array Oper) (t : Ent) (st : St) (log : List Ent) (k : List Ent → St → Option R) : Option R :=
  tst (log.all (okPair ops t)) (putD T.nt st t.o.dst t.x t.M' fun st' => k (t :: log) st')

def evd1 (X : Cx) (T : Tab R) (ops : Array Oper) (i : Nat) (o : Oper) (cl : Nat) (st : St) (log : List Ent) (k : List Ent → St → Option R) : Option R :=
  match quietIds X (evv X (rst (readsOf o) st.env)) o with
  | some ids => evop X T (evv X (rst (readsOf o) st.env)) o st.mem fun x _ => pushE T ops ⟨i, o, true, x, ids, cl, st.env, st.mem, st.mem⟩ st log k
  | none =>
    match lstOf X ops (evv X (rst (readsOf o) st.env)) o with
    | some (t, n, ps) => evBuildList X t n (ps.toList.map fun p => (p.1, evv X (rst (readsOf o) st.env) p.2)) fun x => pushE T ops ⟨i, o, true, x, [], cl, st.env, st.mem, st.mem⟩ st log k
    | none =>
      match callQ X (evv X (rst (readsOf o) st.env)) o with
      | some (g, args) => T.call g args [] fun x M' => tst (M'.isEmpty && aggQ x) (pushE T ops ⟨i, o, true, x, [], cl, st.env, st.mem, st.mem⟩ st log k)
      | none =>
        match wrIds T (evv X (rst (readsOf o) st.env)) o st.mem with
        | some ids => evop X T (evv X (rst (readsOf o) st.env)) o st.mem fun x M' => pushE T ops ⟨i, o, false, x, ids, cl, st.env, st.mem, M'⟩ st log k
        | none => none

def evd0 (T : Tab R) (ops : Array Oper) (i : Nat) (o : Oper) (cl : Nat) (st : St) (log : List Ent) (k : List Ent → St → Option R) : Option R :=
  pushE T ops ⟨i, o, true, .tup [], [], cl, st.env, st.mem, st.mem⟩ st log k

def evdg (X : Cx) (T : Tab R) (ops : Array Oper) (i : Nat) (o : Oper) (cl : Nat) (st : St) (log : List Ent) (k : List Ent → St → Option R) : Option R :=
  match o.guard with
  | none => evd1 X T ops i o cl st log k
  | some (j, want) =>
    match gslot ops j with
    | none => none
    | some d =>
      match look st.env d with
      | .bool b =>
        match b with
        | true => match want with
          | true => evd1 X T ops i o cl { st with env := (d, .bool true) :: st.env } log k
          | false => evd0 T ops i o cl { st with env := (d, .bool true) :: st.env } log k
        | false => match want with
          | false => evd1 X T ops i o cl { st with env := (d, .bool false) :: st.env } log k
          | true => evd0 T ops i o cl { st with env := (d, .bool false) :: st.env } log k
      | .tup [] => evd0 T ops i o cl st log k
      | _ => none

def evdr (X : Cx) (T : Tab R) (ops : Array Oper) : List Nat → List Ent → St → (List Ent → St → Option R) → Option R
  | [], log, st, k => k log st
  | i :: rest, log, st, k =>
    match ops.toList[i]? with
    | none => none
    | some o =>
      match clOf log o.after.toList with
      | none => none
      | some cl => evdg X T ops i o cl st log fun log' st' => evdr X T ops rest log' st' k

def backOk : Nat → List Oper → Bool
  | _, [] => true
  | i, o :: os => (o.after.toList.all fun e => !Region.binds .any e || Nat.blt e.on i) && backOk (i + 1) os
def topoNext (done : List Nat) : Nat → List Oper → Option Nat
  | _, [] => none
  | i, o :: os => if !done.contains i && (o.after.toList.all fun e => !Region.binds .any e || done.contains e.on) then some i else topoNext done (i + 1) os
def topo (ops : List Oper) : Nat → List Nat → List Nat
  | 0, done => done.reverse
  | n + 1, done => match topoNext done 0 ops with | some i => topo ops n (i :: done) | none => done.reverse
def ordOf (ops : List Oper) : List Nat := if backOk 0 ops then List.range ops.length else topo ops ops.length []

def evreg0 (X : Cx) (T : Tab R) (ops : Array Oper) (draw : Bool) (st : St) (k : St → Option R) : Option R :=
  match draw with
  | false => evops X T ops ops.toList st k
  | true => evdr X T ops (ordOf ops.toList) [] st fun log st' => tst (Nat.ble log.length ops.size && (List.range ops.size).all fun i => log.any fun t => t.i == i) (k st')

theorem envRep_rst {ρ : List Hd} {F : Addr → Prop} {w : World} {env : List (Nat × AV)} {tmps : Array Value} {rs : List Nat} (h : ∀ u ∈ rs, Rep X.K ρ F w (look env u) (tmps.getD u undef)) : EnvRep X ρ F w (rst rs env) tmps := by
  intro t
  rcases look_rst env t rs with ⟨he, hm⟩ | he
  · rw [he]; exact h t hm
  · rw [he]; exact .top _

theorem look_refine {env : List (Nat × AV)} {d : Nat} {x : AV} (h : look env d = x) (u : Nat) : look ((d, x) :: env) u = look env u := by
  simp only [look_cons, look_nil]
  by_cases hu : u = d
  · subst hu; simp [h]
  · have : (u == d) = false := by simpa using hu
    simp [this]

/-- The guard lets it run. -/
def Wants (X : Cx) (ops : Array Oper) (o : Oper) (env : List (Nat × AV)) (b : Bool) : Prop :=
  ∀ {ρ : List Hd} {F : Addr → Prop} {w : World} {tmps : Array Value}, (∀ u ∈ readsOf o ++ guardOf ops o, Rep X.K ρ F w (look env u) (tmps.getD u undef)) → Region.wanted o (yielded ops tmps) = b

variable {D : Nat → Bool} {nt : Nt} {ops : Array Oper} {env0 env1 : List (Nat × AV)} {M0 M1 : List Blk}

theorem pushE_some {T : Tab R} {t : Ent} {st : St} {log : List Ent} {k : List Ent → St → Option R} {r : R} (h : pushE T ops t st log k = some r) :
    ∃ st', k (t :: log) st' = some r ∧ (∀ s ∈ log, okPair ops t s = true) ∧ (∀ d, t.o.dst = some d → d < T.nt.n ∧ T.nt.mask.testBit d = true) ∧ (∀ u, look st'.env u = (if t.o.dst = some u then t.x else look st.env u)) ∧ st'.mem = t.M' ∧ st'.dfs = st.dfs ∧ st'.rd = st.rd := by
  unfold pushE at h
  replace h := tst_some h
  obtain ⟨hp, h⟩ := h
  unfold putD at h
  have hp' : ∀ s ∈ log, okPair ops t s = true := fun s hs => List.all_eq_true.1 hp s hs
  cases hd : t.o.dst with
  | none =>
    rw [hd] at h
    exact ⟨_, h, hp', fun d e => by simp at e, fun u => by simp, rfl, rfl, rfl⟩
  | some d =>
    rw [hd] at h
    replace h := tst_some h
    obtain ⟨hlt, h⟩ := h
    refine ⟨_, h, hp', fun d' e => by injection e with e; subst e; simp only [Bool.and_eq_true] at hlt; exact ⟨by simpa using hlt.1, hlt.2⟩, fun u => ?_, rfl, rfl, rfl⟩
    simp only [look_cons, look_nil]
    by_cases hu : u = d
    · subst hu; simp
    · have : (u == d) = false := by simpa using hu
      have h2 : ¬ d = u := fun e => hu e.symm
      simp [this, h2]

theorem log_cons {log : List Ent} (hl : Log X D nt ops env0 M0 log env1 M1) {t : Ent} (h1 : ∀ u, look t.env u = look env1 u) (h2 : t.M = M1) (h3 : t.q = true → t.M' = t.M) (h4 : t.q = false → Agree t.ids t.M t.M') (h5 : D t.i = false → t.Runs X nt ops) (h6 : ops[t.i]? = some t.o)
    (h7 : ∀ d, t.o.dst = some d → d < nt.n ∧ nt.mask.testBit d = true) (h8 : ∀ s ∈ log, okPair ops t s = true) (h9 : clOf log t.o.after.toList = some t.cl) {env : List (Nat × AV)} {M : List Blk} (h10 : ∀ u, look env u = (if t.o.dst = some u then t.x else look t.env u)) (h11 : M = t.M') :
    Log X D nt ops env0 M0 (t :: log) env M := by
  obtain ⟨c1, c2⟩ := clOf_some h9
  refine ⟨env1, M1, hl, h1, h2, h3, h4, h5, h6, h7, h8, fun e he hb => c1 e (by simpa using he) hb, fun w hw => ?_, fun u => by rw [h10 u, h1 u], h11⟩
  obtain ⟨e, he, hb, hh⟩ := c2 w hw
  exact ⟨e, by simpa using he, hb, hh⟩

theorem evd0_sound {T : Tab R} {i : Nat} {o : Oper} {cl : Nat} {st : St} {log : List Ent} {k : List Ent → St → Option R} {r : R} (hl : Log X D T.nt ops env0 M0 log env1 M1) (hi : ops[i]? = some o) (hc : clOf log o.after.toList = some cl)
    (he : ∀ u, look st.env u = look env1 u) (hm : st.mem = M1) (hw : Wants X ops o st.env false) (h : evd0 T ops i o cl st log k = some r) :
    ∃ t st', k (t :: log) st' = some r ∧ Log X D T.nt ops env0 M0 (t :: log) st'.env st'.mem ∧ st'.dfs = st.dfs ∧ st'.rd = st.rd := by
  unfold evd0 at h
  obtain ⟨st', h, hp, hd, hlk, hmm, h1, h2⟩ := pushE_some h
  refine ⟨_, st', h, log_cons hl he hm (fun _ => rfl) (fun hq => by cases hq) ?_ hi hd hp hc hlk hmm, h1, h2⟩
  intro _ Mx _ _ rdc n w0 S F ρ a w Q K hI hsz hr hk
  unfold wpOpIn
  simp only [hi, hw hr, Bool.false_eq_true, if_false]
  exact ⟨fun _ _ => trivial, hk _ w F ρ hI rep_undef (Grow.refl _ _ _)⟩

theorem evd1_sound (hX : X.Okb) {T : Tab R} (hT : T.CallOk X) {i : Nat} {o : Oper} {cl : Nat} {st : St} {log : List Ent} {k : List Ent → St → Option R} {r : R} (hl : Log X D T.nt ops env0 M0 log env1 M1) (hi : ops[i]? = some o) (hc : clOf log o.after.toList = some cl)
    (he : ∀ u, look st.env u = look env1 u) (hm : st.mem = M1) (hw : Wants X ops o st.env true) (h : evd1 X T ops i o cl st log k = some r) :
    ∃ t st', k (t :: log) st' = some r ∧ Log X D T.nt ops env0 M0 (t :: log) st'.env st'.mem ∧ st'.dfs = st.dfs ∧ st'.rd = st.rd := by
  unfold evd1 at h
  split at h
  · rename_i ids hq
    obtain ⟨y, h, hrun⟩ := quiet_runs hX hq h
    obtain ⟨st', h, hp, hd, hlk, hmm, h1, h2⟩ := pushE_some h
    refine ⟨_, st', h, log_cons hl he hm (fun _ => rfl) (fun hq => by cases hq) ?_ hi hd hp hc hlk hmm, h1, h2⟩
    intro _ Mx hM _ rdc n w0 S F ρ a w Q K hI hsz hr hk
    unfold wpOpIn
    simp only [hi, hw hr, if_true]
    exact hrun Mx (hM rfl) hI (fun z => evv_rep hI (envRep_rst fun u hu => hr u (List.mem_append_left _ hu)) z) (fun v w' ρ' F' hI' hg hx => hk v w' F' ρ' hI' hx hg)
  · rename_i hq
    split at h
    · rename_i t n ps hlst
      obtain ⟨y, h, hrun⟩ := list_runs hX (lstOf_some hlst) h
      obtain ⟨st', h, hp, hd, hlk, hmm, h1, h2⟩ := pushE_some h
      refine ⟨_, st', h, log_cons hl he hm (fun _ => rfl) (fun hq => by cases hq) ?_ hi hd hp hc hlk hmm, h1, h2⟩
      intro _ Mx hM _ rdc n w0 S F ρ a w Q K hI hsz hr hk
      unfold wpOpIn
      simp only [hi, hw hr, if_true]
      exact hrun Mx hI (fun z => evv_rep hI (envRep_rst fun u hu => hr u (List.mem_append_left _ hu)) z) (fun v w' ρ' F' hI' hg hx => hk v w' F' ρ' hI' hx hg)
    · split at h
      · rename_i g args hcq
        obtain ⟨y, h, hrun⟩ := callQ_runs hX hT hcq (k := fun y => pushE T ops ⟨i, o, true, y, [], cl, st.env, st.mem, st.mem⟩ st log k) h
        obtain ⟨st', h, hp, hd, hlk, hmm, h1, h2⟩ := pushE_some h
        refine ⟨_, st', h, log_cons hl he hm (fun _ => rfl) (fun hq => by cases hq) ?_ hi hd hp hc hlk hmm, h1, h2⟩
        intro _ Mx hM _ rdc n w0 S F ρ a w Q K hI hsz hr hk
        unfold wpOpIn
        simp only [hi, hw hr, if_true]
        exact hrun Mx hI (fun z => evv_rep hI (envRep_rst fun u hu => hr u (List.mem_append_left _ hu)) z) (fun v w' ρ' F' hI' hg hx => hk v w' F' ρ' hI' hx hg)
      · split at h
        · rename_i ids hwr
          obtain ⟨x, M', hrun, h, hag⟩ := evop_sound hX hT h
          obtain ⟨st', h, hp, hd, hlk, hmm, h1, h2⟩ := pushE_some h
          refine ⟨_, st', h, log_cons hl he hm (fun hq => by cases hq) (fun _ => hag ids hwr) ?_ hi hd hp hc hlk hmm, h1, h2⟩
          intro _ Mx _ hM rdc n w0 S F ρ a w Q K hI hsz hr hk
          unfold wpOpIn
          simp only [hi, hw hr, if_true]
          have hM' := hM rfl
          subst hM'
          exact hrun hI (fun z => evv_rep hI (envRep_rst fun u hu => hr u (List.mem_append_left _ hu)) z) (fun v w' ρ' F' hI' hg hx => hk v w' F' ρ' hI' hx hg)
        · cases h

theorem evdg_sound (hX : X.Okb) {T : Tab R} (hT : T.CallOk X) {i : Nat} {o : Oper} {cl : Nat} {st : St} {log : List Ent} {k : List Ent → St → Option R} {r : R} (hl : Log X D T.nt ops env0 M0 log st.env st.mem) (hi : ops[i]? = some o) (hc : clOf log o.after.toList = some cl)
    (h : evdg X T ops i o cl st log k = some r) :
    ∃ t st', k (t :: log) st' = some r ∧ Log X D T.nt ops env0 M0 (t :: log) st'.env st'.mem ∧ st'.dfs = st.dfs ∧ st'.rd = st.rd := by
  unfold evdg at h
  split at h
  · rename_i hg
    exact evd1_sound hX hT hl hi hc (fun _ => rfl) rfl (fun {ρ F w tmps} _ => wanted_none hg _) h
  · rename_i j want hg
    split at h
    · cases h
    · rename_i d hd
      have hmem : d ∈ readsOf o ++ guardOf ops o := List.mem_append_right _ (by simp [guardOf, hg, hd])
      have wants : ∀ (b : Bool) (env : List (Nat × AV)), look env d = .bool b → Wants X ops o env (b == want) := by
        intro b env hb ρ F w tmps hr
        have := hr d hmem
        rw [hb] at this
        generalize hv : tmps.getD d undef = v at this
        cases this
        rw [wanted_some hg, yielded_of hd hv]
        cases b <;> cases want <;> rfl
      split at h
      · rename_i b hb
        split at h
        · split at h
          · exact evd1_sound hX hT (st := { st with env := (d, .bool true) :: st.env }) hl hi hc (fun u => look_refine hb u) rfl (wants true _ (by simp [look_cons, look_nil])) h
          · exact evd0_sound (st := { st with env := (d, .bool true) :: st.env }) hl hi hc (fun u => look_refine hb u) rfl (wants true _ (by simp [look_cons, look_nil])) h
        · split at h
          · exact evd1_sound hX hT (st := { st with env := (d, .bool false) :: st.env }) hl hi hc (fun u => look_refine hb u) rfl (wants false _ (by simp [look_cons, look_nil])) h
          · exact evd0_sound (st := { st with env := (d, .bool false) :: st.env }) hl hi hc (fun u => look_refine hb u) rfl (wants false _ (by simp [look_cons, look_nil])) h
      · rename_i hb
        refine evd0_sound hl hi hc (fun _ => rfl) rfl (fun {ρ F w tmps} hr => ?_) h
        have := hr d hmem
        rw [hb] at this
        generalize hv : tmps.getD d undef = v at this
        cases this with
        | tup cs vs hl2 _ =>
          have : vs = [] := by simpa using hl2
          subst this
          rw [wanted_some hg, yielded_undef hd hv]
          rfl
      · cases h

theorem evdr_sound (hX : X.Okb) {T : Tab R} (hT : T.CallOk X) {k : List Ent → St → Option R} {r : R} : ∀ (ord : List Nat) {log : List Ent} {st : St}, Log X D T.nt ops env0 M0 log st.env st.mem → evdr X T ops ord log st k = some r →
    ∃ log' st', k log' st' = some r ∧ Log X D T.nt ops env0 M0 log' st'.env st'.mem ∧ st'.dfs = st.dfs ∧ st'.rd = st.rd ∧ ∃ l, log' = l ++ log
  | [], log, st, hl, h => ⟨log, st, h, hl, rfl, rfl, [], rfl⟩
  | i :: rest, log, st, hl, h => by
    simp only [evdr] at h
    split at h
    · cases h
    · rename_i o ho
      split at h
      · cases h
      · rename_i cl hc
        obtain ⟨t, st1, h, hl1, e1, e2⟩ := evdg_sound hX hT hl (by simpa using ho) hc h
        obtain ⟨log', st', h, hl', e3, e4, l, e5⟩ := evdr_sound hX hT rest hl1 h
        exact ⟨log', st', h, hl', e3.trans e1, e4.trans e2, l ++ [t], by rw [e5]; simp⟩

theorem World.grownBy_drawn (w : World) : w.grownBy { w with drawn := w.drawn + 1 } none := ⟨rfl, rfl, rfl, Nat.le_refl _, fun _ _ _ => rfl⟩

theorem evreg0_sound (hX : X.Okb) {T : Tab R} (hT : T.CallOk X) {id : Nat} {draw : Bool} {st : St} {k : St → Option R} {r : R} (h : evreg0 X T ops draw st k = some r) :
    ∃ st', k st' = some r ∧ CodeRuns X T.nt (.region id ops draw) st .normal st' := by
  unfold evreg0 at h
  split at h
  · obtain ⟨st', h, hr⟩ := evops_sound hX hT ops.toList 0 (fun i => by simp) h
    refine ⟨st', h, fun {rdc n w0 S F ρ a w Q} hI hs hq => wpIn_region ?_⟩
    have := hr (n := n) hI hs hq
    simpa using this
  · obtain ⟨log, st', h, hl, e1, e2, _⟩ := evdr_sound hX hT (ops := ops) (env0 := st.env) (M0 := st.mem) _ (log := []) (st := st) (show Log X (fun _ => false) T.nt ops st.env st.mem [] st.env st.mem from ⟨fun _ => rfl, rfl⟩) h
    replace h := tst_some h
    obtain ⟨hall, h⟩ := h
    rw [Bool.and_eq_true] at hall
    obtain ⟨hlen, hall⟩ := hall
    refine ⟨st', h, fun {rdc n w0 S F ρ a w Q} hI hs hq => wpIn_region_any hX.mixed ?_⟩
    have hg := World.grownBy_drawn w
    have hI' := hI.grown hg
    have hgr : Grow F F ρ ρ w { w with drawn := w.drawn + 1 } := ⟨fun _ h => h, fun _ _ h => h, hI.blks hg (by simp)⟩
    have hs' := hs.grow hgr
    refine any_runs (ds := a.defers) (tv := rdc.tv) (wb := w) (S := S) (w0 := w0) (F0 := F) (ρ0 := ρ) hl (fun i hi => ?_) (fun a' w' F' ρ' hI2 hE hsz hdf hkp hg2 => ?_) ops.size _ F ρ a _ (by simp) ?_ ?_ (fun _ _ h => by cases h) ?_
    · have := List.all_eq_true.1 hall i (List.mem_range.2 hi)
      obtain ⟨t, ht, hti⟩ := List.any_eq_true.1 this
      exact ⟨t, ht, by simpa using hti⟩
    · refine hq a' w' F' ρ' hI2 ⟨hE, hsz, ?_, ?_, hkp⟩ hg2
      · rw [e1, hdf]; exact hs.defs.mono hg2.hF hg2.hb
      · exact hs.rd.mono hg2.hF hg2.hb
    · exact Nat.le_trans List.countP_le_length (Nat.le_of_ble_eq_true hlen)
    · intro t ht hin
      exfalso
      simp only [isIn, Array.getD_eq_getD_getElem?, Array.getElem?_replicate] at hin
      split at hin <;> simp at hin
    · have hno : ∀ i, ¬ isIn (Array.replicate ops.size false) i := by
        intro i hin
        simp only [isIn, Array.getD_eq_getD_getElem?, Array.getElem?_replicate] at hin
        split at hin <;> simp at hin
      refine ⟨?_, hgr, hs.size, rfl, hs.kept, fun s _ hin => absurd hin (hno _), fun u _ => hs'.env u⟩
      have : memS st.mem (Array.replicate ops.size false) log = st.mem := by
        have := memS_skip (M0 := st.mem) (L := Array.replicate ops.size false) (l2 := log) (l1 := []) fun s _ _ => hno _
        simpa [memS] using this
      rw [this]
      exact hI'

end
end Go.Eng

namespace Go.Eng
open Go
noncomputable section

variable {X : Cx} {R : Type}

def preOp (o : Oper) : Bool := match o.op with | .store _ _ _ => false | _ => true
def countA : List Oper → Nat
  | [] => 0
  | o :: os => match (alT o).isSome && o.guard.isNone && o.after.toList.isEmpty with | true => countA os + 1 | false => countA os
/-- Two new variables, of which none is ordered behind anything. -/
def multiA (ops : Array Oper) : Bool := Nat.blt 1 (countA ops.toList)
def splitA (ops : Array Oper) : List Nat → List Nat × List Nat
  | [] => ([], [])
  | i :: r =>
    match ops.toList[i]? with
    | some o => match preOp o with | true => (i :: (splitA ops r).1, (splitA ops r).2) | false => ([], i :: r)
    | none => ([], i :: r)

def evA (X : Cx) (T : Tab R) (ops : Array Oper) : List Nat → List Ent → St → (List Ent → St → Option R) → Option R
  | [], log, st, k => k log st
  | i :: rest, log, st, k =>
    match ops.toList[i]? with
    | none => none
    | some o =>
      match clOf log o.after.toList with
      | none => none
      | some cl =>
        match (alT o).isSome with
        | true => tst (alOk X o) (pushE T ops ⟨i, o, true, .top, [], cl, st.env, st.mem, st.mem⟩ st log fun log' st' => evA X T ops rest log' st' k)
        | false => evdg X T ops i o cl st log fun log' st' => evA X T ops rest log' st' k

def evN (T : Tab R) (ops : Array Oper) : List Nat → List Ent → St → (List Ent → St → Option R) → Option R
  | [], log, st, k => k log st
  | i :: rest, log, st, k =>
    match ops.toList[i]? with
    | none => none
    | some o =>
      match clOf log o.after.toList with
      | none => none
      | some cl => pushE T ops ⟨i, o, true, (match o.dst with | some d => look st.env d | none => .tup []), [], cl, st.env, st.mem, st.mem⟩ st log fun log' st' => evN T ops rest log' st' k

def isTop : AV → Bool | .top => true | _ => false
def rgA (X : Cx) (A : List Nat) (n : Nat) (log : List Ent) : Bool :=
  (log.all fun t => t.q && (t.ids.all fun id => Nat.blt id n) && A.contains t.i && (match (alT t.o).isSome with | true => alOk X t.o && isTop t.x | false => true)) && A.all fun i => log.any fun t => t.i == i
def rgB (A : List Nat) (size k : Nat) (log : List Ent) : Bool :=
  Nat.ble (k + log.countP fun t => !A.contains t.i) size && ((List.range size).all fun i => log.any fun t => t.i == i) && log.all fun t => A.contains t.i || A.all fun a => t.cl.testBit a
def allocsOf (log : List Ent) : List Ent := log.reverse.filter fun s => (alT s.o).isSome
def ptrEnv : Nat → List Ent → List (Nat × AV)
  | _, [] => []
  | n, s :: r => match s.o.dst with | some d => (d, .ptr n 0 0) :: ptrEnv (n + 1) r | none => ptrEnv (n + 1) r

def evregA (X : Cx) (T : Tab R) (ops : Array Oper) (st : St) (k : St → Option R) : Option R :=
  evA X T ops (splitA ops (ordOf ops.toList)).1 [] st fun log1 st' =>
    tst (rgA X (splitA ops (ordOf ops.toList)).1 st.mem.length log1 && st.mem.all (renOk (idlt st.mem.length)))
      (evN T ops (splitA ops (ordOf ops.toList)).1 [] { st' with env := ptrEnv st.mem.length (allocsOf log1) ++ renE (idlt st.mem.length) 4 st'.env, mem := st.mem.map (renB (idlt st.mem.length)) ++ (allocsOf log1).map (vz X) } fun logN stN =>
        evdr X T ops (splitA ops (ordOf ops.toList)).2 logN stN fun log2 st2 =>
          tst (rgB (splitA ops (ordOf ops.toList)).1 ops.size log1.length log2) (k st2))

def evregR (X : Cx) (T : Tab R) (ops : Array Oper) (draw : Bool) (st : St) (k : St → Option R) : Option R :=
  match draw && multiA ops && X.pk with
  | true => evregA X T ops st k
  | false => evreg0 X T ops draw st k

variable {D : Nat → Bool} {nt : Nt} {ops : Array Oper} {env0 : List (Nat × AV)} {M0 : List Blk}

theorem evA_sound (hX : X.Okb) {T : Tab R} (hT : T.CallOk X) {k : List Ent → St → Option R} {r : R} : ∀ (ord : List Nat) {log : List Ent} {st : St}, Log X (isAlc ops) T.nt ops env0 M0 log st.env st.mem → evA X T ops ord log st k = some r →
    ∃ log' st', k log' st' = some r ∧ Log X (isAlc ops) T.nt ops env0 M0 log' st'.env st'.mem ∧ st'.dfs = st.dfs ∧ st'.rd = st.rd
  | [], log, st, hl, h => ⟨log, st, h, hl, rfl, rfl⟩
  | i :: rest, log, st, hl, h => by
    simp only [evA] at h
    split at h
    · cases h
    · rename_i o ho
      have ho' : ops[i]? = some o := by simpa using ho
      split at h
      · cases h
      · rename_i cl hc
        split at h
        · rename_i ha
          replace h := tst_some h
          obtain ⟨_, h⟩ := h
          obtain ⟨st1, h, hp, hd, hlk, hmm, h1, h2⟩ := pushE_some h
          have hlog := log_cons (t := ⟨i, o, true, .top, [], cl, st.env, st.mem, st.mem⟩) hl (fun _ => rfl) rfl (fun _ => rfl) (fun hq => by cases hq) (fun hD => by
            exfalso
            simp only [isAlc, ho', ha] at hD
            cases hD) ho' hd hp hc hlk hmm
          obtain ⟨log', st', h, hl', e3, e4⟩ := evA_sound hX hT rest hlog h
          exact ⟨log', st', h, hl', e3.trans h1, e4.trans h2⟩
        · obtain ⟨t, st1, h, hl1, e1, e2⟩ := evdg_sound hX hT hl ho' hc h
          obtain ⟨log', st', h, hl', e3, e4⟩ := evA_sound hX hT rest hl1 h
          exact ⟨log', st', h, hl', e3.trans e1, e4.trans e2⟩

theorem evN_sound {T : Tab R} {k : List Ent → St → Option R} {r : R} : ∀ (ord : List Nat) {log : List Ent} {st : St}, (∀ i ∈ ord, D i = true) → Log X D T.nt ops env0 M0 log st.env st.mem → (∀ u, look st.env u = look env0 u) →
    (∀ s ∈ log, s.q = true ∧ ∀ d, s.o.dst = some d → s.x = look env0 d) → evN T ops ord log st k = some r →
    ∃ log' st', k log' st' = some r ∧ Log X D T.nt ops env0 M0 log' st'.env st'.mem ∧ st'.dfs = st.dfs ∧ st'.rd = st.rd ∧ (∀ u, look st'.env u = look env0 u) ∧ (∀ s ∈ log', s.q = true ∧ ∀ d, s.o.dst = some d → s.x = look env0 d) ∧ (∀ s ∈ log, s ∈ log') ∧ ∀ i ∈ ord, ∃ s ∈ log', s.i = i
  | [], log, st, _, hl, he, hx, h => ⟨log, st, h, hl, rfl, rfl, he, hx, fun _ h => h, fun i hi => by simp at hi⟩
  | i :: rest, log, st, hD, hl, he, hx, h => by
    simp only [evN] at h
    split at h
    · cases h
    · rename_i o ho
      have ho' : ops[i]? = some o := by simpa using ho
      split at h
      · cases h
      · rename_i cl hc
        obtain ⟨st1, h, hp, hd, hlk, hmm, h1, h2⟩ := pushE_some h
        have hDi := hD i List.mem_cons_self
        have hlog := log_cons (t := ⟨i, o, true, (match o.dst with | some d => look st.env d | none => .tup []), [], cl, st.env, st.mem, st.mem⟩) hl (fun _ => rfl) rfl (fun _ => rfl) (fun hq => by cases hq) (fun h0 => by
          exfalso
          simp only at h0
          rw [hDi] at h0
          cases h0) ho' hd hp hc hlk hmm
        have he1 : ∀ u, look st1.env u = look env0 u := by
          intro u
          have e := hlk u
          simp only at e
          rw [e]
          by_cases hdu : o.dst = some u
          · rw [if_pos hdu]
            simp only [hdu]
            exact he u
          · rw [if_neg hdu]
            exact he u
        obtain ⟨log', st', h, hl', e3, e4, e5, e6, e7, e8⟩ := evN_sound rest (fun j hj => hD j (List.mem_cons_of_mem _ hj)) hlog he1 (fun s hs => by
          rcases List.mem_cons.1 hs with rfl | hs
          · refine ⟨rfl, fun d hdd => ?_⟩
            simp only at hdd ⊢
            rw [hdd]
            exact he d
          · exact hx s hs) h
        refine ⟨log', st', h, hl', e3.trans h1, e4.trans h2, e5, e6, fun s hs => e7 s (List.mem_cons_of_mem _ hs), fun j hj => ?_⟩
        rcases List.mem_cons.1 hj with rfl | hj
        · exact ⟨_, e7 _ List.mem_cons_self, rfl⟩
        · exact e8 j hj

theorem look_app : ∀ (A B : List (Nat × AV)) (t : Nat), look (A ++ B) t = look A t ∨ look (A ++ B) t = look B t
  | [], B, t => .inr rfl
  | (u, x) :: A, B, t => by
    simp only [List.cons_append, look_cons, look_nil]
    cases t == u with
    | true => exact .inl rfl
    | false => exact look_app A B t
theorem look_ptrEnv : ∀ (n : Nat) (l : List Ent) (u : Nat), look (ptrEnv n l) u = .top ∨ ∃ (j : Nat) (s : Ent), l[j]? = some s ∧ s.o.dst = some u ∧ look (ptrEnv n l) u = .ptr (n + j) 0 0
  | _, [], _ => .inl rfl
  | n, s :: r, u => by
    have ih := look_ptrEnv (n + 1) r u
    have ih' : look (ptrEnv (n + 1) r) u = .top ∨ ∃ (j : Nat) (t : Ent), (s :: r)[j]? = some t ∧ t.o.dst = some u ∧ look (ptrEnv (n + 1) r) u = .ptr (n + j) 0 0 := by
      rcases ih with h | ⟨j, t, h1, h2, h3⟩
      · exact .inl h
      · exact .inr ⟨j + 1, t, by simpa using h1, h2, by rw [h3]; congr 1; omega⟩
    simp only [ptrEnv]
    split
    · rename_i d hd
      simp only [look_cons, look_nil]
      by_cases hu : u = d
      · subst hu
        right
        exact ⟨0, s, rfl, hd, by simp⟩
      · have : (u == d) = false := by simpa using hu
        simp only [this]
        exact ih'
    · exact ih'

theorem evregA_sound (hX : X.Ok) {T : Tab R} (hT : T.CallOk X) {id : Nat} {st : St} {k : St → Option R} {r : R} (h : evregA X T ops st k = some r) :
    ∃ st', k st' = some r ∧ CodeRuns X T.nt (.region id ops true) st .normal st' := by
  unfold evregA at h
  generalize hA : (splitA ops (ordOf ops.toList)).1 = A at h
  generalize (splitA ops (ordOf ops.toList)).2 = B at h
  obtain ⟨log1, stA, h, hl1, da, ra⟩ := evA_sound hX hT A (log := []) (st := st) (env0 := st.env) (M0 := st.mem) ⟨fun _ => rfl, rfl⟩ h
  replace h := tst_some h
  obtain ⟨hc1, h⟩ := h
  rw [Bool.and_eq_true] at hc1
  obtain ⟨hc1, hM0⟩ := hc1
  unfold rgA at hc1
  rw [Bool.and_eq_true] at hc1
  obtain ⟨hc1, hcA⟩ := hc1
  have hent : ∀ t ∈ log1, t.q = true ∧ (∀ id ∈ t.ids, id < st.mem.length) ∧ A.contains t.i = true ∧ ((alT t.o).isSome = true → alOk X t.o = true ∧ t.x = .top) := by
    intro t ht
    have := List.all_eq_true.1 hc1 t ht
    simp only [Bool.and_eq_true] at this
    obtain ⟨⟨⟨b1, b2⟩, b3⟩, b4⟩ := this
    refine ⟨b1, fun id hid => by simpa using List.all_eq_true.1 b2 id hid, b3, fun hs => ?_⟩
    rw [hs] at b4
    simp only [Bool.and_eq_true] at b4
    refine ⟨b4.1, ?_⟩
    have := b4.2
    unfold isTop at this
    split at this
    · assumption
    · cases this
  have hcov : ∀ i ∈ A, ∃ t ∈ log1, t.i = i := by
    intro i hi
    obtain ⟨t, ht, hti⟩ := List.any_eq_true.1 (List.all_eq_true.1 hcA i hi)
    exact ⟨t, ht, by simpa using hti⟩
  have hAc : ∀ i, A.contains i = true ↔ i ∈ A := fun i => by simp
  have halc : ∀ t ∈ log1, isAlc ops t.i = (alT t.o).isSome := by
    intro t ht
    unfold isAlc
    rw [Log.get hl1 t ht]
  -- phase two
  obtain ⟨logN, stN, h, hlN, n1, n2, n3, n4, _, n6⟩ := evN_sound (X := X) (D := fun i => A.contains i) (ops := ops) A (log := []) (env0 := ptrEnv st.mem.length (allocsOf log1) ++ renE (idlt st.mem.length) 4 stA.env) (M0 := st.mem.map (renB (idlt st.mem.length)) ++ (allocsOf log1).map (vz X))
    (fun i hi => (hAc i).2 hi) ⟨fun _ => rfl, rfl⟩ (fun _ => rfl) (fun s hs => by simp at hs) h
  obtain ⟨log2, st2, h, hl2, d1, d2, lB, hlB⟩ := evdr_sound hX hT B hlN h
  replace h := tst_some h
  obtain ⟨hc2, h⟩ := h
  unfold rgB at hc2
  simp only [Bool.and_eq_true] at hc2
  obtain ⟨⟨hlen, hall2⟩, hclo2⟩ := hc2
  have hall : ∀ i, i < ops.size → ∃ t ∈ log2, t.i = i := by
    intro i hi
    obtain ⟨t, ht, hti⟩ := List.any_eq_true.1 (List.all_eq_true.1 hall2 i (List.mem_range.2 hi))
    exact ⟨t, ht, by simpa using hti⟩
  have hsubN : ∀ s ∈ logN, s ∈ log2 := fun s hs => by rw [hlB]; exact List.mem_append_right _ hs
  have hinN : ∀ s ∈ log2, s.i ∈ A → s ∈ logN := by
    intro s hs hi
    obtain ⟨s', hs', e⟩ := n6 s.i hi
    have := Log.distinct hl2 s hs s' (hsubN s' hs') e.symm
    rw [this]; exact hs'
  have hsameO : ∀ s ∈ log2, ∀ t ∈ log1, s.i = t.i → s.o = t.o := by
    intro s hs t ht e
    have e1 := Log.get hl2 s hs
    have e2 := Log.get hl1 t ht
    rw [e, e2] at e1
    injection e1 with e1
    exact e1.symm
  refine ⟨st2, h, fun {rdc n w0 S F ρ a w Q} hI hs hq => wpIn_region_any hX.mixed ?_⟩
  have hg := World.grownBy_drawn w
  have hI' := hI.grown hg
  have hgr : Grow F F ρ ρ w { w with drawn := w.drawn + 1 } := ⟨fun _ h => h, fun _ _ h => h, hI.blks hg (by simp)⟩
  have hs' := hs.grow hgr
  have hno : ∀ i, ¬ isIn (Array.replicate ops.size false) i := by
    intro i hin
    simp only [isIn, Array.getD_eq_getD_getElem?, Array.getElem?_replicate] at hin
    split at hin <;> simp at hin
  refine any_runs1 hX (m := log2.countP fun t => !A.contains t.i) (ds := a.defers) (tv := rdc.tv) (wb := w) (S := S) (w0 := w0) (F0 := F) (ρ0 := ρ) hI.len hl1 (fun t ht => (hent t ht).1) (fun t ht => (hent t ht).2.1) (fun t ht hal => (hent t ht).2.2.2 (by rw [← halc t ht]; exact hal))
    ?_ ?_ ops.size _ F [] [] a _ (by simp) ?_ ?_ ?_ ?_
  · -- only those of the first part are ready
    intro L hsz hcl hsub hex i hi
    rw [mem_ready] at hi
    obtain ⟨hf, o, ho, hpre⟩ := hi
    have hlt : i < ops.size := (Array.getElem?_eq_some_iff.1 ho).1
    obtain ⟨t, ht, rfl⟩ := hall i hlt
    by_cases hiA : t.i ∈ A
    · exact hcov _ hiA
    · exfalso
      have hb := List.all_eq_true.1 hclo2 t ht
      have hnc : A.contains t.i = false := by
        cases hcc : A.contains t.i with
        | false => rfl
        | true => exact absurd ((hAc _).1 hcc) hiA
      rw [hnc, Bool.false_or] at hb
      have hcl2 : Closed L log2 := by
        intro s hs2 hsi e he hb2
        obtain ⟨u, hu, hui⟩ := hsub s.i hsi
        rw [hsameO s hs2 u hu hui.symm] at he
        exact hcl u hu (by rw [hui]; exact hsi) e he hb2
      have hto : t.o = o := by
        have := Log.get hl2 t ht
        rw [ho] at this
        injection this with this
        exact this.symm
      have hclosed := Log.closed hl2 hcl2 t ht (fun e he hb2 => hpre e (by rw [← hto]; exact he) hb2)
      obtain ⟨u, hu, hun⟩ := hex
      exact hun (hclosed u.i (List.all_eq_true.1 hb u.i ((hAc _).1 (hent u hu).2.2.1)))
  · -- the first part is over
    intro fuel L F1 pend hs1 a1 w1 hsz hm hallL hsub hmid
    let As := allocsOf log1
    have hAs : ∀ s, s ∈ As ↔ (s ∈ log1 ∧ (alT s.o).isSome = true) := by
      intro s
      simp only [As, allocsOf, List.mem_filter, List.mem_reverse]
    have hAnd : As.Nodup := (List.pairwise_reverse.2 ((Log.nodup hl1).imp fun h => Ne.symm h)).filter _
    have hpend : ∀ s ∈ As, ∃ i : Nat, pend[i]? = some s := by
      intro s hsA
      obtain ⟨h1, h2⟩ := (hAs s).1 hsA
      exact List.getElem?_of_mem ((hmid.all s).2 ⟨h1, by rw [halc s h1]; exact h2, hallL s h1⟩)
    let pos : Nat → Nat := fun j => Classical.epsilon fun i : Nat => ∃ s, As[j]? = some s ∧ pend[i]? = some s
    have hpos : ∀ (j : Nat) s, As[j]? = some s → pend[pos j]? = some s := by
      intro j s hj
      obtain ⟨i, hi⟩ := hpend s (List.mem_of_getElem? hj)
      have hex : ∃ i : Nat, ∃ s, As[j]? = some s ∧ pend[i]? = some s := ⟨i, s, hj, hi⟩
      obtain ⟨s', h1, h2⟩ := Classical.epsilon_spec hex
      rw [hj] at h1
      injection h1 with h1
      subst h1
      exact h2
    have hposlt : ∀ (j : Nat), j < As.length → pos j < hs1.length := by
      intro j hj
      have := hpos j _ (List.getElem?_eq_getElem hj)
      rw [hmid.len]
      exact (List.getElem?_eq_some_iff.1 this).1
    let hs' : List Hd := (List.range As.length).map fun j => hs1.getD (pos j) ⟨.nilFunc, 0⟩
    have hs'get : ∀ (j : Nat), j < As.length → hs'[j]? = hs1[pos j]? := by
      intro j hj
      simp only [hs', List.getElem?_map, List.getElem?_range hj, Option.map_some, List.getD_eq_getElem?_getD, List.getElem?_eq_getElem (hposlt j hj), Option.getD_some]
    have hI1 : Inv X w0 S F1 (ρ ++ hs') (st.mem.map (renB (idlt st.mem.length)) ++ As.map (vz X)) w1 := by
      refine Inv.retail hX hmid.inv hI.len (by simp [hs']) pos ?_ ?_ hM0 ?_
      · intro j b hd hb hh
        have hj : j < As.length := by
          have := (List.getElem?_eq_some_iff.1 hb).1
          simpa using this
        rw [List.getElem?_map, List.getElem?_eq_getElem hj] at hb
        rw [hs'get j hj] at hh
        rw [List.getElem?_map, hpos j _ (List.getElem?_eq_getElem hj)]
        exact ⟨hb, hh⟩
      · intro j j' hj hj' e
        simp only [List.length_map] at hj hj'
        have p1 := hpos j _ (List.getElem?_eq_getElem hj)
        have p2 := hpos j' _ (List.getElem?_eq_getElem hj')
        rw [e, p2] at p1
        injection p1 with p1
        exact (List.getElem?_inj hj hAnd).1 (by rw [List.getElem?_eq_getElem hj, List.getElem?_eq_getElem hj', p1])
      · intro b hb ρa ρb hd hB
        obtain ⟨s, hsA, rfl⟩ := List.mem_map.1 hb
        obtain ⟨g1, g2⟩ := (hAs s).1 hsA
        exact vz_free hX ((hent s g1).2.2.2 g2).1 _ _ _ hB
    have henv : EnvRep X (ρ ++ hs1) F1 w1 stA.env a1.tmps := by
      intro u
      rcases Log.look hl1 u with ⟨s, hsl, hd, he⟩ | ⟨hn, he⟩
      · rw [he]; exact hmid.wrote s hsl (hallL s hsl) u hd
      · rw [he]; exact hmid.old u fun s hsl _ => hn s hsl
    have hE1 : EnvRep X (ρ ++ hs') F1 w1 (ptrEnv st.mem.length As ++ renE (idlt st.mem.length) 4 stA.env) a1.tmps := by
      intro u
      rcases look_app (ptrEnv st.mem.length As) (renE (idlt st.mem.length) 4 stA.env) u with e | e
      · rw [e]
        rcases look_ptrEnv st.mem.length As u with e2 | ⟨j, s, h1, h2, e2⟩
        · rw [e2]; exact .top _
        · rw [e2]
          have hp := hmid.ptr (pos j) s (hpos j s h1) u h2
          have hj : j < As.length := (List.getElem?_eq_some_iff.1 h1).1
          have hf : Ren (fun i => if i = st.mem.length + pos j then some (st.mem.length + j) else none) (ρ ++ hs1) (ρ ++ hs') := by
            intro i i' hd hi hh
            simp only at hi
            split at hi
            · rename_i hie
              injection hi with hi
              subst hi; subst hie
              rw [List.getElem?_append_right (by rw [hI.len]; omega), hI.len, Nat.add_sub_cancel_left] at hh
              rw [List.getElem?_append_right (by rw [hI.len]; omega), hI.len, Nat.add_sub_cancel_left, hs'get j hj]
              exact hh
            · cases hi
          have := hp.ren hX.kinds hf 4
          simpa [Eng.ren] using this
      · rw [e]
        exact henv.ren hX (ren_idlt hI.len) 4 u
    have hLA : ∀ i, isIn L i ↔ i ∈ A := by
      intro i
      constructor
      · intro hi
        obtain ⟨t, ht, rfl⟩ := hsub i hi
        exact (hAc _).1 (hent t ht).2.2.1
      · intro hi
        obtain ⟨t, ht, rfl⟩ := hcov i hi
        exact hallL t ht
    refine any_runs (ds := a.defers) (tv := rdc.tv) (wb := w) (S := S) (w0 := w0) (F0 := F) (ρ0 := ρ) hl2 hall (fun a' w' F' ρ' hI2 hE hsz2 hdf hkp hg2 => ?_) fuel L F1 (ρ ++ hs') a1 w1 hsz ?_ ?_ ?_ ?_
    · refine hq a' w' F' ρ' hI2 ⟨hE, hsz2, ?_, ?_, hkp⟩ hg2
      · have e : st2.dfs = st.dfs := by rw [d1, n1]; exact da
        rw [e, hdf]; exact hs.defs.mono hg2.hF hg2.hb
      · exact hs.rd.mono hg2.hF hg2.hb
    · refine Nat.le_trans (List.countP_mono_left fun t ht hn => ?_) hm
      have hni : ¬ isIn L t.i := by simpa [isIn] using hn
      rw [hLA] at hni
      cases hcc : A.contains t.i with
      | false => rfl
      | true => exact absurd ((hAc _).1 hcc) hni
    · intro s hs2 hsi e he hb2
      obtain ⟨u, hu, hui⟩ := hsub s.i hsi
      rw [hsameO s hs2 u hu hui.symm] at he
      obtain ⟨v, hv, hvi⟩ : ∃ v ∈ log1, v.i = e.on := by
        obtain ⟨l2, l1, hlog⟩ := List.append_of_mem hu
        have hLL := hl1
        rw [hlog] at hLL
        obtain ⟨envE, ME, hE⟩ := Log.entry hLL
        obtain ⟨env1, M1, hl1', _, _, _, _, _, _, _, _, hpre', _⟩ := hE
        obtain ⟨v, hv, hvi⟩ := hpre' e he hb2
        exact ⟨v, by rw [hlog]; exact List.mem_append_right _ (List.mem_cons_of_mem _ hv), hvi⟩
      rw [← hvi]; exact hallL v hv
    · intro t ht hD
      exact (hLA _).2 ((hAc _).1 hD)
    · refine ⟨?_, ⟨hmid.grow.hF, fun i hd hh => ?_, hmid.grow.hb⟩, hmid.size, hmid.defs, hmid.kept, fun s hs2 hsi d hd => ?_, fun u _ => hE1 u⟩
      · have : memS (st.mem.map (renB (idlt st.mem.length)) ++ (allocsOf log1).map (vz X)) L log2 = st.mem.map (renB (idlt st.mem.length)) ++ (allocsOf log1).map (vz X) := by
          have := memS_skip (M0 := st.mem.map (renB (idlt st.mem.length)) ++ (allocsOf log1).map (vz X)) (L := L) (l2 := log2) (l1 := []) fun s hs2 hsq hin => by
            have := (n4 s (hinN s hs2 ((hLA _).1 hin))).1
            rw [hsq] at this
            cases this
          simpa [memS] using this
        rw [this]
        exact hI1
      · rw [List.getElem?_append_left (List.getElem?_eq_some_iff.1 hh).1]; exact hh
      · rw [(n4 s (hinN s hs2 ((hLA _).1 hsi))).2 d hd]
        exact hE1 d
  · refine Nat.le_trans (Nat.add_le_add_right List.countP_le_length _) (Nat.le_of_ble_eq_true hlen)
  · intro t ht hin
    exact absurd hin (hno _)
  · intro i hin
    exact absurd hin (hno _)
  · refine ⟨by simpa using hI', rfl, by simpa using hgr, hs.size, rfl, hs.kept, fun s _ hin => absurd hin (hno _), fun u _ => by simpa using hs'.env u, fun i s hi => by simp at hi, fun s => ?_, List.nodup_nil⟩
    constructor
    · intro hh; simp at hh
    · rintro ⟨_, _, h3⟩; exact absurd h3 (hno _)

theorem evregR_sound (hX : X.Okb) {T : Tab R} (hT : T.CallOk X) {id : Nat} {draw : Bool} {st : St} {k : St → Option R} {r : R} (h : evregR X T ops draw st k = some r) :
    ∃ st', k st' = some r ∧ CodeRuns X T.nt (.region id ops draw) st .normal st' := by
  unfold evregR at h
  split at h
  · rename_i hb
    rw [Bool.and_eq_true, Bool.and_eq_true] at hb
    rw [hb.1.1]
    exact evregA_sound (hX.ok hb.2) hT h
  · exact evreg0_sound hX hT h

end
end Go.Eng

namespace Go.Eng
open Go
noncomputable section

variable {X : Cx} {R : Type}

theorem bit_eq (seen t : Nat) : Nat.beq (Nat.land (Nat.shiftRight seen t) 1) 1 = seen.testBit t := by
  unfold Nat.testBit
  have h1 : Nat.land (Nat.shiftRight seen t) 1 = (seen >>> t) % 2 := by
    show (seen >>> t) &&& 1 = _
    exact Nat.and_one_is_mod _
  have h2 : 1 &&& (seen >>> t) = (seen >>> t) % 2 := by rw [Nat.and_comm]; exact Nat.and_one_is_mod _
  rw [h1, h2]
  have : (seen >>> t) % 2 < 2 := Nat.mod_lt _ (by omega)
  rcases Nat.lt_or_ge ((seen >>> t) % 2) 1 with h | h
  · have e : (seen >>> t) % 2 = 0 := by omega
    rw [e]; rfl
  · have e : (seen >>> t) % 2 = 1 := by omega
    rw [e]; rfl

/-- An operation of a region: its number, what it is, what it waits for. -/
abbrev SE := Nat × Oper × Nat
def cgS : List SE → Nat → Option Nat
  | [], _ => none
  | t :: l, i => if t.1 == i then some t.2.2 else cgS l i
def clS (l : List SE) : List Edge → Option Nat
  | [] => some 0
  | e :: es =>
    if Region.binds .any e then
      match cgS l e.on, clS l es with
      | some m, some r => some (2 ^ e.on ||| m ||| r)
      | _, _ => none
    else clS l es
def Ent.st (t : Ent) : SE := (t.i, t.o, t.cl)
theorem cgS_eq : ∀ (log : List Ent) (i : Nat), cgS (log.map Ent.st) i = clGet log i
  | [], _ => rfl
  | t :: log, i => by simp only [List.map_cons, cgS, clGet, Ent.st]; rw [← cgS_eq log i]
theorem clS_eq (log : List Ent) : ∀ es : List Edge, clS (log.map Ent.st) es = clOf log es
  | [] => rfl
  | e :: es => by simp only [clS, clOf]; rw [cgS_eq, clS_eq log es]; try rfl
def ordS (ops : Array Oper) : List Nat → List SE → Option (List SE)
  | [], _ => some []
  | i :: rest, acc =>
    match ops.toList[i]? with
    | none => none
    | some o => match clS acc o.after.toList with
      | none => none
      | some cl => match ordS ops rest ((i, o, cl) :: acc) with
        | none => none
        | some l => some ((i, o, cl) :: l)
/-- May the two be taken the other way round, as far as variables go? -/
def pairS (ops : Array Oper) (t s : SE) : Bool :=
  !(t.1 == s.1) && !(t.2.1.dst.isSome && t.2.1.dst == s.2.1.dst) &&
  (t.2.2.testBit s.1 || (!hits s.2.1.dst (readsOf t.2.1 ++ guardOf ops t.2.1) && !hits t.2.1.dst (readsOf s.2.1 ++ guardOf ops s.2.1)))
def pairsS (ops : Array Oper) : List SE → List SE → Bool
  | _, [] => true
  | acc, t :: l => acc.all (pairS ops t) && pairsS ops (t :: acc) l
/-! The same test of pairs, with masks. -/
def bitF (m i : Nat) : Bool := Nat.beq (Nat.land (Nat.shiftRight m i) 1) 1
def andF (a b : Bool) : Bool := Bool.rec (motive := fun _ => Bool) false b a
def orF (a b : Bool) : Bool := Bool.rec (motive := fun _ => Bool) b true a
def notF (a : Bool) : Bool := Bool.rec (motive := fun _ => Bool) true false a
theorem andF_eq (a b : Bool) : andF a b = (a && b) := by cases a <;> rfl
theorem orF_eq (a b : Bool) : orF a b = (a || b) := by cases a <;> rfl
theorem notF_eq (a : Bool) : notF a = !a := by cases a <;> rfl
def maskL (l : List Nat) : Nat := List.rec (motive := fun _ => Nat) 0 (fun u _ ih => Nat.lor (Nat.shiftLeft 1 u) ih) l
theorem maskL_bit : ∀ (l : List Nat) (d : Nat), bitF (maskL l) d = l.contains d
  | [], d => by
    show Nat.beq (Nat.land (Nat.shiftRight 0 d) 1) 1 = false
    rw [bit_eq]; simp
  | u :: l, d => by
    show bitF (Nat.lor (Nat.shiftLeft 1 u) (maskL l)) d = _
    have ih := maskL_bit l d
    unfold bitF at ih ⊢
    rw [bit_eq] at ih ⊢
    show ((1 <<< u) ||| maskL l).testBit d = _
    rw [Nat.testBit_or, Nat.one_shiftLeft, Nat.testBit_two_pow, ih, List.contains_cons]
    congr 1
    by_cases h : u = d
    · subst h; simp
    · simp [h, Ne.symm h]
def freeF (o : Option Nat) (m : Nat) : Bool := Option.rec (motive := fun _ => Bool) true (fun d => notF (bitF m d)) o
theorem freeF_eq (o : Option Nat) (l : List Nat) : freeF o (maskL l) = !hits o l := by
  cases o with
  | none => rfl
  | some d => show notF (bitF (maskL l) d) = _; rw [notF_eq, maskL_bit]; rfl
def dstF (a b : Option Nat) : Bool := Option.rec (motive := fun _ => Bool) true (fun x => Option.rec (motive := fun _ => Bool) true (fun y => notF (Nat.beq x y)) b) a
theorem nbeq_dec (a b : Nat) : Nat.beq a b = (a == b) := by
  by_cases h : a = b
  · subst h; simp
  · rw [beq_eq_false_iff_ne.2 h]
    cases hb : Nat.beq a b with
    | false => rfl
    | true => exact absurd (Nat.eq_of_beq_eq_true hb) h
theorem dstF_eq (a b : Option Nat) : dstF a b = !(a.isSome && a == b) := by
  cases a with
  | none => rfl
  | some x => cases b with
    | none => rfl
    | some y => show notF (Nat.beq x y) = _; rw [notF_eq, nbeq_dec]; simp
def rdM (ops : Array Oper) (o : Oper) : Nat := maskL (readsOf o ++ guardOf ops o)
def pairF (ops : Array Oper) (t s : SE) : Bool :=
  andF (notF (Nat.beq t.1 s.1)) (andF (dstF t.2.1.dst s.2.1.dst) (orF (bitF t.2.2 s.1) (andF (freeF s.2.1.dst (rdM ops t.2.1)) (freeF t.2.1.dst (rdM ops s.2.1)))))
theorem pairF_eq (ops : Array Oper) (t s : SE) : pairF ops t s = pairS ops t s := by
  unfold pairF pairS rdM
  simp only [bitF, bit_eq]
  simp only [andF_eq, orF_eq, notF_eq, dstF_eq, freeF_eq, nbeq_dec, Bool.and_assoc]
def allF {α : Type} (f : α → Bool) (l : List α) : Bool := List.rec (motive := fun _ => Bool) true (fun x _ ih => andF (f x) ih) l
theorem allF_eq {α : Type} (f : α → Bool) : ∀ (l : List α), allF f l = l.all f
  | [] => rfl
  | x :: l => by show andF (f x) (allF f l) = _; rw [andF_eq, allF_eq f l]; rfl
def pairsF (ops : Array Oper) (l : List SE) : List SE → Bool := List.rec (motive := fun _ => List SE → Bool) (fun _ => true) (fun t _ ih acc => andF (allF (pairF ops t) acc) (ih (t :: acc))) l
theorem pairsF_eq (ops : Array Oper) : ∀ (l acc : List SE), pairsF ops l acc = pairsS ops acc l
  | [], acc => rfl
  | t :: l, acc => by
    show andF (allF (pairF ops t) acc) (pairsF ops l (t :: acc)) = _
    rw [andF_eq, allF_eq, pairsF_eq ops l]
    show _ = (acc.all (pairS ops t) && pairsS ops (t :: acc) l)
    congr 2
    funext s
    exact pairF_eq ops t s
def fzS (p : SE) (k : SE → Option R) : Option R := fzN p.1 fun i => fzN p.2.2 fun cl => k (i, p.2.1, cl)
theorem fzS_eq (p : SE) (k : SE → Option R) : fzS p k = k p := by unfold fzS; rw [fzN_eq, fzN_eq]
/-- What does not hang on the values. -/
def regS (ops : Array Oper) : Option (List SE) :=
  match ordS ops (ordOf ops.toList) [] with
  | none => none
  | some l => tst (pairsF ops l [] && Nat.ble l.length ops.size && (List.range ops.size).all fun i => l.any fun t => t.1 == i) (fzL fzS l some)

inductive ChS (ops : Array Oper) : List SE → List SE → Prop
  | nil (acc : List SE) : ChS ops acc []
  | cons (acc : List SE) (i : Nat) (o : Oper) (cl : Nat) (l : List SE) (ho : ops[i]? = some o) (hc : clS acc o.after.toList = some cl) (h : ChS ops ((i, o, cl) :: acc) l) : ChS ops acc ((i, o, cl) :: l)
theorem ordS_ok {ops : Array Oper} : ∀ (ord : List Nat) {acc l : List SE}, ordS ops ord acc = some l → ChS ops acc l
  | [], acc, l, h => by
    simp only [ordS, Option.some.injEq] at h
    subst h; exact .nil _
  | i :: rest, acc, l, h => by
    simp only [ordS] at h
    split at h
    · cases h
    · rename_i o ho
      split at h
      · cases h
      · rename_i cl hc
        split at h
        · cases h
        · rename_i l' hl
          injection h with h
          subst h
          exact .cons _ _ _ _ _ (by simpa using ho) hc (ordS_ok rest hl)

def memOk (t s : Ent) : Bool :=
  match t.q, s.q with
  | true, true => true
  | false, false => false
  | true, false => t.ids.all fun id => s.keeps id
  | false, true => s.ids.all fun id => t.keeps id
def chk (t : Ent) (dl : List Ent) : Bool := dl.all fun s => Nat.beq (Nat.land (Nat.shiftRight t.cl s.i) 1) 1 || memOk t s

def fzP (p : Nat × AV) (k : Nat × AV → Option R) : Option R := fz1 p.2 fun x => k (p.1, x)
theorem fzP_eq (p : Nat × AV) (k : Nat × AV → Option R) : fzP p k = k p := by unfold fzP; rw [fz1_eq]
/-- One operation; the list keeps what looks at the memory or writes it. -/
def evc1 (X : Cx) (T : Tab R) (i : Nat) (o : Oper) (cl : Nat) (st : St) (dl : List Ent) (k : List Ent → St → Option R) : Option R :=
  fzL fzP (rst (readsOf o) st.env) fun renv =>
  match quietIds X (evv X renv) o with
  | some ids =>
    evop X T (evv X renv) o st.mem fun x _ =>
      match ids with
      | [] => putD T.nt st o.dst x st.mem (k dl)
      | _ => tst (chk ⟨i, o, true, x, ids, cl, st.env, st.mem, st.mem⟩ dl) (putD T.nt st o.dst x st.mem (k (⟨i, o, true, x, ids, cl, st.env, st.mem, st.mem⟩ :: dl)))
  | none =>
    match wrIds T (evv X renv) o st.mem with
    | some ids => evop X T (evv X renv) o st.mem fun x M' => tst (chk ⟨i, o, false, x, ids, cl, st.env, st.mem, M'⟩ dl) (putD T.nt st o.dst x M' (k (⟨i, o, false, x, ids, cl, st.env, st.mem, M'⟩ :: dl)))
    | none => none
def evcg (X : Cx) (T : Tab R) (ops : Array Oper) (i : Nat) (o : Oper) (cl : Nat) (st : St) (dl : List Ent) (k : List Ent → St → Option R) : Option R :=
  match o.guard with
  | none => evc1 X T i o cl st dl k
  | some (j, want) =>
    match gslot ops j with
    | none => none
    | some d =>
      match look st.env d with
      | .bool b =>
        match b with
        | true => match want with
          | true => evc1 X T i o cl { st with env := (d, .bool true) :: st.env } dl k
          | false => putD T.nt { st with env := (d, .bool true) :: st.env } o.dst (.tup []) st.mem (k dl)
        | false => match want with
          | false => evc1 X T i o cl { st with env := (d, .bool false) :: st.env } dl k
          | true => putD T.nt { st with env := (d, .bool false) :: st.env } o.dst (.tup []) st.mem (k dl)
      | .tup [] => putD T.nt st o.dst (.tup []) st.mem (k dl)
      | _ => none
def evcs (X : Cx) (T : Tab R) (ops : Array Oper) : List SE → List Ent → St → (St → Option R) → Option R
  | [], _, st, k => k st
  | t :: l, dl, st, k => evcg X T ops t.1 t.2.1 t.2.2 st dl fun dl' st' => evcs X T ops l dl' st' k
def evregC (X : Cx) (T : Tab R) (ops : Array Oper) (st : St) (k : St → Option R) : Option R :=
  match regS ops with
  | some l => evcs X T ops l [] st k
  | none => none

variable {D : Nat → Bool} {nt : Nt} {ops : Array Oper} {env0 env1 : List (Nat × AV)} {M0 M1 : List Blk}

/-- What the list must keep of the log. -/
def Kept (log dl : List Ent) : Prop := ∀ s ∈ log, (s.q = true ∧ s.ids = []) ∨ s ∈ dl

theorem okPair_of {t s : Ent} (hs : pairS ops t.st s.st = true) (h : t.cl.testBit s.i = true ∨ memOk t s = true) : okPair ops t s = true := by
  unfold pairS at hs
  simp only [Ent.st, Bool.and_eq_true, Bool.or_eq_true] at hs
  unfold okPair
  simp only [Bool.and_eq_true, Bool.or_eq_true]
  refine ⟨hs.1, ?_⟩
  rcases hs.2 with h2 | h2
  · exact .inl h2
  · rcases h with h | h
    · exact .inl h
    · exact .inr ⟨h2, h⟩

theorem pairs_of {t : Ent} {log dl : List Ent} (hall : ∀ s ∈ log, pairS ops t.st s.st = true) (hk : Kept log dl) (h : chk t dl = true ∨ (t.q = true ∧ t.ids = [])) : ∀ s ∈ log, okPair ops t s = true := by
  intro s hs
  refine okPair_of (hall s hs) ?_
  rcases h with h | ⟨hq, hi⟩
  · rcases hk s hs with ⟨hsq, hsi⟩ | hd
    · refine .inr ?_
      unfold memOk
      rw [hsq, hsi]
      cases t.q <;> rfl
    · have := List.all_eq_true.1 h s hd
      rw [Bool.or_eq_true, bit_eq] at this
      exact this
  · refine .inr ?_
    unfold memOk
    rw [hq, hi]
    cases s.q <;> rfl

theorem putD_log {T : Tab R} {t : Ent} {st : St} {log : List Ent} (hl : Log X D T.nt ops env0 M0 log env1 M1) (h1 : ∀ u, look t.env u = look env1 u) (h2 : t.M = M1) (h3 : t.q = true → t.M' = t.M) (h4 : t.q = false → Agree t.ids t.M t.M') (h5 : D t.i = false → t.Runs X T.nt ops) (h6 : ops[t.i]? = some t.o)
    (h8 : ∀ s ∈ log, okPair ops t s = true) (h9 : clOf log t.o.after.toList = some t.cl) (he : ∀ u, look st.env u = look t.env u) {k : St → Option R} {r : R} (h : putD T.nt st t.o.dst t.x t.M' k = some r) :
    ∃ st', k st' = some r ∧ Log X D T.nt ops env0 M0 (t :: log) st'.env st'.mem ∧ st'.dfs = st.dfs ∧ st'.rd = st.rd := by
  have hp : pushE T ops t st [] (fun _ st' => k st') = some r := by
    unfold pushE
    simp only [List.all_nil, tst]
    exact h
  obtain ⟨st', h, _, hd, hlk, hmm, e1, e2⟩ := pushE_some hp
  exact ⟨st', h, log_cons hl h1 h2 h3 h4 h5 h6 hd h8 h9 (fun u => by rw [hlk u, he u]) hmm, e1, e2⟩

theorem evc1_sound (hX : X.Okb) {T : Tab R} (hT : T.CallOk X) {i : Nat} {o : Oper} {cl : Nat} {st : St} {log dl : List Ent} {k : List Ent → St → Option R} {r : R} (hl : Log X D T.nt ops env0 M0 log env1 M1) (hk : Kept log dl) (hps : ∀ s ∈ log, pairS ops (i, o, cl) s.st = true) (hi : ops[i]? = some o) (hc : clOf log o.after.toList = some cl)
    (he : ∀ u, look st.env u = look env1 u) (hm : st.mem = M1) (hw : Wants X ops o st.env true) (h : evc1 X T i o cl st dl k = some r) :
    ∃ t dl' st', k dl' st' = some r ∧ Log X D T.nt ops env0 M0 (t :: log) st'.env st'.mem ∧ Kept (t :: log) dl' ∧ t.st = (i, o, cl) ∧ st'.dfs = st.dfs ∧ st'.rd = st.rd := by
  unfold evc1 at h
  rw [fzL_eq fzP_eq] at h
  split at h
  · rename_i ids hq
    obtain ⟨y, h, hrun⟩ := quiet_runs hX hq h
    have hrun' : ∀ Mx : List Blk, (∀ id ∈ ids, Mx[id]? = st.mem[id]?) → _ := hrun
    have runs : (⟨i, o, true, y, ids, cl, st.env, st.mem, st.mem⟩ : Ent).Runs X T.nt ops := by
      intro Mx hM _ rdc n w0 S F ρ a w Q K hI hsz hr hk
      unfold wpOpIn
      simp only [hi, hw hr, if_true]
      exact hrun Mx (hM rfl) hI (fun z => evv_rep hI (envRep_rst fun u hu => hr u (List.mem_append_left _ hu)) z) (fun v w' ρ' F' hI' hg hx => hk v w' F' ρ' hI' hx hg)
    split at h
    · obtain ⟨st', h, hl', e1, e2⟩ := putD_log (t := ⟨i, o, true, y, [], cl, st.env, st.mem, st.mem⟩) hl he hm (fun _ => rfl) (fun hq => by cases hq) (fun _ => runs) hi (pairs_of hps hk (.inr ⟨rfl, rfl⟩)) hc (fun _ => rfl) h
      exact ⟨_, dl, st', h, hl', fun s hs => by
        rcases List.mem_cons.1 hs with rfl | hs
        · exact .inl ⟨rfl, rfl⟩
        · exact hk s hs, rfl, e1, e2⟩
    · replace h := tst_some h
      obtain ⟨hchk, h⟩ := h
      obtain ⟨st', h, hl', e1, e2⟩ := putD_log (t := ⟨i, o, true, y, ids, cl, st.env, st.mem, st.mem⟩) hl he hm (fun _ => rfl) (fun hq => by cases hq) (fun _ => runs) hi (pairs_of hps hk (.inl hchk)) hc (fun _ => rfl) h
      exact ⟨_, _, st', h, hl', fun s hs => by
        rcases List.mem_cons.1 hs with rfl | hs
        · exact .inr List.mem_cons_self
        · exact (hk s hs).imp id (List.mem_cons_of_mem _), rfl, e1, e2⟩
  · split at h
    · rename_i ids hwr
      obtain ⟨x, M', hrun, h, hag⟩ := evop_sound hX hT h
      replace h := tst_some h
      obtain ⟨hchk, h⟩ := h
      have runs : (⟨i, o, false, x, ids, cl, st.env, st.mem, M'⟩ : Ent).Runs X T.nt ops := by
        intro Mx _ hM rdc n w0 S F ρ a w Q K hI hsz hr hk
        unfold wpOpIn
        simp only [hi, hw hr, if_true]
        have hM' := hM rfl
        subst hM'
        exact hrun hI (fun z => evv_rep hI (envRep_rst fun u hu => hr u (List.mem_append_left _ hu)) z) (fun v w' ρ' F' hI' hg hx => hk v w' F' ρ' hI' hx hg)
      obtain ⟨st', h, hl', e1, e2⟩ := putD_log (t := ⟨i, o, false, x, ids, cl, st.env, st.mem, M'⟩) hl he hm (fun hq => by cases hq) (fun _ => hag ids hwr) (fun _ => runs) hi (pairs_of hps hk (.inl hchk)) hc (fun _ => rfl) h
      exact ⟨_, _, st', h, hl', fun s hs => by
        rcases List.mem_cons.1 hs with rfl | hs
        · exact .inr List.mem_cons_self
        · exact (hk s hs).imp id (List.mem_cons_of_mem _), rfl, e1, e2⟩
    · cases h

theorem evc0_sound {T : Tab R} {i : Nat} {o : Oper} {cl : Nat} {st : St} {log dl : List Ent} {k : List Ent → St → Option R} {r : R} (hl : Log X D T.nt ops env0 M0 log env1 M1) (hk : Kept log dl) (hps : ∀ s ∈ log, pairS ops (i, o, cl) s.st = true) (hi : ops[i]? = some o) (hc : clOf log o.after.toList = some cl)
    (he : ∀ u, look st.env u = look env1 u) (hm : st.mem = M1) (hw : Wants X ops o st.env false) (h : putD T.nt st o.dst (.tup []) st.mem (k dl) = some r) :
    ∃ t dl' st', k dl' st' = some r ∧ Log X D T.nt ops env0 M0 (t :: log) st'.env st'.mem ∧ Kept (t :: log) dl' ∧ t.st = (i, o, cl) ∧ st'.dfs = st.dfs ∧ st'.rd = st.rd := by
  obtain ⟨st', h, hl', e1, e2⟩ := putD_log (t := ⟨i, o, true, .tup [], [], cl, st.env, st.mem, st.mem⟩) hl he hm (fun _ => rfl) (fun hq => by cases hq) (fun _ => by
    intro Mx _ _ rdc n w0 S F ρ a w Q K hI hsz hr hk
    unfold wpOpIn
    simp only [hi, hw hr, Bool.false_eq_true, if_false]
    exact ⟨fun _ _ => trivial, hk _ w F ρ hI rep_undef (Grow.refl _ _ _)⟩) hi (pairs_of hps hk (.inr ⟨rfl, rfl⟩)) hc (fun _ => rfl) h
  exact ⟨_, dl, st', h, hl', fun s hs => by
    rcases List.mem_cons.1 hs with rfl | hs
    · exact .inl ⟨rfl, rfl⟩
    · exact hk s hs, rfl, e1, e2⟩

theorem evcg_sound (hX : X.Okb) {T : Tab R} (hT : T.CallOk X) {i : Nat} {o : Oper} {cl : Nat} {st : St} {log dl : List Ent} {k : List Ent → St → Option R} {r : R} (hl : Log X D T.nt ops env0 M0 log st.env st.mem) (hk : Kept log dl) (hps : ∀ s ∈ log, pairS ops (i, o, cl) s.st = true) (hi : ops[i]? = some o) (hc : clOf log o.after.toList = some cl)
    (h : evcg X T ops i o cl st dl k = some r) :
    ∃ t dl' st', k dl' st' = some r ∧ Log X D T.nt ops env0 M0 (t :: log) st'.env st'.mem ∧ Kept (t :: log) dl' ∧ t.st = (i, o, cl) ∧ st'.dfs = st.dfs ∧ st'.rd = st.rd := by
  unfold evcg at h
  split at h
  · rename_i hg
    exact evc1_sound hX hT hl hk hps hi hc (fun _ => rfl) rfl (fun {ρ F w tmps} _ => wanted_none hg _) h
  · rename_i j want hg
    split at h
    · cases h
    · rename_i d hd
      have hmem : d ∈ readsOf o ++ guardOf ops o := List.mem_append_right _ (by simp [guardOf, hg, hd])
      have wants : ∀ (b : Bool) (env : List (Nat × AV)), look env d = .bool b → Wants X ops o env (b == want) := by
        intro b env hb ρ F w tmps hr
        have := hr d hmem
        rw [hb] at this
        generalize hv : tmps.getD d undef = v at this
        cases this
        rw [wanted_some hg, yielded_of hd hv]
        cases b <;> cases want <;> rfl
      split at h
      · rename_i b hb
        split at h
        · split at h
          · exact evc1_sound hX hT (st := { st with env := (d, .bool true) :: st.env }) hl hk hps hi hc (fun u => look_refine hb u) rfl (wants true _ (by simp [look_cons, look_nil])) h
          · exact evc0_sound (st := { st with env := (d, .bool true) :: st.env }) hl hk hps hi hc (fun u => look_refine hb u) rfl (wants true _ (by simp [look_cons, look_nil])) h
        · split at h
          · exact evc1_sound hX hT (st := { st with env := (d, .bool false) :: st.env }) hl hk hps hi hc (fun u => look_refine hb u) rfl (wants false _ (by simp [look_cons, look_nil])) h
          · exact evc0_sound (st := { st with env := (d, .bool false) :: st.env }) hl hk hps hi hc (fun u => look_refine hb u) rfl (wants false _ (by simp [look_cons, look_nil])) h
      · rename_i hb
        refine evc0_sound hl hk hps hi hc (fun _ => rfl) rfl (fun {ρ F w tmps} hr => ?_) h
        have := hr d hmem
        rw [hb] at this
        generalize hv : tmps.getD d undef = v at this
        cases this with
        | tup cs vs hl2 _ =>
          have : vs = [] := by simpa using hl2
          subst this
          rw [wanted_some hg, yielded_undef hd hv]
          rfl
      · cases h

theorem evcs_sound (hX : X.Okb) {T : Tab R} (hT : T.CallOk X) {k : St → Option R} {r : R} : ∀ (l : List SE) {log dl : List Ent} {st : St}, ChS ops (log.map Ent.st) l → pairsS ops (log.map Ent.st) l = true → Log X D T.nt ops env0 M0 log st.env st.mem → Kept log dl → evcs X T ops l dl st k = some r →
    ∃ log' st', k st' = some r ∧ Log X D T.nt ops env0 M0 log' st'.env st'.mem ∧ st'.dfs = st.dfs ∧ st'.rd = st.rd ∧ log'.map Ent.st = l.reverse ++ log.map Ent.st
  | [], log, dl, st, _, _, hl, _, h => ⟨log, st, h, hl, rfl, rfl, by simp⟩
  | t :: l, log, dl, st, hch, hps, hl, hk, h => by
    cases hch with
    | cons acc i o cl l' ho hc hch =>
      simp only [pairsS, Bool.and_eq_true] at hps
      simp only [evcs] at h
      rw [clS_eq] at hc
      obtain ⟨u, dl', st1, h, hl1, hk1, hst, e1, e2⟩ := evcg_sound hX hT hl hk (fun s hs => List.all_eq_true.1 hps.1 _ (List.mem_map_of_mem hs)) ho hc h
      rw [← hst] at hch hps
      obtain ⟨log', st', h, hl', e3, e4, e5⟩ := evcs_sound hX hT l (log := u :: log) hch hps.2 hl1 hk1 h
      refine ⟨log', st', h, hl', e3.trans e1, e4.trans e2, ?_⟩
      rw [e5, List.map_cons, hst]
      simp

theorem evregC_sound (hX : X.Okb) {T : Tab R} (hT : T.CallOk X) {id : Nat} {st : St} {k : St → Option R} {r : R} (h : evregC X T ops st k = some r) :
    ∃ st', k st' = some r ∧ CodeRuns X T.nt (.region id ops true) st .normal st' := by
  unfold evregC at h
  split at h
  · rename_i l hr
    unfold regS at hr
    split at hr
    · cases hr
    · rename_i l0 hord
      replace hr := tst_some hr
      obtain ⟨hb, hr⟩ := hr
      rw [fzL_eq fzS_eq] at hr
      injection hr with hr
      subst hr
      rw [Bool.and_eq_true, Bool.and_eq_true] at hb
      obtain ⟨⟨hps, hlen⟩, hall⟩ := hb
      rw [pairsF_eq] at hps
      obtain ⟨log, st', h, hl, e1, e2, e3⟩ := evcs_sound hX hT (ops := ops) (env0 := st.env) (M0 := st.mem) _ (log := []) (dl := []) (st := st) (ordS_ok _ hord) hps (show Log X (fun _ => false) T.nt ops st.env st.mem [] st.env st.mem from ⟨fun _ => rfl, rfl⟩) (fun s hs => by cases hs) h
      have e3' : log.map Ent.st = l0.reverse := by simpa using e3
      refine ⟨st', h, fun {rdc n w0 S F ρ a w Q} hI hs hq => wpIn_region_any hX.mixed ?_⟩
      have hg := World.grownBy_drawn w
      have hI' := hI.grown hg
      have hgr : Grow F F ρ ρ w { w with drawn := w.drawn + 1 } := ⟨fun _ h => h, fun _ _ h => h, hI.blks hg (by simp)⟩
      have hs' := hs.grow hgr
      refine any_runs (ds := a.defers) (tv := rdc.tv) (wb := w) (S := S) (w0 := w0) (F0 := F) (ρ0 := ρ) hl (fun i hi => ?_) (fun a' w' F' ρ' hI2 hE hsz hdf hkp hg2 => ?_) ops.size _ F ρ a _ (by simp) ?_ ?_ (fun _ _ h => by cases h) ?_
      · have := List.all_eq_true.1 hall i (List.mem_range.2 hi)
        obtain ⟨t, ht, hti⟩ := List.any_eq_true.1 this
        have : t ∈ log.map Ent.st := by rw [e3']; exact List.mem_reverse.2 ht
        obtain ⟨u, hu, rfl⟩ := List.mem_map.1 this
        exact ⟨u, hu, by simpa [Ent.st] using hti⟩
      · refine hq a' w' F' ρ' hI2 ⟨hE, hsz, ?_, ?_, hkp⟩ hg2
        · rw [e1, hdf]; exact hs.defs.mono hg2.hF hg2.hb
        · exact hs.rd.mono hg2.hF hg2.hb
      · have hll : log.length = l0.length := by
          have := congrArg List.length e3'
          simpa using this
        exact Nat.le_trans List.countP_le_length (hll ▸ Nat.le_of_ble_eq_true hlen)
      · intro t ht hin
        exfalso
        simp only [isIn, Array.getD_eq_getD_getElem?, Array.getElem?_replicate] at hin
        split at hin <;> simp at hin
      · have hno : ∀ i, ¬ isIn (Array.replicate ops.size false) i := by
          intro i hin
          simp only [isIn, Array.getD_eq_getD_getElem?, Array.getElem?_replicate] at hin
          split at hin <;> simp at hin
        refine ⟨?_, hgr, hs.size, rfl, hs.kept, fun s _ hin => absurd hin (hno _), fun u _ => hs'.env u⟩
        have : memS st.mem (Array.replicate ops.size false) log = st.mem := by
          have := memS_skip (M0 := st.mem) (L := Array.replicate ops.size false) (l2 := log) (l1 := []) fun s _ _ => hno _
          simpa [memS] using this
        rw [this]
        exact hI'
  · cases h

def evregQ (X : Cx) (T : Tab R) (ops : Array Oper) (draw : Bool) (st : St) (k : St → Option R) : Option R :=
  match draw && !X.pk with
  | true => evregC X T ops st k
  | false => evregR X T ops draw st k
theorem evregQ_sound (hX : X.Okb) {T : Tab R} (hT : T.CallOk X) {id : Nat} {draw : Bool} {st : St} {k : St → Option R} {r : R} (h : evregQ X T ops draw st k = some r) :
    ∃ st', k st' = some r ∧ CodeRuns X T.nt (.region id ops draw) st .normal st' := by
  unfold evregQ at h
  split at h
  · rename_i hb
    rw [Bool.and_eq_true] at hb
    rw [hb.1]
    exact evregC_sound hX hT h
  · exact evregR_sound hX hT h

end
end Go.Eng

namespace Go.Eng
open Go
noncomputable section

variable {X : Cx} {R : Type}

/-! ### Blocks that an operation makes by itself -/
/-- A composite slice by itself: its elements' type, its rows. -/
def bldF (X : Cx) (t : TypeId) (len : Nat) (ps : List (Nat × AV)) : Option (TypeId × List Row) :=
  match (X.ti t).ok, (X.ti t).u with
  | true, .slice e =>
    (match (X.ti e).ok && decide (0 < (X.ti e).size) && decide (len * (X.ti e).size ≤ 16777216) with
     | true => (match fillA (fun i => some (i * (X.ti e).size, (X.ti e).size)) ((List.replicate len (zrow X e)).flatten) ps with
       | some cs => (match (chunk (X.ti e).size len cs).all fun row => koks (X.K e) row with
         | true => some (e, chunk (X.ti e).size len cs)
         | false => none)
       | none => none)
     | false => none)
  | _, _ => none

theorem bldF_run (hX : X.Okb) {t : TypeId} {len : Nat} {ps : List (Nat × AV)} {e : TypeId} {rows : List Row} (h : bldF X t len ps = some (e, rows)) {ρ : List Hd} {F : Addr → Prop} {w : World} (hone : ∀ (id : Nat) hd, ρ[id]? = some hd → hd.v.oneCell' = true)
    (pv : List (Nat × Value)) (hl : pv.length = ps.length) (hp : ∀ (j : Nat) p q, ps[j]? = some p → pv[j]? = some q → p.1 = q.1 ∧ Rep X.K ρ F w p.2 q.2) :
    ∃ us, (Instr.buildSlice t len pv.toArray).run X.P w = .ok (.slice (some ⟨w.heap.size, 0, none⟩) len len) (w.alloc (.cells us e)) ∧ rows.length = len ∧
      BRep X ρ F (w.alloc (.cells us e)) ⟨.slice (some ⟨w.heap.size, 0, none⟩) len len, (X.K e).length⟩ (.row e rows) := by
  unfold bldF at h
  split at h
  · rename_i e' hok hu
    split at h
    · rename_i h1
      split at h
      · rename_i cs hfill
        split at h
        · rename_i hks
          injection h with h; injection h with h2 h3
          subst h2; subst h3
          simp only [Bool.and_eq_true, decide_eq_true_eq] at h1
          obtain ⟨⟨he, hpos⟩, hmax⟩ := h1
          obtain ⟨i, d, z, f⟩ := hX.facts hok
          obtain ⟨i2, d2, z2, f2⟩ := hX.facts he
          have hund := f.slice hu
          have hzs : z2.cells.size = (X.ti e').size := by rw [f2.size]; exact f2.zs
          have hksz : (X.K e').length = (X.ti e').size := by rw [f2.size]; exact f2.ks
          have hz : RepL X.K ρ F w (List.replicate len (zrow X e')).flatten ((Array.range (len * z2.cells.size)).map (z2.cells[· % z2.cells.size]!)).toList := by
            rw [zeros_eq z2.cells (by omega)]
            exact repL_replicate (repL_zrow f2) len
          obtain ⟨us, hf, hr⟩ := fillA_sound hone ps _ cs _ pv hfill hz hl hp
          have hcsl : cs.length = len * (X.ti e').size := by
            have h1 : us.size = len * z2.cells.size := by
              have aux : ∀ (pv : List (Nat × Value)) (place : Nat → Option (Nat × Nat)) (a b : Array Value), Instr.fill place a pv = some b → b.size = a.size := by
                intro pv
                induction pv with
                | nil => intro place a b h; simp only [Instr.fill, Option.some.injEq] at h; rw [h]
                | cons p pv ih =>
                  obtain ⟨ix, v⟩ := p
                  intro place a b h
                  simp only [Instr.fill] at h
                  split at h
                  · cases h
                  · split at h
                    · cases h
                    · have := ih place _ b h
                      rw [this, ← Array.foldl_toList]
                      exact foldl_set_size _ _ _
              have := aux pv _ _ us hf
              simpa using this
            have := hr.1
            simp only [Array.length_toList] at this
            rw [← this, h1, hzs]
          refine ⟨us, ?_, chunk_length _ _ _, rfl, fun i row hi => ?_, .inr ⟨w.heap.size, 0, len, us, ?_, heap_alloc_new w _, by rw [chunk_length]; exact Nat.le_refl _, ?_, ?_, fun i row hi j x hx => ?_⟩⟩
          · unfold Instr.buildSlice
            simp only [Sem.run_bind, run_underlying hund, Result.andThen_ok, f2.sizeOf]
            rw [if_neg (by omega)]
            by_cases h0 : len * (X.ti e').size = 0
            · have e0 : (Array.range (len * z2.cells.size)).map (z2.cells[· % z2.cells.size]!) = #[] := by rw [hzs, h0]; simp
              rw [e0] at hf
              rw [if_pos h0]
              simp only [Sem.run_bind, Sem.run_pure, Result.andThen_ok]
              have e1 : (Array.range (len * (X.ti e').size)).map (fun x => (#[] : Array Value)[x % (#[] : Array Value).size]!) = #[] := by rw [h0]; simp
              rw [e1, hf]
              simp only [newRow, Sem.run_bind, run_newObj, Result.andThen_ok, Sem.run_pure, World.alloc_eq]
            · rw [if_neg h0]
              simp only [Sem.run_bind, Sem.run_pure, Result.andThen_ok, f2.zeroValue]
              rw [hzs] at hf
              rw [hzs, hf]
              simp only [newRow, Sem.run_bind, run_newObj, Result.andThen_ok, Sem.run_pure, World.alloc_eq]
          · rw [List.all_eq_true] at hks
            exact hks row (List.mem_of_getElem? hi)
          · rw [chunk_length]
          · have : len ≤ len * (X.ti e').size := Nat.le_mul_of_pos_right _ hpos
            exact le_maxLen (by omega)
          · have := hr.1
            simp only [Array.length_toList] at this
            show 0 + len * (X.K e').length ≤ us.size
            rw [hksz]; omega
          · obtain ⟨v, h1, h2⟩ := chunk_rep hr hi hx
            refine ⟨v, ?_, h2.mono (fun _ _ h => h) (fun _ h => h) (fun a v _ hc => cell_alloc_keeps a v hc)⟩
            show us[0 + i * (X.K e').length + j]? = some v
            rw [hksz, Nat.zero_add]
            rw [Array.getElem?_toList] at h1; exact h1
        · cases h
      · cases h
    · cases h
  · cases h

/-- A new variable (one that waits for nothing, but in closed runs); in closed runs a composite slice. -/
def flO (X : Cx) (o : Oper) : Bool :=
  o.guard.isNone && match o.op with
  | .alloc _ => o.after.toList.isEmpty || !X.pk
  | .buildSlice _ n _ => !X.pk && Nat.blt 0 n
  | _ => false
def isFl (X : Cx) (t : Ent) : Bool := !t.q && flO X t.o

def okPairF (X : Cx) (ops : Array Oper) (t s : Ent) : Bool :=
  !(t.i == s.i) && !(t.o.dst.isSome && t.o.dst == s.o.dst) &&
  (t.cl.testBit s.i ||
    (!hits s.o.dst (readsOf t.o ++ guardOf ops t.o) && !hits t.o.dst (readsOf s.o ++ guardOf ops s.o) &&
      match t.q, s.q with
      | true, true => true
      | false, false => isFl X t
      | true, false => t.ids.all fun id => s.keeps id
      | false, true => s.ids.all fun id => t.keeps id))

theorem okPairF_spec {ops : Array Oper} {t s : Ent} (h : okPairF X ops t s = true) : t.i ≠ s.i ∧ (∀ d, t.o.dst = some d → s.o.dst ≠ some d) ∧
    (t.cl.testBit s.i = true ∨ ((∀ d, s.o.dst = some d → d ∉ readsOf t.o ++ guardOf ops t.o) ∧ (∀ d, t.o.dst = some d → d ∉ readsOf s.o ++ guardOf ops s.o) ∧ (t.q = true ∨ s.q = true ∨ isFl X t = true) ∧
      (t.q = true → s.q = false → ∀ id ∈ t.ids, s.Keeps id) ∧ (t.q = false → s.q = true → ∀ id ∈ s.ids, t.Keeps id))) := by
  unfold okPairF at h
  rw [Bool.and_eq_true, Bool.and_eq_true, Bool.or_eq_true] at h
  obtain ⟨⟨h1, h2⟩, h3⟩ := h
  refine ⟨by simpa using h1, fun d hd hs => by simp [hd, hs] at h2, ?_⟩
  rcases h3 with h3 | h3
  · exact .inl h3
  · refine .inr ?_
    rw [Bool.and_eq_true, Bool.and_eq_true] at h3
    obtain ⟨⟨h4, h5⟩, h6⟩ := h3
    refine ⟨hits_not h4, hits_not h5, ?_, ?_, ?_⟩
    · revert h6; cases t.q <;> cases s.q <;> simp
    · intro ht hs id hid
      rw [ht, hs] at h6
      exact Ent.keeps_spec (List.all_eq_true.1 h6 id hid)
    · intro ht hs id hid
      rw [ht, hs] at h6
      exact Ent.keeps_spec (List.all_eq_true.1 h6 id hid)

/-- What hangs on a new variable waits for all writers that the text has before it. -/
def rOk (X : Cx) (t : Ent) : List Ent → Bool
  | [] => true
  | f :: l => (!(isFl X f && t.cl.testBit f.i) || l.all fun r => r.q || t.cl.testBit r.i) && rOk X t l
theorem rOk_spec {t : Ent} : ∀ {l2 : List Ent} {f : Ent} {l1 : List Ent}, rOk X t (l2 ++ f :: l1) = true → isFl X f = true → t.cl.testBit f.i = true → ∀ r ∈ l1, r.q = false → t.cl.testBit r.i = true
  | [], f, l1, h, hf, hc, r, hr, hq => by
    simp only [List.nil_append, rOk, hf, hc, Bool.and_self, Bool.not_true, Bool.false_or, Bool.and_eq_true] at h
    have := List.all_eq_true.1 h.1 r hr
    rw [hq, Bool.false_or] at this
    exact this
  | _ :: l2, f, l1, h, hf, hc, r, hr, hq => by
    simp only [List.cons_append, rOk, Bool.and_eq_true] at h
    exact rOk_spec (l2 := l2) h.2 hf hc r hr hq

/-- It makes one block, wherever its operands are what they were. -/
def Ent.FlRuns (X : Cx) (nt : Nt) (ops : Array Oper) (t : Ent) (b : Blk) : Prop :=
  ∀ {M0 : List Blk} {rdc : Cy} {n : Nat} {w0 : World} {S : Sc} {F : Addr → Prop} {ρ : List Hd} {a : Act} {w : World} {Q : Exit → Act → World → Prop} {K : Act → World → Prop}, Inv X w0 S F ρ M0 w → a.tmps.size = nt.n →
    (∀ u ∈ readsOf t.o ++ guardOf ops t.o, Rep X.K ρ F w (look t.env u) (a.tmps.getD u undef)) →
    (∀ v w' hd, w.grownBy w' none → hd.blk? = some w.heap.size → w.heap.size < w'.heap.size → hd.v.oneCell' = true → BRep X ρ F w' hd b →
      (∀ (ρ2 : List Hd) (F2 : Addr → Prop) (w2 : World), ρ2.length = t.M.length → Rep X.K (ρ2 ++ [hd]) F2 w2 t.x v) → K (a.put t.o.dst v) w') → wpOpIn (fen rdc.r) n X.P ops Q t.i K a w

structure StepF (X : Cx) (nt : Nt) (ops : Array Oper) (t : Ent) (log : List Ent) (env1 : List (Nat × AV)) (M1 : List Blk) (env : List (Nat × AV)) (M : List Blk) : Prop where
  henv : ∀ u, look t.env u = look env1 u
  hM : t.M = M1
  hq : t.q = true → t.M' = t.M
  hag : t.q = false → Agree t.ids t.M t.M'
  runs : isFl X t = false → t.Runs X nt ops
  fl : isFl X t = true → ∃ b, t.M' = t.M ++ [b] ∧ t.FlRuns X nt ops b
  op : ops[t.i]? = some t.o
  dst : ∀ d, t.o.dst = some d → d < nt.n ∧ nt.mask.testBit d = true
  pair : ∀ s ∈ log, okPairF X ops t s = true
  rok : rOk X t log = true
  pre : ∀ e ∈ t.o.after, Region.binds .any e = true → ∃ s ∈ log, s.i = e.on
  cl : ∀ w, t.cl.testBit w = true → ∃ e ∈ t.o.after, Region.binds .any e = true ∧ (w = e.on ∨ ∃ s ∈ log, s.i = e.on ∧ s.cl.testBit w = true)
  lk : ∀ u, look env u = (if t.o.dst = some u then t.x else look env1 u)
  mem : M = t.M'

def LogF (X : Cx) (nt : Nt) (ops : Array Oper) (env0 : List (Nat × AV)) (M0 : List Blk) : List Ent → List (Nat × AV) → List Blk → Prop
  | [], env, M => (∀ u, look env u = look env0 u) ∧ M = M0
  | t :: log, env, M => ∃ env1 M1, LogF X nt ops env0 M0 log env1 M1 ∧ StepF X nt ops t log env1 M1 env M

/-- The memory up to the first writer that is not taken; and whether there is none. -/
def memF (M0 : List Blk) (L : Array Bool) : List Ent → List Blk × Bool
  | [] => (M0, true)
  | t :: log => if t.q = true then memF M0 L log else if isIn L t.i ∧ (memF M0 L log).2 = true then (t.M', true) else ((memF M0 L log).1, false)

section
variable {nt : Nt} {ops : Array Oper} {env0 : List (Nat × AV)} {M0 : List Blk} {L : Array Bool}

theorem memF_flag : ∀ {log : List Ent}, (memF M0 L log).2 = true ↔ ∀ s ∈ log, s.q = false → isIn L s.i
  | [] => by simp [memF]
  | t :: log => by
    have ih := memF_flag (log := log)
    simp only [memF]
    cases hq : t.q with
    | true =>
      rw [if_pos rfl, ih]
      constructor
      · intro h s hs hsq
        rcases List.mem_cons.1 hs with rfl | hs
        · rw [hq] at hsq; cases hsq
        · exact h s hs hsq
      · exact fun h s hs => h s (List.mem_cons_of_mem _ hs)
    | false =>
      rw [if_neg (by simp)]
      by_cases hc : isIn L t.i ∧ (memF M0 L log).2 = true
      · rw [if_pos hc]
        refine ⟨fun _ s hs hsq => ?_, fun _ => rfl⟩
        rcases List.mem_cons.1 hs with rfl | hs
        · exact hc.1
        · exact ih.1 hc.2 s hs hsq
      · rw [if_neg hc]
        refine ⟨fun h => by simp at h, fun h => absurd ⟨h t List.mem_cons_self hq, ih.2 fun s hs => h s (List.mem_cons_of_mem _ hs)⟩ hc⟩

theorem memF_gap : ∀ {l2 l1 : List Ent}, (memF M0 L l1).2 = false → memF M0 L (l2 ++ l1) = ((memF M0 L l1).1, false)
  | [], l1, h => by rw [List.nil_append]; exact Prod.ext rfl h
  | t :: l2, l1, h => by
    have ih := memF_gap (l2 := l2) h
    simp only [List.cons_append, memF]
    rw [ih]
    split
    · rfl
    · rw [if_neg (by simp)]

theorem memF_congr {L' : Array Bool} : ∀ {log : List Ent}, (∀ s ∈ log, s.q = false → (isIn L s.i ↔ isIn L' s.i)) → memF M0 L log = memF M0 L' log
  | [], _ => rfl
  | t :: log, h => by
    have ih := memF_congr (log := log) fun s hs => h s (List.mem_cons_of_mem _ hs)
    simp only [memF]
    rw [ih]
    cases hq : t.q with
    | true => rfl
    | false =>
      have := h t List.mem_cons_self hq
      by_cases hc : isIn L t.i ∧ (memF M0 L' log).2 = true
      · simp only [Bool.false_eq_true, if_false]
        rw [if_pos hc, if_pos ⟨this.1 hc.1, hc.2⟩]
      · simp only [Bool.false_eq_true, if_false]
        rw [if_neg hc, if_neg fun hh => hc ⟨this.2 hh.1, hh.2⟩]

theorem LogF.look : ∀ {log : List Ent} {env : List (Nat × AV)} {M : List Blk}, LogF X nt ops env0 M0 log env M → ∀ u, (∃ s ∈ log, s.o.dst = some u ∧ Eng.look env u = s.x) ∨ ((∀ s ∈ log, s.o.dst ≠ some u) ∧ Eng.look env u = Eng.look env0 u)
  | [], env, M, ⟨h, _⟩, u => .inr ⟨fun s hs => by simp at hs, h u⟩
  | t :: log, env, M, ⟨_, _, hl, st⟩, u => by
    rw [st.lk u]
    split
    · rename_i hd; exact .inl ⟨t, List.mem_cons_self, hd, rfl⟩
    · rename_i hd
      rcases LogF.look hl u with ⟨s, hs, h⟩ | ⟨h1, h2⟩
      · exact .inl ⟨s, List.mem_cons_of_mem _ hs, h⟩
      · refine .inr ⟨fun s hs => ?_, h2⟩
        rcases List.mem_cons.1 hs with rfl | hs
        · exact hd
        · exact h1 s hs

theorem LogF.closed : ∀ {log : List Ent} {env : List (Nat × AV)} {M : List Blk}, LogF X nt ops env0 M0 log env M → Closed L log → ∀ t ∈ log, (∀ e ∈ t.o.after, Region.binds .any e = true → isIn L e.on) → ∀ w, t.cl.testBit w = true → isIn L w
  | [], _, _, _, _, t, ht, _, _, _ => by simp at ht
  | t :: log, _, _, ⟨_, _, hl, st⟩, hcl, s, hs, hp, w, hw => by
    have ih := LogF.closed hl (fun a ha => hcl a (List.mem_cons_of_mem _ ha))
    rcases List.mem_cons.1 hs with rfl | hs
    · obtain ⟨e, he, hb, rfl | ⟨u, hu, hui, hut⟩⟩ := st.cl w hw
      · exact hp e he hb
      · exact ih u hu (hcl u (List.mem_cons_of_mem _ hu) (by rw [hui]; exact hp e he hb)) w hut
    · exact ih s hs hp w hw

theorem LogF.entry {t : Ent} {l1 : List Ent} : ∀ {l2 : List Ent} {env' : List (Nat × AV)} {M' : List Blk}, LogF X nt ops env0 M0 (l2 ++ t :: l1) env' M' → ∃ env1 M1 env M, LogF X nt ops env0 M0 l1 env1 M1 ∧ StepF X nt ops t l1 env1 M1 env M
  | [], _, _, ⟨_, _, hl, st⟩ => ⟨_, _, _, _, hl, st⟩
  | _ :: l2, _, _, ⟨_, _, hl, _⟩ => LogF.entry (l2 := l2) hl
theorem LogF.suffix {l1 : List Ent} : ∀ {l2 : List Ent} {env : List (Nat × AV)} {M : List Blk}, LogF X nt ops env0 M0 (l2 ++ l1) env M → ∃ env' M', LogF X nt ops env0 M0 l1 env' M'
  | [], _, _, h => ⟨_, _, h⟩
  | _ :: l2, _, _, ⟨_, _, hl, _⟩ => LogF.suffix (l2 := l2) hl

theorem LogF.distinct {log : List Ent} : ∀ {env : List (Nat × AV)} {M : List Blk}, LogF X nt ops env0 M0 log env M → ∀ s ∈ log, ∀ t ∈ log, s.i = t.i → s = t := by
  induction log with
  | nil => intro _ _ _ s hs; simp at hs
  | cons a log ih =>
    intro env M h s hs t ht e
    obtain ⟨_, _, hl, st⟩ := h
    · rcases List.mem_cons.1 hs with rfl | hs' <;> rcases List.mem_cons.1 ht with rfl | ht'
      · rfl
      · exact absurd e (okPairF_spec (st.pair t ht')).1
      · exact absurd e.symm (okPairF_spec (st.pair s hs')).1
      · exact ih hl s hs' t ht' e
theorem LogF.dst {log : List Ent} : ∀ {env : List (Nat × AV)} {M : List Blk}, LogF X nt ops env0 M0 log env M → ∀ s ∈ log, ∀ t ∈ log, ∀ d, s.o.dst = some d → t.o.dst = some d → s = t := by
  induction log with
  | nil => intro _ _ _ s hs; simp at hs
  | cons a log ih =>
    intro env M h s hs t ht d h1 h2
    obtain ⟨_, _, hl, st⟩ := h
    · rcases List.mem_cons.1 hs with rfl | hs' <;> rcases List.mem_cons.1 ht with rfl | ht'
      · rfl
      · exact absurd h2 ((okPairF_spec (st.pair t ht')).2.1 d h1)
      · exact absurd h1 ((okPairF_spec (st.pair s hs')).2.1 d h2)
      · exact ih hl s hs' t ht' d h1 h2

theorem LogF.mem_all : ∀ {log : List Ent} {env : List (Nat × AV)} {M : List Blk}, LogF X nt ops env0 M0 log env M → (memF M0 L log).2 = true → (memF M0 L log).1 = M
  | [], _, _, ⟨_, h⟩, _ => h.symm
  | t :: log, _, _, ⟨_, _, hl, st⟩, h => by
    simp only [memF] at h ⊢
    cases hq : t.q with
    | true =>
      rw [if_pos hq] at h
      rw [if_pos rfl, LogF.mem_all hl h, st.mem, st.hq hq, st.hM]
    | false =>
      rw [if_neg (by simp [hq])] at h
      rw [if_neg (by simp)]
      by_cases hc : isIn L t.i ∧ (memF M0 L log).2 = true
      · rw [if_pos hc]; exact st.mem.symm
      · rw [if_neg hc] at h; simp at h

/-- A writer that does not float and is taken has all writers before it taken. -/
theorem LogF.flag {s : Ent} {o1 : List Ent} {l2 : List Ent} {env : List (Nat × AV)} {M : List Blk} (hL : LogF X nt ops env0 M0 (l2 ++ s :: o1) env M) (hcl : Closed L (l2 ++ s :: o1)) (hsq : s.q = false) (hf : isFl X s = false)
    (hpre : ∀ e ∈ s.o.after, Region.binds .any e = true → isIn L e.on) : (memF M0 L o1).2 = true := by
  rw [memF_flag]
  intro r hr hrq
  obtain ⟨_, _, _, _, hl, st⟩ := LogF.entry hL
  have hc := LogF.closed (L := L) hL hcl s (List.mem_append_right _ List.mem_cons_self) hpre
  obtain ⟨_, _, h | ⟨_, _, h, _⟩⟩ := okPairF_spec (st.pair r hr)
  · exact hc _ h
  · rw [hsq, hrq, hf] at h; simp at h

/-- What an entry looks at when it is taken. -/
theorem LogF.mem_quiet {t : Ent} {l1 : List Ent} {id : Nat} (hnot : ¬ isIn L t.i) (hq : t.q = true) (hid : id ∈ t.ids) :
    ∀ {l2 : List Ent} {env' : List (Nat × AV)} {M' : List Blk}, LogF X nt ops env0 M0 (l2 ++ t :: l1) env' M' → Closed L (l2 ++ t :: l1) → (∀ e ∈ t.o.after, Region.binds .any e = true → isIn L e.on) →
      (memF M0 L (l2 ++ t :: l1)).1[id]? = t.M[id]?
  | [], env', M', hL, hcl, hpre => by
    obtain ⟨_, _, hl, st⟩ := _root_.id hL
    · simp only [List.nil_append, memF]
      rw [if_pos hq, st.hM]
      have hcl' := LogF.closed (L := L) hL hcl t List.mem_cons_self hpre
      -- down the older part
      have key : ∀ (l : List Ent) (l' : List Ent) (e : List (Nat × AV)) (N : List Blk), l' ++ l = l1 → LogF X nt ops env0 M0 l e N → (memF M0 L l).1[id]? = N[id]? := by
        intro l
        induction l with
        | nil => intro _ _ _ _ h; rw [h.2]; rfl
        | cons s l ih =>
          intro l' e N hll h
          have hs1 : s ∈ l1 := by rw [← hll]; exact List.mem_append_right _ List.mem_cons_self
          have hp := okPairF_spec (st.pair s hs1)
          obtain ⟨_, _, hl2, st2⟩ := h
          · have ih' := ih (l' ++ [s]) _ _ (by simpa using hll) hl2
            simp only [memF]
            cases hsq : s.q with
            | true => rw [if_pos rfl, ih', st2.mem, st2.hq hsq, st2.hM]
            | false =>
              rw [if_neg (by simp)]
              by_cases hc : isIn L s.i ∧ (memF M0 L l).2 = true
              · rw [if_pos hc, st2.mem]
              · rw [if_neg hc]
                have hk : s.Keeps id := by
                  obtain ⟨_, _, h | ⟨_, _, _, h, _⟩⟩ := hp
                  · exfalso
                    refine hc ⟨hcl' _ h, ?_⟩
                    cases hf : isFl X s with
                    | true =>
                      rw [memF_flag]
                      intro r hr hrq
                      have := rOk_spec (l2 := l') (l1 := l) (by rw [hll]; exact st.rok) hf h r hr hrq
                      exact hcl' _ this
                    | false =>
                      have hL2 : LogF X nt ops env0 M0 ((t :: l') ++ s :: l) env' M' := by
                        have e : (t :: l') ++ s :: l = t :: l1 := by rw [← hll]; rfl
                        rw [e]; exact hL
                      have hclS : Closed L ((t :: l') ++ s :: l) := by
                        have e : (t :: l') ++ s :: l = t :: l1 := by rw [← hll]; rfl
                        rw [e]; exact hcl
                      exact LogF.flag hL2 hclS hsq hf (hclS s (List.mem_append_right _ List.mem_cons_self) (hcl' _ h))
                  · exact h hq hsq id hid
                rw [ih', st2.mem, hk.at (st2.hag hsq), st2.hM]
      exact key l1 [] _ _ rfl hl
  | s :: l2, env', M', hL, hcl, hpre => by
    obtain ⟨_, _, hl, st⟩ := _root_.id hL
    · have ih := LogF.mem_quiet hnot hq hid (l2 := l2) hl (fun a ha => hcl a (List.mem_cons_of_mem _ ha)) hpre
      simp only [List.cons_append, memF]
      cases hsq : s.q with
      | true => rw [if_pos rfl]; exact ih
      | false =>
        rw [if_neg (by simp)]
        by_cases hc : isIn L s.i ∧ (memF M0 L (l2 ++ t :: l1)).2 = true
        · rw [if_pos hc]
          have hp := okPairF_spec (st.pair t (List.mem_append_right _ List.mem_cons_self))
          have hcs := LogF.closed (L := L) hL hcl s List.mem_cons_self (hcl s List.mem_cons_self hc.1)
          obtain ⟨_, _, h | ⟨_, _, _, _, h⟩⟩ := hp
          · exact absurd (hcs _ h) hnot
          · show s.M'[id]? = _
            rw [(h hsq hq id hid).at (st.hag hsq), st.hM, ← LogF.mem_all hl hc.2]
            exact ih
        · rw [if_neg hc]; exact ih

/-- The memory that a writer finds. -/
theorem LogF.mem_eff {t : Ent} {l1 l2 : List Ent} (hnot : ¬ isIn L t.i) (hq : t.q = false) : memF M0 L (l2 ++ t :: l1) = ((memF M0 L l1).1, false) := by
  have : memF M0 L (t :: l1) = ((memF M0 L l1).1, false) := by
    simp only [memF]
    rw [if_neg (by simp [hq]), if_neg (fun h => hnot h.1)]
  rw [memF_gap (by rw [this]), this]

theorem LogF.reads {t : Ent} {l1 : List Ent} (hnot : ¬ isIn L t.i) {u : Nat} (hu : u ∈ readsOf t.o ++ guardOf ops t.o) {P : AV → Prop} :
    ∀ {l2 : List Ent} {env' : List (Nat × AV)} {M' : List Blk}, LogF X nt ops env0 M0 (l2 ++ t :: l1) env' M' → Closed L (l2 ++ t :: l1) → (∀ e ∈ t.o.after, Region.binds .any e = true → isIn L e.on) →
      (∀ s ∈ l1, t.cl.testBit s.i = true → s.o.dst = some u → P s.x) → ((∀ s ∈ l2 ++ t :: l1, isIn L s.i → s.o.dst ≠ some u) → P (Eng.look env0 u)) → P (Eng.look t.env u)
  | [], env', M', hL, hcl, hpre, hw, h0 => by
    obtain ⟨_, _, hl, st⟩ := hL
    · rw [st.henv u]
      rcases LogF.look hl u with ⟨s, hs, hd, he⟩ | ⟨hn, he⟩
      · rw [he]
        refine hw s hs ?_ hd
        obtain ⟨_, _, h | ⟨h, _⟩⟩ := okPairF_spec (st.pair s hs)
        · exact h
        · exact absurd hu (h u hd)
      · rw [he]
        refine h0 fun s hs hsi hd => ?_
        rcases List.mem_cons.1 hs with rfl | hs
        · exact hnot hsi
        · exact hn s hs hd
  | s :: l2, env', M', hL, hcl, hpre, hw, h0 => by
    obtain ⟨_, _, hl, st⟩ := _root_.id hL
    · refine LogF.reads hnot hu (l2 := l2) hl (fun a ha => hcl a (List.mem_cons_of_mem _ ha)) hpre hw fun hn => h0 fun r hr hri hd => ?_
      rcases List.mem_cons.1 hr with rfl | hr
      · have hcs := LogF.closed (L := L) hL hcl r List.mem_cons_self (hcl r List.mem_cons_self hri)
        obtain ⟨_, _, h | ⟨_, h, _⟩⟩ := okPairF_spec (st.pair t (List.mem_append_right _ List.mem_cons_self))
        · exact hnot (hcs _ h)
        · exact h u hd hu
      · exact hn r hr hri hd
end

/-! ### Blocks that stand aside -/

/-- The blocks that live. -/
def live (ρ : List Hd) (M : List Blk) (F : Addr → Prop) : Sc := ⟨fun g => ∃ (id : Nat) (b : Blk) (hd : Hd), M[id]? = some b ∧ b.isDead = false ∧ ρ[id]? = some hd ∧ hd.blk? = some g, F⟩

section
variable {w0 w w' : World} {S : Sc} {F F' : Addr → Prop} {ρ ρ' : List Hd} {M M' : List Blk}

theorem Inv.rebase (hI : Inv X w0 S F ρ M w) : Inv X w (live ρ M F) F ρ M w :=
  ⟨rfl, rfl, rfl, Nat.le_refl _, fun _ _ _ => rfl, hI.len, hI.rep, fun id b hd g h1 h2 h3 h4 => ⟨(hI.sep id b hd g h1 h2 h3 h4).1, .inl ⟨id, b, hd, h1, h2, h3, h4⟩, (hI.sep id b hd g h1 h2 h3 h4).2.2⟩, hI.disj, hI.fz, hI.glob, hI.one, fun a ha => .inl ha, fun a ha => ha⟩

theorem Inv.back (hI : Inv X w0 S F ρ M w) (h : Inv X w (live ρ M F) F' ρ' M' w') : Inv X w0 S F' ρ' M' w' where
  os := h.os.trans hI.os
  tape := h.tape.trans hI.tape
  output := h.output.trans hI.output
  size := Nat.le_trans hI.size h.size
  frame := fun g hg hn => by
    rw [h.frame g (Nat.lt_of_lt_of_le hg hI.size) ?_, hI.frame g hg hn]
    rintro ⟨id, b, hd, h1, h2, h3, h4⟩
    rcases (hI.sep id b hd g h1 h2 h3 h4).2.1 with h5 | h5
    · exact hn h5
    · omega
  len := h.len
  rep := h.rep
  sep := fun id b hd g h1 h2 h3 h4 => by
    obtain ⟨s1, s2, s3⟩ := h.sep id b hd g h1 h2 h3 h4
    refine ⟨s1, ?_, s3⟩
    rcases s2 with ⟨id', b', hd', p1, p2, p3, p4⟩ | s2
    · exact (hI.sep id' b' hd' g p1 p2 p3 p4).2.1
    · exact .inr (Nat.le_trans hI.size s2)
  disj := h.disj
  fz := h.fz
  glob := h.glob
  one := h.one
  old := fun a ha => by
    rcases h.old a ha with h1 | ⟨id', b', hd', p1, p2, p3, p4⟩ | h1
    · exact hI.old a h1
    · exact .inr (hI.sep id' b' hd' _ p1 p2 p3 p4).2.1
    · exact .inr (.inr (Nat.le_trans hI.size h1))
  fin := fun a ha => h.fin a (hI.fin a ha)

structure Aside (F : Addr → Prop) (ρ : List Hd) (M : List Blk) (w : World) (g : Nat) : Prop where
  lt : g < w.heap.size
  fz : ∀ a, F a → a.block ≠ g
  no : ∀ (id : Nat) b hd, M[id]? = some b → b.isDead = false → ρ[id]? = some hd → hd.blk? ≠ some g

theorem Aside.keep {g : Nat} (hA : Aside F ρ M w g) (h : Inv X w (live ρ M F) F' ρ' M' w') : Aside F' ρ' M' w' g ∧ w'.heap[g]? = w.heap[g]? := by
  have hn : ¬ (live ρ M F) g := by
    rintro ⟨id, b, hd, h1, h2, h3, h4⟩
    exact hA.no id b hd h1 h2 h3 h4
  refine ⟨⟨Nat.lt_of_lt_of_le hA.lt h.size, fun a ha e => ?_, fun id b hd h1 h2 h3 h4 => ?_⟩, h.frame g hA.lt hn⟩
  · rcases h.old a ha with h1 | h1 | h1
    · exact hA.fz a h1 e
    · exact hn (e ▸ h1)
    · have := hA.lt; omega
  · rcases (h.sep id b hd g h1 h2 h3 h4).2.1 with h5 | h5
    · exact hn h5
    · have := hA.lt; omega

/-- What is known of a block that stands aside. -/
structure HidE (X : Cx) (w0 : World) (ρ : List Hd) (F : Addr → Prop) (a : Act) (w : World) (g : Nat) (s : Ent) : Prop where
  ex : ∃ b hd, s.M' = s.M ++ [b] ∧ hd.blk? = some g ∧ hd.v.oneCell' = true ∧ BRep X ρ F w hd b ∧
    ∀ d, s.o.dst = some d → ∀ (ρ2 : List Hd) (F2 : Addr → Prop) (w2 : World), ρ2.length = s.M.length → Rep X.K (ρ2 ++ [hd]) F2 w2 s.x (a.tmps.getD d undef)
  new : w0.heap.size ≤ g
theorem HidE.mono {w0 w w' : World} {ρ ρ' : List Hd} {F F' : Addr → Prop} {a a' : Act} {g : Nat} {s : Ent} (h : HidE X w0 ρ F a w g s) (hρ : ∀ (id : Nat) hd, ρ[id]? = some hd → ρ'[id]? = some hd) (hF : ∀ x, F x → F' x) (hw : ∀ x v, F x → w.cell? x = some v → w'.cell? x = some v) (hg : w'.heap[g]? = w.heap[g]?)
    (ha : ∀ d, s.o.dst = some d → a'.tmps.getD d undef = a.tmps.getD d undef) : HidE X w0 ρ' F' a' w' g s := by
  obtain ⟨⟨b, hd, h1, h2, h3, h4, h5⟩, h6⟩ := h
  exact ⟨⟨b, hd, h1, h2, h3, h4.mono hρ hF hw (fun k hk => by rw [h2] at hk; injection hk with hk; subst hk; exact hg), fun d hd' => by rw [ha d hd']; exact h5 d hd'⟩, h6⟩
end

section
variable {nt : Nt} {ops : Array Oper} {env0 : List (Nat × AV)} {M0 : List Blk} {L : Array Bool}

theorem reveal {w0 w : World} {S : Sc} {F : Addr → Prop} {ρ : List Hd} {a : Act} {γ : Nat → Nat} {base : List Ent} : ∀ {l2 : List Ent} {env : List (Nat × AV)} {M : List Blk}, LogF X nt ops env0 M0 (l2 ++ base) env M → Inv X w0 S F ρ (memF M0 L base).1 w →
    (∀ s ∈ l2, s.q = false → isIn L s.i → isFl X s = true) →
    (∀ s ∈ l2, isFl X s = true → isIn L s.i → HidE X w0 ρ F a w (γ s.i) s ∧ Aside F ρ (memF M0 L base).1 w (γ s.i)) →
    (∀ s ∈ l2, ∀ s' ∈ l2, isFl X s = true → isFl X s' = true → isIn L s.i → isIn L s'.i → s.i ≠ s'.i → γ s.i ≠ γ s'.i) →
    ∃ ρ2, Inv X w0 S F ρ2 (memF M0 L (l2 ++ base)).1 w ∧ (∀ (id : Nat) hd, ρ[id]? = some hd → ρ2[id]? = some hd) ∧
      (∀ b s c, l2 = b ++ s :: c → isFl X s = true → isIn L s.i → (memF M0 L (c ++ base)).2 = true → ∀ d, s.o.dst = some d → Rep X.K ρ2 F w s.x (a.tmps.getD d undef)) ∧
      (∀ g, Aside F ρ (memF M0 L base).1 w g → (∀ b s c, l2 = b ++ s :: c → isFl X s = true → isIn L s.i → (memF M0 L (c ++ base)).2 = true → γ s.i ≠ g) → Aside F ρ2 (memF M0 L (l2 ++ base)).1 w g)
  | [], env, M, hL, hI, _, _, _ => ⟨ρ, hI, fun _ _ h => h, fun b s c h => by simp at h, fun g hg _ => hg⟩
  | s :: l2, env, M, hL, hI, hfl, hhid, hγ => by
    obtain ⟨env1, M1, hl, st⟩ := _root_.id hL
    obtain ⟨ρ1, i1, e1, p1, a1⟩ := reveal (l2 := l2) hl hI (fun r hr => hfl r (List.mem_cons_of_mem _ hr)) (fun r hr => hhid r (List.mem_cons_of_mem _ hr)) (fun r hr r' hr' => hγ r (List.mem_cons_of_mem _ hr) r' (List.mem_cons_of_mem _ hr'))
    have same : (memF M0 L (s :: (l2 ++ base))).1 = (memF M0 L (l2 ++ base)).1 → (isFl X s = true → isIn L s.i → (memF M0 L (l2 ++ base)).2 = true → False) → _ := fun hmem hno =>
      (⟨ρ1, by rw [List.cons_append, hmem]; exact i1, e1, fun b r c hbc hf hin hfg d hd => by
          cases b with
          | nil =>
            rw [List.nil_append] at hbc; injection hbc with h1 h2
            subst h1; subst h2
            exact (hno hf hin hfg).elim
          | cons b0 b =>
            rw [List.cons_append] at hbc; injection hbc with h1 h2
            exact p1 b r c h2 hf hin hfg d hd,
        fun g hg hr => by
          rw [List.cons_append, hmem]
          exact a1 g hg fun b r c hbc => hr (s :: b) r c (by rw [hbc, List.cons_append])⟩ :
        ∃ ρ2, Inv X w0 S F ρ2 (memF M0 L (s :: l2 ++ base)).1 w ∧ (∀ (id : Nat) hd, ρ[id]? = some hd → ρ2[id]? = some hd) ∧
          (∀ b r c, s :: l2 = b ++ r :: c → isFl X r = true → isIn L r.i → (memF M0 L (c ++ base)).2 = true → ∀ d, r.o.dst = some d → Rep X.K ρ2 F w r.x (a.tmps.getD d undef)) ∧
          (∀ g, Aside F ρ (memF M0 L base).1 w g → (∀ b r c, s :: l2 = b ++ r :: c → isFl X r = true → isIn L r.i → (memF M0 L (c ++ base)).2 = true → γ r.i ≠ g) → Aside F ρ2 (memF M0 L (s :: l2 ++ base)).1 w g))
    cases hq : s.q with
    | true =>
      refine same (by simp only [memF]; rw [if_pos hq]) fun hf _ _ => ?_
      simp [isFl, hq] at hf
    | false =>
      by_cases hc : isIn L s.i ∧ (memF M0 L (l2 ++ base)).2 = true
      · have hf := hfl s List.mem_cons_self hq hc.1
        obtain ⟨hh, ha⟩ := hhid s List.mem_cons_self hf hc.1
        obtain ⟨b1, hd1, hM', hgb1, hone1, hrep1, hval1⟩ := hh.ex
        have hmem : (memF M0 L (s :: (l2 ++ base))).1 = s.M' := by
          simp only [memF]; rw [if_neg (by simp [hq]), if_pos hc]
        have hMs : s.M = (memF M0 L (l2 ++ base)).1 := by rw [st.hM]; exact (LogF.mem_all hl hc.2).symm
        have asd : ∀ g, Aside F ρ (memF M0 L base).1 w g → (∀ b r c, l2 = b ++ r :: c → isFl X r = true → isIn L r.i → (memF M0 L (c ++ base)).2 = true → γ r.i ≠ g) → Aside F ρ1 s.M w g := by
          intro g h1 h2; rw [hMs]; exact a1 g h1 h2
        have hs1 := asd (γ s.i) ha fun b r c hbc hfr hir _ => by
          have hr : r ∈ l2 := by rw [hbc]; exact List.mem_append_right _ List.mem_cons_self
          exact hγ r (List.mem_cons_of_mem _ hr) s List.mem_cons_self hfr hf hir hc.1 (fun e => (okPairF_spec (st.pair r (List.mem_append_left _ hr))).1 e.symm)
        rw [← hMs] at i1
        have hlen : ρ1.length = s.M.length := i1.len
        have i2 : Inv X w0 S F (ρ1 ++ [hd1]) (s.M ++ [b1]) w := by
          refine i1.push' (hd := hd1) (fun g hg => ?_) hone1 (hrep1.mono (fun id hd h => getElem?_append_old (e1 id hd h)) (fun _ h => h) (fun _ _ _ h => h) (fun _ _ => rfl))
          rw [hgb1] at hg
          injection hg with hg
          subst hg
          exact ⟨hs1.lt, .inr hh.new, hs1.fz, hs1.no⟩
        refine ⟨_, by rw [List.cons_append, hmem, hM']; exact i2, fun id hd h => getElem?_append_old (e1 id hd h), fun b r c hbc hfr hir hfg dd hdd => ?_, fun g hg hr => ?_⟩
        · cases b with
          | nil =>
            rw [List.nil_append] at hbc; injection hbc with h1 h2
            subst h1; subst h2
            exact hval1 dd hdd ρ1 F w hlen
          | cons b0 b =>
            rw [List.cons_append] at hbc; injection hbc with h1 h2
            exact (p1 b r c h2 hfr hir hfg dd hdd).mono (fun id hd h => getElem?_append_old h) (fun _ h => h) (fun _ _ _ h => h)
        · have h1 := asd g hg fun b r c hbc => hr (s :: b) r c (by rw [hbc, List.cons_append])
          have hne : γ s.i ≠ g := hr [] s l2 rfl hf hc.1 hc.2
          rw [List.cons_append, hmem, hM']
          refine ⟨h1.lt, h1.fz, fun id b hd hb hdd hh' => ?_⟩
          by_cases hid : id < s.M.length
          · rw [List.getElem?_append_left hid] at hb
            rw [List.getElem?_append_left (by omega)] at hh'
            exact h1.no id b hd hb hdd hh'
          · by_cases hid2 : id = s.M.length
            · subst hid2
              rw [List.getElem?_append_right (by omega), hlen, Nat.sub_self] at hh'
              simp only [List.getElem?_cons_zero, Option.some.injEq] at hh'
              subst hh'
              rw [hgb1]
              exact fun e => hne (Option.some.inj e)
            · rw [List.getElem?_eq_none (by simp; omega)] at hb; cases hb
      · refine same (by simp only [memF]; rw [if_neg (by simp [hq]), if_neg hc]) fun _ hin hfg => hc ⟨hin, hfg⟩
end

/-- What holds between the operations. -/
structure MidF (X : Cx) (nt : Nt) (env0 : List (Nat × AV)) (M0 : List Blk) (w0 : World) (S : Sc) (F0 : Addr → Prop) (ρ0 : List Hd) (wb : World) (ds : List Deferred) (tv : Nat → Value) (log : List Ent) (L : Array Bool) (γ : Nat → Nat) (F : Addr → Prop) (ρ : List Hd) (a : Act) (w : World) : Prop where
  inv : Inv X w0 S F ρ (memF M0 L log).1 w
  grow : Grow F0 F ρ0 ρ wb w
  size : a.tmps.size = nt.n
  defs : a.defers = ds
  kept : ∀ t, nt.mask.testBit t = false → a.tmps.getD t undef = tv t
  wrote : ∀ l2 s l1, log = l2 ++ s :: l1 → isIn L s.i → (isFl X s = true → (memF M0 L l1).2 = true) → ∀ d, s.o.dst = some d → Rep X.K ρ F w s.x (a.tmps.getD d undef)
  hid : ∀ l2 s l1, log = l2 ++ s :: l1 → isIn L s.i → isFl X s = true → (memF M0 L l1).2 = false → HidE X w0 ρ F a w (γ s.i) s ∧ Aside F ρ (memF M0 L log).1 w (γ s.i)
  lt : ∀ s ∈ log, isFl X s = true → isIn L s.i → γ s.i < w.heap.size
  dis : ∀ s ∈ log, ∀ s' ∈ log, isFl X s = true → isFl X s' = true → isIn L s.i → isIn L s'.i → s.i ≠ s'.i → γ s.i ≠ γ s'.i
  old : ∀ u, (∀ s ∈ log, isIn L s.i → s.o.dst ≠ some u) → Rep X.K ρ F w (Eng.look env0 u) (a.tmps.getD u undef)

section
variable {nt : Nt} {ops : Array Oper} {env0 : List (Nat × AV)} {M0 : List Blk}

theorem isFl_q {t : Ent} (h : isFl X t = true) : t.q = false := by
  unfold isFl at h; rw [Bool.and_eq_true] at h; simpa using h.1

theorem split_cases {α : Type} {b c l2 l1 : List α} {s t : α} (h : b ++ s :: c = l2 ++ t :: l1) :
    (∃ m, l2 = b ++ s :: m ∧ c = m ++ t :: l1) ∨ (b = l2 ∧ s = t ∧ c = l1) ∨ (∃ m, l1 = m ++ s :: c ∧ b = l2 ++ t :: m) := by
  induction b generalizing l2 with
  | nil =>
    cases l2 with
    | nil => simp only [List.nil_append, List.cons.injEq] at h; exact .inr (.inl ⟨rfl, h.1, h.2⟩)
    | cons x l2 => simp only [List.nil_append, List.cons_append, List.cons.injEq] at h; exact .inl ⟨l2, by rw [h.1]; rfl, h.2⟩
  | cons y b ih =>
    cases l2 with
    | nil => simp only [List.nil_append, List.cons_append, List.cons.injEq] at h; exact .inr (.inr ⟨b, h.2.symm, by rw [h.1]; rfl⟩)
    | cons x l2 =>
      simp only [List.cons_append, List.cons.injEq] at h
      rcases ih h.2 with ⟨m, h1, h2⟩ | ⟨h1, h2, h3⟩ | ⟨m, h1, h2⟩
      · exact .inl ⟨m, by rw [h1, h.1]; rfl, h2⟩
      · exact .inr (.inl ⟨by rw [h1, h.1], h2, h3⟩)
      · exact .inr (.inr ⟨m, h1, by rw [h2, h.1]; rfl⟩)
theorem LogF.uniq {log : List Ent} {env : List (Nat × AV)} {M : List Blk} (hL : LogF X nt ops env0 M0 log env M) {b c b' c' : List Ent} {s : Ent} (h1 : log = b ++ s :: c) (h2 : log = b' ++ s :: c') : c = c' := by
  have irr : ∀ {p q r : List Ent}, log = p ++ s :: (q ++ s :: r) → False := by
    intro p q r h
    obtain ⟨_, _, _, _, _, st⟩ := LogF.entry (h ▸ hL)
    exact (okPairF_spec (st.pair s (List.mem_append_right _ List.mem_cons_self))).1 rfl
  rcases split_cases (h1.symm.trans h2) with ⟨m, h3, h4⟩ | ⟨_, _, h⟩ | ⟨m, h3, h4⟩
  · exact (irr (p := b) (q := m) (r := c') (by rw [h1, h4])).elim
  · exact h
  · exact (irr (p := b') (q := m) (r := c) (by rw [h2, h3])).elim

theorem any_runsF (hX : X.Okb) {rdc : Cy} {n : Nat} {w0 wb : World} {S : Sc} {F0 : Addr → Prop} {ρ0 : List Hd} {ds : List Deferred} {tv : Nat → Value} {Q : Exit → Act → World → Prop} {log : List Ent} {env : List (Nat × AV)} {M : List Blk} (hL : LogF X nt ops env0 M0 log env M)
    (hall : ∀ i, i < ops.size → ∃ t ∈ log, t.i = i)
    (hQ : ∀ a' w' F' ρ', Inv X w0 S F' ρ' M w' → EnvRep X ρ' F' w' env a'.tmps → a'.tmps.size = nt.n → a'.defers = ds → (∀ t, nt.mask.testBit t = false → a'.tmps.getD t undef = tv t) → Grow F0 F' ρ0 ρ' wb w' → Q .normal a' w') :
    ∀ (fuel : Nat) (L : Array Bool) (γ : Nat → Nat) (F : Addr → Prop) (ρ : List Hd) (a : Act) (w : World), L.size = ops.size → log.countP (fun t => !(L.getD t.i false)) ≤ fuel → Closed L log →
      MidF X nt env0 M0 w0 S F0 ρ0 wb ds tv log L γ F ρ a w → wpAnyIn (fen rdc.r) n X.P .any ops Q fuel L a w := by
  have done : ∀ (L : Array Bool) (γ : Nat → Nat) (F : Addr → Prop) (ρ : List Hd) (a : Act) (w : World), (∀ t ∈ log, isIn L t.i) → MidF X nt env0 M0 w0 S F0 ρ0 wb ds tv log L γ F ρ a w → Q .normal a w := by
    intro L γ F ρ a w hin hm
    refine hQ a w F ρ ?_ (fun u => ?_) hm.size hm.defs hm.kept hm.grow
    · have := LogF.mem_all hL (L := L) (memF_flag.2 fun s hs _ => hin s hs)
      rw [← this]
      exact hm.inv
    · rcases LogF.look hL u with ⟨s, hs, hd, he⟩ | ⟨hn, he⟩
      · rw [he]
        obtain ⟨l2, l1, hlog⟩ := List.append_of_mem hs
        exact hm.wrote l2 s l1 hlog (hin s hs) (fun _ => memF_flag.2 fun r hr _ => hin r (by rw [hlog]; exact List.mem_append_right _ (List.mem_cons_of_mem _ hr))) u hd
      · rw [he]; exact hm.old u fun s hs _ => hn s hs
  -- none is ready: all are taken
  have none_ready : ∀ (L : Array Bool), L.size = ops.size → Region.ready .any ops L = [] → ∀ t ∈ log, isIn L t.i := by
    intro L hsz hr
    have key : ∀ (l1 : List Ent) (l2 : List Ent) (env' : List (Nat × AV)) (M' : List Blk), LogF X nt ops env0 M0 l1 env' M' → l2 ++ l1 = log → ∀ t ∈ l1, isIn L t.i := by
      intro l1
      induction l1 with
      | nil => intro _ _ _ _ _ t ht; simp at ht
      | cons s l1 ih =>
        intro l2 env' M' hl he t ht
        obtain ⟨env1, M1, hl1, st⟩ := hl
        have ih' := ih (l2 ++ [s]) env1 M1 hl1 (by simpa using he)
        rcases List.mem_cons.1 ht with rfl | ht
        · by_cases hin : isIn L t.i
          · exact hin
          · exfalso
            have hmem : t.i ∈ Region.ready .any ops L := by
              rw [mem_ready]
              have hlt : t.i < ops.size := (Array.getElem?_eq_some_iff.1 st.op).1
              refine ⟨?_, t.o, st.op, fun e hee hb => ?_⟩
              · have : t.i < L.size := by omega
                simp only [isIn, Array.getD_eq_getD_getElem?, Array.getElem?_eq_getElem this, Option.getD_some] at hin ⊢
                simpa using hin
              · obtain ⟨r, hr', hri⟩ := st.pre e hee hb
                rw [← hri]; exact ih' r hr'
            rw [hr] at hmem
            simp at hmem
        · exact ih' t ht
    exact fun t ht => key log [] env M hL rfl t ht
  intro fuel
  induction fuel with
  | zero =>
    intro L γ F ρ a w hsz hcnt hcl hm
    have hin : ∀ t ∈ log, isIn L t.i := by
      intro t ht
      have h0 : log.countP (fun t => !(L.getD t.i false)) = 0 := by omega
      have := List.countP_eq_zero.1 h0 t ht
      cases hb : L.getD t.i false with
      | true => exact hb
      | false => exact absurd (by simp only [hb, Bool.not_false]) this
    refine ⟨?_, done L γ F ρ a w hin hm⟩
    cases hr : Region.ready .any ops L with
    | nil => rfl
    | cons i is =>
      exfalso
      have hmem : i ∈ Region.ready .any ops L := by rw [hr]; exact List.mem_cons_self
      rw [mem_ready] at hmem
      obtain ⟨hf, o, ho, _⟩ := hmem
      have hlt : i < ops.size := (Array.getElem?_eq_some_iff.1 ho).1
      obtain ⟨t, ht, rfl⟩ := hall i hlt
      have h1 := hin t ht
      have : t.i < L.size := by omega
      simp only [isIn, Array.getD_eq_getD_getElem?, Array.getElem?_eq_getElem this, Option.getD_some] at h1 hf
      rw [h1] at hf; cases hf
  | succ fuel ih =>
    intro L γ F ρ a w hsz hcnt hcl hm
    refine ⟨fun hr => done L γ F ρ a w (none_ready L hsz hr) hm, fun i hi => ?_⟩
    rw [mem_ready] at hi
    obtain ⟨hf, o, ho, hpre⟩ := hi
    have hlt : i < ops.size := (Array.getElem?_eq_some_iff.1 ho).1
    obtain ⟨t, ht, rfl⟩ := hall i hlt
    have hltL : t.i < L.size := by omega
    have hnot : ¬ isIn L t.i := by
      simp only [isIn, Array.getD_eq_getD_getElem?, Array.getElem?_eq_getElem hltL, Option.getD_some] at hf ⊢
      rw [hf]; simp
    obtain ⟨l2, l1, hlog⟩ := List.append_of_mem ht
    obtain ⟨env1, M1, envE, ME, hl1, st⟩ := LogF.entry (hlog ▸ hL)
    have hoo : t.o = o := by have hto := st.op; rw [ho] at hto; injection hto with hto; exact hto.symm
    subst hoo
    have hin' : ∀ j, isIn (L.setIfInBounds t.i true) j ↔ j = t.i ∨ isIn L j := by
      intro j
      by_cases hj : j = t.i
      · subst hj; simp [isIn, Array.getD_eq_getD_getElem?, hltL]
      · simp only [isIn]; rw [getD_set_ne false (Ne.symm hj)]; simp [hj]
    have hcnt' : log.countP (fun s => !((L.setIfInBounds t.i true).getD s.i false)) ≤ fuel := by
      have := countP_lt (l := log) (p := fun t => !(L.getD t.i false)) (q := fun s => !((L.setIfInBounds t.i true).getD s.i false)) (fun s hs h => by
        have h' : ¬ isIn (L.setIfInBounds t.i true) s.i := by simpa [isIn] using h
        rw [hin'] at h'
        have : ¬ isIn L s.i := fun hh => h' (.inr hh)
        simpa [isIn] using this) ⟨t, ht, by simpa [isIn] using hnot, by have := (hin' t.i).2 (.inl rfl); simpa [isIn] using this⟩
      omega
    have hcl' : Closed (L.setIfInBounds t.i true) log := by
      intro s hs hsi e he hb
      rw [hin'] at hsi ⊢
      rcases hsi with h | h
      · have := LogF.distinct hL s hs t ht h
        subst this
        exact .inr (hpre e he hb)
      · exact .inr (hcl s hs h e he hb)
    have hclt := LogF.closed (L := L) hL hcl t ht hpre
    have hcl2 : Closed L (l2 ++ t :: l1) := hlog ▸ hcl
    have hL2 : LogF X nt ops env0 M0 (l2 ++ t :: l1) env M := hlog ▸ hL
    -- entries before t are as they were
    have hne1 : ∀ s ∈ l1, s.i ≠ t.i := fun s hs e => (okPairF_spec (st.pair s hs)).1 e.symm
    have old1 : ∀ {l : List Ent}, (∀ s ∈ l, s ∈ l1) → memF M0 (L.setIfInBounds t.i true) l = memF M0 L l := fun h => memF_congr fun s hs _ => by
      rw [hin']; exact ⟨fun hh => hh.resolve_left (hne1 s (h s hs)), .inr⟩
    have hsne : ∀ s ∈ log, isIn L s.i → s ≠ t := fun s _ hsi e => hnot (e ▸ hsi)
    have tmp_ne : ∀ (v : Value) (s : Ent), s ∈ log → s ≠ t → ∀ d, s.o.dst = some d → (a.put t.o.dst v).tmps.getD d undef = a.tmps.getD d undef := by
      intro v s hs hst d hd
      cases htd : t.o.dst with
      | none => rfl
      | some d' =>
        have hne : d' ≠ d := fun e => hst (LogF.dst hL s hs t ht d hd (e ▸ htd))
        simp [Act.put, Array.getD_eq_getD_getElem?, Array.getElem?_setIfInBounds_ne hne]
    have tmp_eq : ∀ (v : Value) d, t.o.dst = some d → (a.put t.o.dst v).tmps.getD d undef = v := by
      intro v d hd
      have hlt' := (st.dst d hd).1
      simp [Act.put, hd, Array.getD_eq_getD_getElem?, hm.size, hlt']
    have tmp_old : ∀ (v : Value) u, t.o.dst ≠ some u → (a.put t.o.dst v).tmps.getD u undef = a.tmps.getD u undef := by
      intro v u htu
      cases htd : t.o.dst with
      | none => rfl
      | some d' =>
        have hne : d' ≠ u := fun e => htu (e ▸ htd)
        simp [Act.put, Array.getD_eq_getD_getElem?, Array.getElem?_setIfInBounds_ne hne]
    have hkept : ∀ (v : Value), ∀ u, nt.mask.testBit u = false → (a.put t.o.dst v).tmps.getD u undef = tv u := by
      intro v
      cases htd : t.o.dst with
      | none => exact hm.kept
      | some d => exact kept_put (st.dst d htd).2 hm.kept
    -- a writer that is taken and stands behind t in the text is a variable that stands aside
    have hfl2 : t.q = false → ∀ s ∈ l2, s.q = false → isIn L s.i → isFl X s = true := by
      intro htq s hs hsq hsi
      cases hfs : isFl X s with
      | true => rfl
      | false =>
        exfalso
        obtain ⟨b, c, hbc⟩ := List.append_of_mem hs
        have hLs : LogF X nt ops env0 M0 (b ++ s :: (c ++ t :: l1)) env M := by have := hL2; rw [hbc] at this; simpa using this
        have hcls : Closed L (b ++ s :: (c ++ t :: l1)) := by have := hcl2; rw [hbc] at this; simpa using this
        have hs' : s ∈ log := by rw [hlog]; exact List.mem_append_left _ hs
        have := LogF.flag hLs hcls hsq hfs (hcl s hs' hsi)
        rw [memF_flag] at this
        exact hnot (this t (List.mem_append_right _ List.mem_cons_self) htq)
    -- once the memory is as it should be, the rest goes on
    have fin : ∀ (γ2 : Nat → Nat) (F2 : Addr → Prop) (ρ2 : List Hd) (v : Value) (w2 : World), Inv X w0 S F2 ρ2 (memF M0 (L.setIfInBounds t.i true) log).1 w2 → Grow F F2 ρ ρ2 w w2 → w.heap.size ≤ w2.heap.size →
        (isFl X t = false → Rep X.K ρ2 F2 w2 t.x v) →
        (∀ b s c, log = b ++ s :: c → isFl X s = true → isIn (L.setIfInBounds t.i true) s.i → (memF M0 (L.setIfInBounds t.i true) c).2 = true → (s = t ∨ (memF M0 L c).2 = false) → ∀ d, s.o.dst = some d → Rep X.K ρ2 F2 w2 s.x ((a.put t.o.dst v).tmps.getD d undef)) →
        (∀ b s c, log = b ++ s :: c → isFl X s = true → isIn (L.setIfInBounds t.i true) s.i → (memF M0 (L.setIfInBounds t.i true) c).2 = false → HidE X w0 ρ2 F2 (a.put t.o.dst v) w2 (γ2 s.i) s ∧ Aside F2 ρ2 (memF M0 (L.setIfInBounds t.i true) log).1 w2 (γ2 s.i)) →
        (∀ s ∈ log, isFl X s = true → s ≠ t → γ2 s.i = γ s.i) → (isFl X t = true → w.heap.size ≤ γ2 t.i ∧ γ2 t.i < w2.heap.size) →
        wpAnyIn (fen rdc.r) n X.P .any ops Q fuel (L.setIfInBounds t.i true) (a.put t.o.dst v) w2 := by
      intro γ2 F2 ρ2 v w2 hI2 hg hsize hx hrev hhid hγ hγt
      have hLin : ∀ s ∈ log, isIn (L.setIfInBounds t.i true) s.i → s ≠ t → isIn L s.i := by
        intro s hs hsi hst
        rcases (hin' _).1 hsi with h | h
        · exact absurd (LogF.distinct hL s hs t ht h) hst
        · exact h
      refine ih _ γ2 F2 ρ2 _ w2 (by simpa using hsz) hcnt' hcl' ⟨hI2, hm.grow.trans hg, by simp only [Act.put]; split <;> simp [hm.size], by simp only [Act.put]; split <;> exact hm.defs, hkept v, ?_, fun b s c h1 h2 h3 h4 => hhid b s c h1 h3 h2 h4, ?_, ?_, ?_⟩
      · intro b s c hbc hsi hflag d hd
        have hs : s ∈ log := by rw [hbc]; exact List.mem_append_right _ List.mem_cons_self
        by_cases hst : s = t
        · subst hst
          cases hft : isFl X s with
          | true => exact hrev b s c hbc hft hsi (hflag hft) (.inl rfl) d hd
          | false => rw [tmp_eq v d hd]; exact hx hft
        · have hsi' := hLin s hs hsi hst
          cases hfs : isFl X s with
          | false => rw [tmp_ne v s hs hst d hd]; exact (hm.wrote b s c hbc hsi' (fun h => by rw [hfs] at h; cases h) d hd).grow hg
          | true =>
            cases hfo : (memF M0 L c).2 with
            | true => rw [tmp_ne v s hs hst d hd]; exact (hm.wrote b s c hbc hsi' (fun _ => hfo) d hd).grow hg
            | false => exact hrev b s c hbc hfs hsi (hflag hfs) (.inr hfo) d hd
      · intro s hs hfs hsi
        by_cases hst : s = t
        · subst hst; exact (hγt hfs).2
        · rw [hγ s hs hfs hst]; exact Nat.lt_of_lt_of_le (hm.lt s hs hfs (hLin s hs hsi hst)) hsize
      · intro s hs s' hs' hfs hfs' hsi hsi' hne
        by_cases hst : s = t
        · by_cases hst' : s' = t
          · exact absurd (by rw [hst, hst']) hne
          · rw [hγ s' hs' hfs' hst']
            have h1 := hm.lt s' hs' hfs' (hLin s' hs' hsi' hst')
            have h2 := (hγt (hst ▸ hfs)).1
            rw [hst]; omega
        · by_cases hst' : s' = t
          · rw [hγ s hs hfs hst]
            have h1 := hm.lt s hs hfs (hLin s hs hsi hst)
            have h2 := (hγt (hst' ▸ hfs')).1
            rw [hst']; omega
          · rw [hγ s hs hfs hst, hγ s' hs' hfs' hst']
            exact hm.dis s hs s' hs' hfs hfs' (hLin s hs hsi hst) (hLin s' hs' hsi' hst') hne
      · intro u hu
        have htu : t.o.dst ≠ some u := hu t ht ((hin' _).2 (.inl rfl))
        rw [tmp_old v u htu]
        exact (hm.old u fun s hs hsi => hu s hs ((hin' _).2 (.inr hsi))).grow hg
    have hid_flag : t.q = false → ∀ {b : List Ent} {s : Ent} {c : List Ent}, log = b ++ s :: c → s ∈ l2 → (memF M0 L c).2 = false := by
      intro htq b s c hbc hs
      obtain ⟨b', c', hbc'⟩ := List.append_of_mem hs
      have e := LogF.uniq hL hbc (show log = b' ++ s :: (c' ++ t :: l1) by rw [hlog, hbc']; simp)
      rw [e]
      cases hfg : (memF M0 L (c' ++ t :: l1)).2 with
      | false => rfl
      | true =>
        rw [memF_flag] at hfg
        exact absurd (hfg t (List.mem_append_right _ List.mem_cons_self) htq) hnot
    have hin_log : ∀ {b : List Ent} {s : Ent} {c : List Ent}, log = b ++ s :: c → s ∈ log := fun h => by rw [h]; exact List.mem_append_right _ List.mem_cons_self
    have hLin : ∀ s ∈ log, isIn (L.setIfInBounds t.i true) s.i → s ≠ t → isIn L s.i := by
      intro s hs hsi hst
      rcases (hin' _).1 hsi with h | h
      · exact absurd (LogF.distinct hL s hs t ht h) hst
      · exact h
    have hin2 : ∀ {s : Ent}, s ∈ l2 → s ∈ log := fun hs => by rw [hlog]; exact List.mem_append_left _ hs
    have hne2 : ∀ s ∈ l2, s ≠ t := by
      intro s hs e
      subst e
      obtain ⟨b', c', hbc'⟩ := List.append_of_mem hs
      have := LogF.uniq hL hlog (show log = b' ++ s :: (c' ++ s :: l1) by rw [hlog, hbc']; simp)
      have := congrArg List.length this
      simp at this
      omega
    cases hft : isFl X t with
    | true =>
      have htq := isFl_q hft
      obtain ⟨b1, hM', hrun⟩ := st.fl hft
      have hmem : memF M0 L log = ((memF M0 L l1).1, false) := by rw [hlog]; exact LogF.mem_eff hnot htq
      have hm1 : memF M0 (L.setIfInBounds t.i true) l1 = memF M0 L l1 := old1 (fun s hs => hs)
      refine hrun hm.inv hm.size (fun u hu => LogF.reads (P := fun x => Rep X.K ρ F w x (a.tmps.getD u undef)) hnot hu hL2 hcl2 hpre (fun s hs hcb hd => by
          obtain ⟨m, c, hmc⟩ := List.append_of_mem hs
          exact hm.wrote (l2 ++ t :: m) s c (by rw [hlog, hmc]; simp) (hclt _ hcb) (fun hfs => memF_flag.2 fun r hr hrq => hclt _ (rOk_spec (l2 := m) (hmc ▸ st.rok) hfs hcb r hr hrq)) u hd) (fun h => hm.old u (by rw [hlog]; exact h))) ?_
      intro v1 w1 hd1 hg0 hgb1 hlt1 hone1 hrep1 hval1
      have hI1 : Inv X w0 S F ρ (memF M0 (L.setIfInBounds t.i true) l1).1 w1 := by
        rw [hm1]
        have := hm.inv.grown hg0
        rw [hmem] at this
        exact this
      have hcells := hm.inv.cells hg0 (by simp)
      let γ2 : Nat → Nat := fun j => if j = t.i then w.heap.size else γ j
      have hγt : γ2 t.i = w.heap.size := by simp [γ2]
      have hγo : ∀ s ∈ log, s ≠ t → γ2 s.i = γ s.i := fun s hs hst => by
        have : s.i ≠ t.i := fun e => hst (LogF.distinct hL s hs t ht e)
        simp [γ2, this]
      have hlog' : (l2 ++ [t]) ++ l1 = log := by rw [hlog]; simp
      have hLr : LogF X nt ops env0 M0 ((l2 ++ [t]) ++ l1) env M := hlog' ▸ hL
      -- what stood aside stands aside
      have tr : ∀ b s c, log = b ++ s :: c → isIn L s.i → isFl X s = true → (memF M0 L c).2 = false → HidE X w0 ρ F (a.put t.o.dst v1) w1 (γ2 s.i) s ∧ Aside F ρ (memF M0 (L.setIfInBounds t.i true) l1).1 w1 (γ2 s.i) := by
        intro b s c hbc hsi hfs hfg
        have hs := hin_log hbc
        have hst := hsne s hs hsi
        obtain ⟨h1, h2⟩ := hm.hid b s c hbc hsi hfs hfg
        rw [hγo s hs hst]
        rw [hmem] at h2
        exact ⟨h1.mono (fun _ _ h => h) (fun _ h => h) hcells (hg0.block _ h2.lt (by simp)) (fun dd hdd => tmp_ne _ s hs hst dd hdd), ⟨Nat.lt_of_lt_of_le h2.lt hg0.size, h2.fz, by rw [hm1]; exact h2.no⟩⟩
      have trt : HidE X w0 ρ F (a.put t.o.dst v1) w1 (γ2 t.i) t ∧ Aside F ρ (memF M0 (L.setIfInBounds t.i true) l1).1 w1 (γ2 t.i) := by
        rw [hγt]
        refine ⟨⟨⟨b1, hd1, hM', hgb1, hone1, hrep1, fun dd hdd => by rw [tmp_eq _ dd hdd]; exact hval1⟩, hm.inv.size⟩, ⟨hlt1, fun b hb e => ?_, fun id b hd h1 h2 h3 h4 => ?_⟩⟩
        · have := hm.inv.fz b hb; omega
        · rw [hm1] at h1
          have hmm : (memF M0 L log).1 = (memF M0 L l1).1 := by rw [hmem]
          have := (hm.inv.sep id b hd _ (by rw [hmm]; exact h1) h2 h3 h4).1
          omega
      obtain ⟨ρ2, i2, e2, p2, a2⟩ := reveal (L := L.setIfInBounds t.i true) (γ := γ2) (a := a.put t.o.dst v1) hLr hI1 (fun s hs hsq hsi => by
          rcases List.mem_append.1 hs with hs | hs
          · exact hfl2 htq s hs hsq (hLin s (hin2 hs) hsi (hne2 s hs))
          · rw [List.mem_singleton.1 hs]; exact hft) (fun s hs hfs hsi => by
          rcases List.mem_append.1 hs with hs | hs
          · obtain ⟨b, c, hbc⟩ := List.append_of_mem (hin2 hs)
            exact tr b s c hbc (hLin s (hin2 hs) hsi (hne2 s hs)) hfs (hid_flag htq hbc hs)
          · rw [List.mem_singleton.1 hs]; exact trt) (fun s hs s' hs' hfs hfs' hsi hsi' hne => by
          rcases List.mem_append.1 hs with hs | hs <;> rcases List.mem_append.1 hs' with hs' | hs'
          · rw [hγo s (hin2 hs) (hne2 s hs), hγo s' (hin2 hs') (hne2 s' hs')]
            exact hm.dis s (hin2 hs) s' (hin2 hs') hfs hfs' (hLin s (hin2 hs) hsi (hne2 s hs)) (hLin s' (hin2 hs') hsi' (hne2 s' hs')) hne
          · rw [List.mem_singleton.1 hs', hγt, hγo s (hin2 hs) (hne2 s hs)]
            have := hm.lt s (hin2 hs) hfs (hLin s (hin2 hs) hsi (hne2 s hs))
            omega
          · rw [List.mem_singleton.1 hs, hγt, hγo s' (hin2 hs') (hne2 s' hs')]
            have := hm.lt s' (hin2 hs') hfs' (hLin s' (hin2 hs') hsi' (hne2 s' hs'))
            omega
          · exact absurd (by rw [List.mem_singleton.1 hs, List.mem_singleton.1 hs']) hne)
      rw [hlog'] at i2 a2
      refine fin γ2 F ρ2 _ _ i2 ⟨fun _ h => h, e2, hm.inv.blks hg0 (by simp)⟩ hg0.size (fun h => by rw [hft] at h; cases h) ?_ ?_ (fun s hs _ hst => hγo s hs hst) (fun _ => by rw [hγt]; exact ⟨Nat.le_refl _, hlt1⟩)
      · intro b s c hbc hfs hsi hfg hor dd hdd
        rcases split_cases (hbc.symm.trans hlog) with ⟨m, h3, h4⟩ | ⟨h3, h4, h5⟩ | ⟨m, h3, h4⟩
        · exact p2 b s (m ++ [t]) (by rw [h3]; simp) hfs hsi (by rw [show (m ++ [t]) ++ l1 = c by rw [h4]; simp]; exact hfg) dd hdd
        · subst h4
          exact p2 l2 s [] rfl hfs hsi (by rw [List.nil_append, ← h5]; exact hfg) dd hdd
        · exfalso
          have h6 : memF M0 (L.setIfInBounds t.i true) c = memF M0 L c := old1 (fun r hr => by rw [h3]; exact List.mem_append_right _ (List.mem_cons_of_mem _ hr))
          rw [h6] at hfg
          rcases hor with h | h
          · exact hne1 s (by rw [h3]; exact List.mem_append_right _ List.mem_cons_self) (by rw [h])
          · rw [h] at hfg; cases hfg
      · intro b s c hbc hfs hsi hfg
        have hs := hin_log hbc
        have hH : HidE X w0 ρ F (a.put t.o.dst v1) w1 (γ2 s.i) s ∧ Aside F ρ (memF M0 (L.setIfInBounds t.i true) l1).1 w1 (γ2 s.i) := by
          by_cases hst : s = t
          · rw [hst]; exact trt
          · refine tr b s c hbc (hLin s hs hsi hst) hfs ?_
            cases hfo : (memF M0 L c).2 with
            | false => rfl
            | true =>
              rw [memF_flag] at hfo
              have : (memF M0 (L.setIfInBounds t.i true) c).2 = true := memF_flag.2 fun r hr hrq => (hin' _).2 (.inr (hfo r hr hrq))
              rw [this] at hfg; cases hfg
        refine ⟨hH.1.mono e2 (fun _ h => h) (fun _ _ _ h => h) rfl (fun _ _ => rfl), a2 _ hH.2 fun b' r c' hbc' hfr hir hfgr e => ?_⟩
        have hr : r ∈ log := by rw [← hlog', hbc']; simp
        by_cases hrs : r.i = s.i
        · have e1 := LogF.distinct hL r hr s hs hrs
          subst e1
          have := LogF.uniq hL hbc (show log = b' ++ r :: (c' ++ l1) by rw [← hlog', hbc']; simp)
          rw [this, hfgr] at hfg
          cases hfg
        · by_cases hrt : r = t
          · by_cases hst : s = t
            · exact hrs (by rw [hrt, hst])
            · rw [hrt, hγt, hγo s hs hst] at e
              have := hm.lt s hs hfs (hLin s hs hsi hst)
              omega
          · by_cases hst : s = t
            · rw [hst, hγt, hγo r hr hrt] at e
              have := hm.lt r hr hfr (hLin r hr hir hrt)
              omega
            · rw [hγo r hr hrt, hγo s hs hst] at e
              exact hm.dis r hr s hs hfr hfs (hLin r hr hir hrt) (hLin s hs hsi hst) hrs e
    | false =>
      refine st.runs hft (M0 := (memF M0 L log).1) (fun hq id hid => by rw [hlog]; exact LogF.mem_quiet hnot hq hid hL2 hcl2 hpre) (fun hq => by
          rw [hlog, LogF.mem_eff hnot hq, st.hM]
          exact LogF.mem_all hl1 (LogF.flag hL2 hcl2 hq hft hpre))
        hm.inv.rebase hm.size (fun u hu => LogF.reads (P := fun x => Rep X.K ρ F w x (a.tmps.getD u undef)) hnot hu hL2 hcl2 hpre (fun s hs hcb hd => by
          obtain ⟨m, c, hmc⟩ := List.append_of_mem hs
          exact hm.wrote (l2 ++ t :: m) s c (by rw [hlog, hmc]; simp) (hclt _ hcb) (fun hfs => memF_flag.2 fun r hr hrq => hclt _ (rOk_spec (l2 := m) (hmc ▸ st.rok) hfs hcb r hr hrq)) u hd) (fun h => hm.old u (by rw [hlog]; exact h))) ?_
      intro v w' F' ρ' hI' hx hg
      have hI2 := hm.inv.back hI'
      have tr : ∀ b s c, log = b ++ s :: c → isIn L s.i → isFl X s = true → (memF M0 L c).2 = false → HidE X w0 ρ' F' (a.put t.o.dst v) w' (γ s.i) s ∧ Aside F' ρ' (if t.q = true then (memF M0 L log).1 else t.M') w' (γ s.i) := by
        intro b s c hbc hsi hfs hfg
        have hs := hin_log hbc
        have hst := hsne s hs hsi
        obtain ⟨h1, h2⟩ := hm.hid b s c hbc hsi hfs hfg
        obtain ⟨h3, h4⟩ := h2.keep hI'
        exact ⟨h1.mono hg.hρ hg.hF hg.hw h4 (fun dd hdd => tmp_ne _ s hs hst dd hdd), h3⟩
      have hnf : ∀ s, isFl X s = true → s ≠ t := fun s hfs e => by rw [e, hft] at hfs; cases hfs
      cases hq : t.q with
      | true =>
        have same : ∀ {l : List Ent}, (∀ s ∈ l, s ∈ log) → memF M0 (L.setIfInBounds t.i true) l = memF M0 L l := fun h => memF_congr fun s hs hsq => by
          rw [hin']
          refine ⟨fun hh => hh.resolve_left fun e => ?_, .inr⟩
          have := LogF.distinct hL s (h s hs) t ht e
          rw [this, hq] at hsq; cases hsq
        rw [if_pos hq] at hI2
        have samec : ∀ {b : List Ent} {s : Ent} {c : List Ent}, log = b ++ s :: c → memF M0 (L.setIfInBounds t.i true) c = memF M0 L c := fun hbc => same fun r hr => by rw [hbc]; exact List.mem_append_right _ (List.mem_cons_of_mem _ hr)
        refine fin γ F' ρ' v w' (by rw [same fun s hs => hs]; exact hI2) hg hI'.size (fun _ => hx) ?_ ?_ (fun _ _ _ _ => rfl) (fun h => by rw [hft] at h; cases h)
        · intro b s c hbc hfs hsi hfg hor
          rw [samec hbc] at hfg
          rcases hor with h | h
          · exact absurd h (hnf s hfs)
          · rw [h] at hfg; cases hfg
        · intro b s c hbc hfs hsi hfg
          rw [samec hbc] at hfg
          have := tr b s c hbc (hLin s (hin_log hbc) hsi (hnf s hfs)) hfs hfg
          rw [if_pos hq] at this
          rw [same fun s hs => hs]
          exact this
      | false =>
        have hqn : ¬ t.q = true := by rw [hq]; simp
        have hbase : memF M0 (L.setIfInBounds t.i true) (t :: l1) = (t.M', true) := by
          simp only [memF]
          rw [if_neg hqn, if_pos ⟨(hin' _).2 (.inl rfl), by rw [old1 fun s hs => hs]; exact LogF.flag hL2 hcl2 hq hft hpre⟩]
        rw [if_neg hqn] at hI2
        have trb : ∀ b s c, log = b ++ s :: c → isIn L s.i → isFl X s = true → (memF M0 L c).2 = false → HidE X w0 ρ' F' (a.put t.o.dst v) w' (γ s.i) s ∧ Aside F' ρ' (memF M0 (L.setIfInBounds t.i true) (t :: l1)).1 w' (γ s.i) := by
          intro b s c h1 h2 h3 h4
          have := tr b s c h1 h2 h3 h4
          rw [if_neg hqn] at this
          rw [hbase]
          exact this
        obtain ⟨ρ2, i2, e2, p2, a2⟩ := reveal (L := L.setIfInBounds t.i true) (γ := γ) (a := a.put t.o.dst v) (base := t :: l1) hL2 (by rw [hbase]; exact hI2)
          (fun s hs hsq hsi => hfl2 hq s hs hsq (hLin s (hin2 hs) hsi (hne2 s hs)))
          (fun s hs hfs hsi => by
            obtain ⟨b, c, hbc⟩ := List.append_of_mem (hin2 hs)
            exact trb b s c hbc (hLin s (hin2 hs) hsi (hne2 s hs)) hfs (hid_flag hq hbc hs))
          (fun s hs s' hs' hfs hfs' hsi hsi' hne => hm.dis s (hin2 hs) s' (hin2 hs') hfs hfs' (hLin s (hin2 hs) hsi (hne2 s hs)) (hLin s' (hin2 hs') hsi' (hne2 s' hs')) hne)
        rw [← hlog] at i2 a2
        refine fin γ F' ρ2 v w' i2 ⟨hg.hF, fun id hd h => e2 id hd (hg.hρ id hd h), hg.hb⟩ hI'.size (fun _ => hx.mono e2 (fun _ h => h) (fun _ _ _ h => h)) ?_ ?_ (fun _ _ _ _ => rfl) (fun h => by rw [hft] at h; cases h)
        · intro b s c hbc hfs hsi hfg hor dd hdd
          rcases split_cases (hbc.symm.trans hlog) with ⟨m, h3, h4⟩ | ⟨h3, h4, h5⟩ | ⟨m, h3, h4⟩
          · exact p2 b s m h3 hfs hsi (by rw [← h4]; exact hfg) dd hdd
          · exact absurd h4 (hnf s hfs)
          · exfalso
            have h6 : memF M0 (L.setIfInBounds t.i true) c = memF M0 L c := old1 (fun r hr => by rw [h3]; exact List.mem_append_right _ (List.mem_cons_of_mem _ hr))
            rw [h6] at hfg
            rcases hor with h | h
            · exact hnf s hfs h
            · rw [h] at hfg; cases hfg
        · intro b s c hbc hfs hsi hfg
          have hs := hin_log hbc
          have hst := hnf s hfs
          have hfo : (memF M0 L c).2 = false := by
            cases hfo : (memF M0 L c).2 with
            | false => rfl
            | true =>
              rw [memF_flag] at hfo
              have : (memF M0 (L.setIfInBounds t.i true) c).2 = true := memF_flag.2 fun r hr hrq => (hin' _).2 (.inr (hfo r hr hrq))
              rw [this] at hfg; cases hfg
          have hH := trb b s c hbc (hLin s hs hsi hst) hfs hfo
          refine ⟨hH.1.mono e2 (fun _ h => h) (fun _ _ _ h => h) rfl (fun _ _ => rfl), a2 _ hH.2 fun b' r c' hbc' hfr hir hfgr e => ?_⟩
          have hr2 : r ∈ l2 := by rw [hbc']; exact List.mem_append_right _ List.mem_cons_self
          have hr := hin2 hr2
          by_cases hrs : r.i = s.i
          · have e1 := LogF.distinct hL r hr s hs hrs
            subst e1
            have := LogF.uniq hL hbc (show log = b' ++ r :: (c' ++ t :: l1) by rw [hlog, hbc']; simp)
            rw [this, hfgr] at hfg
            cases hfg
          · exact hm.dis r hr s hs hfr hfs (hLin r hr hir (hnf r hfr)) (hLin s hs hsi hst) hrs e
end

/-! ### The evaluation -/

def pushF (X : Cx) (T : Tab R) (ops : Array Oper) (t : Ent) (st : St) (log : List Ent) (k : List Ent → St → Option R) : Option R :=
  tst (log.all (okPairF X ops t) && rOk X t log) (putD T.nt st t.o.dst t.x t.M' fun st' => k (t :: log) st')
def evf1 (X : Cx) (T : Tab R) (ops : Array Oper) (i : Nat) (o : Oper) (cl : Nat) (st : St) (log : List Ent) (k : List Ent → St → Option R) : Option R :=
  match flO X o with
  | true =>
    match o.op with
    | .alloc ty => tst (((X.ti ty).ok && X.tyB (vks X ty) ty) && koks (vks X ty) (X.ti ty).zero) (pushF X T ops ⟨i, o, false, .ptr st.mem.length 0 0, [], cl, st.env, st.mem, st.mem ++ [.var (vks X ty) (X.ti ty).zero]⟩ st log k)
    | .buildSlice t n ps =>
      (match bldF X t n (ps.toList.map fun p => (p.1, evv X (rst (readsOf o) st.env) p.2)) with
       | some (e, rows) => fzB (.row e rows) fun b => pushF X T ops ⟨i, o, false, .own st.mem.length, [], cl, st.env, st.mem, st.mem ++ [b]⟩ st log k
       | none => none)
    | _ => none
  | false =>
  match quietIds X (evv X (rst (readsOf o) st.env)) o with
  | some ids => evop X T (evv X (rst (readsOf o) st.env)) o st.mem fun x _ => pushF X T ops ⟨i, o, true, x, ids, cl, st.env, st.mem, st.mem⟩ st log k
  | none =>
    match lstOf X ops (evv X (rst (readsOf o) st.env)) o with
    | some (t, n, ps) => evBuildList X t n (ps.toList.map fun p => (p.1, evv X (rst (readsOf o) st.env) p.2)) fun x => pushF X T ops ⟨i, o, true, x, [], cl, st.env, st.mem, st.mem⟩ st log k
    | none =>
      match callQ X (evv X (rst (readsOf o) st.env)) o with
      | some (g, args) => T.call g args [] fun x M' => tst (M'.isEmpty && aggQ x) (pushF X T ops ⟨i, o, true, x, [], cl, st.env, st.mem, st.mem⟩ st log k)
      | none =>
        match wrIds T (evv X (rst (readsOf o) st.env)) o st.mem with
        | some ids => evop X T (evv X (rst (readsOf o) st.env)) o st.mem fun x M' => pushF X T ops ⟨i, o, false, x, ids, cl, st.env, st.mem, M'⟩ st log k
        | none => none
def evf0 (X : Cx) (T : Tab R) (ops : Array Oper) (i : Nat) (o : Oper) (cl : Nat) (st : St) (log : List Ent) (k : List Ent → St → Option R) : Option R :=
  pushF X T ops ⟨i, o, true, .tup [], [], cl, st.env, st.mem, st.mem⟩ st log k
def evfg (X : Cx) (T : Tab R) (ops : Array Oper) (i : Nat) (o : Oper) (cl : Nat) (st : St) (log : List Ent) (k : List Ent → St → Option R) : Option R :=
  match o.guard with
  | none => evf1 X T ops i o cl st log k
  | some (j, want) =>
    match gslot ops j with
    | none => none
    | some d =>
      match look st.env d with
      | .bool b =>
        match b with
        | true => match want with
          | true => evf1 X T ops i o cl { st with env := (d, .bool true) :: st.env } log k
          | false => evf0 X T ops i o cl { st with env := (d, .bool true) :: st.env } log k
        | false => match want with
          | false => evf1 X T ops i o cl { st with env := (d, .bool false) :: st.env } log k
          | true => evf0 X T ops i o cl { st with env := (d, .bool false) :: st.env } log k
      | .tup [] => evf0 X T ops i o cl st log k
      | _ => none
def evfr (X : Cx) (T : Tab R) (ops : Array Oper) : List Nat → List Ent → St → (List Ent → St → Option R) → Option R
  | [], log, st, k => k log st
  | i :: rest, log, st, k =>
    match ops.toList[i]? with
    | none => none
    | some o =>
      match clOf log o.after.toList with
      | none => none
      | some cl => evfg X T ops i o cl st log fun log' st' => evfr X T ops rest log' st' k
def evregF (X : Cx) (T : Tab R) (ops : Array Oper) (st : St) (k : St → Option R) : Option R :=
  evfr X T ops (ordOf ops.toList) [] st fun log st' => tst (Nat.ble log.length ops.size && (List.range ops.size).all fun i => log.any fun t => t.i == i) (k st')
/-- A new variable that waits for nothing, and a call, or another such variable. -/
def flReg : List Oper → Nat × Nat
  | [] => (0, 0)
  | o :: os => match o.op with
    | .alloc _ => (match o.guard.isNone && o.after.toList.isEmpty with | true => ((flReg os).1 + 1, (flReg os).2 + 1) | false => flReg os)
    | .call c => (match c.callee with | .value _ => ((flReg os).1, (flReg os).2 + 1) | _ => flReg os)
    | _ => flReg os
def wrO (o : Oper) : Bool :=
  match o.op with
  | .alloc _ => true
  | .buildSlice _ _ _ => true
  | .makeSlice _ _ _ => true
  | .box _ _ => true
  | .call c => (match c.callee with | .value _ => true | .builtin .append => true | _ => false)
  | _ => false
/-- In closed runs: something that makes a block has no order against a writer that the text has before it. -/
def flNeed (X : Cx) : List SE → List SE → Bool
  | _, [] => false
  | acc, t :: l => (flO X t.2.1 && acc.any fun s => wrO s.2.1 && !Nat.beq (Nat.land (Nat.shiftRight t.2.2 s.1) 1) 1) || flNeed X (t :: acc) l
def flWay (X : Cx) (ops : Array Oper) : Bool :=
  match X.pk with
  | true => Nat.blt 0 (flReg ops.toList).1 && Nat.blt 1 (flReg ops.toList).2
  | false => (match ordS ops (ordOf ops.toList) [] with | some l => flNeed X [] l | none => false)
def evregG (X : Cx) (T : Tab R) (ops : Array Oper) (draw : Bool) (st : St) (k : St → Option R) : Option R :=
  match draw && flWay X ops with
  | true => evregF X T ops st k
  | false => evregQ X T ops draw st k

section
variable {nt : Nt} {ops : Array Oper} {env0 env1 : List (Nat × AV)} {M0 M1 : List Blk}

theorem pushF_some {T : Tab R} {t : Ent} {st : St} {log : List Ent} {k : List Ent → St → Option R} {r : R} (h : pushF X T ops t st log k = some r) :
    ∃ st', k (t :: log) st' = some r ∧ (∀ s ∈ log, okPairF X ops t s = true) ∧ rOk X t log = true ∧ (∀ d, t.o.dst = some d → d < T.nt.n ∧ T.nt.mask.testBit d = true) ∧ (∀ u, look st'.env u = (if t.o.dst = some u then t.x else look st.env u)) ∧ st'.mem = t.M' ∧ st'.dfs = st.dfs ∧ st'.rd = st.rd := by
  unfold pushF at h
  replace h := tst_some h
  obtain ⟨hp, h⟩ := h
  rw [Bool.and_eq_true] at hp
  have hq : pushE T ops t st [] (fun _ st' => k (t :: log) st') = some r := by
    unfold pushE
    simp only [List.all_nil, tst]
    exact h
  obtain ⟨st', h, _, hd, hlk, hmm, e1, e2⟩ := pushE_some hq
  exact ⟨st', h, fun s hs => List.all_eq_true.1 hp.1 s hs, hp.2, hd, hlk, hmm, e1, e2⟩

theorem logF_cons {log : List Ent} (hl : LogF X nt ops env0 M0 log env1 M1) {t : Ent} (h1 : ∀ u, look t.env u = look env1 u) (h2 : t.M = M1) (h3 : t.q = true → t.M' = t.M) (h4 : t.q = false → Agree t.ids t.M t.M') (h5 : isFl X t = false → t.Runs X nt ops)
    (h5' : isFl X t = true → ∃ b, t.M' = t.M ++ [b] ∧ t.FlRuns X nt ops b) (h6 : ops[t.i]? = some t.o)
    (h7 : ∀ d, t.o.dst = some d → d < nt.n ∧ nt.mask.testBit d = true) (h8 : ∀ s ∈ log, okPairF X ops t s = true) (h8' : rOk X t log = true) (h9 : clOf log t.o.after.toList = some t.cl) {env : List (Nat × AV)} {M : List Blk} (h10 : ∀ u, look env u = (if t.o.dst = some u then t.x else look t.env u)) (h11 : M = t.M') :
    LogF X nt ops env0 M0 (t :: log) env M := by
  obtain ⟨c1, c2⟩ := clOf_some h9
  refine ⟨env1, M1, hl, h1, h2, h3, h4, h5, h5', h6, h7, h8, h8', fun e he hb => c1 e (by simpa using he) hb, fun w hw => ?_, fun u => by rw [h10 u, h1 u], h11⟩
  obtain ⟨e, he, hb, hh⟩ := c2 w hw
  exact ⟨e, by simpa using he, hb, hh⟩

theorem evf0_sound {T : Tab R} {i : Nat} {o : Oper} {cl : Nat} {st : St} {log : List Ent} {k : List Ent → St → Option R} {r : R} (hl : LogF X T.nt ops env0 M0 log env1 M1) (hi : ops[i]? = some o) (hc : clOf log o.after.toList = some cl)
    (he : ∀ u, look st.env u = look env1 u) (hm : st.mem = M1) (hw : Wants X ops o st.env false) (h : evf0 X T ops i o cl st log k = some r) :
    ∃ t st', k (t :: log) st' = some r ∧ LogF X T.nt ops env0 M0 (t :: log) st'.env st'.mem ∧ st'.dfs = st.dfs ∧ st'.rd = st.rd := by
  unfold evf0 at h
  obtain ⟨st', h, hp, hrk, hd, hlk, hmm, h1, h2⟩ := pushF_some h
  refine ⟨_, st', h, logF_cons hl he hm (fun _ => rfl) (fun hq => by cases hq) ?_ (fun hf => by simp [isFl] at hf) hi hd hp hrk hc hlk hmm, h1, h2⟩
  intro _ Mx _ _ rdc n w0 S F ρ a w Q K hI hsz hr hk
  unfold wpOpIn
  simp only [hi, hw hr, Bool.false_eq_true, if_false]
  exact ⟨fun _ _ => trivial, hk _ w F ρ hI rep_undef (Grow.refl _ _ _)⟩

theorem evf1_sound (hX : X.Okb) {T : Tab R} (hT : T.CallOk X) {i : Nat} {o : Oper} {cl : Nat} {st : St} {log : List Ent} {k : List Ent → St → Option R} {r : R} (hl : LogF X T.nt ops env0 M0 log env1 M1) (hi : ops[i]? = some o) (hc : clOf log o.after.toList = some cl)
    (he : ∀ u, look st.env u = look env1 u) (hm : st.mem = M1) (hw : Wants X ops o st.env true) (h : evf1 X T ops i o cl st log k = some r) :
    ∃ t st', k (t :: log) st' = some r ∧ LogF X T.nt ops env0 M0 (t :: log) st'.env st'.mem ∧ st'.dfs = st.dfs ∧ st'.rd = st.rd := by
  unfold evf1 at h
  split at h
  · rename_i hfl
    have isnofl : ∀ {x : AV} {M' : List Blk}, isFl X ⟨i, o, false, x, [], cl, st.env, st.mem, M'⟩ = false → False := fun hf => by simp [isFl, hfl] at hf
    split at h
    · rename_i ty ho
      replace h := tst_some h
      obtain ⟨hok, h⟩ := h
      rw [Bool.and_eq_true, Bool.and_eq_true] at hok
      obtain ⟨st', h, hp, hrk, hd, hlk, hmm, h1, h2⟩ := pushF_some h
      refine ⟨_, st', h, logF_cons hl he hm (fun hq => by cases hq) (fun _ => Agree.push _ _ _) (fun hf => (isnofl hf).elim) (fun _ => ⟨_, rfl, ?_⟩) hi hd hp hrk hc hlk hmm, h1, h2⟩
      intro Mx rdc n w0 S F ρ a w Q K hI hsz hr hk
      obtain ⟨i', d, z, f⟩ := hX.facts hok.1.1
      have hrun : (Instr.alloc ty true (.tuple #[])).run X.P w = .ok (.pointer (some ⟨w.heap.size, 0, none⟩)) (w.alloc (.cells z.cells ty)) := by
        simp only [Instr.alloc, Sem.run_bind, f.zeroValue, Result.andThen_ok, newVar, newRow, run_newObj, Sem.run_pure, World.alloc_eq]
      unfold wpOpIn
      simp only [hi, hw hr, if_true]
      refine wpIn_of_value (by simp [ho]) (v := .pointer (some ⟨w.heap.size, 0, none⟩)) (w' := w.alloc (.cells z.cells ty)) (by
        rw [show execOp a.eval o = (do pure (.value (← Instr.alloc ty true (.tuple #[]))) : Sem Next) from by simp [execOp, ho], Sem.run_bind, hrun]; rfl) ?_
      refine hk _ _ ⟨.slice (some ⟨w.heap.size, 0, none⟩) 1 1, (X.ti ty).zero.length⟩ (World.grownBy_alloc w _ none) rfl (by simp) rfl ⟨hok.2, rfl, _, _, _, rfl, heap_alloc_new w _, by rw [f.zc]; exact repL_zero _ _ _ _ _, hok.1.2⟩ (fun ρ2 F2 w2 hlen => ?_)
      have := ptr_last (X := X) (M := st.mem) (F := F2) (w := w2) (hd := ⟨.slice (some ⟨w.heap.size, 0, none⟩) 1 1, (X.ti ty).zero.length⟩) hlen rfl 0 0
      simpa using this
    · rename_i t n ps ho
      split at h
      · rename_i e rows hb
        rw [fzB_eq] at h
        obtain ⟨st', h, hp, hrk, hd, hlk, hmm, h1, h2⟩ := pushF_some h
        refine ⟨_, st', h, logF_cons hl he hm (fun hq => by cases hq) (fun _ => Agree.push _ _ _) (fun hf => (isnofl hf).elim) (fun _ => ⟨_, rfl, ?_⟩) hi hd hp hrk hc hlk hmm, h1, h2⟩
        intro Mx rdc n' w0 S F ρ a w Q K hI hsz hr hk
        have hev : ∀ z, Rep X.K ρ F w (evv X (rst (readsOf o) st.env) z) (a.eval z) := fun z => evv_rep hI (envRep_rst fun u hu => hr u (List.mem_append_left _ hu)) z
        obtain ⟨us, hrun, hlen, hrep⟩ := bldF_run hX hb (w := w) hI.one (ps.toList.map fun p => (p.1, a.eval p.2)) (by simp) (fun j p q hp hq => by
          rw [List.getElem?_map] at hp hq
          cases hj : ps.toList[j]? with
          | none => rw [hj] at hp; cases hp
          | some z =>
            rw [hj] at hp hq
            simp only [Option.map_some, Option.some.injEq] at hp hq
            subst hp; subst hq
            exact ⟨rfl, hev z.2⟩)
        have e1 : (ps.map fun (i, x) => (i, a.eval x)) = (ps.toList.map fun p => (p.1, a.eval p.2)).toArray := by apply Array.ext'; simp
        unfold wpOpIn
        simp only [hi, hw hr, if_true]
        refine wpIn_of_value (by simp [ho]) (v := .slice (some ⟨w.heap.size, 0, none⟩) n n) (w' := w.alloc (.cells us e)) (by
          rw [show execOp a.eval o = (do pure (.value (← Instr.buildSlice t n (ps.map fun (i, x) => (i, a.eval x)))) : Sem Next) from by simp [execOp, ho], Sem.run_bind, e1, hrun]; rfl) ?_
        refine hk _ _ ⟨.slice (some ⟨w.heap.size, 0, none⟩) n n, (X.K e).length⟩ (World.grownBy_alloc w _ none) rfl (by simp) rfl hrep (fun ρ2 F2 w2 hlen2 => ?_)
        exact own_last (M := st.mem) (hd := ⟨.slice (some ⟨w.heap.size, 0, none⟩) n n, (X.K e).length⟩) hlen2
      · cases h
    · cases h
  · rename_i hfl
    have nofl : ∀ {q : Bool} {x : AV} {ids : List Nat} {M' : List Blk}, isFl X ⟨i, o, q, x, ids, cl, st.env, st.mem, M'⟩ = true → False := by
      intro q x ids M' hf
      simp [isFl, hfl] at hf
    split at h
    · rename_i ids hq
      obtain ⟨y, h, hrun⟩ := quiet_runs hX hq h
      obtain ⟨st', h, hp, hrk, hd, hlk, hmm, h1, h2⟩ := pushF_some h
      refine ⟨_, st', h, logF_cons hl he hm (fun _ => rfl) (fun hq => by cases hq) ?_ (fun hf => (nofl hf).elim) hi hd hp hrk hc hlk hmm, h1, h2⟩
      intro _ Mx hM _ rdc n w0 S F ρ a w Q K hI hsz hr hk
      unfold wpOpIn
      simp only [hi, hw hr, if_true]
      exact hrun Mx (hM rfl) hI (fun z => evv_rep hI (envRep_rst fun u hu => hr u (List.mem_append_left _ hu)) z) (fun v w' ρ' F' hI' hg hx => hk v w' F' ρ' hI' hx hg)
    · rename_i hq
      split at h
      · rename_i t n ps hlst
        obtain ⟨y, h, hrun⟩ := list_runs hX (lstOf_some hlst) h
        obtain ⟨st', h, hp, hrk, hd, hlk, hmm, h1, h2⟩ := pushF_some h
        refine ⟨_, st', h, logF_cons hl he hm (fun _ => rfl) (fun hq => by cases hq) ?_ (fun hf => (nofl hf).elim) hi hd hp hrk hc hlk hmm, h1, h2⟩
        intro _ Mx hM _ rdc n w0 S F ρ a w Q K hI hsz hr hk
        unfold wpOpIn
        simp only [hi, hw hr, if_true]
        exact hrun Mx hI (fun z => evv_rep hI (envRep_rst fun u hu => hr u (List.mem_append_left _ hu)) z) (fun v w' ρ' F' hI' hg hx => hk v w' F' ρ' hI' hx hg)
      · split at h
        · rename_i g args hcq
          obtain ⟨y, h, hrun⟩ := callQ_runs hX hT hcq (k := fun y => pushF X T ops ⟨i, o, true, y, [], cl, st.env, st.mem, st.mem⟩ st log k) h
          obtain ⟨st', h, hp, hrk, hd, hlk, hmm, h1, h2⟩ := pushF_some h
          refine ⟨_, st', h, logF_cons hl he hm (fun _ => rfl) (fun hq => by cases hq) ?_ (fun hf => (nofl hf).elim) hi hd hp hrk hc hlk hmm, h1, h2⟩
          intro _ Mx hM _ rdc n w0 S F ρ a w Q K hI hsz hr hk
          unfold wpOpIn
          simp only [hi, hw hr, if_true]
          exact hrun Mx hI (fun z => evv_rep hI (envRep_rst fun u hu => hr u (List.mem_append_left _ hu)) z) (fun v w' ρ' F' hI' hg hx => hk v w' F' ρ' hI' hx hg)
        · split at h
          · rename_i ids hwr
            obtain ⟨x, M', hrun, h, hag⟩ := evop_sound hX hT h
            obtain ⟨st', h, hp, hrk, hd, hlk, hmm, h1, h2⟩ := pushF_some h
            refine ⟨_, st', h, logF_cons hl he hm (fun hq => by cases hq) (fun _ => hag ids hwr) ?_ (fun hf => (nofl hf).elim) hi hd hp hrk hc hlk hmm, h1, h2⟩
            intro _ Mx _ hM rdc n w0 S F ρ a w Q K hI hsz hr hk
            unfold wpOpIn
            simp only [hi, hw hr, if_true]
            have hM' := hM rfl
            subst hM'
            exact hrun hI (fun z => evv_rep hI (envRep_rst fun u hu => hr u (List.mem_append_left _ hu)) z) (fun v w' ρ' F' hI' hg hx => hk v w' F' ρ' hI' hx hg)
          · cases h

theorem evfg_sound (hX : X.Okb) {T : Tab R} (hT : T.CallOk X) {i : Nat} {o : Oper} {cl : Nat} {st : St} {log : List Ent} {k : List Ent → St → Option R} {r : R} (hl : LogF X T.nt ops env0 M0 log st.env st.mem) (hi : ops[i]? = some o) (hc : clOf log o.after.toList = some cl)
    (h : evfg X T ops i o cl st log k = some r) :
    ∃ t st', k (t :: log) st' = some r ∧ LogF X T.nt ops env0 M0 (t :: log) st'.env st'.mem ∧ st'.dfs = st.dfs ∧ st'.rd = st.rd := by
  unfold evfg at h
  split at h
  · rename_i hg
    exact evf1_sound hX hT hl hi hc (fun _ => rfl) rfl (fun {ρ F w tmps} _ => wanted_none hg _) h
  · rename_i j want hg
    split at h
    · cases h
    · rename_i d hd
      have hmem : d ∈ readsOf o ++ guardOf ops o := List.mem_append_right _ (by simp [guardOf, hg, hd])
      have wants : ∀ (b : Bool) (env : List (Nat × AV)), look env d = .bool b → Wants X ops o env (b == want) := by
        intro b env hb ρ F w tmps hr
        have := hr d hmem
        rw [hb] at this
        generalize hv : tmps.getD d undef = v at this
        cases this
        rw [wanted_some hg, yielded_of hd hv]
        cases b <;> cases want <;> rfl
      split at h
      · rename_i b hb
        split at h
        · split at h
          · exact evf1_sound hX hT (st := { st with env := (d, .bool true) :: st.env }) hl hi hc (fun u => look_refine hb u) rfl (wants true _ (by simp [look_cons, look_nil])) h
          · exact evf0_sound (st := { st with env := (d, .bool true) :: st.env }) hl hi hc (fun u => look_refine hb u) rfl (wants true _ (by simp [look_cons, look_nil])) h
        · split at h
          · exact evf1_sound hX hT (st := { st with env := (d, .bool false) :: st.env }) hl hi hc (fun u => look_refine hb u) rfl (wants false _ (by simp [look_cons, look_nil])) h
          · exact evf0_sound (st := { st with env := (d, .bool false) :: st.env }) hl hi hc (fun u => look_refine hb u) rfl (wants false _ (by simp [look_cons, look_nil])) h
      · rename_i hb
        refine evf0_sound hl hi hc (fun _ => rfl) rfl (fun {ρ F w tmps} hr => ?_) h
        have := hr d hmem
        rw [hb] at this
        generalize hv : tmps.getD d undef = v at this
        cases this with
        | tup cs vs hl2 _ =>
          have : vs = [] := by simpa using hl2
          subst this
          rw [wanted_some hg, yielded_undef hd hv]
          rfl
      · cases h

theorem evfr_sound (hX : X.Okb) {T : Tab R} (hT : T.CallOk X) {k : List Ent → St → Option R} {r : R} : ∀ (ord : List Nat) {log : List Ent} {st : St}, LogF X T.nt ops env0 M0 log st.env st.mem → evfr X T ops ord log st k = some r →
    ∃ log' st', k log' st' = some r ∧ LogF X T.nt ops env0 M0 log' st'.env st'.mem ∧ st'.dfs = st.dfs ∧ st'.rd = st.rd
  | [], log, st, hl, h => ⟨log, st, h, hl, rfl, rfl⟩
  | i :: rest, log, st, hl, h => by
    simp only [evfr] at h
    split at h
    · cases h
    · rename_i o ho
      split at h
      · cases h
      · rename_i cl hc
        obtain ⟨t, st1, h, hl1, e1, e2⟩ := evfg_sound hX hT hl (by simpa using ho) hc h
        obtain ⟨log', st', h, hl', e3, e4⟩ := evfr_sound hX hT rest hl1 h
        exact ⟨log', st', h, hl', e3.trans e1, e4.trans e2⟩

theorem evregF_sound (hX : X.Okb) {T : Tab R} (hT : T.CallOk X) {id : Nat} {st : St} {k : St → Option R} {r : R} (h : evregF X T ops st k = some r) :
    ∃ st', k st' = some r ∧ CodeRuns X T.nt (.region id ops true) st .normal st' := by
  unfold evregF at h
  obtain ⟨log, st', h, hl, e1, e2⟩ := evfr_sound hX hT (ops := ops) (env0 := st.env) (M0 := st.mem) _ (log := []) (st := st) (show LogF X T.nt ops st.env st.mem [] st.env st.mem from ⟨fun _ => rfl, rfl⟩) h
  replace h := tst_some h
  obtain ⟨hall, h⟩ := h
  rw [Bool.and_eq_true] at hall
  obtain ⟨hlen, hall⟩ := hall
  refine ⟨st', h, fun {rdc n w0 S F ρ a w Q} hI hs hq => wpIn_region_any hX.mixed ?_⟩
  have hg := World.grownBy_drawn w
  have hI' := hI.grown hg
  have hgr : Grow F F ρ ρ w { w with drawn := w.drawn + 1 } := ⟨fun _ h => h, fun _ _ h => h, hI.blks hg (by simp)⟩
  have hs' := hs.grow hgr
  have hno : ∀ i, ¬ isIn (Array.replicate ops.size false) i := by
    intro i hin
    simp only [isIn, Array.getD_eq_getD_getElem?, Array.getElem?_replicate] at hin
    split at hin <;> simp at hin
  have hm0 : ∀ l : List Ent, (memF st.mem (Array.replicate ops.size false) l).1 = st.mem := by
    intro l
    induction l with
    | nil => rfl
    | cons t l ihl =>
      simp only [memF]
      split
      · exact ihl
      · rw [if_neg fun hh => hno _ hh.1]; exact ihl
  refine any_runsF hX (ds := a.defers) (tv := rdc.tv) (wb := w) (S := S) (w0 := w0) (F0 := F) (ρ0 := ρ) hl (fun i hi => ?_) (fun a' w' F' ρ' hI2 hE hsz hdf hkp hg2 => ?_) ops.size _ (fun _ => 0) F ρ a _ (by simp) ?_ ?_ ?_
  · have := List.all_eq_true.1 hall i (List.mem_range.2 hi)
    obtain ⟨t, ht, hti⟩ := List.any_eq_true.1 this
    exact ⟨t, ht, by simpa using hti⟩
  · refine hq a' w' F' ρ' hI2 ⟨hE, hsz, ?_, ?_, hkp⟩ hg2
    · rw [e1, hdf]; exact hs.defs.mono hg2.hF hg2.hb
    · exact hs.rd.mono hg2.hF hg2.hb
  · exact Nat.le_trans List.countP_le_length (Nat.le_of_ble_eq_true hlen)
  · exact fun t ht hin => absurd hin (hno _)
  · exact ⟨by rw [hm0]; exact hI', hgr, hs.size, rfl, hs.kept, fun _ s _ _ hin => absurd hin (hno _), fun _ s _ _ hin => absurd hin (hno _), fun s _ _ hin => absurd hin (hno _), fun s _ s' _ _ _ hin => absurd hin (hno _), fun u _ => hs'.env u⟩

theorem evregG_sound (hX : X.Okb) {T : Tab R} (hT : T.CallOk X) {id : Nat} {draw : Bool} {st : St} {k : St → Option R} {r : R} (h : evregG X T ops draw st k = some r) :
    ∃ st', k st' = some r ∧ CodeRuns X T.nt (.region id ops draw) st .normal st' := by
  unfold evregG at h
  split at h
  · rename_i hb
    rw [Bool.and_eq_true] at hb
    rw [hb.1]
    exact evregF_sound hX hT h
  · exact evregQ_sound hX hT h
end

end
end Go.Eng

namespace Go.Eng
open Go
noncomputable section

variable {X : Cx} {R : Type}

/-! ### A store that writes one block in place -/
def cnv (k : Kind) (x : AV) : Option AV :=
  match k, x with
  | .slice t, .nilsl => some (.list t [])
  | .slice _, .own _ => none
  | _, x => some x
def cnvL : List Kind → List AV → Option (List AV)
  | k :: ks, x :: xs => (match cnv k x with | some y => (match cnvL ks xs with | some ys => some (y :: ys) | none => none) | none => none)
  | _, xs => some xs
theorem frz_cnv {k : Kind} {x y : AV} (h : cnv k x = some y) (M : List Blk) (c : AV → List Blk → Option R) : frz k x M c = c y M := by
  unfold cnv at h
  split at h
  · injection h with h; subst h; rfl
  · cases h
  · rename_i h1 h2
    injection h with h; subst h
    unfold frz
    split
    · exact absurd rfl (h1 _ rfl)
    · exact absurd rfl (h2 _ _ rfl)
    · rfl
theorem frzL_cnv : ∀ {ks : List Kind} {xs ys : List AV}, cnvL ks xs = some ys → ∀ (M : List Blk) (c : List AV → List Blk → Option R), frzL ks xs M c = c ys M
  | [], xs, ys, h, M, c => by
    cases xs <;> (simp only [cnvL, Option.some.injEq] at h; subst h; rfl)
  | k :: ks, [], ys, h, M, c => by simp only [cnvL, Option.some.injEq] at h; subst h; rfl
  | k :: ks, x :: xs, ys, h, M, c => by
    simp only [cnvL] at h
    split at h
    · rename_i y hy
      split at h
      · rename_i zs hz
        injection h with h; subst h
        simp only [frzL]
        rw [frz_cnv hy, frzL_cnv hz]
      · cases h
    · cases h

/-- The block that a store writes, and what it becomes. -/
def stoL (X : Cx) (t : TypeId) (p x : AV) (M : List Blk) : Option (Nat × Blk) :=
  match p with
  | .ptr id i off =>
    match gm M id with
    | some (.var ks cs) =>
      (match x.plain && (X.ti t).ok && i == 0 && x.cells.length == (X.ti t).size && decide (off + (X.ti t).size ≤ ks.length) && ksAt ks off x.cells with
       | true => some (id, .var ks (setAt cs off x.cells))
       | false => none)
    | some (.row t' xs) =>
      (match x.plain, cnvL (X.ti t).ks x.cells with
       | true, some xc =>
         (match (X.ti t).ok && xc.length == (X.ti t).size && decide (off + (X.ti t).size ≤ (X.K t').length) && ksAt (X.K t') off xc && decide (i < xs.length) with
          | true => some (id, .row t' (xs.set i (setAt (xs.getD i []) off xc)))
          | false => none)
       | _, _ => none)
    | _ => none
  | _ => none

theorem stoL_spec {t : TypeId} {p x : AV} {M : List Blk} {id : Nat} {b : Blk} (h : stoL X t p x M = some (id, b)) : ptrIds p = [id] ∧ id < M.length ∧ ∀ (M0 : List Blk), M0[id]? = M[id]? → ∀ (k : List Blk → Option R), evStore X t p x M0 k = k (M0.set id b) := by
  unfold stoL at h
  split at h
  · rename_i id' i off
    split at h
    · rename_i ks cs hb
      split at h
      · rename_i hc
        injection h with h; injection h with h1 h2
        subst h1; subst h2
        rw [gm_eq] at hb
        refine ⟨rfl, (List.getElem?_eq_some_iff.1 hb).1, fun M0 hM k => ?_⟩
        have hb0 : M0[id']? = some (.var ks cs) := by rw [hM]; exact hb
        unfold evStore
        simp only [gm_eq, hb0, hc, tst]
      · cases h
    · rename_i t' xs hb
      split at h
      · rename_i xc hpl hcv
        split at h
        · rename_i hc
          injection h with h; injection h with h1 h2
          subst h1; subst h2
          rw [gm_eq] at hb
          refine ⟨rfl, (List.getElem?_eq_some_iff.1 hb).1, fun M0 hM k => ?_⟩
          have hb0 : M0[id']? = some (.row t' xs) := by rw [hM]; exact hb
          unfold evStore
          simp only [gm_eq, hb0, hpl, tst]
          rw [frzL_cnv hcv]
          simp only [gm_eq, hb0, hc, tst]
        · cases h
      · cases h
    · cases h
  · cases h

/-- The store, wherever the block is what it was. -/
theorem stoL_runs (hX : X.Okb) {e : Operand → AV} {o : Oper} {t : TypeId} {p x : Operand} (ho : o.op = .store t p x) {M : List Blk} {id : Nat} {b : Blk} (h : stoL X t (e p) (e x) M = some (id, b)) {M0 : List Blk} (hM : M0[id]? = M[id]?) : OpRuns X o e M0 (.tup []) (M0.set id b) := by
  have h1 := (stoL_spec (R := AV × List Blk) h).2.2 M0 hM (fun M' => some (.tup [], M'))
  have h2 : evop0 X (tab0 (AV × List Blk)) e o M0 (fun x M => some (x, M)) = some (.tup [], M0.set id b) := by
    unfold evop0
    simp only [ho]
    exact h1
  obtain ⟨x', M', hrun, he, _⟩ := evop0_sound hX (tab0_ok X _) h2
  injection he with he
  injection he with e1 e2
  subst e1; subst e2
  exact @hrun

def isSt (o : Oper) : Bool := match o.op with | .store _ _ _ => true | _ => false
def isLc (t : Ent) : Bool := !t.q && isSt t.o
def idLc (t : Ent) : Nat := t.ids.headD 0
def bLc (t : Ent) : Blk := (t.M'[idLc t]?).getD .dead

def okPairL (ops : Array Oper) (t s : Ent) : Bool :=
  !(t.i == s.i) && !(t.o.dst.isSome && t.o.dst == s.o.dst) &&
  (t.cl.testBit s.i ||
    (!hits s.o.dst (readsOf t.o ++ guardOf ops t.o) && !hits t.o.dst (readsOf s.o ++ guardOf ops s.o) &&
      match t.q, s.q with
      | true, true => true
      | false, false => isLc t && isLc s && !(Nat.beq (idLc t) (idLc s))
      | true, false => t.ids.all fun id => s.keeps id
      | false, true => (match isLc t with | true => s.ids.all fun id => !(Nat.beq id (idLc t)) | false => s.ids.all fun id => t.keeps id)))

theorem okPairL_spec {ops : Array Oper} {t s : Ent} (h : okPairL ops t s = true) : t.i ≠ s.i ∧ (∀ d, t.o.dst = some d → s.o.dst ≠ some d) ∧
    (t.cl.testBit s.i = true ∨ ((∀ d, s.o.dst = some d → d ∉ readsOf t.o ++ guardOf ops t.o) ∧ (∀ d, t.o.dst = some d → d ∉ readsOf s.o ++ guardOf ops s.o) ∧ (t.q = false → s.q = false → isLc t = true ∧ isLc s = true ∧ idLc t ≠ idLc s) ∧
      (t.q = true → s.q = false → ∀ id ∈ t.ids, s.Keeps id) ∧ (t.q = false → s.q = true → ∀ id ∈ s.ids, (isLc t = true → id ≠ idLc t) ∧ (isLc t = false → t.Keeps id)))) := by
  unfold okPairL at h
  rw [Bool.and_eq_true, Bool.and_eq_true, Bool.or_eq_true] at h
  obtain ⟨⟨h1, h2⟩, h3⟩ := h
  refine ⟨by simpa using h1, fun d hd hs => by simp [hd, hs] at h2, ?_⟩
  rcases h3 with h3 | h3
  · exact .inl h3
  · refine .inr ?_
    rw [Bool.and_eq_true, Bool.and_eq_true] at h3
    obtain ⟨⟨h4, h5⟩, h6⟩ := h3
    refine ⟨hits_not h4, hits_not h5, ?_, ?_, ?_⟩
    · intro ht hs
      rw [ht, hs] at h6
      simp only [Bool.and_eq_true, Bool.not_eq_true'] at h6
      exact ⟨h6.1.1, h6.1.2, fun e => by rw [e] at h6; simp at h6⟩
    · intro ht hs id hid
      rw [ht, hs] at h6
      exact Ent.keeps_spec (List.all_eq_true.1 h6 id hid)
    · intro ht hs id hid
      rw [ht, hs] at h6
      simp only at h6
      constructor
      · intro hl
        rw [hl] at h6
        have := List.all_eq_true.1 h6 id hid
        intro e
        rw [e] at this
        simp at this
      · intro hl
        rw [hl] at h6
        exact Ent.keeps_spec (List.all_eq_true.1 h6 id hid)

/-- It may be taken wherever its block is what it was. -/
def Ent.RunsL (X : Cx) (nt : Nt) (ops : Array Oper) (t : Ent) : Prop :=
  ∀ {M0 : List Blk}, M0[idLc t]? = t.M[idLc t]? →
    ∀ {rdc : Cy} {n : Nat} {w0 : World} {S : Sc} {F : Addr → Prop} {ρ : List Hd} {a : Act} {w : World} {Q : Exit → Act → World → Prop} {K : Act → World → Prop}, Inv X w0 S F ρ M0 w → a.tmps.size = nt.n →
      (∀ u ∈ readsOf t.o ++ guardOf ops t.o, Rep X.K ρ F w (look t.env u) (a.tmps.getD u undef)) →
      (∀ v w' F' ρ', Inv X w0 S F' ρ' (M0.set (idLc t) (bLc t)) w' → Rep X.K ρ' F' w' t.x v → Grow F F' ρ ρ' w w' → K (a.put t.o.dst v) w') → wpOpIn (fen rdc.r) n X.P ops Q t.i K a w

structure StepL (X : Cx) (nt : Nt) (ops : Array Oper) (t : Ent) (log : List Ent) (env1 : List (Nat × AV)) (M1 : List Blk) (env : List (Nat × AV)) (M : List Blk) : Prop where
  henv : ∀ u, look t.env u = look env1 u
  hM : t.M = M1
  hq : t.q = true → t.M' = t.M
  hag : t.q = false → Agree t.ids t.M t.M'
  runs : isLc t = false → t.Runs X nt ops
  lc : isLc t = true → t.RunsL X nt ops ∧ idLc t < t.M.length ∧ t.M' = t.M.set (idLc t) (bLc t)
  op : ops[t.i]? = some t.o
  dst : ∀ d, t.o.dst = some d → d < nt.n ∧ nt.mask.testBit d = true
  pair : ∀ s ∈ log, okPairL ops t s = true
  pre : ∀ e ∈ t.o.after, Region.binds .any e = true → ∃ s ∈ log, s.i = e.on
  cl : ∀ w, t.cl.testBit w = true → ∃ e ∈ t.o.after, Region.binds .any e = true ∧ (w = e.on ∨ ∃ s ∈ log, s.i = e.on ∧ s.cl.testBit w = true)
  lk : ∀ u, look env u = (if t.o.dst = some u then t.x else look env1 u)
  mem : M = t.M'

def LogL (X : Cx) (nt : Nt) (ops : Array Oper) (env0 : List (Nat × AV)) (M0 : List Blk) : List Ent → List (Nat × AV) → List Blk → Prop
  | [], env, M => (∀ u, look env u = look env0 u) ∧ M = M0
  | t :: log, env, M => ∃ env1 M1, LogL X nt ops env0 M0 log env1 M1 ∧ StepL X nt ops t log env1 M1 env M

/-- The memory behind what is taken. -/
def memL (M0 : List Blk) (L : Array Bool) : List Ent → List Blk
  | [] => M0
  | t :: log => if t.q = false ∧ isIn L t.i then (if isLc t = true then (memL M0 L log).set (idLc t) (bLc t) else t.M') else memL M0 L log

theorem isLc_q {t : Ent} (h : isLc t = true) : t.q = false := by
  unfold isLc at h; rw [Bool.and_eq_true] at h; simpa using h.1

section
variable {nt : Nt} {ops : Array Oper} {env0 : List (Nat × AV)} {M0 : List Blk} {L : Array Bool}

theorem LogL.look : ∀ {log : List Ent} {env : List (Nat × AV)} {M : List Blk}, LogL X nt ops env0 M0 log env M → ∀ u, (∃ s ∈ log, s.o.dst = some u ∧ Eng.look env u = s.x) ∨ ((∀ s ∈ log, s.o.dst ≠ some u) ∧ Eng.look env u = Eng.look env0 u)
  | [], env, M, ⟨h, _⟩, u => .inr ⟨fun s hs => by simp at hs, h u⟩
  | t :: log, env, M, ⟨_, _, hl, st⟩, u => by
    rw [st.lk u]
    split
    · rename_i hd; exact .inl ⟨t, List.mem_cons_self, hd, rfl⟩
    · rename_i hd
      rcases LogL.look hl u with ⟨s, hs, h⟩ | ⟨h1, h2⟩
      · exact .inl ⟨s, List.mem_cons_of_mem _ hs, h⟩
      · refine .inr ⟨fun s hs => ?_, h2⟩
        rcases List.mem_cons.1 hs with rfl | hs
        · exact hd
        · exact h1 s hs

theorem LogL.closed : ∀ {log : List Ent} {env : List (Nat × AV)} {M : List Blk}, LogL X nt ops env0 M0 log env M → Closed L log → ∀ t ∈ log, (∀ e ∈ t.o.after, Region.binds .any e = true → isIn L e.on) → ∀ w, t.cl.testBit w = true → isIn L w
  | [], _, _, _, _, t, ht, _, _, _ => by simp at ht
  | t :: log, _, _, ⟨_, _, hl, st⟩, hcl, s, hs, hp, w, hw => by
    have ih := LogL.closed hl (fun a ha => hcl a (List.mem_cons_of_mem _ ha))
    rcases List.mem_cons.1 hs with rfl | hs
    · obtain ⟨e, he, hb, rfl | ⟨u, hu, hui, hut⟩⟩ := st.cl w hw
      · exact hp e he hb
      · exact ih u hu (hcl u (List.mem_cons_of_mem _ hu) (by rw [hui]; exact hp e he hb)) w hut
    · exact ih s hs hp w hw

theorem LogL.entry {t : Ent} {l1 : List Ent} : ∀ {l2 : List Ent} {env' : List (Nat × AV)} {M' : List Blk}, LogL X nt ops env0 M0 (l2 ++ t :: l1) env' M' → ∃ env1 M1 env M, LogL X nt ops env0 M0 l1 env1 M1 ∧ StepL X nt ops t l1 env1 M1 env M
  | [], _, _, ⟨_, _, hl, st⟩ => ⟨_, _, _, _, hl, st⟩
  | _ :: l2, _, _, ⟨_, _, hl, _⟩ => LogL.entry (l2 := l2) hl

theorem LogL.distinct {log : List Ent} : ∀ {env : List (Nat × AV)} {M : List Blk}, LogL X nt ops env0 M0 log env M → ∀ s ∈ log, ∀ t ∈ log, s.i = t.i → s = t := by
  induction log with
  | nil => intro _ _ _ s hs; simp at hs
  | cons a log ih =>
    intro env M h s hs t ht e
    obtain ⟨_, _, hl, st⟩ := h
    rcases List.mem_cons.1 hs with rfl | hs' <;> rcases List.mem_cons.1 ht with rfl | ht'
    · rfl
    · exact absurd e (okPairL_spec (st.pair t ht')).1
    · exact absurd e.symm (okPairL_spec (st.pair s hs')).1
    · exact ih hl s hs' t ht' e
theorem LogL.dst {log : List Ent} : ∀ {env : List (Nat × AV)} {M : List Blk}, LogL X nt ops env0 M0 log env M → ∀ s ∈ log, ∀ t ∈ log, ∀ d, s.o.dst = some d → t.o.dst = some d → s = t := by
  induction log with
  | nil => intro _ _ _ s hs; simp at hs
  | cons a log ih =>
    intro env M h s hs t ht d h1 h2
    obtain ⟨_, _, hl, st⟩ := h
    rcases List.mem_cons.1 hs with rfl | hs' <;> rcases List.mem_cons.1 ht with rfl | ht'
    · rfl
    · exact absurd h2 ((okPairL_spec (st.pair t ht')).2.1 d h1)
    · exact absurd h1 ((okPairL_spec (st.pair s hs')).2.1 d h2)
    · exact ih hl s hs' t ht' d h1 h2

theorem LogL.mem_all : ∀ {log : List Ent} {env : List (Nat × AV)} {M : List Blk}, LogL X nt ops env0 M0 log env M → (∀ s ∈ log, s.q = false → isIn L s.i) → memL M0 L log = M
  | [], _, _, ⟨_, h⟩, _ => h.symm
  | t :: log, _, _, ⟨_, _, hl, st⟩, h => by
    have ih := LogL.mem_all hl (fun s hs => h s (List.mem_cons_of_mem _ hs))
    simp only [memL]
    cases hq : t.q with
    | false =>
      rw [if_pos ⟨rfl, h t List.mem_cons_self hq⟩]
      split
      · rename_i hlc
        rw [ih, ← st.hM, st.mem]
        exact (st.lc hlc).2.2.symm
      · exact st.mem.symm
    | true => rw [if_neg (by simp), ih, st.mem, st.hq hq, st.hM]

/-- Where only stores in place are not taken, the memory is as long. -/
theorem LogL.mem_len : ∀ {log : List Ent} {env : List (Nat × AV)} {M : List Blk}, LogL X nt ops env0 M0 log env M → (∀ s ∈ log, s.q = false → isLc s = false → isIn L s.i) → (memL M0 L log).length = M.length
  | [], _, _, ⟨_, h⟩, _ => by rw [h]; rfl
  | t :: log, _, _, ⟨_, _, hl, st⟩, h => by
    have ih := LogL.mem_len hl (fun s hs => h s (List.mem_cons_of_mem _ hs))
    simp only [memL]
    cases hq : t.q with
    | true => rw [if_neg (by simp), ih, st.mem, st.hq hq, st.hM]
    | false =>
      cases hlc : isLc t with
      | true =>
        have hm := (st.lc hlc).2.2
        by_cases hin : isIn L t.i
        · rw [if_pos ⟨rfl, hin⟩, if_pos rfl, List.length_set, ih, st.mem, hm, List.length_set, st.hM]
        · rw [if_neg (fun hh => hin hh.2), ih, st.mem, hm, List.length_set, st.hM]
      | false => rw [if_pos ⟨rfl, h t List.mem_cons_self hq hlc⟩, if_neg (by simp), st.mem]

theorem bLc_get {t : Ent} {log : List Ent} {env1 env : List (Nat × AV)} {M1 M : List Blk} (st : StepL X nt ops t log env1 M1 env M) (hlc : isLc t = true) : t.M'[idLc t]? = some (bLc t) := by
  obtain ⟨_, h2, h3⟩ := st.lc hlc
  rw [h3, List.getElem?_set_self h2]

theorem LogL.mem_new {t : Ent} {l1 : List Ent} {id : Nat} (hnot : ¬ isIn L t.i) {v : Option Blk} :
    ∀ {l2 : List Ent} {env' : List (Nat × AV)} {M' : List Blk}, LogL X nt ops env0 M0 (l2 ++ t :: l1) env' M' → Closed L (l2 ++ t :: l1) → (memL M0 L (t :: l1))[id]? = v →
      (∀ s ∈ l2, s.q = false → isIn L s.i → okPairL ops s t = true → isLc s = true → id ≠ idLc s) → (∀ s ∈ l2, s.q = false → isIn L s.i → okPairL ops s t = true → isLc s = false → ∀ l env M, LogL X nt ops env0 M0 (s :: l) env M → s.M'[id]? = s.M[id]?) →
      (memL M0 L (l2 ++ t :: l1))[id]? = v
  | [], _, _, _, _, h0, _, _ => h0
  | s :: l2, env', M', hL, hcl, h0, h1, h2 => by
    obtain ⟨_, _, hl, st⟩ := _root_.id hL
    have ih := LogL.mem_new hnot (l2 := l2) hl (fun a ha => hcl a (List.mem_cons_of_mem _ ha)) h0 (fun r hr => h1 r (List.mem_cons_of_mem _ hr)) (fun r hr => h2 r (List.mem_cons_of_mem _ hr))
    simp only [List.cons_append, memL]
    by_cases hc : s.q = false ∧ isIn L s.i
    · have hp := st.pair t (List.mem_append_right _ List.mem_cons_self)
      rw [if_pos hc]
      split
      · rename_i hlc
        rw [List.getElem?_set_ne (Ne.symm (h1 s List.mem_cons_self hc.1 hc.2 hp hlc))]
        exact ih
      · rename_i hlc
        have hlc' : isLc s = false := by simpa using hlc
        rw [h2 s List.mem_cons_self hc.1 hc.2 hp hlc' _ _ _ hL, st.hM]
        rw [← ih]
        have hcs := LogL.closed (L := L) hL hcl s List.mem_cons_self (hcl s List.mem_cons_self hc.2)
        have : memL M0 L (l2 ++ t :: l1) = _ := LogL.mem_all (L := L) hl fun r hr hrq => by
          obtain ⟨_, _, h | ⟨_, _, h, _⟩⟩ := okPairL_spec (st.pair r hr)
          · exact hcs _ h
          · have := (h hc.1 hrq).1
            rw [hlc'] at this; cases this
        rw [this]
    · rw [if_neg hc]; exact ih

theorem LogL.reads {t : Ent} {l1 : List Ent} (hnot : ¬ isIn L t.i) {u : Nat} (hu : u ∈ readsOf t.o ++ guardOf ops t.o) {P : AV → Prop} :
    ∀ {l2 : List Ent} {env' : List (Nat × AV)} {M' : List Blk}, LogL X nt ops env0 M0 (l2 ++ t :: l1) env' M' → Closed L (l2 ++ t :: l1) → (∀ e ∈ t.o.after, Region.binds .any e = true → isIn L e.on) →
      (∀ s ∈ l1, t.cl.testBit s.i = true → s.o.dst = some u → P s.x) → ((∀ s ∈ l2 ++ t :: l1, isIn L s.i → s.o.dst ≠ some u) → P (Eng.look env0 u)) → P (Eng.look t.env u)
  | [], env', M', hL, hcl, hpre, hw, h0 => by
    obtain ⟨_, _, hl, st⟩ := hL
    rw [st.henv u]
    rcases LogL.look hl u with ⟨s, hs, hd, he⟩ | ⟨hn, he⟩
    · rw [he]
      refine hw s hs ?_ hd
      obtain ⟨_, _, h | ⟨h, _⟩⟩ := okPairL_spec (st.pair s hs)
      · exact h
      · exact absurd hu (h u hd)
    · rw [he]
      refine h0 fun s hs hsi hd => ?_
      rcases List.mem_cons.1 hs with rfl | hs
      · exact hnot hsi
      · exact hn s hs hd
  | s :: l2, env', M', hL, hcl, hpre, hw, h0 => by
    obtain ⟨_, _, hl, st⟩ := _root_.id hL
    refine LogL.reads hnot hu (l2 := l2) hl (fun a ha => hcl a (List.mem_cons_of_mem _ ha)) hpre hw fun hn => h0 fun r hr hri hd => ?_
    rcases List.mem_cons.1 hr with rfl | hr
    · have hcs := LogL.closed (L := L) hL hcl r List.mem_cons_self (hcl r List.mem_cons_self hri)
      obtain ⟨_, _, h | ⟨_, h, _⟩⟩ := okPairL_spec (st.pair t (List.mem_append_right _ List.mem_cons_self))
      · exact hnot (hcs _ h)
      · exact h u hd hu
    · exact hn r hr hri hd

theorem memL_congr {L' : Array Bool} : ∀ {log : List Ent}, (∀ s ∈ log, s.q = false → (isIn L s.i ↔ isIn L' s.i)) → memL M0 L log = memL M0 L' log
  | [], _ => rfl
  | t :: log, h => by
    have ih := memL_congr (L' := L') (log := log) fun s hs => h s (List.mem_cons_of_mem _ hs)
    simp only [memL]
    by_cases hq : t.q = false
    · have := h t List.mem_cons_self hq
      by_cases hin : isIn L t.i
      · rw [ih, if_pos ⟨hq, hin⟩]
        exact (if_pos ⟨hq, this.1 hin⟩).symm
      · rw [if_neg (fun hh => hin hh.2), if_neg (fun hh => hin (this.2 hh.2)), ih]
    · rw [if_neg (fun hh => hq hh.1), if_neg (fun hh => hq hh.1), ih]
end

/-- What holds between the operations. -/
structure MidL (X : Cx) (nt : Nt) (env0 : List (Nat × AV)) (M0 : List Blk) (w0 : World) (S : Sc) (F0 : Addr → Prop) (ρ0 : List Hd) (wb : World) (ds : List Deferred) (tv : Nat → Value) (log : List Ent) (L : Array Bool) (F : Addr → Prop) (ρ : List Hd) (a : Act) (w : World) : Prop where
  inv : Inv X w0 S F ρ (memL M0 L log) w
  grow : Grow F0 F ρ0 ρ wb w
  size : a.tmps.size = nt.n
  defs : a.defers = ds
  kept : ∀ t, nt.mask.testBit t = false → a.tmps.getD t undef = tv t
  wrote : ∀ s ∈ log, isIn L s.i → ∀ d, s.o.dst = some d → Rep X.K ρ F w s.x (a.tmps.getD d undef)
  old : ∀ u, (∀ s ∈ log, isIn L s.i → s.o.dst ≠ some u) → Rep X.K ρ F w (Eng.look env0 u) (a.tmps.getD u undef)

section
variable {nt : Nt} {ops : Array Oper} {env0 : List (Nat × AV)} {M0 : List Blk}

theorem any_runsL {rdc : Cy} {n : Nat} {w0 wb : World} {S : Sc} {F0 : Addr → Prop} {ρ0 : List Hd} {ds : List Deferred} {tv : Nat → Value} {Q : Exit → Act → World → Prop} {log : List Ent} {env : List (Nat × AV)} {M : List Blk} (hL : LogL X nt ops env0 M0 log env M)
    (hall : ∀ i, i < ops.size → ∃ t ∈ log, t.i = i)
    (hQ : ∀ a' w' F' ρ', Inv X w0 S F' ρ' M w' → EnvRep X ρ' F' w' env a'.tmps → a'.tmps.size = nt.n → a'.defers = ds → (∀ t, nt.mask.testBit t = false → a'.tmps.getD t undef = tv t) → Grow F0 F' ρ0 ρ' wb w' → Q .normal a' w') :
    ∀ (fuel : Nat) (L : Array Bool) (F : Addr → Prop) (ρ : List Hd) (a : Act) (w : World), L.size = ops.size → log.countP (fun t => !(L.getD t.i false)) ≤ fuel → Closed L log →
      MidL X nt env0 M0 w0 S F0 ρ0 wb ds tv log L F ρ a w → wpAnyIn (fen rdc.r) n X.P .any ops Q fuel L a w := by
  have done : ∀ (L : Array Bool) (F : Addr → Prop) (ρ : List Hd) (a : Act) (w : World), (∀ t ∈ log, isIn L t.i) → MidL X nt env0 M0 w0 S F0 ρ0 wb ds tv log L F ρ a w → Q .normal a w := by
    intro L F ρ a w hin hm
    refine hQ a w F ρ ?_ (fun u => ?_) hm.size hm.defs hm.kept hm.grow
    · have := LogL.mem_all hL (L := L) (fun s hs _ => hin s hs)
      rw [← this]
      exact hm.inv
    · rcases LogL.look hL u with ⟨s, hs, hd, he⟩ | ⟨hn, he⟩
      · rw [he]; exact hm.wrote s hs (hin s hs) u hd
      · rw [he]; exact hm.old u fun s hs _ => hn s hs
  have none_ready : ∀ (L : Array Bool), L.size = ops.size → Region.ready .any ops L = [] → ∀ t ∈ log, isIn L t.i := by
    intro L hsz hr
    have key : ∀ (l1 : List Ent) (l2 : List Ent) (env' : List (Nat × AV)) (M' : List Blk), LogL X nt ops env0 M0 l1 env' M' → l2 ++ l1 = log → ∀ t ∈ l1, isIn L t.i := by
      intro l1
      induction l1 with
      | nil => intro _ _ _ _ _ t ht; simp at ht
      | cons s l1 ih =>
        intro l2 env' M' hl he t ht
        obtain ⟨env1, M1, hl1, st⟩ := hl
        have ih' := ih (l2 ++ [s]) env1 M1 hl1 (by simpa using he)
        rcases List.mem_cons.1 ht with rfl | ht
        · by_cases hin : isIn L t.i
          · exact hin
          · exfalso
            have hmem : t.i ∈ Region.ready .any ops L := by
              rw [mem_ready]
              have hlt : t.i < ops.size := (Array.getElem?_eq_some_iff.1 st.op).1
              refine ⟨?_, t.o, st.op, fun e hee hb => ?_⟩
              · have : t.i < L.size := by omega
                simp only [isIn, Array.getD_eq_getD_getElem?, Array.getElem?_eq_getElem this, Option.getD_some] at hin ⊢
                simpa using hin
              · obtain ⟨r, hr', hri⟩ := st.pre e hee hb
                rw [← hri]; exact ih' r hr'
            rw [hr] at hmem
            simp at hmem
        · exact ih' t ht
    exact fun t ht => key log [] env M hL rfl t ht
  intro fuel
  induction fuel with
  | zero =>
    intro L F ρ a w hsz hcnt hcl hm
    have hin : ∀ t ∈ log, isIn L t.i := by
      intro t ht
      have h0 : log.countP (fun t => !(L.getD t.i false)) = 0 := by omega
      have := List.countP_eq_zero.1 h0 t ht
      cases hb : L.getD t.i false with
      | true => exact hb
      | false => exact absurd (by simp only [hb, Bool.not_false]) this
    refine ⟨?_, done L F ρ a w hin hm⟩
    cases hr : Region.ready .any ops L with
    | nil => rfl
    | cons i is =>
      exfalso
      have hmem : i ∈ Region.ready .any ops L := by rw [hr]; exact List.mem_cons_self
      rw [mem_ready] at hmem
      obtain ⟨hf, o, ho, _⟩ := hmem
      have hlt : i < ops.size := (Array.getElem?_eq_some_iff.1 ho).1
      obtain ⟨t, ht, rfl⟩ := hall i hlt
      have h1 := hin t ht
      have : t.i < L.size := by omega
      simp only [isIn, Array.getD_eq_getD_getElem?, Array.getElem?_eq_getElem this, Option.getD_some] at h1 hf
      rw [h1] at hf; cases hf
  | succ fuel ih =>
    intro L F ρ a w hsz hcnt hcl hm
    refine ⟨fun hr => done L F ρ a w (none_ready L hsz hr) hm, fun i hi => ?_⟩
    rw [mem_ready] at hi
    obtain ⟨hf, o, ho, hpre⟩ := hi
    have hlt : i < ops.size := (Array.getElem?_eq_some_iff.1 ho).1
    obtain ⟨t, ht, rfl⟩ := hall i hlt
    have hltL : t.i < L.size := by omega
    have hnot : ¬ isIn L t.i := by
      simp only [isIn, Array.getD_eq_getD_getElem?, Array.getElem?_eq_getElem hltL, Option.getD_some] at hf ⊢
      rw [hf]; simp
    obtain ⟨l2, l1, rfl⟩ := List.append_of_mem ht
    obtain ⟨env1, M1, envE, ME, hl1, st⟩ := LogL.entry hL
    have hoo : t.o = o := by have hto := st.op; rw [ho] at hto; injection hto with hto; exact hto.symm
    subst hoo
    have hclt := LogL.closed (L := L) hL hcl t ht hpre
    have hclo : ∀ s ∈ l2 ++ t :: l1, isIn L s.i → ∀ w, s.cl.testBit w = true → isIn L w := fun s hs hsi => LogL.closed (L := L) hL hcl s hs (hcl s hs hsi)
    have hin' : ∀ j, isIn (L.setIfInBounds t.i true) j ↔ j = t.i ∨ isIn L j := by
      intro j
      by_cases hj : j = t.i
      · subst hj; simp [isIn, Array.getD_eq_getD_getElem?, hltL]
      · simp only [isIn]; rw [getD_set_ne false (Ne.symm hj)]; simp [hj]
    -- older entries
    have old : ∀ (id : Nat), (∀ s ∈ l1, s.q = false → t.cl.testBit s.i = true ∨ s.Keeps id) → (memL M0 L l1)[id]? = t.M[id]? := by
      intro id hk
      rw [st.hM]
      have key : ∀ (l l' : List Ent) (e : List (Nat × AV)) (N : List Blk), l' ++ l = l1 → LogL X nt ops env0 M0 l e N → (memL M0 L l)[id]? = N[id]? := by
        intro l
        induction l with
        | nil => intro _ _ _ _ h; rw [h.2]; rfl
        | cons s l ihl =>
          intro l' e N hll hls
          obtain ⟨_, _, hl0, st0⟩ := hls
          have ih0 := ihl (l' ++ [s]) _ _ (by simpa using hll) hl0
          have hs1 : s ∈ l1 := by rw [← hll]; exact List.mem_append_right _ List.mem_cons_self
          have hsm : s ∈ l2 ++ t :: l1 := List.mem_append_right _ (List.mem_cons_of_mem _ hs1)
          simp only [memL]
          cases hsq : s.q with
          | true => rw [if_neg (by simp), ih0, st0.mem, st0.hq hsq, st0.hM]
          | false =>
            by_cases hin : isIn L s.i
            · rw [if_pos ⟨rfl, hin⟩]
              split
              · rename_i hlc
                obtain ⟨_, h2, h3⟩ := st0.lc hlc
                have hlen : (memL M0 L l).length = s.M.length := by
                  rw [st0.hM]
                  refine LogL.mem_len hl0 fun r hr hrq hrl => ?_
                  obtain ⟨_, _, h | ⟨_, _, h, _⟩⟩ := okPairL_spec (st0.pair r hr)
                  · exact hclo s hsm hin _ h
                  · have := (h hsq hrq).2.1
                    rw [hrl] at this; cases this
                by_cases hid : id = idLc s
                · subst hid
                  rw [List.getElem?_set_self (by omega), st0.mem, bLc_get st0 hlc]
                · rw [List.getElem?_set_ne (Ne.symm hid), ih0, st0.mem, h3, List.getElem?_set_ne (Ne.symm hid), st0.hM]
              · exact congrArg (·[id]?) st0.mem.symm
            · rw [if_neg (fun hh => hin hh.2), ih0]
              rcases hk s hs1 hsq with h | h
              · exact absurd (hclt _ h) hin
              · rw [st0.mem, h.at (st0.hag hsq), st0.hM]
      exact key l1 [] _ _ rfl hl1
    have hself : memL M0 L (t :: l1) = memL M0 L l1 := by
      simp only [memL]
      rw [if_neg fun hh => hnot hh.2]
    have new : ∀ (id : Nat), (∀ s ∈ l2, s.q = false → isIn L s.i → okPairL ops s t = true → isLc s = true → id ≠ idLc s) → (∀ s ∈ l2, s.q = false → isIn L s.i → okPairL ops s t = true → isLc s = false → s.Keeps id) → (memL M0 L l1)[id]? = t.M[id]? → (memL M0 L (l2 ++ t :: l1))[id]? = t.M[id]? := by
      intro id h1 h2 h0
      refine LogL.mem_new hnot hL hcl (by rw [hself]; exact h0) h1 fun s hs hsq hsi hp hlc l env M hLs => ?_
      obtain ⟨_, _, _, st2⟩ := hLs
      exact (h2 s hs hsq hsi hp hlc).at (st2.hag hsq)
    have fin : ∀ (F2 : Addr → Prop) (ρ2 : List Hd) (v : Value) (w2 : World), Inv X w0 S F2 ρ2 (memL M0 (L.setIfInBounds t.i true) (l2 ++ t :: l1)) w2 → Grow F F2 ρ ρ2 w w2 → Rep X.K ρ2 F2 w2 t.x v → wpAnyIn (fen rdc.r) n X.P .any ops Q fuel (L.setIfInBounds t.i true) (a.put t.o.dst v) w2 := by
      intro F' ρ' v w' hI' hg hx
      refine ih (L.setIfInBounds t.i true) F' ρ' _ w' (by simpa using hsz) ?_ ?_ ⟨hI', hm.grow.trans hg, by simp only [Act.put]; split <;> simp [hm.size], by simp only [Act.put]; split <;> exact hm.defs, ?_, ?_, ?_⟩
      · have := countP_lt (l := l2 ++ t :: l1) (p := fun t => !(L.getD t.i false)) (q := fun s => !((L.setIfInBounds t.i true).getD s.i false)) (fun s hs h => by
          have h' : ¬ isIn (L.setIfInBounds t.i true) s.i := by simpa [isIn] using h
          rw [hin'] at h'
          have : ¬ isIn L s.i := fun hh => h' (.inr hh)
          simpa [isIn] using this) ⟨t, ht, by simpa [isIn] using hnot, by have := (hin' t.i).2 (.inl rfl); simpa [isIn] using this⟩
        omega
      · intro s hs hsi e he hb
        rw [hin'] at hsi ⊢
        rcases hsi with h | h
        · have := LogL.distinct hL s hs t ht h
          subst this
          exact .inr (hpre e he hb)
        · exact .inr (hcl s hs h e he hb)
      · cases htd : t.o.dst with
        | none => exact hm.kept
        | some d => exact kept_put (st.dst d htd).2 hm.kept
      · intro s hs hsi d hd
        rw [hin'] at hsi
        by_cases hst : s = t
        · subst hst
          have hlt' := (st.dst d hd).1
          have : (a.put s.o.dst v).tmps.getD d undef = v := by
            simp [Act.put, hd, Array.getD_eq_getD_getElem?, hm.size, hlt']
          rw [this]
          exact hx
        · have hsi' : isIn L s.i := by
            rcases hsi with h | h
            · exact absurd (LogL.distinct hL s hs t ht h) hst
            · exact h
          have : (a.put t.o.dst v).tmps.getD d undef = a.tmps.getD d undef := by
            cases htd : t.o.dst with
            | none => rfl
            | some d' =>
              have hne : d' ≠ d := fun e => hst (LogL.dst hL s hs t ht d hd (e ▸ htd))
              simp [Act.put, Array.getD_eq_getD_getElem?, Array.getElem?_setIfInBounds_ne hne]
          rw [this]
          exact (hm.wrote s hs hsi' d hd).grow hg
      · intro u hu
        have htu : t.o.dst ≠ some u := hu t ht ((hin' _).2 (.inl rfl))
        have : (a.put t.o.dst v).tmps.getD u undef = a.tmps.getD u undef := by
          cases htd : t.o.dst with
          | none => rfl
          | some d' =>
            have hne : d' ≠ u := fun e => htu (e ▸ htd)
            simp [Act.put, Array.getD_eq_getD_getElem?, Array.getElem?_setIfInBounds_ne hne]
        rw [this]
        exact (hm.old u fun s hs hsi => hu s hs ((hin' _).2 (.inr hsi))).grow hg
    have hreads : ∀ u ∈ readsOf t.o ++ guardOf ops t.o, Rep X.K ρ F w (Eng.look t.env u) (a.tmps.getD u undef) := fun u hu =>
      LogL.reads (P := fun x => Rep X.K ρ F w x (a.tmps.getD u undef)) hnot hu hL hcl hpre (fun s hs hcb hd => hm.wrote s (List.mem_append_right _ (List.mem_cons_of_mem _ hs)) (hclt _ hcb) u hd) (hm.old u)
    -- a writer behind t that is taken stands in no order to it
    have unord : ∀ s ∈ l2, isIn L s.i → okPairL ops s t = true → (t.q = false → s.q = false → isLc s = true ∧ isLc t = true ∧ idLc s ≠ idLc t) ∧ (s.q = false → t.q = true → ∀ id ∈ t.ids, (isLc s = true → id ≠ idLc s) ∧ (isLc s = false → s.Keeps id)) := by
      intro s hs hsi hp
      obtain ⟨_, _, h | ⟨_, _, h1, _, h2⟩⟩ := okPairL_spec hp
      · exact absurd (hclo s (List.mem_append_left _ hs) hsi _ h) hnot
      · exact ⟨fun a b => h1 b a, fun a b => h2 a b⟩
    cases hlc : isLc t with
    | true =>
      have htq := isLc_q hlc
      obtain ⟨hrun, hlt2, hM'⟩ := st.lc hlc
      have hM0 : (memL M0 L (l2 ++ t :: l1))[idLc t]? = t.M[idLc t]? := by
        refine new _ (fun s hs hsq hsi hp _ => ?_) (fun s hs hsq hsi hp hl => ?_) (old _ fun s hs hsq => ?_)
        · exact fun e => ((unord s hs hsi hp).1 htq hsq).2.2 e.symm
        · have := ((unord s hs hsi hp).1 htq hsq).1
          rw [hl] at this; cases this
        · obtain ⟨_, _, h | ⟨_, _, h, _⟩⟩ := okPairL_spec (st.pair s hs)
          · exact .inl h
          · obtain ⟨_, h2, h3⟩ := h htq hsq
            obtain ⟨b, c, hbc⟩ := List.append_of_mem hs
            obtain ⟨_, _, _, _, _, st2⟩ := LogL.entry (hbc ▸ hl1)
            refine .inr (.inr ?_)
            rw [(st2.lc h2).2.2, List.getElem?_set_ne (Ne.symm h3)]
      refine hrun (M0 := memL M0 L (l2 ++ t :: l1)) hM0 hm.inv hm.size hreads ?_
      intro v w' F' ρ' hI' hx hg
      refine fin F' ρ' v w' ?_ hg hx
      have hmem : memL M0 (L.setIfInBounds t.i true) (l2 ++ t :: l1) = (memL M0 L (l2 ++ t :: l1)).set (idLc t) (bLc t) := by
        have key : ∀ (b : List Ent), (∀ s ∈ b, s ∈ l2) → memL M0 (L.setIfInBounds t.i true) (b ++ t :: l1) = (memL M0 L (b ++ t :: l1)).set (idLc t) (bLc t) := by
          intro b
          induction b with
          | nil =>
            intro _
            rw [List.nil_append, hself]
            simp only [memL]
            rw [if_pos ⟨htq, (hin' _).2 (.inl rfl)⟩, if_pos hlc]
            congr 1
            refine memL_congr fun s hs _ => ?_
            rw [hin']
            exact ⟨fun h => h.resolve_left fun e => (okPairL_spec (st.pair s hs)).1 e.symm, .inr⟩
          | cons s b ihb =>
            intro hb
            have ihb' := ihb (fun r hr => hb r (List.mem_cons_of_mem _ hr))
            have hs2 := hb s List.mem_cons_self
            have hst : s.i ≠ t.i := by
              obtain ⟨m2, m1, hmm⟩ := List.append_of_mem hs2
              have hL2 : LogL X nt ops env0 M0 (m2 ++ s :: (m1 ++ t :: l1)) env M := by rw [hmm] at hL; simpa using hL
              obtain ⟨_, _, _, _, _, stS⟩ := LogL.entry hL2
              exact (okPairL_spec (stS.pair t (List.mem_append_right _ List.mem_cons_self))).1
            have hp : okPairL ops s t = true := by
              obtain ⟨m2, m1, hmm⟩ := List.append_of_mem hs2
              have hL2 : LogL X nt ops env0 M0 (m2 ++ s :: (m1 ++ t :: l1)) env M := by rw [hmm] at hL; simpa using hL
              obtain ⟨_, _, _, _, _, stS⟩ := LogL.entry hL2
              exact stS.pair t (List.mem_append_right _ List.mem_cons_self)
            simp only [List.cons_append, memL]
            by_cases hc : s.q = false ∧ isIn L s.i
            · obtain ⟨hsl, _, hne⟩ := (unord s hs2 hc.2 hp).1 htq hc.1
              rw [if_pos ⟨hc.1, (hin' _).2 (.inr hc.2)⟩, if_pos hsl, if_pos hc, if_pos hsl, ihb', List.set_comm _ _ hne]
            · rw [if_neg hc, if_neg fun hh => hc ⟨hh.1, ((hin' _).1 hh.2).resolve_left hst⟩]
              exact ihb'
        exact key l2 fun s hs => hs
      rw [hmem]
      exact hI'
    | false =>
      refine st.runs hlc (M0 := memL M0 L (l2 ++ t :: l1)) (fun hq id hid => ?_) (fun hq => ?_) hm.inv hm.size hreads ?_
      · refine new _ (fun s hs hsq hsi hp hl => ((unord s hs hsi hp).2 hsq hq id hid).1 hl) (fun s hs hsq hsi hp hl => ((unord s hs hsi hp).2 hsq hq id hid).2 hl) (old _ fun s hs hsq => ?_)
        obtain ⟨_, _, h | ⟨_, _, _, h, _⟩⟩ := okPairL_spec (st.pair s hs)
        · exact .inl h
        · exact .inr (h hq hsq id hid)
      · have h1 : memL M0 L l1 = t.M := by
          rw [st.hM]
          refine LogL.mem_all hl1 fun s hs hsq => ?_
          obtain ⟨_, _, h | ⟨_, _, h, _⟩⟩ := okPairL_spec (st.pair s hs)
          · exact hclt _ h
          · have := (h hq hsq).1
            rw [hlc] at this; cases this
        have key : ∀ (b : List Ent), (∀ s ∈ b, s ∈ l2) → memL M0 L (b ++ t :: l1) = memL M0 L (t :: l1) := by
          intro b
          induction b with
          | nil => intro _; rfl
          | cons s b ihb =>
            intro hb
            have hs2 := hb s List.mem_cons_self
            have hp : okPairL ops s t = true := by
              obtain ⟨m2, m1, hmm⟩ := List.append_of_mem hs2
              have hL2 : LogL X nt ops env0 M0 (m2 ++ s :: (m1 ++ t :: l1)) env M := by rw [hmm] at hL; simpa using hL
              obtain ⟨_, _, _, _, _, stS⟩ := LogL.entry hL2
              exact stS.pair t (List.mem_append_right _ List.mem_cons_self)
            simp only [List.cons_append, memL]
            rw [if_neg fun hh => by
              have := ((unord s hs2 hh.2 hp).1 hq hh.1).2.1
              rw [hlc] at this; cases this]
            rw [ihb fun r hr => hb r (List.mem_cons_of_mem _ hr)]
            rfl
        rw [key l2 fun s hs => hs, hself, h1]
      · intro v w' F' ρ' hI' hx hg
        refine fin F' ρ' v w' ?_ hg hx
        have hmem : memL M0 (L.setIfInBounds t.i true) (l2 ++ t :: l1) = if t.q then memL M0 L (l2 ++ t :: l1) else t.M' := by
          cases hq : t.q with
          | true =>
            rw [if_pos rfl]
            refine memL_congr fun s hs hsq => ?_
            rw [hin']
            constructor
            · rintro (h | h)
              · have := LogL.distinct hL s hs t ht h
                subst this
                rw [hq] at hsq; cases hsq
              · exact h
            · exact .inr
          | false =>
            rw [if_neg (by simp)]
            have key : ∀ (b : List Ent), (∀ s ∈ b, s ∈ l2) → memL M0 (L.setIfInBounds t.i true) (b ++ t :: l1) = t.M' := by
              intro b
              induction b with
              | nil =>
                intro _
                simp only [List.nil_append, memL]
                rw [if_pos ⟨hq, (hin' _).2 (.inl rfl)⟩, if_neg (by simp [hlc])]
              | cons s b ihb =>
                intro hb
                have hs2 := hb s List.mem_cons_self
                obtain ⟨m2, m1, hmm⟩ := List.append_of_mem hs2
                have hL2 : LogL X nt ops env0 M0 (m2 ++ s :: (m1 ++ t :: l1)) env M := by rw [hmm] at hL; simpa using hL
                obtain ⟨_, _, _, _, _, stS⟩ := LogL.entry hL2
                have hp : okPairL ops s t = true := stS.pair t (List.mem_append_right _ List.mem_cons_self)
                simp only [List.cons_append, memL]
                rw [if_neg fun hh => by
                  have hsi : isIn L s.i := ((hin' _).1 hh.2).resolve_left (okPairL_spec hp).1
                  have := ((unord s hs2 hsi hp).1 hq hh.1).2.1
                  rw [hlc] at this; cases this]
                exact ihb fun r hr => hb r (List.mem_cons_of_mem _ hr)
            exact key l2 fun s hs => hs
        rw [hmem]
        exact hI'
end

/-! ### The evaluation -/

def pushL (T : Tab R) (ops : Array Oper) (t : Ent) (st : St) (log : List Ent) (k : List Ent → St → Option R) : Option R :=
  tst (log.all (okPairL ops t)) (putD T.nt st t.o.dst t.x t.M' fun st' => k (t :: log) st')
def evl1 (X : Cx) (T : Tab R) (ops : Array Oper) (i : Nat) (o : Oper) (cl : Nat) (st : St) (log : List Ent) (k : List Ent → St → Option R) : Option R :=
  match o.op with
  | .store ty p x =>
    match stoL X ty (evv X (rst (readsOf o) st.env) p) (evv X (rst (readsOf o) st.env) x) st.mem with
    | some (id, b) => (match X.pk with
      | true => pushL T ops ⟨i, o, false, .tup [], [id], cl, st.env, st.mem, st.mem.set id b⟩ st log k
      | false => fzAt (st.mem.set id b) id fun M' => pushL T ops ⟨i, o, false, .tup [], [id], cl, st.env, st.mem, M'⟩ st log k)
    | none => none
  | _ =>
  match quietIds X (evv X (rst (readsOf o) st.env)) o with
  | some ids => evop X T (evv X (rst (readsOf o) st.env)) o st.mem fun x _ => pushL T ops ⟨i, o, true, x, ids, cl, st.env, st.mem, st.mem⟩ st log k
  | none =>
    match lstOf X ops (evv X (rst (readsOf o) st.env)) o with
    | some (t, n, ps) => evBuildList X t n (ps.toList.map fun p => (p.1, evv X (rst (readsOf o) st.env) p.2)) fun x => pushL T ops ⟨i, o, true, x, [], cl, st.env, st.mem, st.mem⟩ st log k
    | none =>
      match callQ X (evv X (rst (readsOf o) st.env)) o with
      | some (g, args) => T.call g args [] fun x M' => tst (M'.isEmpty && aggQ x) (pushL T ops ⟨i, o, true, x, [], cl, st.env, st.mem, st.mem⟩ st log k)
      | none =>
        match wrIds T (evv X (rst (readsOf o) st.env)) o st.mem with
        | some ids => evop X T (evv X (rst (readsOf o) st.env)) o st.mem fun x M' => pushL T ops ⟨i, o, false, x, ids, cl, st.env, st.mem, M'⟩ st log k
        | none => none
def evl0 (T : Tab R) (ops : Array Oper) (i : Nat) (o : Oper) (cl : Nat) (st : St) (log : List Ent) (k : List Ent → St → Option R) : Option R :=
  pushL T ops ⟨i, o, true, .tup [], [], cl, st.env, st.mem, st.mem⟩ st log k
def evlg (X : Cx) (T : Tab R) (ops : Array Oper) (i : Nat) (o : Oper) (cl : Nat) (st : St) (log : List Ent) (k : List Ent → St → Option R) : Option R :=
  match o.guard with
  | none => evl1 X T ops i o cl st log k
  | some (j, want) =>
    match gslot ops j with
    | none => none
    | some d =>
      match look st.env d with
      | .bool b =>
        match b with
        | true => match want with
          | true => evl1 X T ops i o cl { st with env := (d, .bool true) :: st.env } log k
          | false => evl0 T ops i o cl { st with env := (d, .bool true) :: st.env } log k
        | false => match want with
          | false => evl1 X T ops i o cl { st with env := (d, .bool false) :: st.env } log k
          | true => evl0 T ops i o cl { st with env := (d, .bool false) :: st.env } log k
      | .tup [] => evl0 T ops i o cl st log k
      | _ => none
def evlr (X : Cx) (T : Tab R) (ops : Array Oper) : List Nat → List Ent → St → (List Ent → St → Option R) → Option R
  | [], log, st, k => k log st
  | i :: rest, log, st, k =>
    match ops.toList[i]? with
    | none => none
    | some o =>
      match clOf log o.after.toList with
      | none => none
      | some cl => evlg X T ops i o cl st log fun log' st' => evlr X T ops rest log' st' k
def evregL (X : Cx) (T : Tab R) (ops : Array Oper) (st : St) (k : St → Option R) : Option R :=
  evlr X T ops (ordOf ops.toList) [] st fun log st' => tst (Nat.ble log.length ops.size && (List.range ops.size).all fun i => log.any fun t => t.i == i) (k st')
/-- Two stores, neither of which waits for the other one. -/
def edgeTo (i : Nat) : List Edge → Bool
  | [] => false
  | e :: es => (Region.binds .any e && Nat.beq e.on i) || edgeTo i es
def stPairs : Nat → List Oper → Bool
  | _, [] => false
  | i, o :: os => (isSt o && stLater i os) || stPairs (i + 1) os
where stLater (i : Nat) : List Oper → Bool
  | [] => false
  | o :: os => (isSt o && !edgeTo i o.after.toList) || stLater i os
def evreg (X : Cx) (T : Tab R) (ops : Array Oper) (draw : Bool) (st : St) (k : St → Option R) : Option R :=
  match draw && stPairs 0 ops.toList with
  | true => evregL X T ops st k
  | false => evregG X T ops draw st k

section
variable {nt : Nt} {ops : Array Oper} {env0 env1 : List (Nat × AV)} {M0 M1 : List Blk}

theorem pushL_some {T : Tab R} {t : Ent} {st : St} {log : List Ent} {k : List Ent → St → Option R} {r : R} (h : pushL T ops t st log k = some r) :
    ∃ st', k (t :: log) st' = some r ∧ (∀ s ∈ log, okPairL ops t s = true) ∧ (∀ d, t.o.dst = some d → d < T.nt.n ∧ T.nt.mask.testBit d = true) ∧ (∀ u, look st'.env u = (if t.o.dst = some u then t.x else look st.env u)) ∧ st'.mem = t.M' ∧ st'.dfs = st.dfs ∧ st'.rd = st.rd := by
  unfold pushL at h
  replace h := tst_some h
  obtain ⟨hp, h⟩ := h
  have hq : pushE T ops t st [] (fun _ st' => k (t :: log) st') = some r := by
    unfold pushE
    simp only [List.all_nil, tst]
    exact h
  obtain ⟨st', h, _, hd, hlk, hmm, e1, e2⟩ := pushE_some hq
  exact ⟨st', h, fun s hs => List.all_eq_true.1 hp s hs, hd, hlk, hmm, e1, e2⟩

theorem logL_cons {log : List Ent} (hl : LogL X nt ops env0 M0 log env1 M1) {t : Ent} (h1 : ∀ u, look t.env u = look env1 u) (h2 : t.M = M1) (h3 : t.q = true → t.M' = t.M) (h4 : t.q = false → Agree t.ids t.M t.M') (h5 : isLc t = false → t.Runs X nt ops)
    (h5' : isLc t = true → t.RunsL X nt ops ∧ idLc t < t.M.length ∧ t.M' = t.M.set (idLc t) (bLc t)) (h6 : ops[t.i]? = some t.o)
    (h7 : ∀ d, t.o.dst = some d → d < nt.n ∧ nt.mask.testBit d = true) (h8 : ∀ s ∈ log, okPairL ops t s = true) (h9 : clOf log t.o.after.toList = some t.cl) {env : List (Nat × AV)} {M : List Blk} (h10 : ∀ u, look env u = (if t.o.dst = some u then t.x else look t.env u)) (h11 : M = t.M') :
    LogL X nt ops env0 M0 (t :: log) env M := by
  obtain ⟨c1, c2⟩ := clOf_some h9
  refine ⟨env1, M1, hl, h1, h2, h3, h4, h5, h5', h6, h7, h8, fun e he hb => c1 e (by simpa using he) hb, fun w hw => ?_, fun u => by rw [h10 u, h1 u], h11⟩
  obtain ⟨e, he, hb, hh⟩ := c2 w hw
  exact ⟨e, by simpa using he, hb, hh⟩

theorem evl0_sound {T : Tab R} {i : Nat} {o : Oper} {cl : Nat} {st : St} {log : List Ent} {k : List Ent → St → Option R} {r : R} (hl : LogL X T.nt ops env0 M0 log env1 M1) (hi : ops[i]? = some o) (hc : clOf log o.after.toList = some cl)
    (he : ∀ u, look st.env u = look env1 u) (hm : st.mem = M1) (hw : Wants X ops o st.env false) (h : evl0 T ops i o cl st log k = some r) :
    ∃ t st', k (t :: log) st' = some r ∧ LogL X T.nt ops env0 M0 (t :: log) st'.env st'.mem ∧ st'.dfs = st.dfs ∧ st'.rd = st.rd := by
  unfold evl0 at h
  obtain ⟨st', h, hp, hd, hlk, hmm, h1, h2⟩ := pushL_some h
  refine ⟨_, st', h, logL_cons hl he hm (fun _ => rfl) (fun hq => by cases hq) ?_ (fun hf => by simp [isLc] at hf) hi hd hp hc hlk hmm, h1, h2⟩
  intro _ Mx _ _ rdc n w0 S F ρ a w Q K hI hsz hr hk
  unfold wpOpIn
  simp only [hi, hw hr, Bool.false_eq_true, if_false]
  exact ⟨fun _ _ => trivial, hk _ w F ρ hI rep_undef (Grow.refl _ _ _)⟩

theorem evl1_sound (hX : X.Okb) {T : Tab R} (hT : T.CallOk X) {i : Nat} {o : Oper} {cl : Nat} {st : St} {log : List Ent} {k : List Ent → St → Option R} {r : R} (hl : LogL X T.nt ops env0 M0 log env1 M1) (hi : ops[i]? = some o) (hc : clOf log o.after.toList = some cl)
    (he : ∀ u, look st.env u = look env1 u) (hm : st.mem = M1) (hw : Wants X ops o st.env true) (h : evl1 X T ops i o cl st log k = some r) :
    ∃ t st', k (t :: log) st' = some r ∧ LogL X T.nt ops env0 M0 (t :: log) st'.env st'.mem ∧ st'.dfs = st.dfs ∧ st'.rd = st.rd := by
  unfold evl1 at h
  split at h
  · rename_i ty p x ho
    split at h
    · rename_i id b hst
      obtain ⟨_, hlt, _⟩ := stoL_spec (R := R) hst
      have h' : pushL T ops ⟨i, o, false, .tup [], [id], cl, st.env, st.mem, st.mem.set id b⟩ st log k = some r := by
        split at h
        · exact h
        · rw [fzAt_eq] at h; exact h
      obtain ⟨st', h, hp, hd, hlk, hmm, h1, h2⟩ := pushL_some h'
      refine ⟨_, st', h, logL_cons hl he hm (fun hq => by cases hq) (fun _ => Agree.set _ _ _) (fun hf => by simp [isLc, isSt, ho] at hf) (fun _ => ?_) hi hd hp hc hlk hmm, h1, h2⟩
      have hb : bLc ⟨i, o, false, .tup [], [id], cl, st.env, st.mem, st.mem.set id b⟩ = b := by
        show ((st.mem.set id b)[id]?).getD .dead = b
        rw [List.getElem?_set_self hlt]; rfl
      refine ⟨?_, hlt, by rw [hb]; rfl⟩
      intro Mx hM rdc n w0 S F ρ a w Q K hI hsz hr hk
      rw [hb] at hk
      unfold wpOpIn
      simp only [hi, hw hr, if_true]
      exact stoL_runs hX ho hst (M0 := Mx) hM hI (fun z => evv_rep hI (envRep_rst fun u hu => hr u (List.mem_append_left _ hu)) z) (fun v w' ρ' F' hI' hg hx => hk v w' F' ρ' hI' hx hg)
    · cases h
  · rename_i hns
    have nolc : ∀ {q : Bool} {x : AV} {ids : List Nat} {M' : List Blk}, isLc ⟨i, o, q, x, ids, cl, st.env, st.mem, M'⟩ = true → False := by
      intro q x ids M' hf
      have h2 : isSt o = true := by
        unfold isLc at hf
        rw [Bool.and_eq_true] at hf
        exact hf.2
      unfold isSt at h2
      split at h2
      · rename_i ty p x2 ho; exact hns _ _ _ ho
      · cases h2
    split at h
    · rename_i ids hq
      obtain ⟨y, h, hrun⟩ := quiet_runs hX hq h
      obtain ⟨st', h, hp, hd, hlk, hmm, h1, h2⟩ := pushL_some h
      refine ⟨_, st', h, logL_cons hl he hm (fun _ => rfl) (fun hq => by cases hq) ?_ (fun hf => (nolc hf).elim) hi hd hp hc hlk hmm, h1, h2⟩
      intro _ Mx hM _ rdc n w0 S F ρ a w Q K hI hsz hr hk
      unfold wpOpIn
      simp only [hi, hw hr, if_true]
      exact hrun Mx (hM rfl) hI (fun z => evv_rep hI (envRep_rst fun u hu => hr u (List.mem_append_left _ hu)) z) (fun v w' ρ' F' hI' hg hx => hk v w' F' ρ' hI' hx hg)
    · rename_i hq
      split at h
      · rename_i t n ps hlst
        obtain ⟨y, h, hrun⟩ := list_runs hX (lstOf_some hlst) h
        obtain ⟨st', h, hp, hd, hlk, hmm, h1, h2⟩ := pushL_some h
        refine ⟨_, st', h, logL_cons hl he hm (fun _ => rfl) (fun hq => by cases hq) ?_ (fun hf => (nolc hf).elim) hi hd hp hc hlk hmm, h1, h2⟩
        intro _ Mx hM _ rdc n w0 S F ρ a w Q K hI hsz hr hk
        unfold wpOpIn
        simp only [hi, hw hr, if_true]
        exact hrun Mx hI (fun z => evv_rep hI (envRep_rst fun u hu => hr u (List.mem_append_left _ hu)) z) (fun v w' ρ' F' hI' hg hx => hk v w' F' ρ' hI' hx hg)
      · split at h
        · rename_i g args hcq
          obtain ⟨y, h, hrun⟩ := callQ_runs hX hT hcq (k := fun y => pushL T ops ⟨i, o, true, y, [], cl, st.env, st.mem, st.mem⟩ st log k) h
          obtain ⟨st', h, hp, hd, hlk, hmm, h1, h2⟩ := pushL_some h
          refine ⟨_, st', h, logL_cons hl he hm (fun _ => rfl) (fun hq => by cases hq) ?_ (fun hf => (nolc hf).elim) hi hd hp hc hlk hmm, h1, h2⟩
          intro _ Mx hM _ rdc n w0 S F ρ a w Q K hI hsz hr hk
          unfold wpOpIn
          simp only [hi, hw hr, if_true]
          exact hrun Mx hI (fun z => evv_rep hI (envRep_rst fun u hu => hr u (List.mem_append_left _ hu)) z) (fun v w' ρ' F' hI' hg hx => hk v w' F' ρ' hI' hx hg)
        · split at h
          · rename_i ids hwr
            obtain ⟨x, M', hrun, h, hag⟩ := evop_sound hX hT h
            obtain ⟨st', h, hp, hd, hlk, hmm, h1, h2⟩ := pushL_some h
            refine ⟨_, st', h, logL_cons hl he hm (fun hq => by cases hq) (fun _ => hag ids hwr) ?_ (fun hf => (nolc hf).elim) hi hd hp hc hlk hmm, h1, h2⟩
            intro _ Mx _ hM rdc n w0 S F ρ a w Q K hI hsz hr hk
            unfold wpOpIn
            simp only [hi, hw hr, if_true]
            have hM' := hM rfl
            subst hM'
            exact hrun hI (fun z => evv_rep hI (envRep_rst fun u hu => hr u (List.mem_append_left _ hu)) z) (fun v w' ρ' F' hI' hg hx => hk v w' F' ρ' hI' hx hg)
          · cases h

theorem evlg_sound (hX : X.Okb) {T : Tab R} (hT : T.CallOk X) {i : Nat} {o : Oper} {cl : Nat} {st : St} {log : List Ent} {k : List Ent → St → Option R} {r : R} (hl : LogL X T.nt ops env0 M0 log st.env st.mem) (hi : ops[i]? = some o) (hc : clOf log o.after.toList = some cl)
    (h : evlg X T ops i o cl st log k = some r) :
    ∃ t st', k (t :: log) st' = some r ∧ LogL X T.nt ops env0 M0 (t :: log) st'.env st'.mem ∧ st'.dfs = st.dfs ∧ st'.rd = st.rd := by
  unfold evlg at h
  split at h
  · rename_i hg
    exact evl1_sound hX hT hl hi hc (fun _ => rfl) rfl (fun {ρ F w tmps} _ => wanted_none hg _) h
  · rename_i j want hg
    split at h
    · cases h
    · rename_i d hd
      have hmem : d ∈ readsOf o ++ guardOf ops o := List.mem_append_right _ (by simp [guardOf, hg, hd])
      have wants : ∀ (b : Bool) (env : List (Nat × AV)), look env d = .bool b → Wants X ops o env (b == want) := by
        intro b env hb ρ F w tmps hr
        have := hr d hmem
        rw [hb] at this
        generalize hv : tmps.getD d undef = v at this
        cases this
        rw [wanted_some hg, yielded_of hd hv]
        cases b <;> cases want <;> rfl
      split at h
      · rename_i b hb
        split at h
        · split at h
          · exact evl1_sound hX hT (st := { st with env := (d, .bool true) :: st.env }) hl hi hc (fun u => look_refine hb u) rfl (wants true _ (by simp [look_cons, look_nil])) h
          · exact evl0_sound (st := { st with env := (d, .bool true) :: st.env }) hl hi hc (fun u => look_refine hb u) rfl (wants true _ (by simp [look_cons, look_nil])) h
        · split at h
          · exact evl1_sound hX hT (st := { st with env := (d, .bool false) :: st.env }) hl hi hc (fun u => look_refine hb u) rfl (wants false _ (by simp [look_cons, look_nil])) h
          · exact evl0_sound (st := { st with env := (d, .bool false) :: st.env }) hl hi hc (fun u => look_refine hb u) rfl (wants false _ (by simp [look_cons, look_nil])) h
      · rename_i hb
        refine evl0_sound hl hi hc (fun _ => rfl) rfl (fun {ρ F w tmps} hr => ?_) h
        have := hr d hmem
        rw [hb] at this
        generalize hv : tmps.getD d undef = v at this
        cases this with
        | tup cs vs hl2 _ =>
          have : vs = [] := by simpa using hl2
          subst this
          rw [wanted_some hg, yielded_undef hd hv]
          rfl
      · cases h

theorem evlr_sound (hX : X.Okb) {T : Tab R} (hT : T.CallOk X) {k : List Ent → St → Option R} {r : R} : ∀ (ord : List Nat) {log : List Ent} {st : St}, LogL X T.nt ops env0 M0 log st.env st.mem → evlr X T ops ord log st k = some r →
    ∃ log' st', k log' st' = some r ∧ LogL X T.nt ops env0 M0 log' st'.env st'.mem ∧ st'.dfs = st.dfs ∧ st'.rd = st.rd
  | [], log, st, hl, h => ⟨log, st, h, hl, rfl, rfl⟩
  | i :: rest, log, st, hl, h => by
    simp only [evlr] at h
    split at h
    · cases h
    · rename_i o ho
      split at h
      · cases h
      · rename_i cl hc
        obtain ⟨t, st1, h, hl1, e1, e2⟩ := evlg_sound hX hT hl (by simpa using ho) hc h
        obtain ⟨log', st', h, hl', e3, e4⟩ := evlr_sound hX hT rest hl1 h
        exact ⟨log', st', h, hl', e3.trans e1, e4.trans e2⟩

theorem evregL_sound (hX : X.Okb) {T : Tab R} (hT : T.CallOk X) {id : Nat} {st : St} {k : St → Option R} {r : R} (h : evregL X T ops st k = some r) :
    ∃ st', k st' = some r ∧ CodeRuns X T.nt (.region id ops true) st .normal st' := by
  unfold evregL at h
  obtain ⟨log, st', h, hl, e1, e2⟩ := evlr_sound hX hT (ops := ops) (env0 := st.env) (M0 := st.mem) _ (log := []) (st := st) (show LogL X T.nt ops st.env st.mem [] st.env st.mem from ⟨fun _ => rfl, rfl⟩) h
  replace h := tst_some h
  obtain ⟨hall, h⟩ := h
  rw [Bool.and_eq_true] at hall
  obtain ⟨hlen, hall⟩ := hall
  refine ⟨st', h, fun {rdc n w0 S F ρ a w Q} hI hs hq => wpIn_region_any hX.mixed ?_⟩
  have hg := World.grownBy_drawn w
  have hI' := hI.grown hg
  have hgr : Grow F F ρ ρ w { w with drawn := w.drawn + 1 } := ⟨fun _ h => h, fun _ _ h => h, hI.blks hg (by simp)⟩
  have hs' := hs.grow hgr
  have hno : ∀ i, ¬ isIn (Array.replicate ops.size false) i := by
    intro i hin
    simp only [isIn, Array.getD_eq_getD_getElem?, Array.getElem?_replicate] at hin
    split at hin <;> simp at hin
  have hm0 : ∀ l : List Ent, memL st.mem (Array.replicate ops.size false) l = st.mem := by
    intro l
    induction l with
    | nil => rfl
    | cons t l ihl =>
      simp only [memL]
      rw [if_neg fun hh => hno _ hh.2]; exact ihl
  refine any_runsL (ds := a.defers) (tv := rdc.tv) (wb := w) (S := S) (w0 := w0) (F0 := F) (ρ0 := ρ) hl (fun i hi => ?_) (fun a' w' F' ρ' hI2 hE hsz hdf hkp hg2 => ?_) ops.size _ F ρ a _ (by simp) ?_ ?_ ?_
  · have := List.all_eq_true.1 hall i (List.mem_range.2 hi)
    obtain ⟨t, ht, hti⟩ := List.any_eq_true.1 this
    exact ⟨t, ht, by simpa using hti⟩
  · refine hq a' w' F' ρ' hI2 ⟨hE, hsz, ?_, ?_, hkp⟩ hg2
    · rw [e1, hdf]; exact hs.defs.mono hg2.hF hg2.hb
    · exact hs.rd.mono hg2.hF hg2.hb
  · exact Nat.le_trans List.countP_le_length (Nat.le_of_ble_eq_true hlen)
  · exact fun t ht hin => absurd hin (hno _)
  · exact ⟨by rw [hm0]; exact hI', hgr, hs.size, rfl, hs.kept, fun s _ hin => absurd hin (hno _), fun u _ => hs'.env u⟩

theorem evreg_sound (hX : X.Okb) {T : Tab R} (hT : T.CallOk X) {id : Nat} {draw : Bool} {st : St} {k : St → Option R} {r : R} (h : evreg X T ops draw st k = some r) :
    ∃ st', k st' = some r ∧ CodeRuns X T.nt (.region id ops draw) st .normal st' := by
  unfold evreg at h
  split at h
  · rename_i hb
    rw [Bool.and_eq_true] at hb
    rw [hb.1]
    exact evregL_sound hX hT h
  · exact evregG_sound hX hT h
end

end
end Go.Eng

namespace Go.Eng
open Go
noncomputable section

variable {X : Cx} {R : Type}

/-- The part of the code at a path, the last turn first. -/
def codeAt (root : Code) : List Bool → Option Code
  | [] => some root
  | b :: p =>
    match codeAt root p with
    | some (.seq x y) => some (bif b then y else x)
    | some (.cond _ x y) => some (bif b then y else x)
    | some (.block _ x) => bif b then none else some x
    | some (.loop x) => bif b then none else some x
    | some (.scope x) => bif b then none else some x
    | some (.rangeFunc _ _ x y) => some (bif b then y else x)
    | _ => none
def enc : List Bool → Nat
  | [] => 1
  | b :: p => 2 * enc p + (bif b then 1 else 0)
theorem enc_pos : ∀ p, 1 ≤ enc p
  | [] => Nat.le_refl _
  | b :: p => by have := enc_pos p; simp only [enc]; omega
theorem enc_inj : ∀ {p q : List Bool}, enc p = enc q → p = q
  | [], [], _ => rfl
  | [], b :: q, h => by
    have := enc_pos q; simp only [enc] at h; cases b <;> simp at h <;> omega
  | b :: p, [], h => by
    have := enc_pos p; simp only [enc] at h; cases b <;> simp at h <;> omega
  | b :: p, c :: q, h => by
    simp only [enc] at h
    have h2 : enc p = enc q ∧ b = c := by cases b <;> cases c <;> simp at h ⊢ <;> omega
    rw [enc_inj h2.1, h2.2]

/-- At place p of the root stands the code c. -/
def At (root : Code) (p : Nat) (c : Code) : Prop := ∃ l, enc l = p ∧ codeAt root l = some c
theorem At.root (c : Code) : At c 1 c := ⟨[], rfl, rfl⟩
theorem At.det {root c : Code} {p : Nat} (h : At root p c) (l : List Bool) (hl : enc l = p) : codeAt root l = some c := by
  obtain ⟨l', h1, h2⟩ := h
  rw [enc_inj (hl.trans h1.symm)]
  exact h2
theorem At.down {root c d : Code} {p : Nat} (h : At root p c) (b : Bool) (hd : ∀ l, codeAt root l = some c → codeAt root (b :: l) = some d) : At root (2 * p + (bif b then 1 else 0)) d := by
  obtain ⟨l, h1, h2⟩ := h
  exact ⟨b :: l, by simp only [enc, h1], hd l h2⟩

def Ex.exit' : Ex → Exit
  | .normal => .normal
  | .exit i => .exit i
  | .ret => .ret

structure LTab (R : Type) where
  tab : Tab R
  loop : Nat → St → (Ex → St → Option R) → Option R
  range : Nat → St → (Ex → St → Option R) → Option R
  cut : Nat → Option (St → (Ex → St → Option R) → Option R)

structure LTab.Ok (X : Cx) (root : Code) (L : LTab R) : Prop where
  tab : L.tab.CallOk X
  loop : ∀ {p c st k r}, At root p (.loop c) → L.loop p st k = some r → ∃ e st', CodeRuns X L.tab.nt (.loop c) st (Ex.exit' e) st' ∧ k e st' = some r
  range : ∀ {p g ps x y st k r}, At root p (.rangeFunc g ps x y) → L.range p st k = some r → ∃ e st', CodeRuns X L.tab.nt (.rangeFunc g ps x y) st (Ex.exit' e) st' ∧ k e st' = some r
  cut : ∀ {p c f st k r}, At root p c → L.cut p = some f → f st k = some r → ∃ e st', CodeRuns X L.tab.nt c st (Ex.exit' e) st' ∧ k e st' = some r

def cutOr (o : Option (St → (Ex → St → Option R) → Option R)) (other : (Ex → St → Option R) → Option R) (st : St) (k : Ex → St → Option R) : Option R :=
  match o with
  | some f => f st k
  | none => other k

def refineC (c : Operand) (b : Bool) (st : St) : St := match c with | .tmp t => { st with env := (t, .bool b) :: st.env } | _ => st

def evk (X : Cx) (L : LTab R) : Code → Nat → St → (Ex → St → Option R) → Option R
  | .skip, _, st, k => k .normal st
  | .label _, _, st, k => k .normal st
  | .region _ ops draw, _, st, k => evreg X L.tab ops draw st fun st' => k .normal st'
  | .seq a b, p, st, k => cutOr (L.cut (2 * p)) (fun k' => evk X L a (2 * p) st k') st fun e st' => match e with | .normal => evk X L b (2 * p + 1) st' k | .exit i => k (.exit i) st' | .ret => k .ret st'
  | .cond c a b, p, st, k =>
    match evv X st.env c with
    | .bool t => (match t with | true => evk X L a (2 * p) (refineC c true st) k | false => evk X L b (2 * p + 1) (refineC c false st) k)
    | _ => none
  | .block i a, p, st, k => evk X L a (2 * p) st fun e st' => match e with | .normal => k .normal st' | .exit j => (match Nat.beq j i with | true => k .normal st' | false => k (.exit j) st') | .ret => k .ret st'
  | .scope a, p, st, k => evk X L a (2 * p) st k
  | .loop _, p, st, k => L.loop p st k
  | .rangeFunc _ _ _ _, p, st, k => L.range p st k
  | .exit i, _, st, k => k (.exit i) st
  | .ret, _, st, k => k .ret st
  | _, _, _, _ => none

section
variable {F : Fence} {n : Nat} {P : Program} {b : Frame} {a : Act} {k : List Item} {cs : List Frame} {w : World} {Q : Exit → Act → World → Prop}
theorem stepR_scope' {c : Code} : step P (lone (b.atR a (.code (.scope c) :: k)) cs w) = .next (lone (b.atR a (.code c :: .inScope c :: k)) cs w) :=
  step_lone_go (by simp [stepG, stepG.exec, Frame.atR])
theorem stepR_inScope' {c : Code} : step P (lone (b.atR a (.inScope c :: k)) cs w) = .next (lone (b.atR a k) cs w) :=
  step_lone_go (by simp [stepG, stepG.exec, Frame.atR])
/-- A scope that no jump to a label leaves or enters. -/
theorem wpIn_scope' {c : Code} (h : c.wpIn F n P (fun e a w => (∀ l, e ≠ .goto l) ∧ Q e a w) a w) : (Code.scope c).wpIn F n P Q a w := by
  intro b k cs hro hb hr
  have h0 : (lone (b.atR a (.code (.scope c) :: k)) cs w).fenced P F := fenced_calm hb hr rfl
  obtain ⟨e, a₁, w₁, ⟨hg, hq⟩, harr⟩ := h b (.inScope c :: k) cs hro hb hr
  cases e with
  | normal => exact ⟨.normal, a₁, w₁, hq, .head h0 stepR_scope' (StepsIn.trans harr (.one (fenced_calm hb hr rfl) stepR_inScope'))⟩
  | exit id' =>
    have hx : exitTo id' (.inScope c :: k) = exitTo id' k := by simp [exitTo]
    exact ⟨.exit id', a₁, w₁, hq, fun k' hk => .head h0 stepR_scope' (harr.1 k' (by rw [hx]; exact hk)),
      fun hr' hk => let ⟨k₁, h1, h2⟩ := harr.2 hr' (by rw [hx]; exact hk); ⟨k₁, h1, .head h0 stepR_scope' h2⟩⟩
  | goto l => exact absurd rfl (hg l)
  | ret => exact ⟨_, a₁, w₁, hq, .of_steps (.one h0 stepR_scope') harr⟩
  | panic ch => exact ⟨_, a₁, w₁, hq, .of_steps (.one h0 stepR_scope') harr⟩
  | outgrown => exact ⟨_, a₁, w₁, hq, .of_steps (.one h0 stepR_scope') harr⟩
end

theorem refineC_sim {nt : Nt} {st : St} {rdc : Cy} {F : Addr → Prop} {ρ : List Hd} {a : Act} {w : World} {c : Operand} {b : Bool} (h : Sim X nt st rdc F ρ a w) (hc : evv X st.env c = .bool b) : Sim X nt (refineC c b st) rdc F ρ a w := by
  cases c with
  | tmp t => exact h.refine hc
  | _ => exact h
theorem refineC_mem (c : Operand) (b : Bool) (st : St) : (refineC c b st).mem = st.mem := by cases c <;> rfl

theorem evk_sound (hX : X.Okb) {root : Code} {L : LTab R} (hL : L.Ok X root) : ∀ (c : Code) {p : Nat} {st : St} {k : Ex → St → Option R} {r : R}, At root p c → evk X L c p st k = some r →
    ∃ e st', CodeRuns X L.tab.nt c st (Ex.exit' e) st' ∧ k e st' = some r
  | .skip, p, st, k, r, _, h => ⟨.normal, st, fun {rdc n w0 S F ρ a w Q} hI hs hq => wpIn_skip (hq a w F ρ hI hs (Grow.refl _ _ _)), h⟩
  | .label l, p, st, k, r, _, h => ⟨.normal, st, fun {rdc n w0 S F ρ a w Q} hI hs hq => wpIn_label (hq a w F ρ hI hs (Grow.refl _ _ _)), h⟩
  | .region id ops draw, p, st, k, r, _, h => by
    obtain ⟨st', h, hr⟩ := evreg_sound hX hL.tab (id := id) (k := fun st' => k .normal st') h
    exact ⟨.normal, st', hr, h⟩
  | .seq x y, p, st, k, r, hat, h => by
    simp only [evk] at h
    have hax : At root (2 * p) x := hat.down false fun l hl => by simp [codeAt, hl]
    have h' : ∃ e st1, CodeRuns X L.tab.nt x st (Ex.exit' e) st1 ∧ (match e with | .normal => evk X L y (2 * p + 1) st1 k | .exit i => k (.exit i) st1 | .ret => k .ret st1) = some r := by
      unfold cutOr at h
      split at h
      · rename_i f hf; exact hL.cut hax hf h
      · exact evk_sound hX hL x hax h
    obtain ⟨e, st1, h1, h⟩ := h'
    cases e with
    | normal =>
      obtain ⟨e, st2, h2, h⟩ := evk_sound hX hL y (hat.down true fun l hl => by simp [codeAt, hl]) h
      refine ⟨e, st2, fun {rdc n w0 S F ρ a w Q} hI hs hq => wpIn_seq (h1 hI hs fun a' w' F' ρ' hI' hs' hg => ?_), h⟩
      exact h2 hI' hs' fun a'' w'' F'' ρ'' hI'' hs'' hg' => hq a'' w'' F'' ρ'' hI'' hs'' (hg.trans hg')
    | exit i => exact ⟨.exit i, st1, fun {rdc n w0 S F ρ a w Q} hI hs hq => wpIn_seq (h1 hI hs fun a' w' F' ρ' hI' hs' hg => hq a' w' F' ρ' hI' hs' hg), h⟩
    | ret => exact ⟨.ret, st1, fun {rdc n w0 S F ρ a w Q} hI hs hq => wpIn_seq (h1 hI hs fun a' w' F' ρ' hI' hs' hg => hq a' w' F' ρ' hI' hs' hg), h⟩
  | .cond c x y, p, st, k, r, hat, h => by
    simp only [evk] at h
    split at h
    · rename_i t ht
      have hev : ∀ {w0 : World} {S : Sc} {F : Addr → Prop} {ρ : List Hd} {a : Act} {w : World} {rdc : Cy}, Inv X w0 S F ρ st.mem w → Sim X L.tab.nt st rdc F ρ a w → a.eval c = .bool t := by
        intro w0 S F ρ a w rdc hI hs
        have := evv_rep hI hs.env c
        rw [ht] at this
        generalize a.eval c = v at this
        cases this
        rfl
      split at h
      · obtain ⟨e, st1, h1, h⟩ := evk_sound hX hL x (hat.down false fun l hl => by simp [codeAt, hl]) h
        exact ⟨e, st1, fun {rdc n w0 S F ρ a w Q} hI hs hq => wpIn_cond_true (hev hI hs) (h1 (by rw [refineC_mem]; exact hI) (refineC_sim hs ht) hq), h⟩
      · obtain ⟨e, st1, h1, h⟩ := evk_sound hX hL y (hat.down true fun l hl => by simp [codeAt, hl]) h
        exact ⟨e, st1, fun {rdc n w0 S F ρ a w Q} hI hs hq => wpIn_cond_false (hev hI hs) (h1 (by rw [refineC_mem]; exact hI) (refineC_sim hs ht) hq), h⟩
    · cases h
  | .block i x, p, st, k, r, hat, h => by
    simp only [evk] at h
    obtain ⟨e, st1, h1, h⟩ := evk_sound hX hL x (hat.down false fun l hl => by simp [codeAt, hl]) h
    cases e with
    | normal => exact ⟨.normal, st1, fun {rdc n w0 S F ρ a w Q} hI hs hq => wpIn_block (h1 hI hs fun a' w' F' ρ' hI' hs' hg => hq a' w' F' ρ' hI' hs' hg), h⟩
    | exit j =>
      simp only at h
      split at h
      · rename_i hj
        have hj : j = i := Nat.eq_of_beq_eq_true hj
        refine ⟨.normal, st1, fun {rdc n w0 S F ρ a w Q} hI hs hq => wpIn_block (h1 hI hs fun a' w' F' ρ' hI' hs' hg => ?_), h⟩
        simp only [Ex.exit', Exit.inBlock, hj, if_true]
        exact hq a' w' F' ρ' hI' hs' hg
      · rename_i hj
        have hj : j ≠ i := fun e => by subst e; simp at hj
        refine ⟨.exit j, st1, fun {rdc n w0 S F ρ a w Q} hI hs hq => wpIn_block (h1 hI hs fun a' w' F' ρ' hI' hs' hg => ?_), h⟩
        simp only [Ex.exit', Exit.inBlock, if_neg hj]
        exact hq a' w' F' ρ' hI' hs' hg
    | ret => exact ⟨.ret, st1, fun {rdc n w0 S F ρ a w Q} hI hs hq => wpIn_block (h1 hI hs fun a' w' F' ρ' hI' hs' hg => hq a' w' F' ρ' hI' hs' hg), h⟩
  | .loop c, p, st, k, r, hat, h => hL.loop hat h
  | .rangeFunc g ps x y, p, st, k, r, hat, h => hL.range hat h
  | .exit i, p, st, k, r, _, h => ⟨.exit i, st, fun {rdc n w0 S F ρ a w Q} hI hs hq => wpIn_exit (hq a w F ρ hI hs (Grow.refl _ _ _)), h⟩
  | .ret, p, st, k, r, _, h => ⟨.ret, st, fun {rdc n w0 S F ρ a w Q} hI hs hq => wpIn_ret (hq a w F ρ hI hs (Grow.refl _ _ _)), h⟩
  | .scope x, p, st, k, r, hat, h => by
    simp only [evk] at h
    obtain ⟨e, st1, h1, h⟩ := evk_sound hX hL x (hat.down false fun l hl => by simp [codeAt, hl]) h
    exact ⟨e, st1, fun {rdc n w0 S F ρ a w Q} hI hs hq => wpIn_scope' (h1 hI hs fun a' w' F' ρ' hI' hs' hg => ⟨fun l => by cases e <;> simp [Ex.exit'], hq a' w' F' ρ' hI' hs' hg⟩), h⟩
  | .goto _, _, _, _, _, _, h => by simp [evk] at h
  | .refuse _, _, _, _, _, _, h => by simp [evk] at h

end
end Go.Eng

namespace Go.Eng
open Go
noncomputable section

variable {X : Cx} {R : Type}

def hd0 : Hd := ⟨.nilFunc, 0⟩

/-- A run on a part of the memory. -/
def framed (sel : List Nat) (args : List AV) (M : List Blk) (run : List AV → List Blk → (AV → List Blk → Option R) → Option R) (k : AV → List Blk → Option R) : Option R :=
  tst (subOk M sel) (run (args.map (ren (idx sel) 4)) (subM M sel) fun x Mc => tst (mergeOk sel.length M sel Mc) (k (ren (rno sel.length sel M.length) 4 x) (merge sel.length M sel Mc)))

theorem merge_agree {M Mc : List Blk} {sel : List Nat} {m : Nat} : Agree sel M (merge m M sel Mc) :=
  ⟨by rw [merge_length]; omega, fun id hid hn => by unfold merge; rw [List.getElem?_append_left (by rw [mset_length]; exact hid), mset_not sel _ M hn]⟩

theorem framed_sound (hX : X.Ok) {f : FuncId} {sel : List Nat} {args : List AV} {M : List Blk} {run : List AV → List Blk → (AV → List Blk → Option R) → Option R} {k : AV → List Blk → Option R} {r : R}
    (hrun : ∀ {args : List AV} {M : List Blk} {k : AV → List Blk → Option R}, run args M k = some r → ∃ x M', ACalls X f args M x M' ∧ k x M' = some r) (h : framed sel args M run k = some r) :
    ∃ x M', ACalls X f args M x M' ∧ k x M' = some r ∧ Agree sel M M' := by
  unfold framed at h
  replace h := tst_some h
  obtain ⟨hok, h⟩ := h
  obtain ⟨x, Mc, hc, h⟩ := hrun h
  replace h := tst_some h
  obtain ⟨hm, h⟩ := h
  refine ⟨_, _, ⟨hc.1, fun {w0 S F ρ w vs} hI hr => ?_⟩, h, merge_agree⟩
  have hs := sub_facts hok
  have hlt : ∀ i ∈ sel, i < ρ.length := fun i hi => by rw [hI.len]; exact hs.lt i hi
  refine (hc.2 (hI.sub hX hok hd0) (hr.ren hX.kinds (ren_idx hlt hd0) 4)).mono ?_
  rintro e w' ⟨v, ρ', F', rfl, hI', hg, hx⟩
  obtain ⟨h1, h2, h3⟩ := hI.merge hX hok hd0 hI' (hg.toF sel.length) hm
  exact ⟨v, _, F', rfl, h1, h2, hx.ren hX.kinds h3 4⟩

/-! ### A function -/

def argEnv : Nat → List AV → List (Nat × AV)
  | _, [] => []
  | i, x :: xs => (i, x) :: argEnv (i + 1) xs
theorem look_argEnv : ∀ (xs : List AV) (i t : Nat), look (argEnv i xs) t = if i ≤ t then (xs[t - i]?).getD .top else .top
  | [], i, t => by simp [argEnv, look_cons, look_nil]
  | x :: xs, i, t => by
    simp only [argEnv, look_cons, look_nil]
    by_cases ht : t = i
    · subst ht; simp
    · have : (t == i) = false := by simpa using ht
      simp only [this, Bool.false_eq_true, if_false]
      rw [look_argEnv xs (i + 1) t]
      by_cases h : i ≤ t
      · rw [if_pos (by omega), if_pos h, show t - i = (t - (i + 1)) + 1 by omega]; simp
      · rw [if_neg (by omega), if_neg h]

def evres1 (X : Cx) (rv : ResultVar) (st : St) (k : AV → Option R) : Option R :=
  match rv with
  | .tmp t => k (look st.env t)
  | .cell a t => evLoad X t (look st.env a) st.mem k
def evres (X : Cx) (rs : List ResultVar) (st : St) (k : AV → List Blk → Option R) : Option R :=
  match rs with
  | [] => k (.tup []) st.mem
  | [a] => evres1 X a st fun x => k x st.mem
  | [a, b] => evres1 X a st fun x => evres1 X b st fun y => k (.tup [x, y]) st.mem
  | [a, b, c] => evres1 X a st fun x => evres1 X b st fun y => evres1 X c st fun z => k (.tup [x, y, z]) st.mem
  | _ => none

def res1 (tmps : Array Value) : ResultVar → Sem Value
  | .tmp t => pure (tmps.getD t undef)
  | .cell a t => do loadVar t (← asAddr (tmps.getD a undef))

theorem evres1_sound (hX : X.Okb) {rv : ResultVar} {st : St} {k : AV → Option R} {r : R} (h : evres1 X rv st k = some r) :
    ∃ x, k x = some r ∧ ∀ {nt : Nt} {rdc : Cy} {w0 : World} {S : Sc} {F : Addr → Prop} {ρ : List Hd} {a : Act} {w : World}, Inv X w0 S F ρ st.mem w → Sim X nt st rdc F ρ a w → ∃ v, (res1 a.tmps rv).run X.P w = .ok v w ∧ Rep X.K ρ F w x v := by
  cases rv with
  | tmp t => exact ⟨_, h, fun {nt rdc w0 S F ρ a w} hI hs => ⟨_, rfl, hs.env t⟩⟩
  | cell a t =>
    obtain ⟨x, h, hd⟩ := evLoad_sound hX h
    refine ⟨x, h, fun {nt rdc w0 S F ρ act w} hI hs => ?_⟩
    obtain ⟨v, h1, h2⟩ := hd hI (hs.env a)
    refine ⟨v, ?_, h2⟩
    unfold Instr.loadAt at h1
    simp only [res1]
    generalize act.tmps.getD a undef = p at h1
    cases p with
    | pointer o =>
      cases o with
      | some ad => exact h1
      | none => simp [Instr.sureAddr, Sem.run_bind, stuck, Sem.run, Result.andThen] at h1
    | _ => simp [Instr.sureAddr, Sem.run_bind, stuck, Sem.run, Result.andThen] at h1

theorem evres_sound (hX : X.Okb) {fn : Func} {rs : List ResultVar} (hrs : fn.results.toList = rs) {st : St} {k : AV → List Blk → Option R} {r : R} (h : evres X rs st k = some r) :
    ∃ x, k x st.mem = some r ∧ ∀ {nt : Nt} {rdc : Cy} {w0 : World} {S : Sc} {F : Addr → Prop} {ρ : List Hd} {a : Act} {w : World}, Inv X w0 S F ρ st.mem w → Sim X nt st rdc F ρ a w → ∃ v, (results fn a.tmps).run X.P w = .ok v w ∧ Rep X.K ρ F w x v := by
  have hres : ∀ tmps, results fn tmps = (do let vs ← fn.results.mapM (res1 tmps); pure (if h : vs.size = 1 then vs[0] else .tuple vs)) := by
    intro tmps
    unfold results
    congr 1
  have hrs' : fn.results = rs.toArray := by rw [← hrs]
  unfold evres at h
  split at h
  · exact ⟨_, h, fun {nt rdc w0 S F ρ a w} hI hs => ⟨.tuple #[], by rw [hres, hrs']; simp [Sem.run_bind], .tup [] [] rfl (fun j x v h _ => by simp at h)⟩⟩
  · rename_i a
    obtain ⟨x, h, hd⟩ := evres1_sound hX h
    refine ⟨x, h, fun {nt rdc w0 S F ρ act w} hI hs => ?_⟩
    obtain ⟨v, h1, h2⟩ := hd hI hs
    exact ⟨v, by rw [hres, hrs']; simp [Sem.run_bind, h1], h2⟩
  · rename_i a b
    obtain ⟨x, h, hd⟩ := evres1_sound hX h
    obtain ⟨y, h, hd2⟩ := evres1_sound hX h
    refine ⟨_, h, fun {nt rdc w0 S F ρ act w} hI hs => ?_⟩
    obtain ⟨v, h1, h2⟩ := hd hI hs
    obtain ⟨v2, h3, h4⟩ := hd2 hI hs
    refine ⟨.tuple #[v, v2], by rw [hres, hrs']; simp [Sem.run_bind, h1, h3], .tup [x, y] [v, v2] rfl (fun j z u hz hu => ?_)⟩
    match j with
    | 0 => simp at hz hu; subst hz; subst hu; exact h2
    | 1 => simp at hz hu; subst hz; subst hu; exact h4
    | j + 2 => simp at hz
  · rename_i a b c
    obtain ⟨x, h, hd⟩ := evres1_sound hX h
    obtain ⟨y, h, hd2⟩ := evres1_sound hX h
    obtain ⟨z, h, hd3⟩ := evres1_sound hX h
    refine ⟨_, h, fun {nt rdc w0 S F ρ act w} hI hs => ?_⟩
    obtain ⟨v, h1, h2⟩ := hd hI hs
    obtain ⟨v2, h3, h4⟩ := hd2 hI hs
    obtain ⟨v3, h5, h6⟩ := hd3 hI hs
    refine ⟨.tuple #[v, v2, v3], by rw [hres, hrs']; simp [Sem.run_bind, h1, h3, h5], .tup [x, y, z] [v, v2, v3] rfl (fun j q u hz hu => ?_)⟩
    match j with
    | 0 => simp at hz hu; subst hz; subst hu; exact h2
    | 1 => simp at hz hu; subst hz; subst hu; exact h4
    | 2 => simp at hz hu; subst hz; subst hu; exact h6
    | j + 3 => simp at hz
  · cases h

/-- What is behind a function's code. -/
def evfin (X : Cx) (rs : List ResultVar) (k : AV → List Blk → Option R) (e : Ex) (st : St) : Option R :=
  match e with
  | .exit _ => none
  | _ => match st.dfs with | [] => evres X rs st k | _ => none

def evfn (X : Cx) (L : LTab R) (c : Code) (rs : List ResultVar) (args : List AV) (M : List Blk) (k : AV → List Blk → Option R) : Option R :=
  tst (Nat.ble args.length L.tab.nt.n) (evk X L c 1 ⟨argEnv 0 args, M, [], .out⟩ (evfin X rs k))

theorem Grow.less {F0 F : Addr → Prop} {ρ ρ' : List Hd} {wb w : World} (g : Grow F0 F ρ ρ' wb w) {D : Nat} (hD : ∀ a, F0 a → a.block ≠ D) (o : Obj) : Grow F0 (less F D) ρ ρ' wb (w.putObj D o) :=
  ⟨fun a ha => ⟨g.hF a ha, hD a ha⟩, g.hρ, fun a ha => by rw [World.putObj_heap_other (hD a ha)]; exact g.hb a ha⟩

/-- The marks on the way out. -/
theorem leaves_marks {fn : Func} {tmps : Array Value} {M : List Blk} {env : List (Nat × AV)} {w0 wb : World} {S : Sc} {F0 : Addr → Prop} {ρ ρ' : List Hd} {x : AV} (hf0 : ∀ a, S.F0 a → F0 a)
    (hres : ∀ {F : Addr → Prop} {w : World}, Inv X w0 S F ρ' M w → EnvRep X ρ' F w env tmps → ∃ v, (results fn tmps).run X.P w = .ok v w ∧ Rep X.K ρ' F w x v) :
    ∀ (ms : List Nat) {F : Addr → Prop} {w : World}, Inv X w0 S F ρ' M w → EnvRep X ρ' F w env tmps → ms.Nodup → (∀ D ∈ ms, (∀ a, F0 a → a.block ≠ D) ∧ F ⟨D, 0, none⟩ ∧ w.heap[D]? = some (.deferred (some []))) → Grow F0 F ρ ρ' wb w →
      LeavesInM Fence.wide 0 X.P fn tmps (fun e w' => ∃ v ρ' F', e = .returned v ∧ Inv X w0 S F' ρ' M w' ∧ Grow F0 F' ρ ρ' wb w' ∧ Rep X.K ρ' F' w' x v) (ms.map fun D => ({ target := .collected D, args := #[] } : Deferred)) .returning w
  | [], F, w, hI, hE, _, _, hg => by
    obtain ⟨v, h1, h2⟩ := hres hI hE
    exact ⟨v, h1, v, ρ', F, rfl, hI, hg, h2⟩
  | D :: ms, F, w, hI, hE, hnd, hms, hg => by
    obtain ⟨h1, h2, h3⟩ := hms D (by simp)
    have hc := cell_ne_of_deferred h3
    refine ⟨by simp, .inl ⟨D, _, rfl, run_takeDeferred h3, leaves_marks hf0 hres ms (hI.write_kept h2 hc (fun a ha => h1 a (hf0 a ha)) _) (hE.less hc _) (List.nodup_cons.1 hnd).2 (fun D' hD' => ?_) (hg.less h1 _)⟩⟩
    have hne : D' ≠ D := by rintro rfl; exact (List.nodup_cons.1 hnd).1 hD'
    obtain ⟨k1, k2, k3⟩ := hms D' (by simp [hD'])
    exact ⟨k1, ⟨k2, hne⟩, by rw [World.putObj_heap_other hne]; exact k3⟩

theorem evfn_core (hX : X.Okb) {nt : Nt} {f : FuncId} {fn : Func} {c : Code} (hf : X.P.funcs[f]? = some fn) (hb : fn.body = some c) (hn : fn.ntmps = nt.n)
    (hc : ∀ (vs : Array Value) (w : World), (callFunc f vs).run X.P w = .ok (.enter f vs) w) {rs : List ResultVar} (hrs : fn.results.toList = rs) {args : List AV} {M : List Blk} {k : AV → List Blk → Option R} {r : R}
    (hle : args.length ≤ nt.n) {e : Ex} {st' : St} (hrun : CodeRuns X nt c ⟨argEnv 0 args, M, [], .out⟩ (Ex.exit' e) st') (h : evfin X rs k e st' = some r) :
    ∃ x M', ACalls X f args M x M' ∧ k x M' = some r := by
  have he : e ≠ .normal → e = .ret := by
    intro hne
    cases e with
    | normal => exact absurd rfl hne
    | ret => rfl
    | exit i => simp [evfin] at h
  have hfin : (match st'.dfs with | [] => evres X rs st' k | _ => none) = some r := by
    cases e with
    | normal => exact h
    | ret => exact h
    | exit i => simp [evfin] at h
  split at hfin
  · rename_i hdfs
    obtain ⟨x, hk, hres⟩ := evres_sound hX hrs hfin
    refine ⟨x, st'.mem, ⟨hc, fun {w0 S F ρ w vs} hI hr => ?_⟩, hk⟩
    refine (callsIn_wide (n := 0)).1 (callsIn_of_wp_marks hf hb trivial ?_)
    have hlen := hr.1
    have := hrun (rdc := ⟨none, F, fun t => (vs.toArray ++ Array.replicate (fn.ntmps - vs.toArray.size) undef).getD t undef⟩) (n := 0) (Q := bodyPostM Fence.wide 0 X.P fn (fun e w' => ∃ v ρ' F', e = .returned v ∧ Inv X w0 S F' ρ' st'.mem w' ∧ Grow F F' ρ ρ' w w' ∧ Rep X.K ρ' F' w' x v))
      (a := { tmps := vs.toArray ++ Array.replicate (fn.ntmps - vs.toArray.size) undef, defers := [] }) hI ⟨fun t => ?_, ?_, Marks.nil _ _ (fun _ h => h), .inl rfl, fun t _ => rfl⟩ ?_
    · exact this
    · rw [look_argEnv, if_pos (Nat.zero_le _)]
      cases hx : args[t - 0]? with
      | none => exact .top _
      | some y =>
        have ht : t < vs.length := by have := (List.getElem?_eq_some_iff.1 hx).1; omega
        have hv : (vs.toArray ++ Array.replicate (fn.ntmps - vs.toArray.size) undef).getD t undef = vs[t] := by
          rw [Array.getD_eq_getD_getElem?, Array.getElem?_append_left (by simpa using ht)]
          simp [ht]
        rw [hv]
        exact hr.2 t y _ (by simpa using hx) (List.getElem?_eq_getElem ht)
    · simp only [Array.size_append, List.size_toArray, Array.size_replicate, hlen, hn]; omega
    · intro a' w' F' ρ' hI' hs' hg
      have hd : Marks F' w' F a'.defers := by have := hs'.defs; rw [hdfs] at this; exact this
      obtain ⟨_, ms, hms1, hms2, hms3⟩ := hd
      have hleave : LeavesInM Fence.wide 0 X.P fn a'.tmps (fun e w' => ∃ v ρ' F', e = .returned v ∧ Inv X w0 S F' ρ' st'.mem w' ∧ Grow F F' ρ ρ' w w' ∧ Rep X.K ρ' F' w' x v) a'.defers .returning w' := by
        rw [hms1]
        exact leaves_marks (env := st'.env) hI.fin (fun {F2 w2} i2 e2 => hres (rdc := ⟨none, fun _ => False, fun t => a'.tmps.getD t undef⟩) (a := { tmps := a'.tmps, defers := [] }) i2 ⟨e2, hs'.size, by rw [hdfs]; exact Marks.nil _ _ (fun _ h => h.elim), .inl rfl, fun t _ => rfl⟩) ms hI' hs'.env hms2 hms3 hg
      by_cases hne : e = .normal
      · subst hne; exact hleave
      · rw [he hne]; exact hleave
  · cases hfin
theorem evfn_sound (hX : X.Okb) {f : FuncId} {fn : Func} {c : Code} {L : LTab R} (hL : L.Ok X c) (hf : X.P.funcs[f]? = some fn) (hb : fn.body = some c) (hn : fn.ntmps = L.tab.nt.n)
    (hc : ∀ (vs : Array Value) (w : World), (callFunc f vs).run X.P w = .ok (.enter f vs) w) {rs : List ResultVar} (hrs : fn.results.toList = rs) {args : List AV} {M : List Blk} {k : AV → List Blk → Option R} {r : R} (h : evfn X L c rs args M k = some r) :
    ∃ x M', ACalls X f args M x M' ∧ k x M' = some r := by
  unfold evfn at h
  replace h := tst_some h
  obtain ⟨hle, h⟩ := h
  obtain ⟨e, st', hrun, h⟩ := evk_sound hX hL c (At.root c) h
  exact evfn_core hX hf hb hn hc hrs (Nat.le_of_ble_eq_true hle) hrun h

end
end Go.Eng

namespace Go.Eng
open Go
noncomputable section

variable {X : Cx} {R O : Type}

inductive Sh0 where
  | cell (k : Kind)
  | own (j : Nat)
  | ptr (j i off : Nat)
  | yld (j : Nat)
  | mpr (j : Nat)
  | nilp
  | nilfn
  | fn (f : FuncId)
  | cl (f : FuncId) (ps : List (Nat × Nat × Nat))
  | vw (j : Nat)
  | nilsl
  | enl
  | any
inductive Sh where
  | one (s : Sh0)
  | agg (ss : List Sh0)
  | clos (f : FuncId) (ss : List Sh0)
inductive BSh where
  | row (t : TypeId)
  | fro (t : TypeId)
  | var (ks : List Kind) (ss : List Sh0)
  | arr (ks : List Kind)
  | mp (k : Kind) (ag : Bool) (ks : List Kind)
  | loop (s : Nat) (es : List (Nat × Sh)) (pend : Option Ex)
  | gone

def AV.caps : AV → List AV | .clos _ _ cs => cs | _ => []
def AV.id : AV → Nat | .own id => id | .ptr id _ _ => id | .yld id => id | .mp id => id | .vw id _ _ => id | _ => 0
def Blk.rows : Blk → List Row | .row _ xs => xs | .fro _ xs => xs | _ => []
def Blk.cells : Blk → List AV | .var _ cs => cs | _ => []
def Blk.ents : Blk → List (AV × AV) | .map _ _ _ es => es | _ => []
def Blk.lenv : Blk → List (Nat × AV) | .loop _ env _ _ => env | _ => []
def Blk.pend : Blk → Option Ex | .loop _ _ _ p => p | _ => none

def can0 : Sh0 → AV → AV
  | .cell k, x => ld k x
  | .own j, _ => .own j
  | .ptr j i off, _ => .ptr j i off
  | .yld j, _ => .yld j
  | .mpr j, _ => .mp j
  | .nilp, _ => .nilp
  | .nilfn, _ => .nilfn
  | .fn f, _ => .clos f [] []
  | .cl f ps, _ => .clos f [] (ps.map fun p => .ptr p.1 p.2.1 p.2.2)
  | .vw j, x => .vw j x.vlo x.vn
  | .nilsl, _ => .nilsl
  | .enl, _ => .enl
  | .any, x => x
def okP : List (Nat × Nat × Nat) → List AV → Bool
  | [], [] => true
  | p :: ps, .ptr j i off :: cs => Nat.beq j p.1 && Nat.beq i p.2.1 && Nat.beq off p.2.2 && okP ps cs
  | _, _ => false
theorem okP_eq : ∀ {ps : List (Nat × Nat × Nat)} {cs : List AV}, okP ps cs = true → (ps.map fun p => AV.ptr p.1 p.2.1 p.2.2) = cs := by
  intro ps cs h
  induction ps generalizing cs with
  | nil =>
    cases cs with
    | nil => rfl
    | cons _ _ => simp [okP] at h
  | cons p ps ih =>
    cases cs with
    | nil => simp [okP] at h
    | cons c cs =>
      cases c <;> simp only [okP, Bool.false_eq_true] at h
      rw [Bool.and_eq_true, Bool.and_eq_true, Bool.and_eq_true] at h
      rw [List.map_cons, ih h.2, Nat.eq_of_beq_eq_true h.1.1.1, Nat.eq_of_beq_eq_true h.1.1.2, Nat.eq_of_beq_eq_true h.1.2]
def ok0 : Sh0 → AV → Bool
  | .cell k, x => kok k x
  | .own j, .own i => Nat.beq i j
  | .ptr j i off, .ptr j' i' off' => Nat.beq j' j && Nat.beq i' i && Nat.beq off' off
  | .yld j, .yld i => Nat.beq i j
  | .mpr j, .mp i => Nat.beq i j
  | .nilp, .nilp => true
  | .nilfn, .nilfn => true
  | .fn f, .clos g [] [] => Nat.beq g f
  | .cl f ps, .clos g [] cs => Nat.beq g f && okP ps cs
  | .vw j, .vw i _ _ => Nat.beq i j
  | .nilsl, .nilsl => true
  | .enl, .enl => true
  | .any, _ => true
  | _, _ => false
theorem can0_eq {s : Sh0} {x : AV} (h : ok0 s x = true) : can0 s x = x := by
  unfold ok0 at h
  split at h
  · exact ld_of_kok h
  · rw [Nat.eq_of_beq_eq_true h]; rfl
  · rw [Bool.and_eq_true, Bool.and_eq_true] at h
    rw [Nat.eq_of_beq_eq_true h.1.1, Nat.eq_of_beq_eq_true h.1.2, Nat.eq_of_beq_eq_true h.2]; rfl
  · rw [Nat.eq_of_beq_eq_true h]; rfl
  · rw [Nat.eq_of_beq_eq_true h]; rfl
  · rfl
  · rfl
  · rw [Nat.eq_of_beq_eq_true h]; rfl
  · rw [Bool.and_eq_true] at h
    simp only [can0]; rw [okP_eq h.2, Nat.eq_of_beq_eq_true h.1]
  · simp only [can0, AV.vlo, AV.vn]; rw [Nat.eq_of_beq_eq_true h]
  · rfl
  · rfl
  · rfl
  · cases h

def can0L : List Sh0 → List AV → List AV
  | [], _ => []
  | s :: ss, xs => can0 s (xs.headD .top) :: can0L ss xs.tail
def ok0L : List Sh0 → List AV → Bool
  | [], [] => true
  | s :: ss, x :: xs => ok0 s x && ok0L ss xs
  | _, _ => false
theorem can0L_eq : ∀ {ss : List Sh0} {xs : List AV}, ok0L ss xs = true → can0L ss xs = xs
  | [], [], _ => rfl
  | s :: ss, x :: xs, h => by
    simp only [ok0L, Bool.and_eq_true] at h
    simp only [can0L, List.headD_cons, List.tail_cons]
    rw [can0_eq h.1, can0L_eq h.2]
  | [], _ :: _, h => by simp [ok0L] at h
  | _ :: _, [], h => by simp [ok0L] at h

def canV : Sh → AV → AV
  | .one s, x => can0 s x
  | .agg ss, x => .agg (can0L ss x.cells)
  | .clos f ss, x => .clos f [] (can0L ss x.caps)
def okV : Sh → AV → Bool
  | .one s, x => ok0 s x
  | .agg ss, .agg cs => ok0L ss cs
  | .clos f ss, .clos g [] cs => Nat.beq g f && ok0L ss cs
  | _, _ => false
theorem canV_eq {s : Sh} {x : AV} (h : okV s x = true) : canV s x = x := by
  unfold okV at h
  split at h
  · exact can0_eq h
  · simp only [canV, AV.cells]; rw [can0L_eq h]
  · rw [Bool.and_eq_true] at h
    simp only [canV, AV.caps]; rw [can0L_eq h.2, Nat.eq_of_beq_eq_true h.1]
  · cases h

def canEs : List (Nat × Sh) → List (Nat × AV) → List (Nat × AV)
  | [], _ => []
  | e :: es, env => (e.1, canV e.2 (env.headD (0, .top)).2) :: canEs es env.tail
def okEs : List (Nat × Sh) → List (Nat × AV) → Bool
  | [], [] => true
  | e :: es, x :: env => Nat.beq x.1 e.1 && okV e.2 x.2 && okEs es env
  | _, _ => false
theorem canEs_eq : ∀ {es : List (Nat × Sh)} {env : List (Nat × AV)}, okEs es env = true → canEs es env = env
  | [], [], _ => rfl
  | e :: es, x :: env, h => by
    simp only [okEs, Bool.and_eq_true] at h
    simp only [canEs, List.headD_cons, List.tail_cons]
    rw [canV_eq h.1.2, canEs_eq h.2, ← Nat.eq_of_beq_eq_true h.1.1]
  | [], _ :: _, h => by simp [okEs] at h
  | _ :: _, [], h => by simp [okEs] at h
def okX : Option Ex → Option Ex → Bool
  | none, none => true
  | some .ret, some .ret => true
  | some (.exit i), some (.exit j) => Nat.beq i j
  | _, _ => false
theorem okX_eq {a b : Option Ex} (h : okX a b = true) : a = b := by
  unfold okX at h
  split at h
  · rfl
  · rfl
  · rw [Nat.eq_of_beq_eq_true h]
  · cases h

def canB : BSh → Blk → Blk
  | .row t, b => .row t b.rows
  | .fro t, b => .fro t b.rows
  | .var ks ss, b => .var ks (can0L ss b.cells)
  | .arr ks, b => .var ks b.cells
  | .mp k ag ks, b => .map k ag ks b.ents
  | .loop s es p, b => .loop s (canEs es b.lenv) false p
  | .gone, _ => .dead
def okB : BSh → Blk → Bool
  | .row t, .row t' _ => t' == t
  | .fro t, .fro t' _ => t' == t
  | .var ks ss, .var ks' cs => ks' == ks && ok0L ss cs
  | .arr ks, .var ks' _ => ks' == ks
  | .mp k ag ks, .map k' ag' ks' _ => k' == k && ag' == ag && ks' == ks
  | .loop s es p, .loop s' env false p' => Nat.beq s' s && okEs es env && okX p' p
  | .gone, .dead => true
  | _, _ => false
theorem canB_eq {s : BSh} {b : Blk} (h : okB s b = true) : canB s b = b := by
  unfold okB at h
  split at h
  · simp only [canB, Blk.rows]; rw [eq_of_beq h]
  · simp only [canB, Blk.rows]; rw [eq_of_beq h]
  · rw [Bool.and_eq_true] at h
    simp only [canB, Blk.cells]; rw [can0L_eq h.2, eq_of_beq h.1]
  · simp only [canB, Blk.cells]; rw [eq_of_beq h]
  · rw [Bool.and_eq_true, Bool.and_eq_true] at h
    simp only [canB, Blk.ents]; rw [eq_of_beq h.1.1, eq_of_beq h.1.2, eq_of_beq h.2]
  · rw [Bool.and_eq_true, Bool.and_eq_true] at h
    simp only [canB, Blk.lenv]; rw [canEs_eq h.1.2, Nat.eq_of_beq_eq_true h.1.1, okX_eq h.2]
  · rfl
  · cases h
def canM : List BSh → List Blk → List Blk
  | [], _ => []
  | s :: ss, M => canB s (M.headD .dead) :: canM ss M.tail
def okM : List BSh → List Blk → Bool
  | [], [] => true
  | s :: ss, b :: M => okB s b && okM ss M
  | _, _ => false
theorem canM_eq : ∀ {ss : List BSh} {M : List Blk}, okM ss M = true → canM ss M = M
  | [], [], _ => rfl
  | s :: ss, x :: xs, h => by
    simp only [okM, Bool.and_eq_true] at h
    simp only [canM, List.headD_cons, List.tail_cons]
    rw [canB_eq h.1, canM_eq h.2]
  | [], _ :: _, h => by simp [okM] at h
  | _ :: _, [], h => by simp [okM] at h

structure LSh where
  env : List (Nat × Sh)
  mem : List BSh

def canE (lk : Nat → AV) : List (Nat × Sh) → List (Nat × AV)
  | [] => []
  | (t, s) :: es => (t, canV s (lk t)) :: canE lk es
def okE (lk : Nat → AV) : List (Nat × Sh) → Bool
  | [] => true
  | (t, s) :: es => okV s (lk t) && okE lk es
def canS (σ : LSh) (lk : Nat → AV) (M : List Blk) : St := ⟨canE lk σ.env, canM σ.mem M, [], .unk⟩

theorem canE_look {lk : Nat → AV} : ∀ {es : List (Nat × Sh)}, okE lk es = true → ∀ t, look (canE lk es) t = lk t ∨ look (canE lk es) t = .top
  | [], _, t => .inr rfl
  | (u, s) :: es, h, t => by
    simp only [okE, Bool.and_eq_true] at h
    simp only [canE, look_cons, look_nil]
    by_cases ht : t = u
    · subst ht; simp only [beq_self_eq_true, if_true]; rw [canV_eq h.1]; exact .inl rfl
    · have : (t == u) = false := by simpa using ht
      simp only [this, Bool.false_eq_true, if_false]
      exact canE_look h.2 t

def enterS (σ : LSh) (sel : List Nat) (st : St) : St := canS σ (fun t => ren (idx sel) 4 (look st.env t)) (subM st.mem sel)
def enterOk (σ : LSh) (sel : List Nat) (st : St) : Bool := subOk st.mem sel && okE (fun t => ren (idx sel) 4 (look st.env t)) σ.env && okM σ.mem (subM st.mem sel)

theorem enter_facts {σ : LSh} {sel : List Nat} {st : St} (h : enterOk σ sel st = true) : subOk st.mem sel = true ∧ (enterS σ sel st).mem = subM st.mem sel ∧
    ∀ t, look (enterS σ sel st).env t = ren (idx sel) 4 (look st.env t) ∨ look (enterS σ sel st).env t = .top := by
  unfold enterOk at h
  rw [Bool.and_eq_true, Bool.and_eq_true] at h
  exact ⟨h.1.1, canM_eq h.2, canE_look h.1.2⟩

theorem enter_env (hX : X.Ok) {σ : LSh} {sel : List Nat} {st : St} (h : enterOk σ sel st = true) {w0 w : World} {S : Sc} {F : Addr → Prop} {ρ : List Hd} (hI : Inv X w0 S F ρ st.mem w) {tmps : Array Value} (he : EnvRep X ρ F w st.env tmps) : EnvRep X (sub hd0 ρ sel) F w (enterS σ sel st).env tmps := by
  obtain ⟨h1, h2, h3⟩ := enter_facts h
  have hs := sub_facts h1
  have hlt : ∀ i ∈ sel, i < ρ.length := fun i hi => by rw [hI.len]; exact hs.lt i hi
  intro t
  rcases h3 t with e | e
  · rw [e]; exact (he t).ren hX.kinds (ren_idx hlt hd0) 4
  · rw [e]; exact .top _

/-! ### Turning a value into what the shape asks -/

inductive Cv where
  | frz (t : Nat) (k : Kind)
  | mk (t : Nat) (ty : TypeId)
  | mkc (i : List (Nat × AV) → List Blk → Nat) (c : Nat) (ty : TypeId)
  | frzb (i : List (Nat × AV) → List Blk → Nat) (t : TypeId)
  | frza (t : Nat) (ks : List Kind)
  | mov (t : Nat)
  | frzc (i : List (Nat × AV) → List Blk → Nat) (c : Nat) (ty : TypeId)

def evcv (X : Cx) : List Cv → St → (St → Option R) → Option R
  | [], st, k => k st
  | .frz t kd :: cs, st, k => frz kd (look st.env t) st.mem fun x M => evcv X cs { st with env := (t, x) :: st.env, mem := M } k
  | .mk t ty :: cs, st, k =>
    match look st.env t with
    | .nilsl => evcv X cs { st with env := (t, .own st.mem.length) :: st.env, mem := st.mem ++ [.row ty []] } k
    | _ => evcv X cs st k
  | .mkc i c ty :: cs, st, k =>
    match gm st.mem (i st.env st.mem) with
    | some (.var ks xs) =>
      match xs[c]?, ks[c]? with
      | some .nilsl, some .any => evcv X cs { st with mem := (st.mem ++ [Blk.row ty []]).set (i st.env st.mem) (.var ks (xs.set c (.own st.mem.length))) } k
      | _, _ => evcv X cs st k
    | _ => evcv X cs st k
  | .frza t ks :: cs, st, k =>
    match look st.env t with
    | .agg xs => tst (Nat.beq xs.length ks.length) (frzL ks xs st.mem fun ys M => evcv X cs { st with env := (t, .agg ys) :: st.env, mem := M } k)
    | _ => evcv X cs st k
  | .frzb i t :: cs, st, k => frz (.slice t) (.own (i st.env st.mem)) st.mem fun _ M => evcv X cs { st with mem := M } k
  | .mov t :: cs, st, k =>
    match look st.env t with
    | .own id =>
      match gm st.mem id with
      | some (.row ty xs) => evcv X cs { st with env := (t, .own st.mem.length) :: st.env, mem := st.mem.set id .dead ++ [.row ty xs] } k
      | _ => evcv X cs st k
    | _ => evcv X cs st k
  | .frzc i c ty :: cs, st, k =>
    match gm st.mem (i st.env st.mem) with
    | some (.var ks xs) =>
      match xs[c]?, ks[c]? with
      | some (.own id), some .any =>
        match gm st.mem id with
        | some (.row t rs) => tst (ty == t) (evcv X cs { st with mem := (st.mem.set id (.fro t rs)).set (i st.env st.mem) (.var ks (xs.set c (.list t rs))) } k)
        | some (.fro t rs) => tst (ty == t) (evcv X cs { st with mem := st.mem.set (i st.env st.mem) (.var ks (xs.set c (.list t rs))) } k)
        | _ => evcv X cs st k
      | _, _ => evcv X cs st k
    | _ => evcv X cs st k

theorem EnvRep.over {ρ : List Hd} {F : Addr → Prop} {w : World} {env : List (Nat × AV)} {tmps : Array Value} (h : EnvRep X ρ F w env tmps) {d : Nat} {x : AV} (hx : Rep X.K ρ F w x (tmps.getD d undef)) : EnvRep X ρ F w ((d, x) :: env) tmps := by
  intro t
  simp only [look_cons, look_nil]
  by_cases ht : t = d
  · subst ht; simpa using hx
  · have : (t == d) = false := by simpa using ht
    simp only [this, Bool.false_eq_true, if_false]
    exact h t

theorem frzc_inv {w0 w : World} {S : Sc} {F : Addr → Prop} {ρ : List Hd} {M M1 : List Blk} {i c id : Nat} {ks : List Kind} {xs : List AV} {t : TypeId} {rs : List Row} (hI : Inv X w0 S F ρ M w) (hb : M[i]? = some (.var ks xs)) (hx : xs[c]? = some (.own id)) (hk : ks[c]? = some .any) (hM : M1[i]? = some (.var ks xs))
    (hf : frz (.slice t) (.own id) M (fun x M' => some (x, M')) = some (.list t rs, M1)) : ∃ F', Inv X w0 S F' ρ (M1.set i (.var ks (xs.set c (.list t rs)))) w ∧ Grow F F' ρ ρ w w := by
  obtain ⟨x', M', e, hl, _, hd⟩ := frz_sound (X := X) hf
  injection e with e; injection e with e1 e2; subst e1; subst e2
  obtain ⟨F1, i1, g1, r1⟩ := hd hI
  refine ⟨F1, ?_, g1⟩
  have hlt : i < ρ.length := by rw [hI.len]; exact (List.getElem?_eq_some_iff.1 hb).1
  have hh : ρ[i]? = some ρ[i] := List.getElem?_eq_getElem hlt
  obtain ⟨p1, p2, g0, cur0, e0, p3, p4, ⟨p5, p6⟩, _⟩ := hI.rep _ _ _ hb hh
  obtain ⟨q1, q2, g, cur, e, q3, q4, ⟨q5, q6⟩, q7⟩ := i1.rep _ _ _ hM hh
  refine i1.write hM rfl hh (g := g) (by simp [Hd.blk?, Value.blk?, q3]) ⟨rfl, rfl, rfl, Nat.le_refl _, fun _ _ _ => rfl⟩ ⟨?_, by simpa using q2, g, cur, e, q3, q4, ⟨by simpa using q5, fun j x v hx' hv => ?_⟩, q7⟩
  · refine koks_of (by simpa using koks_length q1) fun j k x hk' hx' => ?_
    rw [List.getElem?_set] at hx'
    split at hx'
    · rename_i ej; subst ej
      split at hx'
      · injection hx' with hx'; subst hx'; rw [hk] at hk'; injection hk' with hk'; subst hk'; rfl
      · cases hx'
    · exact koks_get q1 hk' hx'
  · rw [List.getElem?_set] at hx'
    split at hx'
    · rename_i ej; subst ej
      split at hx'
      · injection hx' with hx'; subst hx'
        have eg : g0 = g := by rw [p3] at q3; simpa using q3
        subst eg
        have ec : cur0 = cur := by rw [p4] at q4; injection q4 with q4; injection q4
        subst ec
        exact r1 v (p6 _ _ v hx hv)
      · cases hx'
    · exact q6 j x v hx' hv

theorem evcv_sound (hX : X.Ok) {k : St → Option R} {r : R} : ∀ (cs : List Cv) {st : St}, evcv X cs st k = some r → ∃ st', k st' = some r ∧ st'.dfs = st.dfs ∧ st'.rd = st.rd ∧
    ∀ {nt : Nt} {rdc : Cy} {w0 : World} {S : Sc} {F : Addr → Prop} {ρ : List Hd} {a : Act} {w : World}, Inv X w0 S F ρ st.mem w → Sim X nt st rdc F ρ a w → ∃ F' ρ', Inv X w0 S F' ρ' st'.mem w ∧ Sim X nt st' rdc F' ρ' a w ∧ Grow F F' ρ ρ' w w
  | [], st, h => ⟨st, h, rfl, rfl, fun {nt rdc w0 S F ρ a w} hI hs => ⟨F, ρ, hI, hs, Grow.refl _ _ _⟩⟩
  | .frz t kd :: cs, st, h => by
    simp only [evcv, gm_eq] at h
    obtain ⟨x, M', h, hl, _, hd⟩ := frz_sound (X := X) h
    obtain ⟨st', h, e1, e2, hr⟩ := evcv_sound hX cs h
    refine ⟨st', h, e1, e2, fun {nt rdc w0 S F ρ a w} hI hs => ?_⟩
    obtain ⟨F1, i1, g1, r1⟩ := hd hI
    obtain ⟨F2, ρ2, i2, s2, g2⟩ := hr (nt := nt) (rdc := rdc) (a := a) i1 ⟨(hs.env.grow g1).over (r1 _ (hs.env t)), hs.size, (hs.grow g1).defs, (hs.grow g1).rd, hs.kept⟩
    exact ⟨F2, ρ2, i2, s2, g1.trans g2⟩
  | .frza t ks :: cs, st, h => by
    simp only [evcv, gm_eq] at h
    split at h
    · rename_i xs hx
      replace h := tst_some h
      obtain ⟨_, h⟩ := h
      obtain ⟨ys, M', h, hl, _, hd⟩ := frzL_sound (X := X) _ _ _ h
      obtain ⟨st', h, e1, e2, hr⟩ := evcv_sound hX cs h
      refine ⟨st', h, e1, e2, fun {nt rdc w0 S F ρ a w} hI hs => ?_⟩
      obtain ⟨F1, i1, g1, r1⟩ := hd hI
      have hs1 := hs.grow g1
      have hv := hs.env t
      rw [hx] at hv
      have hrep : Rep X.K ρ F1 w (.agg ys) (a.tmps.getD t undef) := by
        generalize a.tmps.getD t undef = v at hv
        cases hv with
        | agg _ vs hl hr =>
          have := r1 vs ⟨hl, hr⟩
          exact .agg ys vs this.1 this.2
      obtain ⟨F2, ρ2, i2, s2, g2⟩ := hr (nt := nt) (rdc := rdc) (a := a) i1 ⟨hs1.env.over hrep, hs1.size, hs1.defs, hs1.rd, hs1.kept⟩
      exact ⟨F2, ρ2, i2, s2, g1.trans g2⟩
    · exact evcv_sound hX cs h
  | .frzb i t :: cs, st, h => by
    simp only [evcv, gm_eq] at h
    obtain ⟨x, M', h, hl, _, hd⟩ := frz_sound (X := X) h
    obtain ⟨st', h, e1, e2, hr⟩ := evcv_sound hX cs h
    refine ⟨st', h, e1, e2, fun {nt rdc w0 S F ρ a w} hI hs => ?_⟩
    obtain ⟨F1, i1, g1, r1⟩ := hd hI
    have hs1 := hs.grow g1
    obtain ⟨F2, ρ2, i2, s2, g2⟩ := hr (nt := nt) (rdc := rdc) (a := a) i1 ⟨hs1.env, hs1.size, hs1.defs, hs1.rd, hs1.kept⟩
    exact ⟨F2, ρ2, i2, s2, g1.trans g2⟩
  | .mov t :: cs, st, h => by
    simp only [evcv, gm_eq] at h
    split at h
    · rename_i id hv
      split at h
      · rename_i ty xs hb
        obtain ⟨st', h, e1, e2, hr⟩ := evcv_sound hX cs h
        refine ⟨st', h, e1, e2, fun {nt rdc w0 S F ρ a w} hI hs => ?_⟩
        have hlt : id < ρ.length := by rw [hI.len]; exact (List.getElem?_eq_some_iff.1 hb).1
        have hh : ρ[id]? = some ρ[id] := List.getElem?_eq_getElem hlt
        have i0 := hI.rep _ _ _ hb hh
        have g1 : Grow F F ρ (ρ ++ [ρ[id]]) w w := ⟨fun _ h => h, fun _ _ h => getElem?_append_old h, fun _ _ => rfl⟩
        have i1 : Inv X w0 S F (ρ ++ [ρ[id]]) (st.mem.set id .dead ++ [.row ty xs]) w :=
          hI.move hb rfl hh (row := none) ⟨rfl, rfl, rfl, Nat.le_refl _, fun _ _ _ => rfl⟩ (.inl rfl) (fun g hg => ⟨(hI.sep id _ _ g hb rfl hh hg).1, .inl hg⟩) (hI.one _ _ hh) (BRep.mono (b := .row ty xs) g1.hρ g1.hF (fun _ _ _ h => h) (fun _ _ => rfl) i0)
        have r1 : Rep X.K (ρ ++ [ρ[id]]) F w (.own st.mem.length) (a.tmps.getD t undef) := by
          have := hs.env t
          rw [hv] at this
          generalize a.tmps.getD t undef = v at this
          cases this with
          | own _ hd h2 =>
            rw [hh] at h2; injection h2 with h2
            rw [← h2]
            exact Rep.own (K := X.K) _ ρ[id] (by rw [← hI.len]; simp)
        have hs1 := hs.grow g1
        obtain ⟨F2, ρ2, i2, s2, g2⟩ := hr (nt := nt) (rdc := rdc) (a := a) i1 ⟨hs1.env.over r1, hs1.size, hs1.defs, hs1.rd, hs1.kept⟩
        exact ⟨F2, ρ2, i2, s2, g1.trans g2⟩
      · exact evcv_sound hX cs h
    · exact evcv_sound hX cs h
  | .frzc i c ty :: cs, st, h => by
    simp only [evcv, gm_eq] at h
    split at h
    · rename_i ks xs hb
      split at h
      · rename_i id hx hk
        split at h
        · rename_i t rs hr0
          replace h := tst_some h
          obtain ⟨ht, h⟩ := h
          have ht := eq_of_beq ht; subst ht
          obtain ⟨st', h, e1, e2, hr⟩ := evcv_sound hX cs h
          refine ⟨st', h, e1, e2, fun {nt rdc w0 S F ρ a w} hI hs => ?_⟩
          have hne : id ≠ i st.env st.mem := by intro e; subst e; rw [hb] at hr0; cases hr0
          obtain ⟨F1, i1, g1⟩ := frzc_inv hI hb hx hk (M1 := st.mem.set id (.fro ty rs)) (id := id) (t := ty) (rs := rs) (by rw [List.getElem?_set_ne hne]; exact hb) (by simp [frz, gm_eq, hr0, tst])
          have hs1 := hs.grow g1
          obtain ⟨F2, ρ2, i2, s2, g2⟩ := hr (nt := nt) (rdc := rdc) (a := a) i1 ⟨hs1.env, hs1.size, hs1.defs, hs1.rd, hs1.kept⟩
          exact ⟨F2, ρ2, i2, s2, g1.trans g2⟩
        · rename_i t rs hr0
          replace h := tst_some h
          obtain ⟨ht, h⟩ := h
          have ht := eq_of_beq ht; subst ht
          obtain ⟨st', h, e1, e2, hr⟩ := evcv_sound hX cs h
          refine ⟨st', h, e1, e2, fun {nt rdc w0 S F ρ a w} hI hs => ?_⟩
          obtain ⟨F1, i1, g1⟩ := frzc_inv hI hb hx hk (M1 := st.mem) (id := id) (t := ty) (rs := rs) hb (by simp [frz, gm_eq, hr0, tst])
          have hs1 := hs.grow g1
          obtain ⟨F2, ρ2, i2, s2, g2⟩ := hr (nt := nt) (rdc := rdc) (a := a) i1 ⟨hs1.env, hs1.size, hs1.defs, hs1.rd, hs1.kept⟩
          exact ⟨F2, ρ2, i2, s2, g1.trans g2⟩
        · exact evcv_sound hX cs h
      · exact evcv_sound hX cs h
    · exact evcv_sound hX cs h
  | .mk t ty :: cs, st, h => by
    simp only [evcv, gm_eq] at h
    split at h
    · rename_i hn
      obtain ⟨st', h, e1, e2, hr⟩ := evcv_sound hX cs h
      refine ⟨st', h, e1, e2, fun {nt rdc w0 S F ρ a w} hI hs => ?_⟩
      have hv : a.tmps.getD t undef = .slice none 0 0 := by
        have := hs.env t
        rw [hn] at this
        generalize a.tmps.getD t undef = v at this
        cases this
        rfl
      have i1 : Inv X w0 S F (ρ ++ [⟨.slice none 0 0, (X.K ty).length⟩]) (st.mem ++ [.row ty []]) w := hI.push' (hd := ⟨.slice none 0 0, (X.K ty).length⟩) (fun g hg => by simp [Hd.blk?, Value.blk?] at hg) rfl
        ⟨rfl, fun i row h => by simp at h, .inl ⟨rfl, rfl⟩⟩
      have g1 : Grow F F ρ (ρ ++ [⟨.slice none 0 0, (X.K ty).length⟩]) w w := ⟨fun _ h => h, fun _ _ h => getElem?_append_old h, fun _ _ => rfl⟩
      have r1 : Rep X.K (ρ ++ [⟨.slice none 0 0, (X.K ty).length⟩]) F w (.own st.mem.length) (a.tmps.getD t undef) := by
        rw [hv]
        exact Rep.own (K := X.K) _ ⟨.slice none 0 0, (X.K ty).length⟩ (by rw [← hI.len]; simp)
      have hs1 := hs.grow g1
      obtain ⟨F2, ρ2, i2, s2, g2⟩ := hr (nt := nt) (rdc := rdc) (a := a) i1 ⟨hs1.env.over r1, hs1.size, hs1.defs, hs1.rd, hs1.kept⟩
      exact ⟨F2, ρ2, i2, s2, g1.trans g2⟩
    · exact evcv_sound hX cs h
  | .mkc i c ty :: cs, st, h => by
    simp only [evcv, gm_eq] at h
    split at h
    · rename_i ks xs hb
      split at h
      · rename_i hx hk
        obtain ⟨st', h, e1, e2, hr⟩ := evcv_sound hX cs h
        refine ⟨st', h, e1, e2, fun {nt rdc w0 S F ρ a w} hI hs => ?_⟩
        have i1 : Inv X w0 S F (ρ ++ [⟨.slice none 0 0, (X.K ty).length⟩]) (st.mem ++ [.row ty []]) w := hI.push' (hd := ⟨.slice none 0 0, (X.K ty).length⟩) (fun g hg => by simp [Hd.blk?, Value.blk?] at hg) rfl
          ⟨rfl, fun i row h => by simp at h, .inl ⟨rfl, rfl⟩⟩
        have g1 : Grow F F ρ (ρ ++ [⟨.slice none 0 0, (X.K ty).length⟩]) w w := ⟨fun _ h => h, fun _ _ h => getElem?_append_old h, fun _ _ => rfl⟩
        have hlt : i st.env st.mem < ρ.length := by rw [hI.len]; exact (List.getElem?_eq_some_iff.1 hb).1
        have hh : (ρ ++ [(⟨.slice none 0 0, (X.K ty).length⟩ : Hd)])[i st.env st.mem]? = some ρ[i st.env st.mem] := getElem?_append_old (List.getElem?_eq_getElem hlt)
        have hb1 : (st.mem ++ [Blk.row ty []])[i st.env st.mem]? = some (.var ks xs) := getElem?_append_old hb
        obtain ⟨q1, q2, g, cur, e, q3, q4, ⟨q5, q6⟩, q7⟩ := i1.rep _ _ _ hb1 hh
        have i2 : Inv X w0 S F (ρ ++ [⟨.slice none 0 0, (X.K ty).length⟩]) ((st.mem ++ [Blk.row ty []]).set (i st.env st.mem) (.var ks (xs.set c (.own st.mem.length)))) w := by
          refine i1.write hb1 rfl hh (g := g) (by simp [Hd.blk?, Value.blk?, q3]) ⟨rfl, rfl, rfl, Nat.le_refl _, fun _ _ _ => rfl⟩ ⟨?_, by simpa using q2, g, cur, e, q3, q4, ⟨by simpa using q5, fun j x v hx' hv => ?_⟩, q7⟩
          · refine koks_of (by simpa using koks_length q1) fun j k x hk' hx' => ?_
            rw [List.getElem?_set] at hx'
            split at hx'
            · rename_i ej; subst ej
              split at hx'
              · injection hx' with hx'; subst hx'; rw [hk] at hk'; injection hk' with hk'; subst hk'; rfl
              · cases hx'
            · exact koks_get q1 hk' hx'
          · rw [List.getElem?_set] at hx'
            split at hx'
            · rename_i ej; subst ej
              split at hx'
              · injection hx' with hx'; subst hx'
                have := q6 c _ v hx hv
                cases this
                exact Rep.own (K := X.K) _ ⟨.slice none 0 0, (X.K ty).length⟩ (by rw [← hI.len]; simp)
              · cases hx'
            · exact q6 j x v hx' hv
        have hs1 := hs.grow g1
        obtain ⟨F2, ρ2, i2, s2, g2⟩ := hr (nt := nt) (rdc := rdc) (a := a) i2 ⟨hs1.env, hs1.size, hs1.defs, hs1.rd, hs1.kept⟩
        exact ⟨F2, ρ2, i2, s2, g1.trans g2⟩
      · exact evcv_sound hX cs h
    · exact evcv_sound hX cs h

end
end Go.Eng

namespace Go.Eng
open Go
noncomputable section

variable {X : Cx} {R O : Type}

/-- As 'CodeRuns', but only the first m blocks stay the same. -/
def FRuns (X : Cx) (nt : Nt) (c : Code) (m : Nat) (st : St) (e : Exit) (st' : St) : Prop :=
  ∀ {rdc : Cy} {n : Nat} {w0 : World} {S : Sc} {F : Addr → Prop} {ρ : List Hd} {a : Act} {w : World} {Q : Exit → Act → World → Prop}, Inv X w0 S F ρ st.mem w → Sim X nt st rdc F ρ a w →
    (∀ a' w' F' ρ', Inv X w0 S F' ρ' st'.mem w' → Sim X nt st' rdc F' ρ' a' w' → GrowF m F F' ρ ρ' w w' → Q e a' w') → c.wpIn (fen rdc.r) n X.P Q a w

theorem GrowF.trans {m : Nat} {F F' F'' : Addr → Prop} {ρ ρ' ρ'' : List Hd} {w w' w'' : World} (h : GrowF m F F' ρ ρ' w w') (k : GrowF m F' F'' ρ' ρ'' w' w'') : GrowF m F F'' ρ ρ'' w w'' :=
  ⟨fun a ha => k.hF a (h.hF a ha), fun id hd hm hh => k.hρ id hd hm (h.hρ id hd hm hh), fun a ha => (k.hb a (h.hF a ha)).trans (h.hb a ha)⟩

def pre (m : Nat) (sel : List Nat) : Bool := (sel.take m) == List.range m
theorem pre_get {m : Nat} {sel : List Nat} (h : pre m sel = true) {j : Nat} (hj : j < m) : sel[j]? = some j := by
  have e : sel.take m = List.range m := by simpa [pre] using h
  have : (sel.take m)[j]? = some j := by rw [e, List.getElem?_range hj]
  rw [List.getElem?_take, if_pos hj] at this
  exact this

def goS (X : Cx) (m : Nat) (cv : List Cv) (σ : LSh) (sel : St → List Nat) (st : St) (f : St → Option O) : Option O :=
  evcv X cv st fun st1 => tst (enterOk σ (sel st1) st1 && pre m (sel st1) && st1.dfs.isEmpty) (f (enterS σ (sel st1) st1))

/-- Into the shape: the run goes on with what the shape keeps. -/
theorem goS_sound (hX : X.Ok) {m : Nat} {cv : List Cv} {σ : LSh} {sel : St → List Nat} {st : St} {f : St → Option O} {o : O} (h : goS X m cv σ sel st f = some o) :
    ∃ lk M, f (canS σ lk M) = some o ∧ ∀ {nt : Nt} {rdc : Cy} {w0 : World} {S : Sc} {F : Addr → Prop} {ρ : List Hd} {a : Act} {w : World}, Inv X w0 S F ρ st.mem w → Sim X nt st rdc F ρ a w →
      ∃ F' ρ', Inv X w0 S F' ρ' (canS σ lk M).mem w ∧ Sim X nt (canS σ lk M) rdc F' ρ' a w ∧ GrowF m F F' ρ ρ' w w := by
  obtain ⟨st1, h, e1, e2, hr⟩ := evcv_sound hX cv h
  replace h := tst_some h
  obtain ⟨h1, h⟩ := h
  rw [Bool.and_eq_true, Bool.and_eq_true] at h1
  obtain ⟨⟨h1, h2⟩, h3⟩ := h1
  refine ⟨_, _, h, fun {nt rdc w0 S F ρ a w} hI hs => ?_⟩
  obtain ⟨F1, ρ1, i1, s1, g1⟩ := hr (nt := nt) (rdc := rdc) (a := a) hI hs
  obtain ⟨hok, hmem, _⟩ := enter_facts h1
  refine ⟨F1, sub hd0 ρ1 (sel st1), ?_, ⟨enter_env hX h1 i1 s1.env, s1.size, ?_, s1.rd, s1.kept⟩, ?_⟩
  · have := (i1.sub' hX hok hd0).1
    rw [← hmem] at this
    exact this
  · have := s1.defs
    have hd : st1.dfs = [] := by simpa using h3
    rw [hd] at this
    exact this
  · refine (g1.toF m).trans ⟨fun _ h => h, fun id hd hm hh => ?_, fun _ _ => rfl⟩
    have := pre_get h2 hm
    rw [sub_get this (List.getElem?_eq_some_iff.1 hh).1]
    exact hh

/-- A way out of a loop: what is kept, and its name. -/
structure XSh (O : Type) where
  cv : List Cv
  σ : LSh
  sel : St → List Nat
  out : St → O

def kont (X : Cx) (m : Nat) (cv : List Cv) (σ : LSh) (sel : St → List Nat) (xs : Ex → St → Option (XSh O)) (LFn : St → Option O) (e : Ex) (st : St) : Option O :=
  match e with
  | .normal => goS X m cv σ sel st LFn
  | .exit i => match xs (.exit i) st with | some x => goS X m x.cv x.σ x.sel st fun s => some (x.out s) | none => none
  | .ret => match xs .ret st with | some x => goS X m x.cv x.σ x.sel st fun s => some (x.out s) | none => none

def outOk (x : XSh O) (e : Ex) (exOf : O → Ex) (stOf : O → St) : Prop := ∀ lk M, exOf (x.out (canS x.σ lk M)) = e ∧ stOf (x.out (canS x.σ lk M)) = canS x.σ lk M

theorem kont_sound (hX : X.Ok) {m : Nat} {cv : List Cv} {σ : LSh} {sel : St → List Nat} {xs : Ex → St → Option (XSh O)} {LFn : St → Option O} {exOf : O → Ex} {stOf : O → St} (hx : ∀ e st x, xs e st = some x → outOk x e exOf stOf) {e : Ex} {st : St} {o : O}
    (h : kont X m cv σ sel xs LFn e st = some o) :
    (e = .normal ∧ goS X m cv σ sel st LFn = some o) ∨ (e ≠ .normal ∧ exOf o = e ∧ ∀ {nt : Nt} {rdc : Cy} {w0 : World} {S : Sc} {F : Addr → Prop} {ρ : List Hd} {a : Act} {w : World}, Inv X w0 S F ρ st.mem w → Sim X nt st rdc F ρ a w →
      ∃ F' ρ', Inv X w0 S F' ρ' (stOf o).mem w ∧ Sim X nt (stOf o) rdc F' ρ' a w ∧ GrowF m F F' ρ ρ' w w) := by
  have out : ∀ {x : XSh O}, xs e st = some x → e ≠ .normal → goS X m x.cv x.σ x.sel st (fun s => some (x.out s)) = some o → (e ≠ .normal ∧ exOf o = e ∧ ∀ {nt : Nt} {rdc : Cy} {w0 : World} {S : Sc} {F : Addr → Prop} {ρ : List Hd} {a : Act} {w : World}, Inv X w0 S F ρ st.mem w → Sim X nt st rdc F ρ a w →
      ∃ F' ρ', Inv X w0 S F' ρ' (stOf o).mem w ∧ Sim X nt (stOf o) rdc F' ρ' a w ∧ GrowF m F F' ρ ρ' w w) := by
    intro x hxe hne hg
    obtain ⟨lk, M, ho, hr⟩ := goS_sound hX hg
    injection ho with ho
    obtain ⟨q1, q2⟩ := hx e st x hxe lk M
    rw [ho] at q1 q2
    refine ⟨hne, q1, fun {nt rdc w0 S F ρ a w} hI hs => ?_⟩
    rw [q2]
    exact hr hI hs
  unfold kont at h
  cases e with
  | normal => exact .inl ⟨rfl, h⟩
  | exit i =>
    simp only at h
    split at h
    · rename_i x hxe; exact .inr (out hxe (by simp) h)
    · cases h
  | ret =>
    simp only at h
    split at h
    · rename_i x hxe; exact .inr (out hxe (by simp) h)
    · cases h

theorem rounds_sound (hX : X.Ok) {root c : Code} {p : Nat} {L : LTab O} (hL : L.Ok X root) (hat : At root p (.loop c)) {m : Nat} {cv : List Cv} {σ : LSh} {sel : St → List Nat} {xs : Ex → St → Option (XSh O)} {LF : Nat → St → Option O} {exOf : O → Ex} {stOf : O → St}
    (h0 : ∀ lk M, LF 0 (canS σ lk M) = none) (hstep : ∀ n lk M, LF (n + 1) (canS σ lk M) = evk X L c (2 * p) (canS σ lk M) (kont X m cv σ sel xs (LF n))) (hx : ∀ e st x, xs e st = some x → outOk x e exOf stOf) :
    ∀ (fuel : Nat) {lk : Nat → AV} {M : List Blk} {o : O}, LF fuel (canS σ lk M) = some o → ∀ {rdc : Cy} {n : Nat} {w0 : World} {S : Sc} {F : Addr → Prop} {ρ : List Hd} {a : Act} {w : World} {Q : Exit → Act → World → Prop},
      Inv X w0 S F ρ (canS σ lk M).mem w → Sim X L.tab.nt (canS σ lk M) rdc F ρ a w →
      (∀ a' w' F' ρ', Inv X w0 S F' ρ' (stOf o).mem w' → Sim X L.tab.nt (stOf o) rdc F' ρ' a' w' → GrowF m F F' ρ ρ' w w' → Q (Ex.exit' (exOf o)) a' w') → Code.roundsIn (fen rdc.r) n X.P c Q fuel a w
  | 0, lk, M, o, h, _, _, _, _, _, _, _, _, _, _, _, _ => by rw [h0] at h; cases h
  | fuel + 1, lk, M, o, h, rdc, n, w0, S, F, ρ, a, w, Q, hI, hs, hq => by
    rw [hstep] at h
    obtain ⟨e, st', hrun, h⟩ := evk_sound hX hL c (hat.down false fun l hl => by simp [codeAt, hl]) h
    rcases kont_sound hX hx h with ⟨rfl, h⟩ | ⟨hne, heo, hr⟩
    · obtain ⟨lk', M', h, hr⟩ := goS_sound hX h
      rw [roundsIn_succ]
      refine hrun hI hs fun a' w' F' ρ' hI' hs' hg => ?_
      obtain ⟨F2, ρ2, i2, s2, g2⟩ := hr hI' hs'
      exact rounds_sound hX hL hat h0 hstep hx fuel h i2 s2 fun a'' w'' F'' ρ'' hI'' hs'' hg'' => hq a'' w'' F'' ρ'' hI'' hs'' ((hg.toF m).trans (g2.trans hg''))
    · rw [roundsIn_succ]
      refine hrun hI hs fun a' w' F' ρ' hI' hs' hg => ?_
      obtain ⟨F2, ρ2, i2, s2, g2⟩ := hr hI' hs'
      have := hq a' w' F2 ρ2 i2 s2 ((hg.toF m).trans g2)
      rw [heo] at this
      cases e with
      | normal => exact absurd rfl hne
      | exit i => exact this
      | ret => exact this

/-- A loop, as a piece of the code around it. -/
def leaveS (m mask : Nat) (sel : List Nat) (st so : St) : St :=
  { env := renE (rno m sel st.mem.length) 4 so.env ++ st.env.filter (fun p => !mask.testBit p.1), mem := merge m st.mem sel so.mem, dfs := st.dfs, rd := st.rd }

def callLoop (X : Cx) (m mask : Nat) (cv : List Cv) (σ : LSh) (sel : St → List Nat) (nt : Nt) (LFn : St → Option O) (elim : O → (Ex → St → Option R) → Option R) (st : St) (k : Ex → St → Option R) : Option R :=
  evcv X cv st fun st1 =>
    tst (enterOk σ (sel st1) st1 && Nat.beq (nt.mask &&& mask) mask && st1.dfs.isEmpty)
      (match LFn (enterS σ (sel st1) st1) with
       | none => none
       | some o => elim o fun e so => tst (mergeOk m st1.mem (sel st1) so.mem && so.dfs.isEmpty) (k e (leaveS m mask (sel st1) st1 so)))

theorem look_append : ∀ (A B : List (Nat × AV)) (t : Nat), look (A ++ B) t = look A t ∨ look (A ++ B) t = look B t
  | [], B, t => .inr rfl
  | (u, x) :: A, B, t => by
    simp only [List.cons_append, look_cons, look_nil]
    by_cases ht : t = u
    · subst ht; simp
    · have : (t == u) = false := by simpa using ht
      simp only [this, Bool.false_eq_true, if_false]
      exact look_append A B t
theorem look_mask (mask : Nat) : ∀ (env : List (Nat × AV)) (t : Nat), look (env.filter (fun p => !mask.testBit p.1)) t = .top ∨ (mask.testBit t = false ∧ look (env.filter (fun p => !mask.testBit p.1)) t = look env t)
  | [], t => .inl rfl
  | (u, x) :: env, t => by
    have ih := look_mask mask env t
    rw [List.filter_cons]
    by_cases hu : mask.testBit u = true
    · rw [if_neg (by simp [hu])]
      rcases ih with h | ⟨h1, h2⟩
      · exact .inl h
      · refine .inr ⟨h1, ?_⟩
        have ht : (t == u) = false := by
          by_cases ht : t = u
          · subst ht; rw [hu] at h1; cases h1
          · simpa using ht
        simp only [look_cons, look_nil, ht, Bool.false_eq_true, if_false]
        exact h2
    · have hu' : mask.testBit u = false := by simpa using hu
      rw [if_pos (by simp [hu'])]
      simp only [look_cons, look_nil]
      by_cases ht : t = u
      · subst ht; exact .inr ⟨hu', by simp⟩
      · have : (t == u) = false := by simpa using ht
        simp only [this, Bool.false_eq_true, if_false]
        exact ih

theorem callLoop_sound (hX : X.Ok) {root c : Code} {p : Nat} {L : LTab O} (hL : L.Ok X root) (hat : At root p (.loop c)) {m mask : Nat} {cv cv' : List Cv} {σ : LSh} {sel sel' : St → List Nat} {xs : Ex → St → Option (XSh O)} {LF : Nat → St → Option O} {exOf : O → Ex} {stOf : O → St}
    (h0 : ∀ lk M, LF 0 (canS σ lk M) = none) (hstep : ∀ n lk M, LF (n + 1) (canS σ lk M) = evk X L c (2 * p) (canS σ lk M) (kont X m cv σ sel xs (LF n))) (hx : ∀ e st x, xs e st = some x → outOk x e exOf stOf)
    {nt : Nt} (hnt : L.tab.nt = ⟨nt.n, mask⟩) {elim : O → (Ex → St → Option R) → Option R} (helim : ∀ o k, elim o k = k (exOf o) (stOf o)) {fuel : Nat} {st : St} {k : Ex → St → Option R} {r : R}
    (h : callLoop X m mask cv' σ sel' nt (LF fuel) elim st k = some r) : ∃ e st', CodeRuns X nt (.loop c) st (Ex.exit' e) st' ∧ k e st' = some r := by
  unfold callLoop at h
  obtain ⟨st1, h, e1, e2, hcv⟩ := evcv_sound hX cv' h
  replace h := tst_some h
  obtain ⟨h1, h⟩ := h
  rw [Bool.and_eq_true, Bool.and_eq_true] at h1
  obtain ⟨⟨h1, hmask⟩, hdf1⟩ := h1
  have hdf1 : st1.dfs = [] := by simpa using hdf1
  have hmask : nt.mask &&& mask = mask := Nat.eq_of_beq_eq_true hmask
  split at h
  · cases h
  · rename_i o ho
    rw [helim] at h
    replace h := tst_some h
    obtain ⟨h2, h⟩ := h
    rw [Bool.and_eq_true] at h2
    obtain ⟨hm, hdfs⟩ := h2
    have hdfs : (stOf o).dfs = [] := by simpa using hdfs
    refine ⟨_, _, fun {rdc n w0 S F ρ a w Q} hI hs hq => ?_, h⟩
    obtain ⟨F1, ρ1, i1, s1, g1⟩ := hcv (nt := nt) (rdc := rdc) (a := a) hI hs
    obtain ⟨hok, hmem, _⟩ := enter_facts h1
    have hsub := i1.sub hX hok hd0
    have hro := rounds_sound hX hL hat h0 hstep hx fuel (lk := fun t => ren (idx (sel' st1)) 4 (look st1.env t)) (M := subM st1.mem (sel' st1)) ho (rdc := ⟨rdc.r, rdc.db, fun t => a.tmps.getD t undef⟩) (n := n) (w0 := w) (S := hand ρ1 st1.mem (sel' st1) F1) (F := F1) (ρ := sub hd0 ρ1 (sel' st1)) (a := a) (w := w) (Q := Q)
      (by have : (canS σ (fun t => ren (idx (sel' st1)) 4 (look st1.env t)) (subM st1.mem (sel' st1))).mem = subM st1.mem (sel' st1) := hmem
          rw [this]; exact hsub)
      ⟨enter_env hX h1 i1 s1.env, by rw [hnt]; exact s1.size, ?_, s1.rd, fun _ _ => rfl⟩ ?_
    · exact wpIn_loop_rounds fuel hro
    · have := s1.defs
      rw [hdf1] at this
      exact this
    · intro a' w' F' ρ' hI' hs' hg'
      obtain ⟨i3, g3, r3⟩ := i1.merge hX hok hd0 hI' hg' hm
      refine hq a' w' F' _ i3 ⟨fun t => ?_, by have := hs'.size; rw [hnt] at this; exact this, ?_, hs'.rd, fun t ht => ?_⟩ (g1.trans g3)
      · rcases look_append (renE (rno m (sel' st1) st1.mem.length) 4 (stOf o).env) (st1.env.filter (fun p => !mask.testBit p.1)) t with e | e
        · simp only [leaveS]; rw [e]; exact (hs'.env.ren hX r3 4) t
        · simp only [leaveS]; rw [e]
          rcases look_mask mask st1.env t with e' | ⟨hb, e'⟩
          · rw [e']; exact .top _
          · rw [e']
            have hk := hs'.kept t (by rw [hnt]; exact hb)
            rw [hk]
            exact (s1.env t).grow g3
      · have hd := hs'.defs
        rw [hdfs] at hd
        simp only [leaveS]
        rw [hdf1]
        exact hd
      · have hb : mask.testBit t = false := by
          rw [← hmask, Nat.testBit_and, ht, Bool.false_and]
        have hk := hs'.kept t (by rw [hnt]; exact hb)
        rw [hk]
        exact s1.kept t ht

end
end Go.Eng
