/-
  The engine, part Rd: regions that draw their order, in which stores to different blocks have no order against each other.
  The engine, part U: code.
  The engine, part V: calls on a part of the memory; a function's contract out of its code.
  The engine, part W: loops. What is carried from round to round is cut down to a shape.
  The engine, part X: loops, on: the rounds; the loop as a piece of the code around it.
  The engine, part Y: a function as a piece of the code that calls it.
  The engine, part Z: ranges over functions: the statement, and the call of yield.
  The engine, part Aa: pieces of code cut out; tables made of lists.
  The engine, part Ab: tables of types and places; entering a function.
  The engine, part Ac: what is read of the arguments, as abstract values; from a function's contract to a law's row.
  The engine, part Ad: closed runs: calls, loops and ranges all run in place.
-/
import Derived.Test.YtjiegemglmjfeaaGreatDoorGk3
import Derived.LoopNIn
import Derived.RangeFuncLeaves
import Derived.RangeFuncNested
import Derived.ProofKit
import Derived.OpenShut
import Derived.Carry
import Derived.ChangeArms
set_option linter.all false
set_option linter.deprecated false
namespace Go.Eng
open Go
noncomputable section
variable {X : Cx} {R : Type}
def cnv (k : Kind) (x : AV) : Option AV :=
  match k, x with
  | .slice t, .nilsl => some (.list t [])
  | .slice _, .own _ => none
  | _, x => some x
def cnvL : List Kind → List AV → Option (List AV)
  | k :: ks, x :: xs => (match cnv k x with | some y => (match cnvL ks xs with | some ys => some (y :: ys) | none => none) | none => none)
  | _, xs => some xs
theorem frz_cnv {k : Kind} {x y : AV} (h : cnv k x = some y) (M : List Blk) (c : AV → List Blk → Option R) : frz k x M c = c y M := by
  unfold cnv at h
  split at h
  · injection h with h; subst h; rfl
  · cases h
  · rename_i h1 h2
    injection h with h; subst h
    unfold frz
    split
    · exact absurd rfl (h1 _ rfl)
    · exact absurd rfl (h2 _ _ rfl)
    · rfl
theorem frzL_cnv : ∀ {ks : List Kind} {xs ys : List AV}, cnvL ks xs = some ys → ∀ (M : List Blk) (c : List AV → List Blk → Option R), frzL ks xs M c = c ys M
  | [], xs, ys, h, M, c => by
    cases xs <;> (simp only [cnvL, Option.some.injEq] at h; subst h; rfl)
  | k :: ks, [], ys, h, M, c => by simp only [cnvL, Option.some.injEq] at h; subst h; rfl
  | k :: ks, x :: xs, ys, h, M, c => by
    simp only [cnvL] at h
    split at h
    · rename_i y hy
      split at h
      · rename_i zs hz
        injection h with h; subst h
        simp only [frzL]
        rw [frz_cnv hy, frzL_cnv hz]
      · cases h
    · cases h
def stoL (X : Cx) (t : TypeId) (p x : AV) (M : List Blk) : Option (Nat × Blk) :=
  match p with
  | .ptr id i off =>
    match gm M id with
    | some (.var ks cs) =>
      (match x.plain && (X.ti t).ok && i == 0 && x.cells.length == (X.ti t).size && decide (off + (X.ti t).size ≤ ks.length) && ksAt ks off x.cells with
       | true => some (id, .var ks (setAt cs off x.cells))
       | false => none)
    | some (.row t' xs) =>
      (match x.plain, cnvL (X.ti t).ks x.cells with
       | true, some xc =>
         (match (X.ti t).ok && xc.length == (X.ti t).size && decide (off + (X.ti t).size ≤ (X.K t').length) && ksAt (X.K t') off xc && decide (i < xs.length) with
          | true => some (id, .row t' (xs.set i (setAt (xs.getD i []) off xc)))
          | false => none)
       | _, _ => none)
    | _ => none
  | _ => none
theorem stoL_spec {t : TypeId} {p x : AV} {M : List Blk} {id : Nat} {b : Blk} (h : stoL X t p x M = some (id, b)) : ptrIds p = [id] ∧ id < M.length ∧ ∀ (M0 : List Blk), M0[id]? = M[id]? → ∀ (k : List Blk → Option R), evStore X t p x M0 k = k (M0.set id b) := by
  unfold stoL at h
  split at h
  · rename_i id' i off
    split at h
    · rename_i ks cs hb
      split at h
      · rename_i hc
        injection h with h; injection h with h1 h2
        subst h1; subst h2
        rw [gm_eq] at hb
        refine ⟨rfl, (List.getElem?_eq_some_iff.1 hb).1, fun M0 hM k => ?_⟩
        have hb0 : M0[id']? = some (.var ks cs) := by rw [hM]; exact hb
        unfold evStore
        simp only [gm_eq, hb0, hc, tst]
      · cases h
    · rename_i t' xs hb
      split at h
      · rename_i xc hpl hcv
        split at h
        · rename_i hc
          injection h with h; injection h with h1 h2
          subst h1; subst h2
          rw [gm_eq] at hb
          refine ⟨rfl, (List.getElem?_eq_some_iff.1 hb).1, fun M0 hM k => ?_⟩
          have hb0 : M0[id']? = some (.row t' xs) := by rw [hM]; exact hb
          unfold evStore
          simp only [gm_eq, hb0, hpl, tst]
          rw [frzL_cnv hcv]
          simp only [gm_eq, hb0, hc, tst]
        · cases h
      · cases h
    · cases h
  · cases h
theorem stoL_runs (hX : X.Okb) {e : Operand → AV} {o : Oper} {t : TypeId} {p x : Operand} (ho : o.op = .store t p x) {M : List Blk} {id : Nat} {b : Blk} (h : stoL X t (e p) (e x) M = some (id, b)) {M0 : List Blk} (hM : M0[id]? = M[id]?) : OpRuns X o e M0 (.tup []) (M0.set id b) := by
  have h1 := (stoL_spec (R := AV × List Blk) h).2.2 M0 hM (fun M' => some (.tup [], M'))
  have h2 : evop0 X (tab0 (AV × List Blk)) e o M0 (fun x M => some (x, M)) = some (.tup [], M0.set id b) := by
    unfold evop0
    simp only [ho]
    exact h1
  obtain ⟨x', M', hrun, he, _⟩ := evop0_sound hX (tab0_ok X _) h2
  injection he with he
  injection he with e1 e2
  subst e1; subst e2
  exact @hrun
def isSt (o : Oper) : Bool := match o.op with | .store _ _ _ => true | _ => false
def isLc (t : Ent) : Bool := !t.q && isSt t.o
def idLc (t : Ent) : Nat := t.ids.headD 0
def bLc (t : Ent) : Blk := (t.M'[idLc t]?).getD .dead
def okPairL (ops : Array Oper) (t s : Ent) : Bool :=
  !(t.i == s.i) && !(t.o.dst.isSome && t.o.dst == s.o.dst) &&
  (t.cl.testBit s.i ||
    (!hits s.o.dst (readsOf t.o ++ guardOf ops t.o) && !hits t.o.dst (readsOf s.o ++ guardOf ops s.o) &&
      match t.q, s.q with
      | true, true => true
      | false, false => isLc t && isLc s && !(Nat.beq (idLc t) (idLc s))
      | true, false => t.ids.all fun id => s.keeps id
      | false, true => (match isLc t with | true => s.ids.all fun id => !(Nat.beq id (idLc t)) | false => s.ids.all fun id => t.keeps id)))
theorem okPairL_spec {ops : Array Oper} {t s : Ent} (h : okPairL ops t s = true) : t.i ≠ s.i ∧ (∀ d, t.o.dst = some d → s.o.dst ≠ some d) ∧
    (t.cl.testBit s.i = true ∨ ((∀ d, s.o.dst = some d → d ∉ readsOf t.o ++ guardOf ops t.o) ∧ (∀ d, t.o.dst = some d → d ∉ readsOf s.o ++ guardOf ops s.o) ∧ (t.q = false → s.q = false → isLc t = true ∧ isLc s = true ∧ idLc t ≠ idLc s) ∧
      (t.q = true → s.q = false → ∀ id ∈ t.ids, s.Keeps id) ∧ (t.q = false → s.q = true → ∀ id ∈ s.ids, (isLc t = true → id ≠ idLc t) ∧ (isLc t = false → t.Keeps id)))) := by
  unfold okPairL at h
  rw [Bool.and_eq_true, Bool.and_eq_true, Bool.or_eq_true] at h
  obtain ⟨⟨h1, h2⟩, h3⟩ := h
  refine ⟨by simpa using h1, fun d hd hs => by simp [hd, hs] at h2, ?_⟩
  rcases h3 with h3 | h3
  · exact .inl h3
  · refine .inr ?_
    rw [Bool.and_eq_true, Bool.and_eq_true] at h3
    obtain ⟨⟨h4, h5⟩, h6⟩ := h3
    refine ⟨hits_not h4, hits_not h5, ?_, ?_, ?_⟩
    · intro ht hs
      rw [ht, hs] at h6
      simp only [Bool.and_eq_true, Bool.not_eq_true'] at h6
      exact ⟨h6.1.1, h6.1.2, fun e => by rw [e] at h6; simp at h6⟩
    · intro ht hs id hid
      rw [ht, hs] at h6
      exact Ent.keeps_spec (List.all_eq_true.1 h6 id hid)
    · intro ht hs id hid
      rw [ht, hs] at h6
      simp only at h6
      constructor
      · intro hl
        rw [hl] at h6
        have := List.all_eq_true.1 h6 id hid
        intro e
        rw [e] at this
        simp at this
      · intro hl
        rw [hl] at h6
        exact Ent.keeps_spec (List.all_eq_true.1 h6 id hid)
def Ent.RunsL (X : Cx) (nt : Nt) (ops : Array Oper) (t : Ent) : Prop :=
  ∀ {M0 : List Blk}, M0[idLc t]? = t.M[idLc t]? →
    ∀ {rdc : Cy} {n : Nat} {w0 : World} {S : Sc} {F : Addr → Prop} {ρ : List Hd} {a : Act} {w : World} {Q : Exit → Act → World → Prop} {K : Act → World → Prop}, Inv X w0 S F ρ M0 w → a.tmps.size = nt.n →
      (∀ u ∈ readsOf t.o ++ guardOf ops t.o, Rep X.K ρ F w (look t.env u) (a.tmps.getD u undef)) →
      (∀ v w' F' ρ', Inv X w0 S F' ρ' (M0.set (idLc t) (bLc t)) w' → Rep X.K ρ' F' w' t.x v → Grow F F' ρ ρ' w w' → K (a.put t.o.dst v) w') → wpOpIn (fen rdc.r) n X.P ops Q t.i K a w
structure StepL (X : Cx) (nt : Nt) (ops : Array Oper) (t : Ent) (log : List Ent) (env1 : List (Nat × AV)) (M1 : List Blk) (env : List (Nat × AV)) (M : List Blk) : Prop where
  henv : ∀ u, look t.env u = look env1 u
  hM : t.M = M1
  hq : t.q = true → t.M' = t.M
  hag : t.q = false → Agree t.ids t.M t.M'
  runs : isLc t = false → t.Runs X nt ops
  lc : isLc t = true → t.RunsL X nt ops ∧ idLc t < t.M.length ∧ t.M' = t.M.set (idLc t) (bLc t)
  op : ops[t.i]? = some t.o
  dst : ∀ d, t.o.dst = some d → d < nt.n ∧ nt.mask.testBit d = true
  pair : ∀ s ∈ log, okPairL ops t s = true
  pre : ∀ e ∈ t.o.after, Region.binds .any e = true → ∃ s ∈ log, s.i = e.on
  cl : ∀ w, t.cl.testBit w = true → ∃ e ∈ t.o.after, Region.binds .any e = true ∧ (w = e.on ∨ ∃ s ∈ log, s.i = e.on ∧ s.cl.testBit w = true)
  lk : ∀ u, look env u = (if t.o.dst = some u then t.x else look env1 u)
  mem : M = t.M'
def LogL (X : Cx) (nt : Nt) (ops : Array Oper) (env0 : List (Nat × AV)) (M0 : List Blk) : List Ent → List (Nat × AV) → List Blk → Prop
  | [], env, M => (∀ u, look env u = look env0 u) ∧ M = M0
  | t :: log, env, M => ∃ env1 M1, LogL X nt ops env0 M0 log env1 M1 ∧ StepL X nt ops t log env1 M1 env M
def memL (M0 : List Blk) (L : Array Bool) : List Ent → List Blk
  | [] => M0
  | t :: log => if t.q = false ∧ isIn L t.i then (if isLc t = true then (memL M0 L log).set (idLc t) (bLc t) else t.M') else memL M0 L log
theorem isLc_q {t : Ent} (h : isLc t = true) : t.q = false := by
  unfold isLc at h; rw [Bool.and_eq_true] at h; simpa using h.1
section
variable {nt : Nt} {ops : Array Oper} {env0 : List (Nat × AV)} {M0 : List Blk} {L : Array Bool}
theorem LogL.look : ∀ {log : List Ent} {env : List (Nat × AV)} {M : List Blk}, LogL X nt ops env0 M0 log env M → ∀ u, (∃ s ∈ log, s.o.dst = some u ∧ Eng.look env u = s.x) ∨ ((∀ s ∈ log, s.o.dst ≠ some u) ∧ Eng.look env u = Eng.look env0 u)
  | [], env, M, ⟨h, _⟩, u => .inr ⟨fun s hs => by simp at hs, h u⟩
  | t :: log, env, M, ⟨_, _, hl, st⟩, u => by
    rw [st.lk u]
    split
    · rename_i hd; exact .inl ⟨t, List.mem_cons_self, hd, rfl⟩
    · rename_i hd
      rcases LogL.look hl u with ⟨s, hs, h⟩ | ⟨h1, h2⟩
      · exact .inl ⟨s, List.mem_cons_of_mem _ hs, h⟩
      · refine .inr ⟨fun s hs => ?_, h2⟩
        rcases List.mem_cons.1 hs with rfl | hs
        · exact hd
        · exact h1 s hs
theorem LogL.closed : ∀ {log : List Ent} {env : List (Nat × AV)} {M : List Blk}, LogL X nt ops env0 M0 log env M → Closed L log → ∀ t ∈ log, (∀ e ∈ t.o.after, Region.binds .any e = true → isIn L e.on) → ∀ w, t.cl.testBit w = true → isIn L w
  | [], _, _, _, _, t, ht, _, _, _ => by simp at ht
  | t :: log, _, _, ⟨_, _, hl, st⟩, hcl, s, hs, hp, w, hw => by
    have ih := LogL.closed hl (fun a ha => hcl a (List.mem_cons_of_mem _ ha))
    rcases List.mem_cons.1 hs with rfl | hs
    · obtain ⟨e, he, hb, rfl | ⟨u, hu, hui, hut⟩⟩ := st.cl w hw
      · exact hp e he hb
      · exact ih u hu (hcl u (List.mem_cons_of_mem _ hu) (by rw [hui]; exact hp e he hb)) w hut
    · exact ih s hs hp w hw
theorem LogL.entry {t : Ent} {l1 : List Ent} : ∀ {l2 : List Ent} {env' : List (Nat × AV)} {M' : List Blk}, LogL X nt ops env0 M0 (l2 ++ t :: l1) env' M' → ∃ env1 M1 env M, LogL X nt ops env0 M0 l1 env1 M1 ∧ StepL X nt ops t l1 env1 M1 env M
  | [], _, _, ⟨_, _, hl, st⟩ => ⟨_, _, _, _, hl, st⟩
  | _ :: l2, _, _, ⟨_, _, hl, _⟩ => LogL.entry (l2 := l2) hl
theorem LogL.distinct {log : List Ent} : ∀ {env : List (Nat × AV)} {M : List Blk}, LogL X nt ops env0 M0 log env M → ∀ s ∈ log, ∀ t ∈ log, s.i = t.i → s = t := by
  induction log with
  | nil => intro _ _ _ s hs; simp at hs
  | cons a log ih =>
    intro env M h s hs t ht e
    obtain ⟨_, _, hl, st⟩ := h
    rcases List.mem_cons.1 hs with rfl | hs' <;> rcases List.mem_cons.1 ht with rfl | ht'
    · rfl
    · exact absurd e (okPairL_spec (st.pair t ht')).1
    · exact absurd e.symm (okPairL_spec (st.pair s hs')).1
    · exact ih hl s hs' t ht' e
theorem LogL.dst {log : List Ent} : ∀ {env : List (Nat × AV)} {M : List Blk}, LogL X nt ops env0 M0 log env M → ∀ s ∈ log, ∀ t ∈ log, ∀ d, s.o.dst = some d → t.o.dst = some d → s = t := by
  induction log with
  | nil => intro _ _ _ s hs; simp at hs
  | cons a log ih =>
    intro env M h s hs t ht d h1 h2
    obtain ⟨_, _, hl, st⟩ := h
    rcases List.mem_cons.1 hs with rfl | hs' <;> rcases List.mem_cons.1 ht with rfl | ht'
    · rfl
    · exact absurd h2 ((okPairL_spec (st.pair t ht')).2.1 d h1)
    · exact absurd h1 ((okPairL_spec (st.pair s hs')).2.1 d h2)
    · exact ih hl s hs' t ht' d h1 h2
theorem LogL.mem_all : ∀ {log : List Ent} {env : List (Nat × AV)} {M : List Blk}, LogL X nt ops env0 M0 log env M → (∀ s ∈ log, s.q = false → isIn L s.i) → memL M0 L log = M
  | [], _, _, ⟨_, h⟩, _ => h.symm
  | t :: log, _, _, ⟨_, _, hl, st⟩, h => by
    have ih := LogL.mem_all hl (fun s hs => h s (List.mem_cons_of_mem _ hs))
    simp only [memL]
    cases hq : t.q with
    | false =>
      rw [if_pos ⟨rfl, h t List.mem_cons_self hq⟩]
      split
      · rename_i hlc
        rw [ih, ← st.hM, st.mem]
        exact (st.lc hlc).2.2.symm
      · exact st.mem.symm
    | true => rw [if_neg (by simp), ih, st.mem, st.hq hq, st.hM]
theorem LogL.mem_len : ∀ {log : List Ent} {env : List (Nat × AV)} {M : List Blk}, LogL X nt ops env0 M0 log env M → (∀ s ∈ log, s.q = false → isLc s = false → isIn L s.i) → (memL M0 L log).length = M.length
  | [], _, _, ⟨_, h⟩, _ => by rw [h]; rfl
  | t :: log, _, _, ⟨_, _, hl, st⟩, h => by
    have ih := LogL.mem_len hl (fun s hs => h s (List.mem_cons_of_mem _ hs))
    simp only [memL]
    cases hq : t.q with
    | true => rw [if_neg (by simp), ih, st.mem, st.hq hq, st.hM]
    | false =>
      cases hlc : isLc t with
      | true =>
        have hm := (st.lc hlc).2.2
        by_cases hin : isIn L t.i
        · rw [if_pos ⟨rfl, hin⟩, if_pos rfl, List.length_set, ih, st.mem, hm, List.length_set, st.hM]
        · rw [if_neg (fun hh => hin hh.2), ih, st.mem, hm, List.length_set, st.hM]
      | false => rw [if_pos ⟨rfl, h t List.mem_cons_self hq hlc⟩, if_neg (by simp), st.mem]
theorem bLc_get {t : Ent} {log : List Ent} {env1 env : List (Nat × AV)} {M1 M : List Blk} (st : StepL X nt ops t log env1 M1 env M) (hlc : isLc t = true) : t.M'[idLc t]? = some (bLc t) := by
  obtain ⟨_, h2, h3⟩ := st.lc hlc
  rw [h3, List.getElem?_set_self h2]
theorem LogL.mem_new {t : Ent} {l1 : List Ent} {id : Nat} (hnot : ¬ isIn L t.i) {v : Option Blk} :
    ∀ {l2 : List Ent} {env' : List (Nat × AV)} {M' : List Blk}, LogL X nt ops env0 M0 (l2 ++ t :: l1) env' M' → Closed L (l2 ++ t :: l1) → (memL M0 L (t :: l1))[id]? = v →
      (∀ s ∈ l2, s.q = false → isIn L s.i → okPairL ops s t = true → isLc s = true → id ≠ idLc s) → (∀ s ∈ l2, s.q = false → isIn L s.i → okPairL ops s t = true → isLc s = false → ∀ l env M, LogL X nt ops env0 M0 (s :: l) env M → s.M'[id]? = s.M[id]?) →
      (memL M0 L (l2 ++ t :: l1))[id]? = v
  | [], _, _, _, _, h0, _, _ => h0
  | s :: l2, env', M', hL, hcl, h0, h1, h2 => by
    obtain ⟨_, _, hl, st⟩ := _root_.id hL
    have ih := LogL.mem_new hnot (l2 := l2) hl (fun a ha => hcl a (List.mem_cons_of_mem _ ha)) h0 (fun r hr => h1 r (List.mem_cons_of_mem _ hr)) (fun r hr => h2 r (List.mem_cons_of_mem _ hr))
    simp only [List.cons_append, memL]
    by_cases hc : s.q = false ∧ isIn L s.i
    · have hp := st.pair t (List.mem_append_right _ List.mem_cons_self)
      rw [if_pos hc]
      split
      · rename_i hlc
        rw [List.getElem?_set_ne (Ne.symm (h1 s List.mem_cons_self hc.1 hc.2 hp hlc))]
        exact ih
      · rename_i hlc
        have hlc' : isLc s = false := by simpa using hlc
        rw [h2 s List.mem_cons_self hc.1 hc.2 hp hlc' _ _ _ hL, st.hM]
        rw [← ih]
        have hcs := LogL.closed (L := L) hL hcl s List.mem_cons_self (hcl s List.mem_cons_self hc.2)
        have : memL M0 L (l2 ++ t :: l1) = _ := LogL.mem_all (L := L) hl fun r hr hrq => by
          obtain ⟨_, _, h | ⟨_, _, h, _⟩⟩ := okPairL_spec (st.pair r hr)
          · exact hcs _ h
          · have := (h hc.1 hrq).1
            rw [hlc'] at this; cases this
        rw [this]
    · rw [if_neg hc]; exact ih
theorem LogL.reads {t : Ent} {l1 : List Ent} (hnot : ¬ isIn L t.i) {u : Nat} (hu : u ∈ readsOf t.o ++ guardOf ops t.o) {P : AV → Prop} :
    ∀ {l2 : List Ent} {env' : List (Nat × AV)} {M' : List Blk}, LogL X nt ops env0 M0 (l2 ++ t :: l1) env' M' → Closed L (l2 ++ t :: l1) → (∀ e ∈ t.o.after, Region.binds .any e = true → isIn L e.on) →
      (∀ s ∈ l1, t.cl.testBit s.i = true → s.o.dst = some u → P s.x) → ((∀ s ∈ l2 ++ t :: l1, isIn L s.i → s.o.dst ≠ some u) → P (Eng.look env0 u)) → P (Eng.look t.env u)
  | [], env', M', hL, hcl, hpre, hw, h0 => by
    obtain ⟨_, _, hl, st⟩ := hL
    rw [st.henv u]
    rcases LogL.look hl u with ⟨s, hs, hd, he⟩ | ⟨hn, he⟩
    · rw [he]
      refine hw s hs ?_ hd
      obtain ⟨_, _, h | ⟨h, _⟩⟩ := okPairL_spec (st.pair s hs)
      · exact h
      · exact absurd hu (h u hd)
    · rw [he]
      refine h0 fun s hs hsi hd => ?_
      rcases List.mem_cons.1 hs with rfl | hs
      · exact hnot hsi
      · exact hn s hs hd
  | s :: l2, env', M', hL, hcl, hpre, hw, h0 => by
    obtain ⟨_, _, hl, st⟩ := _root_.id hL
    refine LogL.reads hnot hu (l2 := l2) hl (fun a ha => hcl a (List.mem_cons_of_mem _ ha)) hpre hw fun hn => h0 fun r hr hri hd => ?_
    rcases List.mem_cons.1 hr with rfl | hr
    · have hcs := LogL.closed (L := L) hL hcl r List.mem_cons_self (hcl r List.mem_cons_self hri)
      obtain ⟨_, _, h | ⟨_, h, _⟩⟩ := okPairL_spec (st.pair t (List.mem_append_right _ List.mem_cons_self))
      · exact hnot (hcs _ h)
      · exact h u hd hu
    · exact hn r hr hri hd
theorem memL_congr {L' : Array Bool} : ∀ {log : List Ent}, (∀ s ∈ log, s.q = false → (isIn L s.i ↔ isIn L' s.i)) → memL M0 L log = memL M0 L' log
  | [], _ => rfl
  | t :: log, h => by
    have ih := memL_congr (L' := L') (log := log) fun s hs => h s (List.mem_cons_of_mem _ hs)
    simp only [memL]
    by_cases hq : t.q = false
    · have := h t List.mem_cons_self hq
      by_cases hin : isIn L t.i
      · rw [ih, if_pos ⟨hq, hin⟩]
        exact (if_pos ⟨hq, this.1 hin⟩).symm
      · rw [if_neg (fun hh => hin hh.2), if_neg (fun hh => hin (this.2 hh.2)), ih]
    · rw [if_neg (fun hh => hq hh.1), if_neg (fun hh => hq hh.1), ih]
end
structure MidL (X : Cx) (nt : Nt) (env0 : List (Nat × AV)) (M0 : List Blk) (w0 : World) (S : Sc) (F0 : Addr → Prop) (ρ0 : List Hd) (wb : World) (ds : List Deferred) (tv : Nat → Value) (log : List Ent) (L : Array Bool) (F : Addr → Prop) (ρ : List Hd) (a : Act) (w : World) : Prop where
  inv : Inv X w0 S F ρ (memL M0 L log) w
  grow : Grow F0 F ρ0 ρ wb w
  size : a.tmps.size = nt.n
  defs : a.defers = ds
  kept : ∀ t, nt.mask.testBit t = false → a.tmps.getD t undef = tv t
  wrote : ∀ s ∈ log, isIn L s.i → ∀ d, s.o.dst = some d → Rep X.K ρ F w s.x (a.tmps.getD d undef)
  old : ∀ u, (∀ s ∈ log, isIn L s.i → s.o.dst ≠ some u) → Rep X.K ρ F w (Eng.look env0 u) (a.tmps.getD u undef)
section
variable {nt : Nt} {ops : Array Oper} {env0 : List (Nat × AV)} {M0 : List Blk}
theorem any_runsL {rdc : Cy} {n : Nat} {w0 wb : World} {S : Sc} {F0 : Addr → Prop} {ρ0 : List Hd} {ds : List Deferred} {tv : Nat → Value} {Q : Exit → Act → World → Prop} {log : List Ent} {env : List (Nat × AV)} {M : List Blk} (hL : LogL X nt ops env0 M0 log env M)
    (hall : ∀ i, i < ops.size → ∃ t ∈ log, t.i = i)
    (hQ : ∀ a' w' F' ρ', Inv X w0 S F' ρ' M w' → EnvRep X ρ' F' w' env a'.tmps → a'.tmps.size = nt.n → a'.defers = ds → (∀ t, nt.mask.testBit t = false → a'.tmps.getD t undef = tv t) → Grow F0 F' ρ0 ρ' wb w' → Q .normal a' w') :
    ∀ (fuel : Nat) (L : Array Bool) (F : Addr → Prop) (ρ : List Hd) (a : Act) (w : World), L.size = ops.size → log.countP (fun t => !(L.getD t.i false)) ≤ fuel → Closed L log →
      MidL X nt env0 M0 w0 S F0 ρ0 wb ds tv log L F ρ a w → wpAnyIn (fen rdc.r) n X.P .any ops Q fuel L a w := by
  have done : ∀ (L : Array Bool) (F : Addr → Prop) (ρ : List Hd) (a : Act) (w : World), (∀ t ∈ log, isIn L t.i) → MidL X nt env0 M0 w0 S F0 ρ0 wb ds tv log L F ρ a w → Q .normal a w := by
    intro L F ρ a w hin hm
    refine hQ a w F ρ ?_ (fun u => ?_) hm.size hm.defs hm.kept hm.grow
    · have := LogL.mem_all hL (L := L) (fun s hs _ => hin s hs)
      rw [← this]
      exact hm.inv
    · rcases LogL.look hL u with ⟨s, hs, hd, he⟩ | ⟨hn, he⟩
      · rw [he]; exact hm.wrote s hs (hin s hs) u hd
      · rw [he]; exact hm.old u fun s hs _ => hn s hs
  have none_ready : ∀ (L : Array Bool), L.size = ops.size → Region.ready .any ops L = [] → ∀ t ∈ log, isIn L t.i := by
    intro L hsz hr
    have key : ∀ (l1 : List Ent) (l2 : List Ent) (env' : List (Nat × AV)) (M' : List Blk), LogL X nt ops env0 M0 l1 env' M' → l2 ++ l1 = log → ∀ t ∈ l1, isIn L t.i := by
      intro l1
      induction l1 with
      | nil => intro _ _ _ _ _ t ht; simp at ht
      | cons s l1 ih =>
        intro l2 env' M' hl he t ht
        obtain ⟨env1, M1, hl1, st⟩ := hl
        have ih' := ih (l2 ++ [s]) env1 M1 hl1 (by simpa using he)
        rcases List.mem_cons.1 ht with rfl | ht
        · by_cases hin : isIn L t.i
          · exact hin
          · exfalso
            have hmem : t.i ∈ Region.ready .any ops L := by
              rw [mem_ready]
              have hlt : t.i < ops.size := (Array.getElem?_eq_some_iff.1 st.op).1
              refine ⟨?_, t.o, st.op, fun e hee hb => ?_⟩
              · have : t.i < L.size := by omega
                simp only [isIn, Array.getD_eq_getD_getElem?, Array.getElem?_eq_getElem this, Option.getD_some] at hin ⊢
                simpa using hin
              · obtain ⟨r, hr', hri⟩ := st.pre e hee hb
                rw [← hri]; exact ih' r hr'
            rw [hr] at hmem
            simp at hmem
        · exact ih' t ht
    exact fun t ht => key log [] env M hL rfl t ht
  intro fuel
  induction fuel with
  | zero =>
    intro L F ρ a w hsz hcnt hcl hm
    have hin : ∀ t ∈ log, isIn L t.i := by
      intro t ht
      have h0 : log.countP (fun t => !(L.getD t.i false)) = 0 := by omega
      have := List.countP_eq_zero.1 h0 t ht
      cases hb : L.getD t.i false with
      | true => exact hb
      | false => exact absurd (by simp only [hb, Bool.not_false]) this
    refine ⟨?_, done L F ρ a w hin hm⟩
    cases hr : Region.ready .any ops L with
    | nil => rfl
    | cons i is =>
      exfalso
      have hmem : i ∈ Region.ready .any ops L := by rw [hr]; exact List.mem_cons_self
      rw [mem_ready] at hmem
      obtain ⟨hf, o, ho, _⟩ := hmem
      have hlt : i < ops.size := (Array.getElem?_eq_some_iff.1 ho).1
      obtain ⟨t, ht, rfl⟩ := hall i hlt
      have h1 := hin t ht
      have : t.i < L.size := by omega
      simp only [isIn, Array.getD_eq_getD_getElem?, Array.getElem?_eq_getElem this, Option.getD_some] at h1 hf
      rw [h1] at hf; cases hf
  | succ fuel ih =>
    intro L F ρ a w hsz hcnt hcl hm
    refine ⟨fun hr => done L F ρ a w (none_ready L hsz hr) hm, fun i hi => ?_⟩
    rw [mem_ready] at hi
    obtain ⟨hf, o, ho, hpre⟩ := hi
    have hlt : i < ops.size := (Array.getElem?_eq_some_iff.1 ho).1
    obtain ⟨t, ht, rfl⟩ := hall i hlt
    have hltL : t.i < L.size := by omega
    have hnot : ¬ isIn L t.i := by
      simp only [isIn, Array.getD_eq_getD_getElem?, Array.getElem?_eq_getElem hltL, Option.getD_some] at hf ⊢
      rw [hf]; simp
    obtain ⟨l2, l1, rfl⟩ := List.append_of_mem ht
    obtain ⟨env1, M1, envE, ME, hl1, st⟩ := LogL.entry hL
    have hoo : t.o = o := by have hto := st.op; rw [ho] at hto; injection hto with hto; exact hto.symm
    subst hoo
    have hclt := LogL.closed (L := L) hL hcl t ht hpre
    have hclo : ∀ s ∈ l2 ++ t :: l1, isIn L s.i → ∀ w, s.cl.testBit w = true → isIn L w := fun s hs hsi => LogL.closed (L := L) hL hcl s hs (hcl s hs hsi)
    have hin' : ∀ j, isIn (L.setIfInBounds t.i true) j ↔ j = t.i ∨ isIn L j := by
      intro j
      by_cases hj : j = t.i
      · subst hj; simp [isIn, Array.getD_eq_getD_getElem?, hltL]
      · simp only [isIn]; rw [getD_set_ne false (Ne.symm hj)]; simp [hj]
    have old : ∀ (id : Nat), (∀ s ∈ l1, s.q = false → t.cl.testBit s.i = true ∨ s.Keeps id) → (memL M0 L l1)[id]? = t.M[id]? := by
      intro id hk
      rw [st.hM]
      have key : ∀ (l l' : List Ent) (e : List (Nat × AV)) (N : List Blk), l' ++ l = l1 → LogL X nt ops env0 M0 l e N → (memL M0 L l)[id]? = N[id]? := by
        intro l
        induction l with
        | nil => intro _ _ _ _ h; rw [h.2]; rfl
        | cons s l ihl =>
          intro l' e N hll hls
          obtain ⟨_, _, hl0, st0⟩ := hls
          have ih0 := ihl (l' ++ [s]) _ _ (by simpa using hll) hl0
          have hs1 : s ∈ l1 := by rw [← hll]; exact List.mem_append_right _ List.mem_cons_self
          have hsm : s ∈ l2 ++ t :: l1 := List.mem_append_right _ (List.mem_cons_of_mem _ hs1)
          simp only [memL]
          cases hsq : s.q with
          | true => rw [if_neg (by simp), ih0, st0.mem, st0.hq hsq, st0.hM]
          | false =>
            by_cases hin : isIn L s.i
            · rw [if_pos ⟨rfl, hin⟩]
              split
              · rename_i hlc
                obtain ⟨_, h2, h3⟩ := st0.lc hlc
                have hlen : (memL M0 L l).length = s.M.length := by
                  rw [st0.hM]
                  refine LogL.mem_len hl0 fun r hr hrq hrl => ?_
                  obtain ⟨_, _, h | ⟨_, _, h, _⟩⟩ := okPairL_spec (st0.pair r hr)
                  · exact hclo s hsm hin _ h
                  · have := (h hsq hrq).2.1
                    rw [hrl] at this; cases this
                by_cases hid : id = idLc s
                · subst hid
                  rw [List.getElem?_set_self (by omega), st0.mem, bLc_get st0 hlc]
                · rw [List.getElem?_set_ne (Ne.symm hid), ih0, st0.mem, h3, List.getElem?_set_ne (Ne.symm hid), st0.hM]
              · exact congrArg (·[id]?) st0.mem.symm
            · rw [if_neg (fun hh => hin hh.2), ih0]
              rcases hk s hs1 hsq with h | h
              · exact absurd (hclt _ h) hin
              · rw [st0.mem, h.at (st0.hag hsq), st0.hM]
      exact key l1 [] _ _ rfl hl1
    have hself : memL M0 L (t :: l1) = memL M0 L l1 := by
      simp only [memL]
      rw [if_neg fun hh => hnot hh.2]
    have new : ∀ (id : Nat), (∀ s ∈ l2, s.q = false → isIn L s.i → okPairL ops s t = true → isLc s = true → id ≠ idLc s) → (∀ s ∈ l2, s.q = false → isIn L s.i → okPairL ops s t = true → isLc s = false → s.Keeps id) → (memL M0 L l1)[id]? = t.M[id]? → (memL M0 L (l2 ++ t :: l1))[id]? = t.M[id]? := by
      intro id h1 h2 h0
      refine LogL.mem_new hnot hL hcl (by rw [hself]; exact h0) h1 fun s hs hsq hsi hp hlc l env M hLs => ?_
      obtain ⟨_, _, _, st2⟩ := hLs
      exact (h2 s hs hsq hsi hp hlc).at (st2.hag hsq)
    have fin : ∀ (F2 : Addr → Prop) (ρ2 : List Hd) (v : Value) (w2 : World), Inv X w0 S F2 ρ2 (memL M0 (L.setIfInBounds t.i true) (l2 ++ t :: l1)) w2 → Grow F F2 ρ ρ2 w w2 → Rep X.K ρ2 F2 w2 t.x v → wpAnyIn (fen rdc.r) n X.P .any ops Q fuel (L.setIfInBounds t.i true) (a.put t.o.dst v) w2 := by
      intro F' ρ' v w' hI' hg hx
      refine ih (L.setIfInBounds t.i true) F' ρ' _ w' (by simpa using hsz) ?_ ?_ ⟨hI', hm.grow.trans hg, by simp only [Act.put]; split <;> simp [hm.size], by simp only [Act.put]; split <;> exact hm.defs, ?_, ?_, ?_⟩
      · have := countP_lt (l := l2 ++ t :: l1) (p := fun t => !(L.getD t.i false)) (q := fun s => !((L.setIfInBounds t.i true).getD s.i false)) (fun s hs h => by
          have h' : ¬ isIn (L.setIfInBounds t.i true) s.i := by simpa [isIn] using h
          rw [hin'] at h'
          have : ¬ isIn L s.i := fun hh => h' (.inr hh)
          simpa [isIn] using this) ⟨t, ht, by simpa [isIn] using hnot, by have := (hin' t.i).2 (.inl rfl); simpa [isIn] using this⟩
        omega
      · intro s hs hsi e he hb
        rw [hin'] at hsi ⊢
        rcases hsi with h | h
        · have := LogL.distinct hL s hs t ht h
          subst this
          exact .inr (hpre e he hb)
        · exact .inr (hcl s hs h e he hb)
      · cases htd : t.o.dst with
        | none => exact hm.kept
        | some d => exact kept_put (st.dst d htd).2 hm.kept
      · intro s hs hsi d hd
        rw [hin'] at hsi
        by_cases hst : s = t
        · subst hst
          have hlt' := (st.dst d hd).1
          have : (a.put s.o.dst v).tmps.getD d undef = v := by
            simp [Act.put, hd, Array.getD_eq_getD_getElem?, hm.size, hlt']
          rw [this]
          exact hx
        · have hsi' : isIn L s.i := by
            rcases hsi with h | h
            · exact absurd (LogL.distinct hL s hs t ht h) hst
            · exact h
          have : (a.put t.o.dst v).tmps.getD d undef = a.tmps.getD d undef := by
            cases htd : t.o.dst with
            | none => rfl
            | some d' =>
              have hne : d' ≠ d := fun e => hst (LogL.dst hL s hs t ht d hd (e ▸ htd))
              simp [Act.put, Array.getD_eq_getD_getElem?, Array.getElem?_setIfInBounds_ne hne]
          rw [this]
          exact (hm.wrote s hs hsi' d hd).grow hg
      · intro u hu
        have htu : t.o.dst ≠ some u := hu t ht ((hin' _).2 (.inl rfl))
        have : (a.put t.o.dst v).tmps.getD u undef = a.tmps.getD u undef := by
          cases htd : t.o.dst with
          | none => rfl
          | some d' =>
            have hne : d' ≠ u := fun e => htu (e ▸ htd)
            simp [Act.put, Array.getD_eq_getD_getElem?, Array.getElem?_setIfInBounds_ne hne]
        rw [this]
        exact (hm.old u fun s hs hsi => hu s hs ((hin' _).2 (.inr hsi))).grow hg
    have hreads : ∀ u ∈ readsOf t.o ++ guardOf ops t.o, Rep X.K ρ F w (Eng.look t.env u) (a.tmps.getD u undef) := fun u hu =>
      LogL.reads (P := fun x => Rep X.K ρ F w x (a.tmps.getD u undef)) hnot hu hL hcl hpre (fun s hs hcb hd => hm.wrote s (List.mem_append_right _ (List.mem_cons_of_mem _ hs)) (hclt _ hcb) u hd) (hm.old u)
    have unord : ∀ s ∈ l2, isIn L s.i → okPairL ops s t = true → (t.q = false → s.q = false → isLc s = true ∧ isLc t = true ∧ idLc s ≠ idLc t) ∧ (s.q = false → t.q = true → ∀ id ∈ t.ids, (isLc s = true → id ≠ idLc s) ∧ (isLc s = false → s.Keeps id)) := by
      intro s hs hsi hp
      obtain ⟨_, _, h | ⟨_, _, h1, _, h2⟩⟩ := okPairL_spec hp
      · exact absurd (hclo s (List.mem_append_left _ hs) hsi _ h) hnot
      · exact ⟨fun a b => h1 b a, fun a b => h2 a b⟩
    cases hlc : isLc t with
    | true =>
      have htq := isLc_q hlc
      obtain ⟨hrun, hlt2, hM'⟩ := st.lc hlc
      have hM0 : (memL M0 L (l2 ++ t :: l1))[idLc t]? = t.M[idLc t]? := by
        refine new _ (fun s hs hsq hsi hp _ => ?_) (fun s hs hsq hsi hp hl => ?_) (old _ fun s hs hsq => ?_)
        · exact fun e => ((unord s hs hsi hp).1 htq hsq).2.2 e.symm
        · have := ((unord s hs hsi hp).1 htq hsq).1
          rw [hl] at this; cases this
        · obtain ⟨_, _, h | ⟨_, _, h, _⟩⟩ := okPairL_spec (st.pair s hs)
          · exact .inl h
          · obtain ⟨_, h2, h3⟩ := h htq hsq
            obtain ⟨b, c, hbc⟩ := List.append_of_mem hs
            obtain ⟨_, _, _, _, _, st2⟩ := LogL.entry (hbc ▸ hl1)
            refine .inr (.inr ?_)
            rw [(st2.lc h2).2.2, List.getElem?_set_ne (Ne.symm h3)]
      refine hrun (M0 := memL M0 L (l2 ++ t :: l1)) hM0 hm.inv hm.size hreads ?_
      intro v w' F' ρ' hI' hx hg
      refine fin F' ρ' v w' ?_ hg hx
      have hmem : memL M0 (L.setIfInBounds t.i true) (l2 ++ t :: l1) = (memL M0 L (l2 ++ t :: l1)).set (idLc t) (bLc t) := by
        have key : ∀ (b : List Ent), (∀ s ∈ b, s ∈ l2) → memL M0 (L.setIfInBounds t.i true) (b ++ t :: l1) = (memL M0 L (b ++ t :: l1)).set (idLc t) (bLc t) := by
          intro b
          induction b with
          | nil =>
            intro _
            rw [List.nil_append, hself]
            simp only [memL]
            rw [if_pos ⟨htq, (hin' _).2 (.inl rfl)⟩, if_pos hlc]
            congr 1
            refine memL_congr fun s hs _ => ?_
            rw [hin']
            exact ⟨fun h => h.resolve_left fun e => (okPairL_spec (st.pair s hs)).1 e.symm, .inr⟩
          | cons s b ihb =>
            intro hb
            have ihb' := ihb (fun r hr => hb r (List.mem_cons_of_mem _ hr))
            have hs2 := hb s List.mem_cons_self
            have hst : s.i ≠ t.i := by
              obtain ⟨m2, m1, hmm⟩ := List.append_of_mem hs2
              have hL2 : LogL X nt ops env0 M0 (m2 ++ s :: (m1 ++ t :: l1)) env M := by rw [hmm] at hL; simpa using hL
              obtain ⟨_, _, _, _, _, stS⟩ := LogL.entry hL2
              exact (okPairL_spec (stS.pair t (List.mem_append_right _ List.mem_cons_self))).1
            have hp : okPairL ops s t = true := by
              obtain ⟨m2, m1, hmm⟩ := List.append_of_mem hs2
              have hL2 : LogL X nt ops env0 M0 (m2 ++ s :: (m1 ++ t :: l1)) env M := by rw [hmm] at hL; simpa using hL
              obtain ⟨_, _, _, _, _, stS⟩ := LogL.entry hL2
              exact stS.pair t (List.mem_append_right _ List.mem_cons_self)
            simp only [List.cons_append, memL]
            by_cases hc : s.q = false ∧ isIn L s.i
            · obtain ⟨hsl, _, hne⟩ := (unord s hs2 hc.2 hp).1 htq hc.1
              rw [if_pos ⟨hc.1, (hin' _).2 (.inr hc.2)⟩, if_pos hsl, if_pos hc, if_pos hsl, ihb', List.set_comm _ _ hne]
            · rw [if_neg hc, if_neg fun hh => hc ⟨hh.1, ((hin' _).1 hh.2).resolve_left hst⟩]
              exact ihb'
        exact key l2 fun s hs => hs
      rw [hmem]
      exact hI'
    | false =>
      refine st.runs hlc (M0 := memL M0 L (l2 ++ t :: l1)) (fun hq id hid => ?_) (fun hq => ?_) hm.inv hm.size hreads ?_
      · refine new _ (fun s hs hsq hsi hp hl => ((unord s hs hsi hp).2 hsq hq id hid).1 hl) (fun s hs hsq hsi hp hl => ((unord s hs hsi hp).2 hsq hq id hid).2 hl) (old _ fun s hs hsq => ?_)
        obtain ⟨_, _, h | ⟨_, _, _, h, _⟩⟩ := okPairL_spec (st.pair s hs)
        · exact .inl h
        · exact .inr (h hq hsq id hid)
      · have h1 : memL M0 L l1 = t.M := by
          rw [st.hM]
          refine LogL.mem_all hl1 fun s hs hsq => ?_
          obtain ⟨_, _, h | ⟨_, _, h, _⟩⟩ := okPairL_spec (st.pair s hs)
          · exact hclt _ h
          · have := (h hq hsq).1
            rw [hlc] at this; cases this
        have key : ∀ (b : List Ent), (∀ s ∈ b, s ∈ l2) → memL M0 L (b ++ t :: l1) = memL M0 L (t :: l1) := by
          intro b
          induction b with
          | nil => intro _; rfl
          | cons s b ihb =>
            intro hb
            have hs2 := hb s List.mem_cons_self
            have hp : okPairL ops s t = true := by
              obtain ⟨m2, m1, hmm⟩ := List.append_of_mem hs2
              have hL2 : LogL X nt ops env0 M0 (m2 ++ s :: (m1 ++ t :: l1)) env M := by rw [hmm] at hL; simpa using hL
              obtain ⟨_, _, _, _, _, stS⟩ := LogL.entry hL2
              exact stS.pair t (List.mem_append_right _ List.mem_cons_self)
            simp only [List.cons_append, memL]
            rw [if_neg fun hh => by
              have := ((unord s hs2 hh.2 hp).1 hq hh.1).2.1
              rw [hlc] at this; cases this]
            rw [ihb fun r hr => hb r (List.mem_cons_of_mem _ hr)]
            rfl
        rw [key l2 fun s hs => hs, hself, h1]
      · intro v w' F' ρ' hI' hx hg
        refine fin F' ρ' v w' ?_ hg hx
        have hmem : memL M0 (L.setIfInBounds t.i true) (l2 ++ t :: l1) = if t.q then memL M0 L (l2 ++ t :: l1) else t.M' := by
          cases hq : t.q with
          | true =>
            rw [if_pos rfl]
            refine memL_congr fun s hs hsq => ?_
            rw [hin']
            constructor
            · rintro (h | h)
              · have := LogL.distinct hL s hs t ht h
                subst this
                rw [hq] at hsq; cases hsq
              · exact h
            · exact .inr
          | false =>
            rw [if_neg (by simp)]
            have key : ∀ (b : List Ent), (∀ s ∈ b, s ∈ l2) → memL M0 (L.setIfInBounds t.i true) (b ++ t :: l1) = t.M' := by
              intro b
              induction b with
              | nil =>
                intro _
                simp only [List.nil_append, memL]
                rw [if_pos ⟨hq, (hin' _).2 (.inl rfl)⟩, if_neg (by simp [hlc])]
              | cons s b ihb =>
                intro hb
                have hs2 := hb s List.mem_cons_self
                obtain ⟨m2, m1, hmm⟩ := List.append_of_mem hs2
                have hL2 : LogL X nt ops env0 M0 (m2 ++ s :: (m1 ++ t :: l1)) env M := by rw [hmm] at hL; simpa using hL
                obtain ⟨_, _, _, _, _, stS⟩ := LogL.entry hL2
                have hp : okPairL ops s t = true := stS.pair t (List.mem_append_right _ List.mem_cons_self)
                simp only [List.cons_append, memL]
                rw [if_neg fun hh => by
                  have hsi : isIn L s.i := ((hin' _).1 hh.2).resolve_left (okPairL_spec hp).1
                  have := ((unord s hs2 hsi hp).1 hq hh.1).2.1
                  rw [hlc] at this; cases this]
                exact ihb fun r hr => hb r (List.mem_cons_of_mem _ hr)
            exact key l2 fun s hs => hs
        rw [hmem]
        exact hI'
end
def pushL (T : Tab R) (ops : Array Oper) (t : Ent) (st : St) (log : List Ent) (k : List Ent → St → Option R) : Option R :=
  tst (log.all (okPairL ops t)) (putD T.nt st t.o.dst t.x t.M' fun st' => k (t :: log) st')
def evl1 (X : Cx) (T : Tab R) (ops : Array Oper) (i : Nat) (o : Oper) (cl : Nat) (st : St) (log : List Ent) (k : List Ent → St → Option R) : Option R :=
  match o.op with
  | .store ty p x =>
    match stoL X ty (evv X (rst (readsOf o) st.env) p) (evv X (rst (readsOf o) st.env) x) st.mem with
    | some (id, b) => (match X.pk with
      | true => pushL T ops ⟨i, o, false, .tup [], [id], cl, st.env, st.mem, st.mem.set id b⟩ st log k
      | false => fzAt (st.mem.set id b) id fun M' => pushL T ops ⟨i, o, false, .tup [], [id], cl, st.env, st.mem, M'⟩ st log k)
    | none => none
  | _ =>
  match quietIds X (evv X (rst (readsOf o) st.env)) o with
  | some ids => evop X T (evv X (rst (readsOf o) st.env)) o st.mem fun x _ => pushL T ops ⟨i, o, true, x, ids, cl, st.env, st.mem, st.mem⟩ st log k
  | none =>
    match lstOf X ops (evv X (rst (readsOf o) st.env)) o with
    | some (t, n, ps) => evBuildList X t n (ps.toList.map fun p => (p.1, evv X (rst (readsOf o) st.env) p.2)) fun x => pushL T ops ⟨i, o, true, x, [], cl, st.env, st.mem, st.mem⟩ st log k
    | none =>
      match callQ X (evv X (rst (readsOf o) st.env)) o with
      | some (g, args) => T.call g args [] fun x M' => tst (M'.isEmpty && aggQ x) (pushL T ops ⟨i, o, true, x, [], cl, st.env, st.mem, st.mem⟩ st log k)
      | none =>
        match wrIds T (evv X (rst (readsOf o) st.env)) o st.mem with
        | some ids => evop X T (evv X (rst (readsOf o) st.env)) o st.mem fun x M' => pushL T ops ⟨i, o, false, x, ids, cl, st.env, st.mem, M'⟩ st log k
        | none => none
def evl0 (T : Tab R) (ops : Array Oper) (i : Nat) (o : Oper) (cl : Nat) (st : St) (log : List Ent) (k : List Ent → St → Option R) : Option R :=
  pushL T ops ⟨i, o, true, .tup [], [], cl, st.env, st.mem, st.mem⟩ st log k
def evlg (X : Cx) (T : Tab R) (ops : Array Oper) (i : Nat) (o : Oper) (cl : Nat) (st : St) (log : List Ent) (k : List Ent → St → Option R) : Option R :=
  match o.guard with
  | none => evl1 X T ops i o cl st log k
  | some (j, want) =>
    match gslot ops j with
    | none => none
    | some d =>
      match look st.env d with
      | .bool b =>
        match b with
        | true => match want with
          | true => evl1 X T ops i o cl { st with env := (d, .bool true) :: st.env } log k
          | false => evl0 T ops i o cl { st with env := (d, .bool true) :: st.env } log k
        | false => match want with
          | false => evl1 X T ops i o cl { st with env := (d, .bool false) :: st.env } log k
          | true => evl0 T ops i o cl { st with env := (d, .bool false) :: st.env } log k
      | .tup [] => evl0 T ops i o cl st log k
      | _ => none
def evlr (X : Cx) (T : Tab R) (ops : Array Oper) : List Nat → List Ent → St → (List Ent → St → Option R) → Option R
  | [], log, st, k => k log st
  | i :: rest, log, st, k =>
    match ops.toList[i]? with
    | none => none
    | some o =>
      match clOf log o.after.toList with
      | none => none
      | some cl => evlg X T ops i o cl st log fun log' st' => evlr X T ops rest log' st' k
def evregL (X : Cx) (T : Tab R) (ops : Array Oper) (st : St) (k : St → Option R) : Option R :=
  evlr X T ops (ordOf ops.toList) [] st fun log st' => tst (Nat.ble log.length ops.size && (List.range ops.size).all fun i => log.any fun t => t.i == i) (k st')
def edgeTo (i : Nat) : List Edge → Bool
  | [] => false
  | e :: es => (Region.binds .any e && Nat.beq e.on i) || edgeTo i es
def stPairs : Nat → List Oper → Bool
  | _, [] => false
  | i, o :: os => (isSt o && stLater i os) || stPairs (i + 1) os
where stLater (i : Nat) : List Oper → Bool
  | [] => false
  | o :: os => (isSt o && !edgeTo i o.after.toList) || stLater i os
def evreg (X : Cx) (T : Tab R) (ops : Array Oper) (draw : Bool) (st : St) (k : St → Option R) : Option R :=
  match draw && stPairs 0 ops.toList with
  | true => evregL X T ops st k
  | false => evregG X T ops draw st k
section
variable {nt : Nt} {ops : Array Oper} {env0 env1 : List (Nat × AV)} {M0 M1 : List Blk}
theorem pushL_some {T : Tab R} {t : Ent} {st : St} {log : List Ent} {k : List Ent → St → Option R} {r : R} (h : pushL T ops t st log k = some r) :
    ∃ st', k (t :: log) st' = some r ∧ (∀ s ∈ log, okPairL ops t s = true) ∧ (∀ d, t.o.dst = some d → d < T.nt.n ∧ T.nt.mask.testBit d = true) ∧ (∀ u, look st'.env u = (if t.o.dst = some u then t.x else look st.env u)) ∧ st'.mem = t.M' ∧ st'.dfs = st.dfs ∧ st'.rd = st.rd := by
  unfold pushL at h
  replace h := tst_some h
  obtain ⟨hp, h⟩ := h
  have hq : pushE T ops t st [] (fun _ st' => k (t :: log) st') = some r := by
    unfold pushE
    simp only [List.all_nil, tst]
    exact h
  obtain ⟨st', h, _, hd, hlk, hmm, e1, e2⟩ := pushE_some hq
  exact ⟨st', h, fun s hs => List.all_eq_true.1 hp s hs, hd, hlk, hmm, e1, e2⟩
theorem logL_cons {log : List Ent} (hl : LogL X nt ops env0 M0 log env1 M1) {t : Ent} (h1 : ∀ u, look t.env u = look env1 u) (h2 : t.M = M1) (h3 : t.q = true → t.M' = t.M) (h4 : t.q = false → Agree t.ids t.M t.M') (h5 : isLc t = false → t.Runs X nt ops)
    (h5' : isLc t = true → t.RunsL X nt ops ∧ idLc t < t.M.length ∧ t.M' = t.M.set (idLc t) (bLc t)) (h6 : ops[t.i]? = some t.o)
    (h7 : ∀ d, t.o.dst = some d → d < nt.n ∧ nt.mask.testBit d = true) (h8 : ∀ s ∈ log, okPairL ops t s = true) (h9 : clOf log t.o.after.toList = some t.cl) {env : List (Nat × AV)} {M : List Blk} (h10 : ∀ u, look env u = (if t.o.dst = some u then t.x else look t.env u)) (h11 : M = t.M') :
    LogL X nt ops env0 M0 (t :: log) env M := by
  obtain ⟨c1, c2⟩ := clOf_some h9
  refine ⟨env1, M1, hl, h1, h2, h3, h4, h5, h5', h6, h7, h8, fun e he hb => c1 e (by simpa using he) hb, fun w hw => ?_, fun u => by rw [h10 u, h1 u], h11⟩
  obtain ⟨e, he, hb, hh⟩ := c2 w hw
  exact ⟨e, by simpa using he, hb, hh⟩
theorem evl0_sound {T : Tab R} {i : Nat} {o : Oper} {cl : Nat} {st : St} {log : List Ent} {k : List Ent → St → Option R} {r : R} (hl : LogL X T.nt ops env0 M0 log env1 M1) (hi : ops[i]? = some o) (hc : clOf log o.after.toList = some cl)
    (he : ∀ u, look st.env u = look env1 u) (hm : st.mem = M1) (hw : Wants X ops o st.env false) (h : evl0 T ops i o cl st log k = some r) :
    ∃ t st', k (t :: log) st' = some r ∧ LogL X T.nt ops env0 M0 (t :: log) st'.env st'.mem ∧ st'.dfs = st.dfs ∧ st'.rd = st.rd := by
  unfold evl0 at h
  obtain ⟨st', h, hp, hd, hlk, hmm, h1, h2⟩ := pushL_some h
  refine ⟨_, st', h, logL_cons hl he hm (fun _ => rfl) (fun hq => by cases hq) ?_ (fun hf => by simp [isLc] at hf) hi hd hp hc hlk hmm, h1, h2⟩
  intro _ Mx _ _ rdc n w0 S F ρ a w Q K hI hsz hr hk
  unfold wpOpIn
  simp only [hi, hw hr, Bool.false_eq_true, if_false]
  exact ⟨fun _ _ => trivial, hk _ w F ρ hI rep_undef (Grow.refl _ _ _)⟩
theorem evl1_sound (hX : X.Okb) {T : Tab R} (hT : T.CallOk X) {i : Nat} {o : Oper} {cl : Nat} {st : St} {log : List Ent} {k : List Ent → St → Option R} {r : R} (hl : LogL X T.nt ops env0 M0 log env1 M1) (hi : ops[i]? = some o) (hc : clOf log o.after.toList = some cl)
    (he : ∀ u, look st.env u = look env1 u) (hm : st.mem = M1) (hw : Wants X ops o st.env true) (h : evl1 X T ops i o cl st log k = some r) :
    ∃ t st', k (t :: log) st' = some r ∧ LogL X T.nt ops env0 M0 (t :: log) st'.env st'.mem ∧ st'.dfs = st.dfs ∧ st'.rd = st.rd := by
  unfold evl1 at h
  split at h
  · rename_i ty p x ho
    split at h
    · rename_i id b hst
      obtain ⟨_, hlt, _⟩ := stoL_spec (R := R) hst
      have h' : pushL T ops ⟨i, o, false, .tup [], [id], cl, st.env, st.mem, st.mem.set id b⟩ st log k = some r := by
        split at h
        · exact h
        · rw [fzAt_eq] at h; exact h
      obtain ⟨st', h, hp, hd, hlk, hmm, h1, h2⟩ := pushL_some h'
      refine ⟨_, st', h, logL_cons hl he hm (fun hq => by cases hq) (fun _ => Agree.set _ _ _) (fun hf => by simp [isLc, isSt, ho] at hf) (fun _ => ?_) hi hd hp hc hlk hmm, h1, h2⟩
      have hb : bLc ⟨i, o, false, .tup [], [id], cl, st.env, st.mem, st.mem.set id b⟩ = b := by
        show ((st.mem.set id b)[id]?).getD .dead = b
        rw [List.getElem?_set_self hlt]; rfl
      refine ⟨?_, hlt, by rw [hb]; rfl⟩
      intro Mx hM rdc n w0 S F ρ a w Q K hI hsz hr hk
      rw [hb] at hk
      unfold wpOpIn
      simp only [hi, hw hr, if_true]
      exact stoL_runs hX ho hst (M0 := Mx) hM hI (fun z => evv_rep hI (envRep_rst fun u hu => hr u (List.mem_append_left _ hu)) z) (fun v w' ρ' F' hI' hg hx => hk v w' F' ρ' hI' hx hg)
    · cases h
  · rename_i hns
    have nolc : ∀ {q : Bool} {x : AV} {ids : List Nat} {M' : List Blk}, isLc ⟨i, o, q, x, ids, cl, st.env, st.mem, M'⟩ = true → False := by
      intro q x ids M' hf
      have h2 : isSt o = true := by
        unfold isLc at hf
        rw [Bool.and_eq_true] at hf
        exact hf.2
      unfold isSt at h2
      split at h2
      · rename_i ty p x2 ho; exact hns _ _ _ ho
      · cases h2
    split at h
    · rename_i ids hq
      obtain ⟨y, h, hrun⟩ := quiet_runs hX hq h
      obtain ⟨st', h, hp, hd, hlk, hmm, h1, h2⟩ := pushL_some h
      refine ⟨_, st', h, logL_cons hl he hm (fun _ => rfl) (fun hq => by cases hq) ?_ (fun hf => (nolc hf).elim) hi hd hp hc hlk hmm, h1, h2⟩
      intro _ Mx hM _ rdc n w0 S F ρ a w Q K hI hsz hr hk
      unfold wpOpIn
      simp only [hi, hw hr, if_true]
      exact hrun Mx (hM rfl) hI (fun z => evv_rep hI (envRep_rst fun u hu => hr u (List.mem_append_left _ hu)) z) (fun v w' ρ' F' hI' hg hx => hk v w' F' ρ' hI' hx hg)
    · rename_i hq
      split at h
      · rename_i t n ps hlst
        obtain ⟨y, h, hrun⟩ := list_runs hX (lstOf_some hlst) h
        obtain ⟨st', h, hp, hd, hlk, hmm, h1, h2⟩ := pushL_some h
        refine ⟨_, st', h, logL_cons hl he hm (fun _ => rfl) (fun hq => by cases hq) ?_ (fun hf => (nolc hf).elim) hi hd hp hc hlk hmm, h1, h2⟩
        intro _ Mx hM _ rdc n w0 S F ρ a w Q K hI hsz hr hk
        unfold wpOpIn
        simp only [hi, hw hr, if_true]
        exact hrun Mx hI (fun z => evv_rep hI (envRep_rst fun u hu => hr u (List.mem_append_left _ hu)) z) (fun v w' ρ' F' hI' hg hx => hk v w' F' ρ' hI' hx hg)
      · split at h
        · rename_i g args hcq
          obtain ⟨y, h, hrun⟩ := callQ_runs hX hT hcq (k := fun y => pushL T ops ⟨i, o, true, y, [], cl, st.env, st.mem, st.mem⟩ st log k) h
          obtain ⟨st', h, hp, hd, hlk, hmm, h1, h2⟩ := pushL_some h
          refine ⟨_, st', h, logL_cons hl he hm (fun _ => rfl) (fun hq => by cases hq) ?_ (fun hf => (nolc hf).elim) hi hd hp hc hlk hmm, h1, h2⟩
          intro _ Mx hM _ rdc n w0 S F ρ a w Q K hI hsz hr hk
          unfold wpOpIn
          simp only [hi, hw hr, if_true]
          exact hrun Mx hI (fun z => evv_rep hI (envRep_rst fun u hu => hr u (List.mem_append_left _ hu)) z) (fun v w' ρ' F' hI' hg hx => hk v w' F' ρ' hI' hx hg)
        · split at h
          · rename_i ids hwr
            obtain ⟨x, M', hrun, h, hag⟩ := evop_sound hX hT h
            obtain ⟨st', h, hp, hd, hlk, hmm, h1, h2⟩ := pushL_some h
            refine ⟨_, st', h, logL_cons hl he hm (fun hq => by cases hq) (fun _ => hag ids hwr) ?_ (fun hf => (nolc hf).elim) hi hd hp hc hlk hmm, h1, h2⟩
            intro _ Mx _ hM rdc n w0 S F ρ a w Q K hI hsz hr hk
            unfold wpOpIn
            simp only [hi, hw hr, if_true]
            have hM' := hM rfl
            subst hM'
            exact hrun hI (fun z => evv_rep hI (envRep_rst fun u hu => hr u (List.mem_append_left _ hu)) z) (fun v w' ρ' F' hI' hg hx => hk v w' F' ρ' hI' hx hg)
          · cases h
theorem evlg_sound (hX : X.Okb) {T : Tab R} (hT : T.CallOk X) {i : Nat} {o : Oper} {cl : Nat} {st : St} {log : List Ent} {k : List Ent → St → Option R} {r : R} (hl : LogL X T.nt ops env0 M0 log st.env st.mem) (hi : ops[i]? = some o) (hc : clOf log o.after.toList = some cl)
    (h : evlg X T ops i o cl st log k = some r) :
    ∃ t st', k (t :: log) st' = some r ∧ LogL X T.nt ops env0 M0 (t :: log) st'.env st'.mem ∧ st'.dfs = st.dfs ∧ st'.rd = st.rd := by
  unfold evlg at h
  split at h
  · rename_i hg
    exact evl1_sound hX hT hl hi hc (fun _ => rfl) rfl (fun {ρ F w tmps} _ => wanted_none hg _) h
  · rename_i j want hg
    split at h
    · cases h
    · rename_i d hd
      have hmem : d ∈ readsOf o ++ guardOf ops o := List.mem_append_right _ (by simp [guardOf, hg, hd])
      have wants : ∀ (b : Bool) (env : List (Nat × AV)), look env d = .bool b → Wants X ops o env (b == want) := by
        intro b env hb ρ F w tmps hr
        have := hr d hmem
        rw [hb] at this
        generalize hv : tmps.getD d undef = v at this
        cases this
        rw [wanted_some hg, yielded_of hd hv]
        cases b <;> cases want <;> rfl
      split at h
      · rename_i b hb
        split at h
        · split at h
          · exact evl1_sound hX hT (st := { st with env := (d, .bool true) :: st.env }) hl hi hc (fun u => look_refine hb u) rfl (wants true _ (by simp [look_cons, look_nil])) h
          · exact evl0_sound (st := { st with env := (d, .bool true) :: st.env }) hl hi hc (fun u => look_refine hb u) rfl (wants true _ (by simp [look_cons, look_nil])) h
        · split at h
          · exact evl1_sound hX hT (st := { st with env := (d, .bool false) :: st.env }) hl hi hc (fun u => look_refine hb u) rfl (wants false _ (by simp [look_cons, look_nil])) h
          · exact evl0_sound (st := { st with env := (d, .bool false) :: st.env }) hl hi hc (fun u => look_refine hb u) rfl (wants false _ (by simp [look_cons, look_nil])) h
      · rename_i hb
        refine evl0_sound hl hi hc (fun _ => rfl) rfl (fun {ρ F w tmps} hr => ?_) h
        have := hr d hmem
        rw [hb] at this
        generalize hv : tmps.getD d undef = v at this
        cases this with
        | tup cs vs hl2 _ =>
          have : vs = [] := by simpa using hl2
          subst this
          rw [wanted_some hg, yielded_undef hd hv]
          rfl
      · cases h
theorem evlr_sound (hX : X.Okb) {T : Tab R} (hT : T.CallOk X) {k : List Ent → St → Option R} {r : R} : ∀ (ord : List Nat) {log : List Ent} {st : St}, LogL X T.nt ops env0 M0 log st.env st.mem → evlr X T ops ord log st k = some r →
    ∃ log' st', k log' st' = some r ∧ LogL X T.nt ops env0 M0 log' st'.env st'.mem ∧ st'.dfs = st.dfs ∧ st'.rd = st.rd
  | [], log, st, hl, h => ⟨log, st, h, hl, rfl, rfl⟩
  | i :: rest, log, st, hl, h => by
    simp only [evlr] at h
    split at h
    · cases h
    · rename_i o ho
      split at h
      · cases h
      · rename_i cl hc
        obtain ⟨t, st1, h, hl1, e1, e2⟩ := evlg_sound hX hT hl (by simpa using ho) hc h
        obtain ⟨log', st', h, hl', e3, e4⟩ := evlr_sound hX hT rest hl1 h
        exact ⟨log', st', h, hl', e3.trans e1, e4.trans e2⟩
theorem evregL_sound (hX : X.Okb) {T : Tab R} (hT : T.CallOk X) {id : Nat} {st : St} {k : St → Option R} {r : R} (h : evregL X T ops st k = some r) :
    ∃ st', k st' = some r ∧ CodeRuns X T.nt (.region id ops true) st .normal st' := by
  unfold evregL at h
  obtain ⟨log, st', h, hl, e1, e2⟩ := evlr_sound hX hT (ops := ops) (env0 := st.env) (M0 := st.mem) _ (log := []) (st := st) (show LogL X T.nt ops st.env st.mem [] st.env st.mem from ⟨fun _ => rfl, rfl⟩) h
  replace h := tst_some h
  obtain ⟨hall, h⟩ := h
  rw [Bool.and_eq_true] at hall
  obtain ⟨hlen, hall⟩ := hall
  refine ⟨st', h, fun {rdc n w0 S F ρ a w Q} hI hs hq => wpIn_region_any hX.mixed ?_⟩
  have hg := World.grownBy_drawn w
  have hI' := hI.grown hg
  have hgr : Grow F F ρ ρ w { w with drawn := w.drawn + 1 } := ⟨fun _ h => h, fun _ _ h => h, hI.blks hg (by simp)⟩
  have hs' := hs.grow hgr
  have hno : ∀ i, ¬ isIn (Array.replicate ops.size false) i := by
    intro i hin
    simp only [isIn, Array.getD_eq_getD_getElem?, Array.getElem?_replicate] at hin
    split at hin <;> simp at hin
  have hm0 : ∀ l : List Ent, memL st.mem (Array.replicate ops.size false) l = st.mem := by
    intro l
    induction l with
    | nil => rfl
    | cons t l ihl =>
      simp only [memL]
      rw [if_neg fun hh => hno _ hh.2]; exact ihl
  refine any_runsL (ds := a.defers) (tv := rdc.tv) (wb := w) (S := S) (w0 := w0) (F0 := F) (ρ0 := ρ) hl (fun i hi => ?_) (fun a' w' F' ρ' hI2 hE hsz hdf hkp hg2 => ?_) ops.size _ F ρ a _ (by simp) ?_ ?_ ?_
  · have := List.all_eq_true.1 hall i (List.mem_range.2 hi)
    obtain ⟨t, ht, hti⟩ := List.any_eq_true.1 this
    exact ⟨t, ht, by simpa using hti⟩
  · refine hq a' w' F' ρ' hI2 ⟨hE, hsz, ?_, ?_, hkp⟩ hg2
    · rw [e1, hdf]; exact hs.defs.mono hg2.hF hg2.hb
    · exact hs.rd.mono hg2.hF hg2.hb
  · exact Nat.le_trans List.countP_le_length (Nat.le_of_ble_eq_true hlen)
  · exact fun t ht hin => absurd hin (hno _)
  · exact ⟨by rw [hm0]; exact hI', hgr, hs.size, rfl, hs.kept, fun s _ hin => absurd hin (hno _), fun u _ => hs'.env u⟩
theorem evreg_sound (hX : X.Okb) {T : Tab R} (hT : T.CallOk X) {id : Nat} {draw : Bool} {st : St} {k : St → Option R} {r : R} (h : evreg X T ops draw st k = some r) :
    ∃ st', k st' = some r ∧ CodeRuns X T.nt (.region id ops draw) st .normal st' := by
  unfold evreg at h
  split at h
  · rename_i hb
    rw [Bool.and_eq_true] at hb
    rw [hb.1]
    exact evregL_sound hX hT h
  · exact evregG_sound hX hT h
end
end
end Go.Eng

namespace Go.Eng
open Go
noncomputable section
variable {X : Cx} {R : Type}
def codeAt (root : Code) : List Bool → Option Code
  | [] => some root
  | b :: p =>
    match codeAt root p with
    | some (.seq x y) => some (bif b then y else x)
    | some (.cond _ x y) => some (bif b then y else x)
    | some (.block _ x) => bif b then none else some x
    | some (.loop x) => bif b then none else some x
    | some (.scope x) => bif b then none else some x
    | some (.rangeFunc _ _ x y) => some (bif b then y else x)
    | _ => none
def enc : List Bool → Nat
  | [] => 1
  | b :: p => 2 * enc p + (bif b then 1 else 0)
theorem enc_pos : ∀ p, 1 ≤ enc p
  | [] => Nat.le_refl _
  | b :: p => by have := enc_pos p; simp only [enc]; omega
theorem enc_inj : ∀ {p q : List Bool}, enc p = enc q → p = q
  | [], [], _ => rfl
  | [], b :: q, h => by
    have := enc_pos q; simp only [enc] at h; cases b <;> simp at h <;> omega
  | b :: p, [], h => by
    have := enc_pos p; simp only [enc] at h; cases b <;> simp at h <;> omega
  | b :: p, c :: q, h => by
    simp only [enc] at h
    have h2 : enc p = enc q ∧ b = c := by cases b <;> cases c <;> simp at h ⊢ <;> omega
    rw [enc_inj h2.1, h2.2]
def At (root : Code) (p : Nat) (c : Code) : Prop := ∃ l, enc l = p ∧ codeAt root l = some c
theorem At.root (c : Code) : At c 1 c := ⟨[], rfl, rfl⟩
theorem At.det {root c : Code} {p : Nat} (h : At root p c) (l : List Bool) (hl : enc l = p) : codeAt root l = some c := by
  obtain ⟨l', h1, h2⟩ := h
  rw [enc_inj (hl.trans h1.symm)]
  exact h2
theorem At.down {root c d : Code} {p : Nat} (h : At root p c) (b : Bool) (hd : ∀ l, codeAt root l = some c → codeAt root (b :: l) = some d) : At root (2 * p + (bif b then 1 else 0)) d := by
  obtain ⟨l, h1, h2⟩ := h
  exact ⟨b :: l, by simp only [enc, h1], hd l h2⟩
def Ex.exit' : Ex → Exit
  | .normal => .normal
  | .exit i => .exit i
  | .ret => .ret
def srcId (env : List (Nat × AV)) (M : List Blk) : Src → Option Nat
  | .tmp t => match look env t with | .own id => some id | .ptr id _ _ => some id | _ => none
  | .cell t c => match look env t with | .ptr v _ _ => (match gm M v with | some (.var _ cs) => (match cs[c]? with | some (.own id) => some id | _ => none) | _ => none) | _ => none
def evGh1 (X : Cx) (g : Gh) (env : List (Nat × AV)) (M : List Blk) (k : List Blk → Option R) : Option R :=
  match g with
  | .nest s => match srcId env M s with | some id => nestA X id M k | none => k M
  | .flat s => match srcId env M s with | some id => flatA id M k | none => k M
  | .close s => match srcId env M s with | some id => closeA X id M k | none => k M
  | .opn s i j => match srcId env M s with | some id => (match evv X env i with | .int _ n => openA X id n.toNat j M k | _ => k M) | none => k M
  | .opnp t j => match look env t with | .ptr id i off => openA X id i (off + j) M k | _ => k M
theorem evGh1_sound (hX : X.Okb) {g : Gh} {env : List (Nat × AV)} {M : List Blk} {k : List Blk → Option R} {r : R} (h : evGh1 X g env M k = some r) : ∃ M', k M' = some r ∧ Acted X M M' := by
  unfold evGh1 at h
  split at h <;> split at h
  · exact nestA_sound hX h
  · exact ⟨_, h, Acted.refl _⟩
  · exact flatA_sound h
  · exact ⟨_, h, Acted.refl _⟩
  · exact closeA_sound h
  · exact ⟨_, h, Acted.refl _⟩
  · split at h
    · exact openA_sound h
    · exact ⟨_, h, Acted.refl _⟩
  · exact ⟨_, h, Acted.refl _⟩
  · exact openA_sound h
  · exact ⟨_, h, Acted.refl _⟩
def evGh (X : Cx) : List Gh → St → (St → Option R) → Option R
  | [], st, k => k st
  | g :: gs, st, k => evGh1 X g st.env st.mem fun M => evGh X gs { st with mem := M } k
theorem evGh_sound (hX : X.Okb) {k : St → Option R} {r : R} : ∀ (gs : List Gh) {st : St}, evGh X gs st k = some r → ∃ st', k st' = some r ∧ st'.env = st.env ∧ st'.dfs = st.dfs ∧ st'.rd = st.rd ∧
    ∀ {nt : Nt} {rdc : Cy} {w0 : World} {S : Sc} {F : Addr → Prop} {ρ : List Hd} {a : Act} {w : World}, Inv X w0 S F ρ st.mem w → Sim X nt st rdc F ρ a w → ∃ F' ρ', Inv X w0 S F' ρ' st'.mem w ∧ Sim X nt st' rdc F' ρ' a w ∧ Grow F F' ρ ρ' w w
  | [], st, h => ⟨st, h, rfl, rfl, rfl, fun {nt rdc w0 S F ρ a w} hI hs => ⟨F, ρ, hI, hs, Grow.refl _ _ _⟩⟩
  | g :: gs, st, h => by
    simp only [evGh] at h
    obtain ⟨M', h, hA⟩ := evGh1_sound hX h
    obtain ⟨st', h, e1, e2, e3, hr⟩ := evGh_sound hX gs h
    refine ⟨st', h, e1, e2, e3, fun {nt rdc w0 S F ρ a w} hI hs => ?_⟩
    obtain ⟨F1, ρ1, i1, g1⟩ := hA hI
    have hs1 := hs.grow g1
    obtain ⟨F2, ρ2, i2, s2, g2⟩ := hr (nt := nt) (rdc := rdc) (a := a) i1 ⟨hs1.env, hs1.size, hs1.defs, hs1.rd, hs1.kept⟩
    exact ⟨F2, ρ2, i2, s2, g1.trans g2⟩
structure LTab (R : Type) where
  tab : Tab R
  loop : Nat → St → (Ex → St → Option R) → Option R
  range : Nat → St → (Ex → St → Option R) → Option R
  cut : Nat → Option (St → (Ex → St → Option R) → Option R)
  gh : Nat → List Gh × List Gh := fun _ => ([], [])
structure LTab.Ok (X : Cx) (root : Code) (L : LTab R) : Prop where
  tab : L.tab.CallOk X
  loop : ∀ {p c st k r}, At root p (.loop c) → L.loop p st k = some r → ∃ e st', CodeRuns X L.tab.nt (.loop c) st (Ex.exit' e) st' ∧ k e st' = some r
  range : ∀ {p g ps x y st k r}, At root p (.rangeFunc g ps x y) → L.range p st k = some r → ∃ e st', CodeRuns X L.tab.nt (.rangeFunc g ps x y) st (Ex.exit' e) st' ∧ k e st' = some r
  cut : ∀ {p c f st k r}, At root p c → L.cut p = some f → f st k = some r → ∃ e st', CodeRuns X L.tab.nt c st (Ex.exit' e) st' ∧ k e st' = some r
def cutOr (o : Option (St → (Ex → St → Option R) → Option R)) (other : (Ex → St → Option R) → Option R) (st : St) (k : Ex → St → Option R) : Option R :=
  match o with
  | some f => f st k
  | none => other k
def refineC (c : Operand) (b : Bool) (st : St) : St := match c with | .tmp t => { st with env := (t, .bool b) :: st.env } | _ => st
def evk (X : Cx) (L : LTab R) : Code → Nat → St → (Ex → St → Option R) → Option R
  | .skip, _, st, k => k .normal st
  | .label _, _, st, k => k .normal st
  | .region rid ops draw, _, st, k => match L.gh rid with
    | ([], []) => evreg X L.tab ops draw st fun st' => k .normal st'
    | (pre, post) => evGh X pre st fun st1 => evreg X L.tab ops draw st1 fun st2 => evGh X post st2 fun st3 => k .normal st3
  | .seq a b, p, st, k => cutOr (L.cut (2 * p)) (fun k' => evk X L a (2 * p) st k') st fun e st' => match e with | .normal => evk X L b (2 * p + 1) st' k | .exit i => k (.exit i) st' | .ret => k .ret st'
  | .cond c a b, p, st, k =>
    match evv X st.env c with
    | .bool t => (match t with | true => evk X L a (2 * p) (refineC c true st) k | false => evk X L b (2 * p + 1) (refineC c false st) k)
    | _ => none
  | .block i a, p, st, k => evk X L a (2 * p) st fun e st' => match e with | .normal => k .normal st' | .exit j => (match Nat.beq j i with | true => k .normal st' | false => k (.exit j) st') | .ret => k .ret st'
  | .scope a, p, st, k => evk X L a (2 * p) st k
  | .loop _, p, st, k => L.loop p st k
  | .rangeFunc _ _ _ _, p, st, k => L.range p st k
  | .exit i, _, st, k => k (.exit i) st
  | .ret, _, st, k => k .ret st
  | _, _, _, _ => none
section
variable {F : Fence} {n : Nat} {P : Program} {b : Frame} {a : Act} {k : List Item} {cs : List Frame} {w : World} {Q : Exit → Act → World → Prop}
theorem stepR_scope' {c : Code} : step P (lone (b.atR a (.code (.scope c) :: k)) cs w) = .next (lone (b.atR a (.code c :: .inScope c :: k)) cs w) :=
  step_lone_go (by simp [stepG, stepG.exec, Frame.atR])
theorem stepR_inScope' {c : Code} : step P (lone (b.atR a (.inScope c :: k)) cs w) = .next (lone (b.atR a k) cs w) :=
  step_lone_go (by simp [stepG, stepG.exec, Frame.atR])
theorem wpIn_scope' {c : Code} (h : c.wpIn F n P (fun e a w => (∀ l, e ≠ .goto l) ∧ Q e a w) a w) : (Code.scope c).wpIn F n P Q a w := by
  intro b k cs hro hb hr
  have h0 : (lone (b.atR a (.code (.scope c) :: k)) cs w).fenced P F := fenced_calm hb hr rfl
  obtain ⟨e, a₁, w₁, ⟨hg, hq⟩, harr⟩ := h b (.inScope c :: k) cs hro hb hr
  cases e with
  | normal => exact ⟨.normal, a₁, w₁, hq, .head h0 stepR_scope' (StepsIn.trans harr (.one (fenced_calm hb hr rfl) stepR_inScope'))⟩
  | exit id' =>
    have hx : exitTo id' (.inScope c :: k) = exitTo id' k := by simp [exitTo]
    exact ⟨.exit id', a₁, w₁, hq, fun k' hk => .head h0 stepR_scope' (harr.1 k' (by rw [hx]; exact hk)),
      fun hr' hk => let ⟨k₁, h1, h2⟩ := harr.2 hr' (by rw [hx]; exact hk); ⟨k₁, h1, .head h0 stepR_scope' h2⟩⟩
  | goto l => exact absurd rfl (hg l)
  | ret => exact ⟨_, a₁, w₁, hq, .of_steps (.one h0 stepR_scope') harr⟩
  | panic ch => exact ⟨_, a₁, w₁, hq, .of_steps (.one h0 stepR_scope') harr⟩
  | outgrown => exact ⟨_, a₁, w₁, hq, .of_steps (.one h0 stepR_scope') harr⟩
end
theorem refineC_sim {nt : Nt} {st : St} {rdc : Cy} {F : Addr → Prop} {ρ : List Hd} {a : Act} {w : World} {c : Operand} {b : Bool} (h : Sim X nt st rdc F ρ a w) (hc : evv X st.env c = .bool b) : Sim X nt (refineC c b st) rdc F ρ a w := by
  cases c with
  | tmp t => exact h.refine hc
  | _ => exact h
theorem refineC_mem (c : Operand) (b : Bool) (st : St) : (refineC c b st).mem = st.mem := by cases c <;> rfl
theorem evk_sound (hX : X.Okb) {root : Code} {L : LTab R} (hL : L.Ok X root) : ∀ (c : Code) {p : Nat} {st : St} {k : Ex → St → Option R} {r : R}, At root p c → evk X L c p st k = some r →
    ∃ e st', CodeRuns X L.tab.nt c st (Ex.exit' e) st' ∧ k e st' = some r
  | .skip, p, st, k, r, _, h => ⟨.normal, st, fun {rdc n w0 S F ρ a w Q} hI hs hq => wpIn_skip (hq a w F ρ hI hs (Grow.refl _ _ _)), h⟩
  | .label l, p, st, k, r, _, h => ⟨.normal, st, fun {rdc n w0 S F ρ a w Q} hI hs hq => wpIn_label (hq a w F ρ hI hs (Grow.refl _ _ _)), h⟩
  | .region id ops draw, p, st, k, r, _, h => by
    simp only [evk] at h
    split at h
    · obtain ⟨st', h, hr⟩ := evreg_sound hX hL.tab (id := id) (k := fun st' => k .normal st') h
      exact ⟨.normal, st', hr, h⟩
    · obtain ⟨st1, h, _, _, _, h1⟩ := evGh_sound hX _ h
      obtain ⟨st2, h, hr⟩ := evreg_sound hX hL.tab (id := id) h
      obtain ⟨st3, h, _, _, _, h3⟩ := evGh_sound hX _ h
      refine ⟨.normal, st3, fun {rdc n w0 S F ρ a w Q} hI hs hq => ?_, h⟩
      obtain ⟨F1, ρ1, i1, s1, g1⟩ := h1 (nt := L.tab.nt) (rdc := rdc) (a := a) hI hs
      refine hr i1 s1 fun a' w' F' ρ' hI' hs' hg => ?_
      obtain ⟨F3, ρ3, i3, s3, g3⟩ := h3 (nt := L.tab.nt) (rdc := rdc) (a := a') hI' hs'
      exact hq a' w' F3 ρ3 i3 s3 ((g1.trans hg).trans g3)
  | .seq x y, p, st, k, r, hat, h => by
    simp only [evk] at h
    have hax : At root (2 * p) x := hat.down false fun l hl => by simp [codeAt, hl]
    have h' : ∃ e st1, CodeRuns X L.tab.nt x st (Ex.exit' e) st1 ∧ (match e with | .normal => evk X L y (2 * p + 1) st1 k | .exit i => k (.exit i) st1 | .ret => k .ret st1) = some r := by
      unfold cutOr at h
      split at h
      · rename_i f hf; exact hL.cut hax hf h
      · exact evk_sound hX hL x hax h
    obtain ⟨e, st1, h1, h⟩ := h'
    cases e with
    | normal =>
      obtain ⟨e, st2, h2, h⟩ := evk_sound hX hL y (hat.down true fun l hl => by simp [codeAt, hl]) h
      refine ⟨e, st2, fun {rdc n w0 S F ρ a w Q} hI hs hq => wpIn_seq (h1 hI hs fun a' w' F' ρ' hI' hs' hg => ?_), h⟩
      exact h2 hI' hs' fun a'' w'' F'' ρ'' hI'' hs'' hg' => hq a'' w'' F'' ρ'' hI'' hs'' (hg.trans hg')
    | exit i => exact ⟨.exit i, st1, fun {rdc n w0 S F ρ a w Q} hI hs hq => wpIn_seq (h1 hI hs fun a' w' F' ρ' hI' hs' hg => hq a' w' F' ρ' hI' hs' hg), h⟩
    | ret => exact ⟨.ret, st1, fun {rdc n w0 S F ρ a w Q} hI hs hq => wpIn_seq (h1 hI hs fun a' w' F' ρ' hI' hs' hg => hq a' w' F' ρ' hI' hs' hg), h⟩
  | .cond c x y, p, st, k, r, hat, h => by
    simp only [evk] at h
    split at h
    · rename_i t ht
      have hev : ∀ {w0 : World} {S : Sc} {F : Addr → Prop} {ρ : List Hd} {a : Act} {w : World} {rdc : Cy}, Inv X w0 S F ρ st.mem w → Sim X L.tab.nt st rdc F ρ a w → a.eval c = .bool t := by
        intro w0 S F ρ a w rdc hI hs
        have := evv_rep hI hs.env c
        rw [ht] at this
        generalize a.eval c = v at this
        cases this
        rfl
      split at h
      · obtain ⟨e, st1, h1, h⟩ := evk_sound hX hL x (hat.down false fun l hl => by simp [codeAt, hl]) h
        exact ⟨e, st1, fun {rdc n w0 S F ρ a w Q} hI hs hq => wpIn_cond_true (hev hI hs) (h1 (by rw [refineC_mem]; exact hI) (refineC_sim hs ht) hq), h⟩
      · obtain ⟨e, st1, h1, h⟩ := evk_sound hX hL y (hat.down true fun l hl => by simp [codeAt, hl]) h
        exact ⟨e, st1, fun {rdc n w0 S F ρ a w Q} hI hs hq => wpIn_cond_false (hev hI hs) (h1 (by rw [refineC_mem]; exact hI) (refineC_sim hs ht) hq), h⟩
    · cases h
  | .block i x, p, st, k, r, hat, h => by
    simp only [evk] at h
    obtain ⟨e, st1, h1, h⟩ := evk_sound hX hL x (hat.down false fun l hl => by simp [codeAt, hl]) h
    cases e with
    | normal => exact ⟨.normal, st1, fun {rdc n w0 S F ρ a w Q} hI hs hq => wpIn_block (h1 hI hs fun a' w' F' ρ' hI' hs' hg => hq a' w' F' ρ' hI' hs' hg), h⟩
    | exit j =>
      simp only at h
      split at h
      · rename_i hj
        have hj : j = i := Nat.eq_of_beq_eq_true hj
        refine ⟨.normal, st1, fun {rdc n w0 S F ρ a w Q} hI hs hq => wpIn_block (h1 hI hs fun a' w' F' ρ' hI' hs' hg => ?_), h⟩
        simp only [Ex.exit', Exit.inBlock, hj, if_true]
        exact hq a' w' F' ρ' hI' hs' hg
      · rename_i hj
        have hj : j ≠ i := fun e => by subst e; simp at hj
        refine ⟨.exit j, st1, fun {rdc n w0 S F ρ a w Q} hI hs hq => wpIn_block (h1 hI hs fun a' w' F' ρ' hI' hs' hg => ?_), h⟩
        simp only [Ex.exit', Exit.inBlock, if_neg hj]
        exact hq a' w' F' ρ' hI' hs' hg
    | ret => exact ⟨.ret, st1, fun {rdc n w0 S F ρ a w Q} hI hs hq => wpIn_block (h1 hI hs fun a' w' F' ρ' hI' hs' hg => hq a' w' F' ρ' hI' hs' hg), h⟩
  | .loop c, p, st, k, r, hat, h => hL.loop hat h
  | .rangeFunc g ps x y, p, st, k, r, hat, h => hL.range hat h
  | .exit i, p, st, k, r, _, h => ⟨.exit i, st, fun {rdc n w0 S F ρ a w Q} hI hs hq => wpIn_exit (hq a w F ρ hI hs (Grow.refl _ _ _)), h⟩
  | .ret, p, st, k, r, _, h => ⟨.ret, st, fun {rdc n w0 S F ρ a w Q} hI hs hq => wpIn_ret (hq a w F ρ hI hs (Grow.refl _ _ _)), h⟩
  | .scope x, p, st, k, r, hat, h => by
    simp only [evk] at h
    obtain ⟨e, st1, h1, h⟩ := evk_sound hX hL x (hat.down false fun l hl => by simp [codeAt, hl]) h
    exact ⟨e, st1, fun {rdc n w0 S F ρ a w Q} hI hs hq => wpIn_scope' (h1 hI hs fun a' w' F' ρ' hI' hs' hg => ⟨fun l => by cases e <;> simp [Ex.exit'], hq a' w' F' ρ' hI' hs' hg⟩), h⟩
  | .goto _, _, _, _, _, _, h => by simp [evk] at h
  | .refuse _, _, _, _, _, _, h => by simp [evk] at h
end
end Go.Eng

namespace Go.Eng
open Go
noncomputable section
variable {X : Cx} {R : Type}
def hd0 : Hd := ⟨.nilFunc, 0⟩
def framed (sel : List Nat) (args : List AV) (M : List Blk) (run : List AV → List Blk → (AV → List Blk → Option R) → Option R) (k : AV → List Blk → Option R) : Option R :=
  tst (subOk M sel) (run (args.map (ren (idx sel) 4)) (subM M sel) fun x Mc => tst (mergeOk sel.length M sel Mc) (k (ren (rno sel.length sel M.length) 4 x) (merge sel.length M sel Mc)))
theorem merge_agree {M Mc : List Blk} {sel : List Nat} {m : Nat} : Agree sel M (merge m M sel Mc) :=
  ⟨by rw [merge_length]; omega, fun id hid hn => by unfold merge; rw [List.getElem?_append_left (by rw [mset_length]; exact hid), mset_not sel _ M hn]⟩
theorem framed_sound (hX : X.Ok) {f : FuncId} {sel : List Nat} {args : List AV} {M : List Blk} {run : List AV → List Blk → (AV → List Blk → Option R) → Option R} {k : AV → List Blk → Option R} {r : R}
    (hrun : ∀ {args : List AV} {M : List Blk} {k : AV → List Blk → Option R}, run args M k = some r → ∃ x M', ACalls X f args M x M' ∧ k x M' = some r) (h : framed sel args M run k = some r) :
    ∃ x M', ACalls X f args M x M' ∧ k x M' = some r ∧ Agree sel M M' := by
  unfold framed at h
  replace h := tst_some h
  obtain ⟨hok, h⟩ := h
  obtain ⟨x, Mc, hc, h⟩ := hrun h
  replace h := tst_some h
  obtain ⟨hm, h⟩ := h
  refine ⟨_, _, ⟨hc.1, fun {w0 S F ρ w vs} hI hr => ?_⟩, h, merge_agree⟩
  have hs := sub_facts hok
  have hlt : ∀ i ∈ sel, i < ρ.length := fun i hi => by rw [hI.len]; exact hs.lt i hi
  refine (hc.2 (hI.sub hX hok hd0) (hr.ren hX.kinds (ren_idx hlt hd0) 4)).mono ?_
  rintro e w' ⟨v, ρ', F', rfl, hI', hg, hx⟩
  obtain ⟨h1, h2, h3⟩ := hI.merge hX hok hd0 hI' (hg.toF sel.length) hm
  exact ⟨v, _, F', rfl, h1, h2, hx.ren hX.kinds h3 4⟩
def argEnv : Nat → List AV → List (Nat × AV)
  | _, [] => []
  | i, x :: xs => (i, x) :: argEnv (i + 1) xs
theorem look_argEnv : ∀ (xs : List AV) (i t : Nat), look (argEnv i xs) t = if i ≤ t then (xs[t - i]?).getD .top else .top
  | [], i, t => by simp [argEnv, look_cons, look_nil]
  | x :: xs, i, t => by
    simp only [argEnv, look_cons, look_nil]
    by_cases ht : t = i
    · subst ht; simp
    · have : (t == i) = false := by simpa using ht
      simp only [this, Bool.false_eq_true, if_false]
      rw [look_argEnv xs (i + 1) t]
      by_cases h : i ≤ t
      · rw [if_pos (by omega), if_pos h, show t - i = (t - (i + 1)) + 1 by omega]; simp
      · rw [if_neg (by omega), if_neg h]
def evres1 (X : Cx) (rv : ResultVar) (st : St) (k : AV → Option R) : Option R :=
  match rv with
  | .tmp t => k (look st.env t)
  | .cell a t => evLoad X t (look st.env a) st.mem k
def evres (X : Cx) (rs : List ResultVar) (st : St) (k : AV → List Blk → Option R) : Option R :=
  match rs with
  | [] => k (.tup []) st.mem
  | [a] => evres1 X a st fun x => k x st.mem
  | [a, b] => evres1 X a st fun x => evres1 X b st fun y => k (.tup [x, y]) st.mem
  | [a, b, c] => evres1 X a st fun x => evres1 X b st fun y => evres1 X c st fun z => k (.tup [x, y, z]) st.mem
  | _ => none
def res1 (tmps : Array Value) : ResultVar → Sem Value
  | .tmp t => pure (tmps.getD t undef)
  | .cell a t => do loadVar t (← asAddr (tmps.getD a undef))
theorem evres1_sound (hX : X.Okb) {rv : ResultVar} {st : St} {k : AV → Option R} {r : R} (h : evres1 X rv st k = some r) :
    ∃ x, k x = some r ∧ ∀ {nt : Nt} {rdc : Cy} {w0 : World} {S : Sc} {F : Addr → Prop} {ρ : List Hd} {a : Act} {w : World}, Inv X w0 S F ρ st.mem w → Sim X nt st rdc F ρ a w → ∃ v, (res1 a.tmps rv).run X.P w = .ok v w ∧ Rep X.K ρ F w x v := by
  cases rv with
  | tmp t => exact ⟨_, h, fun {nt rdc w0 S F ρ a w} hI hs => ⟨_, rfl, hs.env t⟩⟩
  | cell a t =>
    obtain ⟨x, h, hd⟩ := evLoad_sound hX h
    refine ⟨x, h, fun {nt rdc w0 S F ρ act w} hI hs => ?_⟩
    obtain ⟨v, h1, h2⟩ := hd hI (hs.env a)
    refine ⟨v, ?_, h2⟩
    unfold Instr.loadAt at h1
    simp only [res1]
    generalize act.tmps.getD a undef = p at h1
    cases p with
    | pointer o =>
      cases o with
      | some ad => exact h1
      | none => simp [Instr.sureAddr, Sem.run_bind, stuck, Sem.run, Result.andThen] at h1
    | _ => simp [Instr.sureAddr, Sem.run_bind, stuck, Sem.run, Result.andThen] at h1
theorem evres_sound (hX : X.Okb) {fn : Func} {rs : List ResultVar} (hrs : fn.results.toList = rs) {st : St} {k : AV → List Blk → Option R} {r : R} (h : evres X rs st k = some r) :
    ∃ x, k x st.mem = some r ∧ ∀ {nt : Nt} {rdc : Cy} {w0 : World} {S : Sc} {F : Addr → Prop} {ρ : List Hd} {a : Act} {w : World}, Inv X w0 S F ρ st.mem w → Sim X nt st rdc F ρ a w → ∃ v, (results fn a.tmps).run X.P w = .ok v w ∧ Rep X.K ρ F w x v := by
  have hres : ∀ tmps, results fn tmps = (do let vs ← fn.results.mapM (res1 tmps); pure (if h : vs.size = 1 then vs[0] else .tuple vs)) := by
    intro tmps
    unfold results
    congr 1
  have hrs' : fn.results = rs.toArray := by rw [← hrs]
  unfold evres at h
  split at h
  · exact ⟨_, h, fun {nt rdc w0 S F ρ a w} hI hs => ⟨.tuple #[], by rw [hres, hrs']; simp [Sem.run_bind], .tup [] [] rfl (fun j x v h _ => by simp at h)⟩⟩
  · rename_i a
    obtain ⟨x, h, hd⟩ := evres1_sound hX h
    refine ⟨x, h, fun {nt rdc w0 S F ρ act w} hI hs => ?_⟩
    obtain ⟨v, h1, h2⟩ := hd hI hs
    exact ⟨v, by rw [hres, hrs']; simp [Sem.run_bind, h1], h2⟩
  · rename_i a b
    obtain ⟨x, h, hd⟩ := evres1_sound hX h
    obtain ⟨y, h, hd2⟩ := evres1_sound hX h
    refine ⟨_, h, fun {nt rdc w0 S F ρ act w} hI hs => ?_⟩
    obtain ⟨v, h1, h2⟩ := hd hI hs
    obtain ⟨v2, h3, h4⟩ := hd2 hI hs
    refine ⟨.tuple #[v, v2], by rw [hres, hrs']; simp [Sem.run_bind, h1, h3], .tup [x, y] [v, v2] rfl (fun j z u hz hu => ?_)⟩
    match j with
    | 0 => simp at hz hu; subst hz; subst hu; exact h2
    | 1 => simp at hz hu; subst hz; subst hu; exact h4
    | j + 2 => simp at hz
  · rename_i a b c
    obtain ⟨x, h, hd⟩ := evres1_sound hX h
    obtain ⟨y, h, hd2⟩ := evres1_sound hX h
    obtain ⟨z, h, hd3⟩ := evres1_sound hX h
    refine ⟨_, h, fun {nt rdc w0 S F ρ act w} hI hs => ?_⟩
    obtain ⟨v, h1, h2⟩ := hd hI hs
    obtain ⟨v2, h3, h4⟩ := hd2 hI hs
    obtain ⟨v3, h5, h6⟩ := hd3 hI hs
    refine ⟨.tuple #[v, v2, v3], by rw [hres, hrs']; simp [Sem.run_bind, h1, h3, h5], .tup [x, y, z] [v, v2, v3] rfl (fun j q u hz hu => ?_)⟩
    match j with
    | 0 => simp at hz hu; subst hz; subst hu; exact h2
    | 1 => simp at hz hu; subst hz; subst hu; exact h4
    | 2 => simp at hz hu; subst hz; subst hu; exact h6
    | j + 3 => simp at hz
  · cases h
def evfin (X : Cx) (rs : List ResultVar) (k : AV → List Blk → Option R) (e : Ex) (st : St) : Option R :=
  match e with
  | .exit _ => none
  | _ => match st.dfs with | [] => evres X rs st k | _ => none
def evfn (X : Cx) (L : LTab R) (c : Code) (rs : List ResultVar) (args : List AV) (M : List Blk) (k : AV → List Blk → Option R) : Option R :=
  tst (Nat.ble args.length L.tab.nt.n) (evk X L c 1 ⟨argEnv 0 args, M, [], .out⟩ (evfin X rs k))
theorem Grow.less {F0 F : Addr → Prop} {ρ ρ' : List Hd} {wb w : World} (g : Grow F0 F ρ ρ' wb w) {D : Nat} (hD : ∀ a, F0 a → a.block ≠ D) (o : Obj) : Grow F0 (less F D) ρ ρ' wb (w.putObj D o) :=
  ⟨fun a ha => ⟨g.hF a ha, hD a ha⟩, g.hρ, fun a ha => by rw [World.putObj_heap_other (hD a ha)]; exact g.hb a ha⟩
theorem leaves_marks {fn : Func} {tmps : Array Value} {M : List Blk} {env : List (Nat × AV)} {w0 wb : World} {S : Sc} {F0 : Addr → Prop} {ρ ρ' : List Hd} {x : AV} (hf0 : ∀ a, S.F0 a → F0 a)
    (hres : ∀ {F : Addr → Prop} {w : World}, Inv X w0 S F ρ' M w → EnvRep X ρ' F w env tmps → ∃ v, (results fn tmps).run X.P w = .ok v w ∧ Rep X.K ρ' F w x v) :
    ∀ (ms : List Nat) {F : Addr → Prop} {w : World}, Inv X w0 S F ρ' M w → EnvRep X ρ' F w env tmps → ms.Nodup → (∀ D ∈ ms, (∀ a, F0 a → a.block ≠ D) ∧ F ⟨D, 0, none⟩ ∧ w.heap[D]? = some (.deferred (some []))) → Grow F0 F ρ ρ' wb w →
      LeavesInM Fence.wide 0 X.P fn tmps (fun e w' => ∃ v ρ' F', e = .returned v ∧ Inv X w0 S F' ρ' M w' ∧ Grow F0 F' ρ ρ' wb w' ∧ Rep X.K ρ' F' w' x v) (ms.map fun D => ({ target := .collected D, args := #[] } : Deferred)) .returning w
  | [], F, w, hI, hE, _, _, hg => by
    obtain ⟨v, h1, h2⟩ := hres hI hE
    exact ⟨v, h1, v, ρ', F, rfl, hI, hg, h2⟩
  | D :: ms, F, w, hI, hE, hnd, hms, hg => by
    obtain ⟨h1, h2, h3⟩ := hms D (by simp)
    have hc := cell_ne_of_deferred h3
    refine ⟨by simp, .inl ⟨D, _, rfl, run_takeDeferred h3, leaves_marks hf0 hres ms (hI.write_kept h2 hc (fun a ha => h1 a (hf0 a ha)) _) (hE.less hc _) (List.nodup_cons.1 hnd).2 (fun D' hD' => ?_) (hg.less h1 _)⟩⟩
    have hne : D' ≠ D := by rintro rfl; exact (List.nodup_cons.1 hnd).1 hD'
    obtain ⟨k1, k2, k3⟩ := hms D' (by simp [hD'])
    exact ⟨k1, ⟨k2, hne⟩, by rw [World.putObj_heap_other hne]; exact k3⟩
theorem evfn_core (hX : X.Okb) {nt : Nt} {f : FuncId} {fn : Func} {c : Code} (hf : X.P.funcs[f]? = some fn) (hb : fn.body = some c) (hn : fn.ntmps = nt.n)
    (hc : ∀ (vs : Array Value) (w : World), (callFunc f vs).run X.P w = .ok (.enter f vs) w) {rs : List ResultVar} (hrs : fn.results.toList = rs) {args : List AV} {M : List Blk} {k : AV → List Blk → Option R} {r : R}
    (hle : args.length ≤ nt.n) {e : Ex} {st' : St} (hrun : CodeRuns X nt c ⟨argEnv 0 args, M, [], .out⟩ (Ex.exit' e) st') (h : evfin X rs k e st' = some r) :
    ∃ x M', ACalls X f args M x M' ∧ k x M' = some r := by
  have he : e ≠ .normal → e = .ret := by
    intro hne
    cases e with
    | normal => exact absurd rfl hne
    | ret => rfl
    | exit i => simp [evfin] at h
  have hfin : (match st'.dfs with | [] => evres X rs st' k | _ => none) = some r := by
    cases e with
    | normal => exact h
    | ret => exact h
    | exit i => simp [evfin] at h
  split at hfin
  · rename_i hdfs
    obtain ⟨x, hk, hres⟩ := evres_sound hX hrs hfin
    refine ⟨x, st'.mem, ⟨hc, fun {w0 S F ρ w vs} hI hr => ?_⟩, hk⟩
    refine (callsIn_wide (n := 0)).1 (callsIn_of_wp_marks hf hb trivial ?_)
    have hlen := hr.1
    have := hrun (rdc := ⟨none, F, fun t => (vs.toArray ++ Array.replicate (fn.ntmps - vs.toArray.size) undef).getD t undef, []⟩) (n := 0) (Q := bodyPostM Fence.wide 0 X.P fn (fun e w' => ∃ v ρ' F', e = .returned v ∧ Inv X w0 S F' ρ' st'.mem w' ∧ Grow F F' ρ ρ' w w' ∧ Rep X.K ρ' F' w' x v))
      (a := { tmps := vs.toArray ++ Array.replicate (fn.ntmps - vs.toArray.size) undef, defers := [] }) hI ⟨fun t => ?_, ?_, Marks.nil _ _ (fun _ h => h), .inl rfl, fun t _ => rfl⟩ ?_
    · exact this
    · rw [look_argEnv, if_pos (Nat.zero_le _)]
      cases hx : args[t - 0]? with
      | none => exact .top _
      | some y =>
        have ht : t < vs.length := by have := (List.getElem?_eq_some_iff.1 hx).1; omega
        have hv : (vs.toArray ++ Array.replicate (fn.ntmps - vs.toArray.size) undef).getD t undef = vs[t] := by
          rw [Array.getD_eq_getD_getElem?, Array.getElem?_append_left (by simpa using ht)]
          simp [ht]
        rw [hv]
        exact hr.2 t y _ (by simpa using hx) (List.getElem?_eq_getElem ht)
    · simp only [Array.size_append, List.size_toArray, Array.size_replicate, hlen, hn]; omega
    · intro a' w' F' ρ' hI' hs' hg
      have hd : Marks F' w' F [] a'.defers := by have := hs'.defs; rw [hdfs] at this; exact this
      obtain ⟨_, ms, hms1, hms2, hms3⟩ := hd
      have hleave : LeavesInM Fence.wide 0 X.P fn a'.tmps (fun e w' => ∃ v ρ' F', e = .returned v ∧ Inv X w0 S F' ρ' st'.mem w' ∧ Grow F F' ρ ρ' w w' ∧ Rep X.K ρ' F' w' x v) a'.defers .returning w' := by
        rw [hms1, List.append_nil]
        exact leaves_marks (env := st'.env) hI.fin (fun {F2 w2} i2 e2 => hres (rdc := ⟨none, fun _ => False, fun t => a'.tmps.getD t undef, []⟩) (a := { tmps := a'.tmps, defers := [] }) i2 ⟨e2, hs'.size, by rw [hdfs]; exact Marks.nil _ _ (fun _ h => h.elim), .inl rfl, fun t _ => rfl⟩) ms hI' hs'.env hms2 hms3 hg
      by_cases hne : e = .normal
      · subst hne; exact hleave
      · rw [he hne]; exact hleave
  · cases hfin
theorem evfn_sound (hX : X.Okb) {f : FuncId} {fn : Func} {c : Code} {L : LTab R} (hL : L.Ok X c) (hf : X.P.funcs[f]? = some fn) (hb : fn.body = some c) (hn : fn.ntmps = L.tab.nt.n)
    (hc : ∀ (vs : Array Value) (w : World), (callFunc f vs).run X.P w = .ok (.enter f vs) w) {rs : List ResultVar} (hrs : fn.results.toList = rs) {args : List AV} {M : List Blk} {k : AV → List Blk → Option R} {r : R} (h : evfn X L c rs args M k = some r) :
    ∃ x M', ACalls X f args M x M' ∧ k x M' = some r := by
  unfold evfn at h
  replace h := tst_some h
  obtain ⟨hle, h⟩ := h
  obtain ⟨e, st', hrun, h⟩ := evk_sound hX hL c (At.root c) h
  exact evfn_core hX hf hb hn hc hrs (Nat.le_of_ble_eq_true hle) hrun h
end
end Go.Eng

namespace Go.Eng
open Go
noncomputable section
variable {X : Cx} {R O : Type}
inductive Sh0 where
  | cell (k : Kind)
  | own (j : Nat)
  | ptr (j i off : Nat)
  | yld (j : Nat)
  | mpr (j : Nat)
  | nilp
  | nilfn
  | fn (f : FuncId)
  | cl (f : FuncId) (ps : List (Nat × Nat × Nat))
  | vw (j : Nat)
  | nilsl
  | enl
  | ptrs (j off : Nat)
  | any
inductive Sh where
  | one (s : Sh0)
  | agg (ss : List Sh0)
  | clos (f : FuncId) (ss : List Sh0)
inductive BSh where
  | row (t : TypeId)
  | fro (t : TypeId)
  | var (ks : List Kind) (ss : List Sh0)
  | arr (ks : List Kind)
  | mp (k : Kind) (ag : Bool) (ks : List Kind)
  | loop (s : Nat) (es : List (Nat × Sh)) (pend : Option Ex)
  | gone
  | nst (t : TypeId)
def AV.caps : AV → List AV | .clos _ _ cs => cs | _ => []
def AV.id : AV → Nat | .own id => id | .ptr id _ _ => id | .yld id => id | .mp id => id | .vw id _ _ => id | _ => 0
def Blk.rows : Blk → List Row | .row _ xs => xs | .fro _ xs => xs | .nst _ xs _ => xs | _ => []
def Blk.cells : Blk → List AV | .var _ cs => cs | _ => []
def Blk.ents : Blk → List (AV × AV) | .map _ _ _ es => es | _ => []
def Blk.lenv : Blk → List (Nat × AV) | .loop _ env _ _ => env | _ => []
def Blk.pend : Blk → Option Ex | .loop _ _ _ p => p | _ => none
def AV.pi : AV → Nat | .ptr _ i _ => i | _ => 0
def can0 : Sh0 → AV → AV
  | .cell k, x => ld k x
  | .own j, _ => .own j
  | .ptr j i off, _ => .ptr j i off
  | .yld j, _ => .yld j
  | .mpr j, _ => .mp j
  | .nilp, _ => .nilp
  | .nilfn, _ => .nilfn
  | .fn f, _ => .clos f [] []
  | .cl f ps, _ => .clos f [] (ps.map fun p => .ptr p.1 p.2.1 p.2.2)
  | .vw j, x => .vw j x.vlo x.vn
  | .nilsl, _ => .nilsl
  | .enl, _ => .enl
  | .ptrs j off, x => .ptr j x.pi off
  | .any, x => x
def okP : List (Nat × Nat × Nat) → List AV → Bool
  | [], [] => true
  | p :: ps, .ptr j i off :: cs => Nat.beq j p.1 && Nat.beq i p.2.1 && Nat.beq off p.2.2 && okP ps cs
  | _, _ => false
theorem okP_eq : ∀ {ps : List (Nat × Nat × Nat)} {cs : List AV}, okP ps cs = true → (ps.map fun p => AV.ptr p.1 p.2.1 p.2.2) = cs := by
  intro ps cs h
  induction ps generalizing cs with
  | nil =>
    cases cs with
    | nil => rfl
    | cons _ _ => simp [okP] at h
  | cons p ps ih =>
    cases cs with
    | nil => simp [okP] at h
    | cons c cs =>
      cases c <;> simp only [okP, Bool.false_eq_true] at h
      rw [Bool.and_eq_true, Bool.and_eq_true, Bool.and_eq_true] at h
      rw [List.map_cons, ih h.2, Nat.eq_of_beq_eq_true h.1.1.1, Nat.eq_of_beq_eq_true h.1.1.2, Nat.eq_of_beq_eq_true h.1.2]
def ok0 : Sh0 → AV → Bool
  | .cell k, x => kok k x
  | .own j, .own i => Nat.beq i j
  | .ptr j i off, .ptr j' i' off' => Nat.beq j' j && Nat.beq i' i && Nat.beq off' off
  | .yld j, .yld i => Nat.beq i j
  | .mpr j, .mp i => Nat.beq i j
  | .nilp, .nilp => true
  | .nilfn, .nilfn => true
  | .fn f, .clos g [] [] => Nat.beq g f
  | .cl f ps, .clos g [] cs => Nat.beq g f && okP ps cs
  | .vw j, .vw i _ _ => Nat.beq i j
  | .nilsl, .nilsl => true
  | .enl, .enl => true
  | .ptrs j off, .ptr j' _ off' => Nat.beq j' j && Nat.beq off' off
  | .any, _ => true
  | _, _ => false
theorem can0_eq {s : Sh0} {x : AV} (h : ok0 s x = true) : can0 s x = x := by
  unfold ok0 at h
  split at h
  · exact ld_of_kok h
  · rw [Nat.eq_of_beq_eq_true h]; rfl
  · rw [Bool.and_eq_true, Bool.and_eq_true] at h
    rw [Nat.eq_of_beq_eq_true h.1.1, Nat.eq_of_beq_eq_true h.1.2, Nat.eq_of_beq_eq_true h.2]; rfl
  · rw [Nat.eq_of_beq_eq_true h]; rfl
  · rw [Nat.eq_of_beq_eq_true h]; rfl
  · rfl
  · rfl
  · rw [Nat.eq_of_beq_eq_true h]; rfl
  · rw [Bool.and_eq_true] at h
    simp only [can0]; rw [okP_eq h.2, Nat.eq_of_beq_eq_true h.1]
  · simp only [can0, AV.vlo, AV.vn]; rw [Nat.eq_of_beq_eq_true h]
  · rfl
  · rfl
  · rw [Bool.and_eq_true] at h
    simp only [can0, AV.pi]; rw [Nat.eq_of_beq_eq_true h.1, Nat.eq_of_beq_eq_true h.2]
  · rfl
  · cases h
def can0L : List Sh0 → List AV → List AV
  | [], _ => []
  | s :: ss, xs => can0 s (xs.headD .top) :: can0L ss xs.tail
def ok0L : List Sh0 → List AV → Bool
  | [], [] => true
  | s :: ss, x :: xs => ok0 s x && ok0L ss xs
  | _, _ => false
theorem can0L_eq : ∀ {ss : List Sh0} {xs : List AV}, ok0L ss xs = true → can0L ss xs = xs
  | [], [], _ => rfl
  | s :: ss, x :: xs, h => by
    simp only [ok0L, Bool.and_eq_true] at h
    simp only [can0L, List.headD_cons, List.tail_cons]
    rw [can0_eq h.1, can0L_eq h.2]
  | [], _ :: _, h => by simp [ok0L] at h
  | _ :: _, [], h => by simp [ok0L] at h
def canV : Sh → AV → AV
  | .one s, x => can0 s x
  | .agg ss, x => .agg (can0L ss x.cells)
  | .clos f ss, x => .clos f [] (can0L ss x.caps)
def okV : Sh → AV → Bool
  | .one s, x => ok0 s x
  | .agg ss, .agg cs => ok0L ss cs
  | .clos f ss, .clos g [] cs => Nat.beq g f && ok0L ss cs
  | _, _ => false
theorem canV_eq {s : Sh} {x : AV} (h : okV s x = true) : canV s x = x := by
  unfold okV at h
  split at h
  · exact can0_eq h
  · simp only [canV, AV.cells]; rw [can0L_eq h]
  · rw [Bool.and_eq_true] at h
    simp only [canV, AV.caps]; rw [can0L_eq h.2, Nat.eq_of_beq_eq_true h.1]
  · cases h
def canEs : List (Nat × Sh) → List (Nat × AV) → List (Nat × AV)
  | [], _ => []
  | e :: es, env => (e.1, canV e.2 (env.headD (0, .top)).2) :: canEs es env.tail
def okEs : List (Nat × Sh) → List (Nat × AV) → Bool
  | [], [] => true
  | e :: es, x :: env => Nat.beq x.1 e.1 && okV e.2 x.2 && okEs es env
  | _, _ => false
theorem canEs_eq : ∀ {es : List (Nat × Sh)} {env : List (Nat × AV)}, okEs es env = true → canEs es env = env
  | [], [], _ => rfl
  | e :: es, x :: env, h => by
    simp only [okEs, Bool.and_eq_true] at h
    simp only [canEs, List.headD_cons, List.tail_cons]
    rw [canV_eq h.1.2, canEs_eq h.2, ← Nat.eq_of_beq_eq_true h.1.1]
  | [], _ :: _, h => by simp [okEs] at h
  | _ :: _, [], h => by simp [okEs] at h
def okX : Option Ex → Option Ex → Bool
  | none, none => true
  | some .ret, some .ret => true
  | some (.exit i), some (.exit j) => Nat.beq i j
  | _, _ => false
theorem okX_eq {a b : Option Ex} (h : okX a b = true) : a = b := by
  unfold okX at h
  split at h
  · rfl
  · rfl
  · rw [Nat.eq_of_beq_eq_true h]
  · cases h
def canB : BSh → Blk → Blk
  | .row t, b => .row t b.rows
  | .fro t, b => .fro t b.rows
  | .var ks ss, b => .var ks (can0L ss b.cells)
  | .arr ks, b => .var ks b.cells
  | .mp k ag ks, b => .map k ag ks b.ents
  | .loop s es p, b => .loop s (canEs es b.lenv) false p
  | .gone, _ => .dead
  | .nst t, b => .nst t b.rows none
def okB : BSh → Blk → Bool
  | .row t, .row t' _ => t' == t
  | .fro t, .fro t' _ => t' == t
  | .var ks ss, .var ks' cs => ks' == ks && ok0L ss cs
  | .arr ks, .var ks' _ => ks' == ks
  | .mp k ag ks, .map k' ag' ks' _ => k' == k && ag' == ag && ks' == ks
  | .loop s es p, .loop s' env false p' => Nat.beq s' s && okEs es env && okX p' p
  | .gone, .dead => true
  | .nst t, .nst t' _ none => t' == t
  | _, _ => false
theorem canB_eq {s : BSh} {b : Blk} (h : okB s b = true) : canB s b = b := by
  unfold okB at h
  split at h
  · simp only [canB, Blk.rows]; rw [eq_of_beq h]
  · simp only [canB, Blk.rows]; rw [eq_of_beq h]
  · rw [Bool.and_eq_true] at h
    simp only [canB, Blk.cells]; rw [can0L_eq h.2, eq_of_beq h.1]
  · simp only [canB, Blk.cells]; rw [eq_of_beq h]
  · rw [Bool.and_eq_true, Bool.and_eq_true] at h
    simp only [canB, Blk.ents]; rw [eq_of_beq h.1.1, eq_of_beq h.1.2, eq_of_beq h.2]
  · rw [Bool.and_eq_true, Bool.and_eq_true] at h
    simp only [canB, Blk.lenv]; rw [canEs_eq h.1.2, Nat.eq_of_beq_eq_true h.1.1, okX_eq h.2]
  · rfl
  · simp only [canB, Blk.rows]; rw [eq_of_beq h]
  · cases h
def canM : List BSh → List Blk → List Blk
  | [], _ => []
  | s :: ss, M => canB s (M.headD .dead) :: canM ss M.tail
def okM : List BSh → List Blk → Bool
  | [], [] => true
  | s :: ss, b :: M => okB s b && okM ss M
  | _, _ => false
theorem canM_eq : ∀ {ss : List BSh} {M : List Blk}, okM ss M = true → canM ss M = M
  | [], [], _ => rfl
  | s :: ss, x :: xs, h => by
    simp only [okM, Bool.and_eq_true] at h
    simp only [canM, List.headD_cons, List.tail_cons]
    rw [canB_eq h.1, canM_eq h.2]
  | [], _ :: _, h => by simp [okM] at h
  | _ :: _, [], h => by simp [okM] at h
structure LSh where
  env : List (Nat × Sh)
  mem : List BSh
def canE (lk : Nat → AV) : List (Nat × Sh) → List (Nat × AV)
  | [] => []
  | (t, s) :: es => (t, canV s (lk t)) :: canE lk es
def okE (lk : Nat → AV) : List (Nat × Sh) → Bool
  | [] => true
  | (t, s) :: es => okV s (lk t) && okE lk es
def canS (σ : LSh) (lk : Nat → AV) (M : List Blk) : St := ⟨canE lk σ.env, canM σ.mem M, [], .unk⟩
theorem canE_look {lk : Nat → AV} : ∀ {es : List (Nat × Sh)}, okE lk es = true → ∀ t, look (canE lk es) t = lk t ∨ look (canE lk es) t = .top
  | [], _, t => .inr rfl
  | (u, s) :: es, h, t => by
    simp only [okE, Bool.and_eq_true] at h
    simp only [canE, look_cons, look_nil]
    by_cases ht : t = u
    · subst ht; simp only [beq_self_eq_true, if_true]; rw [canV_eq h.1]; exact .inl rfl
    · have : (t == u) = false := by simpa using ht
      simp only [this, Bool.false_eq_true, if_false]
      exact canE_look h.2 t
def enterS (σ : LSh) (sel : List Nat) (st : St) : St := canS σ (fun t => ren (idx sel) 4 (look st.env t)) (subM st.mem sel)
def enterOk (σ : LSh) (sel : List Nat) (st : St) : Bool := subOk st.mem sel && okE (fun t => ren (idx sel) 4 (look st.env t)) σ.env && okM σ.mem (subM st.mem sel)
theorem enter_facts {σ : LSh} {sel : List Nat} {st : St} (h : enterOk σ sel st = true) : subOk st.mem sel = true ∧ (enterS σ sel st).mem = subM st.mem sel ∧
    ∀ t, look (enterS σ sel st).env t = ren (idx sel) 4 (look st.env t) ∨ look (enterS σ sel st).env t = .top := by
  unfold enterOk at h
  rw [Bool.and_eq_true, Bool.and_eq_true] at h
  exact ⟨h.1.1, canM_eq h.2, canE_look h.1.2⟩
theorem enter_env (hX : X.Ok) {σ : LSh} {sel : List Nat} {st : St} (h : enterOk σ sel st = true) {w0 w : World} {S : Sc} {F : Addr → Prop} {ρ : List Hd} (hI : Inv X w0 S F ρ st.mem w) {tmps : Array Value} (he : EnvRep X ρ F w st.env tmps) : EnvRep X (sub hd0 ρ sel) F w (enterS σ sel st).env tmps := by
  obtain ⟨h1, h2, h3⟩ := enter_facts h
  have hs := sub_facts h1
  have hlt : ∀ i ∈ sel, i < ρ.length := fun i hi => by rw [hI.len]; exact hs.lt i hi
  intro t
  rcases h3 t with e | e
  · rw [e]; exact (he t).ren hX.kinds (ren_idx hlt hd0) 4
  · rw [e]; exact .top _
inductive Cv where
  | frz (t : Nat) (k : Kind)
  | mk (t : Nat) (ty : TypeId)
  | mkc (i : List (Nat × AV) → List Blk → Nat) (c : Nat) (ty : TypeId)
  | frzb (i : List (Nat × AV) → List Blk → Nat) (t : TypeId)
  | frza (t : Nat) (ks : List Kind)
  | mov (t : Nat)
  | frzc (i : List (Nat × AV) → List Blk → Nat) (c : Nat) (ty : TypeId)
  | gh (g : Gh)
def evcv (X : Cx) : List Cv → St → (St → Option R) → Option R
  | [], st, k => k st
  | .frz t kd :: cs, st, k => frz kd (look st.env t) st.mem fun x M => evcv X cs { st with env := (t, x) :: st.env, mem := M } k
  | .mk t ty :: cs, st, k =>
    match look st.env t with
    | .nilsl => evcv X cs { st with env := (t, .own st.mem.length) :: st.env, mem := st.mem ++ [.row ty []] } k
    | _ => evcv X cs st k
  | .mkc i c ty :: cs, st, k =>
    match gm st.mem (i st.env st.mem) with
    | some (.var ks xs) =>
      match xs[c]?, ks[c]? with
      | some .nilsl, some .any => evcv X cs { st with mem := (st.mem ++ [Blk.row ty []]).set (i st.env st.mem) (.var ks (xs.set c (.own st.mem.length))) } k
      | _, _ => evcv X cs st k
    | _ => evcv X cs st k
  | .frza t ks :: cs, st, k =>
    match look st.env t with
    | .agg xs => tst (Nat.beq xs.length ks.length) (frzL ks xs st.mem fun ys M => evcv X cs { st with env := (t, .agg ys) :: st.env, mem := M } k)
    | _ => evcv X cs st k
  | .gh g :: cs, st, k => evGh1 X g st.env st.mem fun M => evcv X cs { st with mem := M } k
  | .frzb i t :: cs, st, k => frz (.slice t) (.own (i st.env st.mem)) st.mem fun _ M => evcv X cs { st with mem := M } k
  | .mov t :: cs, st, k =>
    match look st.env t with
    | .own id =>
      match gm st.mem id with
      | some (.row ty xs) => evcv X cs { st with env := (t, .own st.mem.length) :: st.env, mem := st.mem.set id .dead ++ [.row ty xs] } k
      | _ => evcv X cs st k
    | _ => evcv X cs st k
  | .frzc i c ty :: cs, st, k =>
    match gm st.mem (i st.env st.mem) with
    | some (.var ks xs) =>
      match xs[c]?, ks[c]? with
      | some (.own id), some .any =>
        match gm st.mem id with
        | some (.row t rs) => tst (ty == t) (evcv X cs { st with mem := (st.mem.set id (.fro t rs)).set (i st.env st.mem) (.var ks (xs.set c (.list t rs))) } k)
        | some (.fro t rs) => tst (ty == t) (evcv X cs { st with mem := st.mem.set (i st.env st.mem) (.var ks (xs.set c (.list t rs))) } k)
        | _ => evcv X cs st k
      | _, _ => evcv X cs st k
    | _ => evcv X cs st k
theorem EnvRep.over {ρ : List Hd} {F : Addr → Prop} {w : World} {env : List (Nat × AV)} {tmps : Array Value} (h : EnvRep X ρ F w env tmps) {d : Nat} {x : AV} (hx : Rep X.K ρ F w x (tmps.getD d undef)) : EnvRep X ρ F w ((d, x) :: env) tmps := by
  intro t
  simp only [look_cons, look_nil]
  by_cases ht : t = d
  · subst ht; simpa using hx
  · have : (t == d) = false := by simpa using ht
    simp only [this, Bool.false_eq_true, if_false]
    exact h t
theorem frzc_inv {w0 w : World} {S : Sc} {F : Addr → Prop} {ρ : List Hd} {M M1 : List Blk} {i c id : Nat} {ks : List Kind} {xs : List AV} {t : TypeId} {rs : List Row} (hI : Inv X w0 S F ρ M w) (hb : M[i]? = some (.var ks xs)) (hx : xs[c]? = some (.own id)) (hk : ks[c]? = some .any) (hM : M1[i]? = some (.var ks xs))
    (hf : frz (.slice t) (.own id) M (fun x M' => some (x, M')) = some (.list t rs, M1)) : ∃ F', Inv X w0 S F' ρ (M1.set i (.var ks (xs.set c (.list t rs)))) w ∧ Grow F F' ρ ρ w w := by
  obtain ⟨x', M', e, hl, _, hd⟩ := frz_sound (X := X) hf
  injection e with e; injection e with e1 e2; subst e1; subst e2
  obtain ⟨F1, i1, g1, r1⟩ := hd hI
  refine ⟨F1, ?_, g1⟩
  have hlt : i < ρ.length := by rw [hI.len]; exact (List.getElem?_eq_some_iff.1 hb).1
  have hh : ρ[i]? = some ρ[i] := List.getElem?_eq_getElem hlt
  obtain ⟨p1, p2, g0, cur0, e0, p3, p4, ⟨p5, p6⟩, _⟩ := hI.rep _ _ _ hb hh
  obtain ⟨q1, q2, g, cur, e, q3, q4, ⟨q5, q6⟩, q7⟩ := i1.rep _ _ _ hM hh
  refine i1.write hM rfl hh (g := g) (by simp [Hd.blk?, Value.blk?, q3]) ⟨rfl, rfl, rfl, Nat.le_refl _, fun _ _ _ => rfl⟩ ⟨?_, by simpa using q2, g, cur, e, q3, q4, ?_, by rw [List.length_set]; exact q7⟩
  · refine koks_of (by simpa using koks_length q1) fun j k x hk' hx' => ?_
    rw [List.getElem?_set] at hx'
    split at hx'
    · rename_i ej; subst ej
      split at hx'
      · injection hx' with hx'; subst hx'; rw [hk] at hk'; injection hk' with hk'; subst hk'; rfl
      · cases hx'
    · exact koks_get q1 hk' hx'
  · rw [List.length_set]
    refine ⟨by simpa using q5, fun j x v hx' hv => ?_⟩
    rw [List.getElem?_set] at hx'
    split at hx'
    · rename_i ej; subst ej
      split at hx'
      · injection hx' with hx'; subst hx'
        have eg : g0 = g := by rw [p3] at q3; simpa using q3
        subst eg
        have ec : cur0 = cur := by rw [p4] at q4; injection q4 with q4; injection q4
        subst ec
        exact r1 v (p6 _ _ v hx hv)
      · cases hx'
    · exact q6 j x v hx' hv
theorem evcv_sound (hX : X.Ok) {k : St → Option R} {r : R} : ∀ (cs : List Cv) {st : St}, evcv X cs st k = some r → ∃ st', k st' = some r ∧ st'.dfs = st.dfs ∧ st'.rd = st.rd ∧
    ∀ {nt : Nt} {rdc : Cy} {w0 : World} {S : Sc} {F : Addr → Prop} {ρ : List Hd} {a : Act} {w : World}, Inv X w0 S F ρ st.mem w → Sim X nt st rdc F ρ a w → ∃ F' ρ', Inv X w0 S F' ρ' st'.mem w ∧ Sim X nt st' rdc F' ρ' a w ∧ Grow F F' ρ ρ' w w
  | [], st, h => ⟨st, h, rfl, rfl, fun {nt rdc w0 S F ρ a w} hI hs => ⟨F, ρ, hI, hs, Grow.refl _ _ _⟩⟩
  | .frz t kd :: cs, st, h => by
    simp only [evcv, gm_eq] at h
    obtain ⟨x, M', h, hl, _, hd⟩ := frz_sound (X := X) h
    obtain ⟨st', h, e1, e2, hr⟩ := evcv_sound hX cs h
    refine ⟨st', h, e1, e2, fun {nt rdc w0 S F ρ a w} hI hs => ?_⟩
    obtain ⟨F1, i1, g1, r1⟩ := hd hI
    obtain ⟨F2, ρ2, i2, s2, g2⟩ := hr (nt := nt) (rdc := rdc) (a := a) i1 ⟨(hs.env.grow g1).over (r1 _ (hs.env t)), hs.size, (hs.grow g1).defs, (hs.grow g1).rd, hs.kept⟩
    exact ⟨F2, ρ2, i2, s2, g1.trans g2⟩
  | .frza t ks :: cs, st, h => by
    simp only [evcv, gm_eq] at h
    split at h
    · rename_i xs hx
      replace h := tst_some h
      obtain ⟨_, h⟩ := h
      obtain ⟨ys, M', h, hl, _, hd⟩ := frzL_sound (X := X) _ _ _ h
      obtain ⟨st', h, e1, e2, hr⟩ := evcv_sound hX cs h
      refine ⟨st', h, e1, e2, fun {nt rdc w0 S F ρ a w} hI hs => ?_⟩
      obtain ⟨F1, i1, g1, r1⟩ := hd hI
      have hs1 := hs.grow g1
      have hv := hs.env t
      rw [hx] at hv
      have hrep : Rep X.K ρ F1 w (.agg ys) (a.tmps.getD t undef) := by
        generalize a.tmps.getD t undef = v at hv
        cases hv with
        | agg _ vs hl hr =>
          have := r1 vs ⟨hl, hr⟩
          exact .agg ys vs this.1 this.2
      obtain ⟨F2, ρ2, i2, s2, g2⟩ := hr (nt := nt) (rdc := rdc) (a := a) i1 ⟨hs1.env.over hrep, hs1.size, hs1.defs, hs1.rd, hs1.kept⟩
      exact ⟨F2, ρ2, i2, s2, g1.trans g2⟩
    · exact evcv_sound hX cs h
  | .gh g :: cs, st, h => by
    simp only [evcv] at h
    obtain ⟨M', h, hA⟩ := evGh1_sound hX.toOkb h
    obtain ⟨st', h, e1, e2, hr⟩ := evcv_sound hX cs h
    refine ⟨st', h, e1, e2, fun {nt rdc w0 S F ρ a w} hI hs => ?_⟩
    obtain ⟨F1, ρ1, i1, g1⟩ := hA hI
    have hs1 := hs.grow g1
    obtain ⟨F2, ρ2, i2, s2, g2⟩ := hr (nt := nt) (rdc := rdc) (a := a) i1 ⟨hs1.env, hs1.size, hs1.defs, hs1.rd, hs1.kept⟩
    exact ⟨F2, ρ2, i2, s2, g1.trans g2⟩
  | .frzb i t :: cs, st, h => by
    simp only [evcv, gm_eq] at h
    obtain ⟨x, M', h, hl, _, hd⟩ := frz_sound (X := X) h
    obtain ⟨st', h, e1, e2, hr⟩ := evcv_sound hX cs h
    refine ⟨st', h, e1, e2, fun {nt rdc w0 S F ρ a w} hI hs => ?_⟩
    obtain ⟨F1, i1, g1, r1⟩ := hd hI
    have hs1 := hs.grow g1
    obtain ⟨F2, ρ2, i2, s2, g2⟩ := hr (nt := nt) (rdc := rdc) (a := a) i1 ⟨hs1.env, hs1.size, hs1.defs, hs1.rd, hs1.kept⟩
    exact ⟨F2, ρ2, i2, s2, g1.trans g2⟩
  | .mov t :: cs, st, h => by
    simp only [evcv, gm_eq] at h
    split at h
    · rename_i id hv
      split at h
      · rename_i ty xs hb
        obtain ⟨st', h, e1, e2, hr⟩ := evcv_sound hX cs h
        refine ⟨st', h, e1, e2, fun {nt rdc w0 S F ρ a w} hI hs => ?_⟩
        have hlt : id < ρ.length := by rw [hI.len]; exact (List.getElem?_eq_some_iff.1 hb).1
        have hh : ρ[id]? = some ρ[id] := List.getElem?_eq_getElem hlt
        have i0 := hI.rep _ _ _ hb hh
        have g1 : Grow F F ρ (ρ ++ [ρ[id]]) w w := ⟨fun _ h => h, fun _ _ h => getElem?_append_old h, fun _ _ => rfl⟩
        have i1 : Inv X w0 S F (ρ ++ [ρ[id]]) (st.mem.set id .dead ++ [.row ty xs]) w :=
          hI.move hb rfl hh (row := none) ⟨rfl, rfl, rfl, Nat.le_refl _, fun _ _ _ => rfl⟩ (.inl rfl) (fun g hg => ⟨(hI.sep id _ _ g hb rfl hh hg).1, .inl hg⟩) (hI.one _ _ hh) (BRep.mono (b := .row ty xs) g1.hρ g1.hF (fun _ _ _ h => h) (fun _ _ => rfl) i0)
        have r1 : Rep X.K (ρ ++ [ρ[id]]) F w (.own st.mem.length) (a.tmps.getD t undef) := by
          have := hs.env t
          rw [hv] at this
          generalize a.tmps.getD t undef = v at this
          cases this with
          | own _ hd h2 =>
            rw [hh] at h2; injection h2 with h2
            rw [← h2]
            exact Rep.own (K := X.K) _ ρ[id] (by rw [← hI.len]; simp)
        have hs1 := hs.grow g1
        obtain ⟨F2, ρ2, i2, s2, g2⟩ := hr (nt := nt) (rdc := rdc) (a := a) i1 ⟨hs1.env.over r1, hs1.size, hs1.defs, hs1.rd, hs1.kept⟩
        exact ⟨F2, ρ2, i2, s2, g1.trans g2⟩
      · exact evcv_sound hX cs h
    · exact evcv_sound hX cs h
  | .frzc i c ty :: cs, st, h => by
    simp only [evcv, gm_eq] at h
    split at h
    · rename_i ks xs hb
      split at h
      · rename_i id hx hk
        split at h
        · rename_i t rs hr0
          replace h := tst_some h
          obtain ⟨ht, h⟩ := h
          have ht := eq_of_beq ht; subst ht
          obtain ⟨st', h, e1, e2, hr⟩ := evcv_sound hX cs h
          refine ⟨st', h, e1, e2, fun {nt rdc w0 S F ρ a w} hI hs => ?_⟩
          have hne : id ≠ i st.env st.mem := by intro e; subst e; rw [hb] at hr0; cases hr0
          obtain ⟨F1, i1, g1⟩ := frzc_inv hI hb hx hk (M1 := st.mem.set id (.fro ty rs)) (id := id) (t := ty) (rs := rs) (by rw [List.getElem?_set_ne hne]; exact hb) (by simp [frz, gm_eq, hr0, tst])
          have hs1 := hs.grow g1
          obtain ⟨F2, ρ2, i2, s2, g2⟩ := hr (nt := nt) (rdc := rdc) (a := a) i1 ⟨hs1.env, hs1.size, hs1.defs, hs1.rd, hs1.kept⟩
          exact ⟨F2, ρ2, i2, s2, g1.trans g2⟩
        · rename_i t rs hr0
          replace h := tst_some h
          obtain ⟨ht, h⟩ := h
          have ht := eq_of_beq ht; subst ht
          obtain ⟨st', h, e1, e2, hr⟩ := evcv_sound hX cs h
          refine ⟨st', h, e1, e2, fun {nt rdc w0 S F ρ a w} hI hs => ?_⟩
          obtain ⟨F1, i1, g1⟩ := frzc_inv hI hb hx hk (M1 := st.mem) (id := id) (t := ty) (rs := rs) hb (by simp [frz, gm_eq, hr0, tst])
          have hs1 := hs.grow g1
          obtain ⟨F2, ρ2, i2, s2, g2⟩ := hr (nt := nt) (rdc := rdc) (a := a) i1 ⟨hs1.env, hs1.size, hs1.defs, hs1.rd, hs1.kept⟩
          exact ⟨F2, ρ2, i2, s2, g1.trans g2⟩
        · exact evcv_sound hX cs h
      · exact evcv_sound hX cs h
    · exact evcv_sound hX cs h
  | .mk t ty :: cs, st, h => by
    simp only [evcv, gm_eq] at h
    split at h
    · rename_i hn
      obtain ⟨st', h, e1, e2, hr⟩ := evcv_sound hX cs h
      refine ⟨st', h, e1, e2, fun {nt rdc w0 S F ρ a w} hI hs => ?_⟩
      have hv : a.tmps.getD t undef = .slice none 0 0 := by
        have := hs.env t
        rw [hn] at this
        generalize a.tmps.getD t undef = v at this
        cases this
        rfl
      have i1 : Inv X w0 S F (ρ ++ [⟨.slice none 0 0, (X.K ty).length⟩]) (st.mem ++ [.row ty []]) w := hI.push' (hd := ⟨.slice none 0 0, (X.K ty).length⟩) (fun g hg => by simp [Hd.blk?, Value.blk?] at hg) rfl
        ⟨rfl, fun i row h => by simp at h, .inl ⟨rfl, rfl⟩⟩
      have g1 : Grow F F ρ (ρ ++ [⟨.slice none 0 0, (X.K ty).length⟩]) w w := ⟨fun _ h => h, fun _ _ h => getElem?_append_old h, fun _ _ => rfl⟩
      have r1 : Rep X.K (ρ ++ [⟨.slice none 0 0, (X.K ty).length⟩]) F w (.own st.mem.length) (a.tmps.getD t undef) := by
        rw [hv]
        exact Rep.own (K := X.K) _ ⟨.slice none 0 0, (X.K ty).length⟩ (by rw [← hI.len]; simp)
      have hs1 := hs.grow g1
      obtain ⟨F2, ρ2, i2, s2, g2⟩ := hr (nt := nt) (rdc := rdc) (a := a) i1 ⟨hs1.env.over r1, hs1.size, hs1.defs, hs1.rd, hs1.kept⟩
      exact ⟨F2, ρ2, i2, s2, g1.trans g2⟩
    · exact evcv_sound hX cs h
  | .mkc i c ty :: cs, st, h => by
    simp only [evcv, gm_eq] at h
    split at h
    · rename_i ks xs hb
      split at h
      · rename_i hx hk
        obtain ⟨st', h, e1, e2, hr⟩ := evcv_sound hX cs h
        refine ⟨st', h, e1, e2, fun {nt rdc w0 S F ρ a w} hI hs => ?_⟩
        have i1 : Inv X w0 S F (ρ ++ [⟨.slice none 0 0, (X.K ty).length⟩]) (st.mem ++ [.row ty []]) w := hI.push' (hd := ⟨.slice none 0 0, (X.K ty).length⟩) (fun g hg => by simp [Hd.blk?, Value.blk?] at hg) rfl
          ⟨rfl, fun i row h => by simp at h, .inl ⟨rfl, rfl⟩⟩
        have g1 : Grow F F ρ (ρ ++ [⟨.slice none 0 0, (X.K ty).length⟩]) w w := ⟨fun _ h => h, fun _ _ h => getElem?_append_old h, fun _ _ => rfl⟩
        have hlt : i st.env st.mem < ρ.length := by rw [hI.len]; exact (List.getElem?_eq_some_iff.1 hb).1
        have hh : (ρ ++ [(⟨.slice none 0 0, (X.K ty).length⟩ : Hd)])[i st.env st.mem]? = some ρ[i st.env st.mem] := getElem?_append_old (List.getElem?_eq_getElem hlt)
        have hb1 : (st.mem ++ [Blk.row ty []])[i st.env st.mem]? = some (.var ks xs) := getElem?_append_old hb
        obtain ⟨q1, q2, g, cur, e, q3, q4, ⟨q5, q6⟩, q7⟩ := i1.rep _ _ _ hb1 hh
        have i2 : Inv X w0 S F (ρ ++ [⟨.slice none 0 0, (X.K ty).length⟩]) ((st.mem ++ [Blk.row ty []]).set (i st.env st.mem) (.var ks (xs.set c (.own st.mem.length)))) w := by
          refine i1.write hb1 rfl hh (g := g) (by simp [Hd.blk?, Value.blk?, q3]) ⟨rfl, rfl, rfl, Nat.le_refl _, fun _ _ _ => rfl⟩ ⟨?_, by simpa using q2, g, cur, e, q3, q4, ?_, by rw [List.length_set]; exact q7⟩
          · refine koks_of (by simpa using koks_length q1) fun j k x hk' hx' => ?_
            rw [List.getElem?_set] at hx'
            split at hx'
            · rename_i ej; subst ej
              split at hx'
              · injection hx' with hx'; subst hx'; rw [hk] at hk'; injection hk' with hk'; subst hk'; rfl
              · cases hx'
            · exact koks_get q1 hk' hx'
          · rw [List.length_set]
            refine ⟨by simpa using q5, fun j x v hx' hv => ?_⟩
            rw [List.getElem?_set] at hx'
            split at hx'
            · rename_i ej; subst ej
              split at hx'
              · injection hx' with hx'; subst hx'
                have := q6 c _ v hx hv
                cases this
                exact Rep.own (K := X.K) _ ⟨.slice none 0 0, (X.K ty).length⟩ (by rw [← hI.len]; simp)
              · cases hx'
            · exact q6 j x v hx' hv
        have hs1 := hs.grow g1
        obtain ⟨F2, ρ2, i2, s2, g2⟩ := hr (nt := nt) (rdc := rdc) (a := a) i2 ⟨hs1.env, hs1.size, hs1.defs, hs1.rd, hs1.kept⟩
        exact ⟨F2, ρ2, i2, s2, g1.trans g2⟩
      · exact evcv_sound hX cs h
    · exact evcv_sound hX cs h
end
end Go.Eng

namespace Go.Eng
open Go
noncomputable section
variable {X : Cx} {R O : Type}
def FRuns (X : Cx) (nt : Nt) (c : Code) (m : Nat) (st : St) (e : Exit) (st' : St) : Prop :=
  ∀ {rdc : Cy} {n : Nat} {w0 : World} {S : Sc} {F : Addr → Prop} {ρ : List Hd} {a : Act} {w : World} {Q : Exit → Act → World → Prop}, Inv X w0 S F ρ st.mem w → Sim X nt st rdc F ρ a w →
    (∀ a' w' F' ρ', Inv X w0 S F' ρ' st'.mem w' → Sim X nt st' rdc F' ρ' a' w' → GrowF m F F' ρ ρ' w w' → Q e a' w') → c.wpIn (fen rdc.r) n X.P Q a w
theorem GrowF.trans {m : Nat} {F F' F'' : Addr → Prop} {ρ ρ' ρ'' : List Hd} {w w' w'' : World} (h : GrowF m F F' ρ ρ' w w') (k : GrowF m F' F'' ρ' ρ'' w' w'') : GrowF m F F'' ρ ρ'' w w'' :=
  ⟨fun a ha => k.hF a (h.hF a ha), fun id hd hm hh => k.hρ id hd hm (h.hρ id hd hm hh), fun a ha => (k.hb a (h.hF a ha)).trans (h.hb a ha)⟩
def pre (m : Nat) (sel : List Nat) : Bool := (sel.take m) == List.range m
theorem pre_get {m : Nat} {sel : List Nat} (h : pre m sel = true) {j : Nat} (hj : j < m) : sel[j]? = some j := by
  have e : sel.take m = List.range m := by simpa [pre] using h
  have : (sel.take m)[j]? = some j := by rw [e, List.getElem?_range hj]
  rw [List.getElem?_take, if_pos hj] at this
  exact this
def goS (X : Cx) (m : Nat) (cv : List Cv) (σ : LSh) (sel : St → List Nat) (st : St) (f : St → Option O) : Option O :=
  evcv X cv st fun st1 => tst (enterOk σ (sel st1) st1 && pre m (sel st1) && st1.dfs.isEmpty) (f (enterS σ (sel st1) st1))
theorem goS_sound (hX : X.Ok) {m : Nat} {cv : List Cv} {σ : LSh} {sel : St → List Nat} {st : St} {f : St → Option O} {o : O} (h : goS X m cv σ sel st f = some o) :
    ∃ lk M, f (canS σ lk M) = some o ∧ ∀ {nt : Nt} {rdc : Cy} {w0 : World} {S : Sc} {F : Addr → Prop} {ρ : List Hd} {a : Act} {w : World}, Inv X w0 S F ρ st.mem w → Sim X nt st rdc F ρ a w →
      ∃ F' ρ', Inv X w0 S F' ρ' (canS σ lk M).mem w ∧ Sim X nt (canS σ lk M) rdc F' ρ' a w ∧ GrowF m F F' ρ ρ' w w := by
  obtain ⟨st1, h, e1, e2, hr⟩ := evcv_sound hX cv h
  replace h := tst_some h
  obtain ⟨h1, h⟩ := h
  rw [Bool.and_eq_true, Bool.and_eq_true] at h1
  obtain ⟨⟨h1, h2⟩, h3⟩ := h1
  refine ⟨_, _, h, fun {nt rdc w0 S F ρ a w} hI hs => ?_⟩
  obtain ⟨F1, ρ1, i1, s1, g1⟩ := hr (nt := nt) (rdc := rdc) (a := a) hI hs
  obtain ⟨hok, hmem, _⟩ := enter_facts h1
  refine ⟨F1, sub hd0 ρ1 (sel st1), ?_, ⟨enter_env hX h1 i1 s1.env, s1.size, ?_, s1.rd, s1.kept⟩, ?_⟩
  · have := (i1.sub' hX hok hd0).1
    rw [← hmem] at this
    exact this
  · have := s1.defs
    have hd : st1.dfs = [] := by simpa using h3
    rw [hd] at this
    exact this
  · refine (g1.toF m).trans ⟨fun _ h => h, fun id hd hm hh => ?_, fun _ _ => rfl⟩
    have := pre_get h2 hm
    rw [sub_get this (List.getElem?_eq_some_iff.1 hh).1]
    exact hh
structure XSh (O : Type) where
  cv : List Cv
  σ : LSh
  sel : St → List Nat
  out : St → O
def kont (X : Cx) (m : Nat) (cv : List Cv) (σ : LSh) (sel : St → List Nat) (xs : Ex → St → Option (XSh O)) (LFn : St → Option O) (e : Ex) (st : St) : Option O :=
  match e with
  | .normal => goS X m cv σ sel st LFn
  | .exit i => match xs (.exit i) st with | some x => goS X m x.cv x.σ x.sel st fun s => some (x.out s) | none => none
  | .ret => match xs .ret st with | some x => goS X m x.cv x.σ x.sel st fun s => some (x.out s) | none => none
def outOk (x : XSh O) (e : Ex) (exOf : O → Ex) (stOf : O → St) : Prop := ∀ lk M, exOf (x.out (canS x.σ lk M)) = e ∧ stOf (x.out (canS x.σ lk M)) = canS x.σ lk M
theorem kont_sound (hX : X.Ok) {m : Nat} {cv : List Cv} {σ : LSh} {sel : St → List Nat} {xs : Ex → St → Option (XSh O)} {LFn : St → Option O} {exOf : O → Ex} {stOf : O → St} (hx : ∀ e st x, xs e st = some x → outOk x e exOf stOf) {e : Ex} {st : St} {o : O}
    (h : kont X m cv σ sel xs LFn e st = some o) :
    (e = .normal ∧ goS X m cv σ sel st LFn = some o) ∨ (e ≠ .normal ∧ exOf o = e ∧ ∀ {nt : Nt} {rdc : Cy} {w0 : World} {S : Sc} {F : Addr → Prop} {ρ : List Hd} {a : Act} {w : World}, Inv X w0 S F ρ st.mem w → Sim X nt st rdc F ρ a w →
      ∃ F' ρ', Inv X w0 S F' ρ' (stOf o).mem w ∧ Sim X nt (stOf o) rdc F' ρ' a w ∧ GrowF m F F' ρ ρ' w w) := by
  have out : ∀ {x : XSh O}, xs e st = some x → e ≠ .normal → goS X m x.cv x.σ x.sel st (fun s => some (x.out s)) = some o → (e ≠ .normal ∧ exOf o = e ∧ ∀ {nt : Nt} {rdc : Cy} {w0 : World} {S : Sc} {F : Addr → Prop} {ρ : List Hd} {a : Act} {w : World}, Inv X w0 S F ρ st.mem w → Sim X nt st rdc F ρ a w →
      ∃ F' ρ', Inv X w0 S F' ρ' (stOf o).mem w ∧ Sim X nt (stOf o) rdc F' ρ' a w ∧ GrowF m F F' ρ ρ' w w) := by
    intro x hxe hne hg
    obtain ⟨lk, M, ho, hr⟩ := goS_sound hX hg
    injection ho with ho
    obtain ⟨q1, q2⟩ := hx e st x hxe lk M
    rw [ho] at q1 q2
    refine ⟨hne, q1, fun {nt rdc w0 S F ρ a w} hI hs => ?_⟩
    rw [q2]
    exact hr hI hs
  unfold kont at h
  cases e with
  | normal => exact .inl ⟨rfl, h⟩
  | exit i =>
    simp only at h
    split at h
    · rename_i x hxe; exact .inr (out hxe (by simp) h)
    · cases h
  | ret =>
    simp only at h
    split at h
    · rename_i x hxe; exact .inr (out hxe (by simp) h)
    · cases h
theorem rounds_sound (hX : X.Ok) {root c : Code} {p : Nat} {L : LTab O} (hL : L.Ok X root) (hat : At root p (.loop c)) {m : Nat} {cv : List Cv} {σ : LSh} {sel : St → List Nat} {xs : Ex → St → Option (XSh O)} {LF : Nat → St → Option O} {exOf : O → Ex} {stOf : O → St}
    (h0 : ∀ lk M, LF 0 (canS σ lk M) = none) (hstep : ∀ n lk M, LF (n + 1) (canS σ lk M) = evk X L c (2 * p) (canS σ lk M) (kont X m cv σ sel xs (LF n))) (hx : ∀ e st x, xs e st = some x → outOk x e exOf stOf) :
    ∀ (fuel : Nat) {lk : Nat → AV} {M : List Blk} {o : O}, LF fuel (canS σ lk M) = some o → ∀ {rdc : Cy} {n : Nat} {w0 : World} {S : Sc} {F : Addr → Prop} {ρ : List Hd} {a : Act} {w : World} {Q : Exit → Act → World → Prop},
      Inv X w0 S F ρ (canS σ lk M).mem w → Sim X L.tab.nt (canS σ lk M) rdc F ρ a w →
      (∀ a' w' F' ρ', Inv X w0 S F' ρ' (stOf o).mem w' → Sim X L.tab.nt (stOf o) rdc F' ρ' a' w' → GrowF m F F' ρ ρ' w w' → Q (Ex.exit' (exOf o)) a' w') → Code.roundsIn (fen rdc.r) n X.P c Q fuel a w
  | 0, lk, M, o, h, _, _, _, _, _, _, _, _, _, _, _, _ => by rw [h0] at h; cases h
  | fuel + 1, lk, M, o, h, rdc, n, w0, S, F, ρ, a, w, Q, hI, hs, hq => by
    rw [hstep] at h
    obtain ⟨e, st', hrun, h⟩ := evk_sound hX hL c (hat.down false fun l hl => by simp [codeAt, hl]) h
    rcases kont_sound hX hx h with ⟨rfl, h⟩ | ⟨hne, heo, hr⟩
    · obtain ⟨lk', M', h, hr⟩ := goS_sound hX h
      rw [roundsIn_succ]
      refine hrun hI hs fun a' w' F' ρ' hI' hs' hg => ?_
      obtain ⟨F2, ρ2, i2, s2, g2⟩ := hr hI' hs'
      exact rounds_sound hX hL hat h0 hstep hx fuel h i2 s2 fun a'' w'' F'' ρ'' hI'' hs'' hg'' => hq a'' w'' F'' ρ'' hI'' hs'' ((hg.toF m).trans (g2.trans hg''))
    · rw [roundsIn_succ]
      refine hrun hI hs fun a' w' F' ρ' hI' hs' hg => ?_
      obtain ⟨F2, ρ2, i2, s2, g2⟩ := hr hI' hs'
      have := hq a' w' F2 ρ2 i2 s2 ((hg.toF m).trans g2)
      rw [heo] at this
      cases e with
      | normal => exact absurd rfl hne
      | exit i => exact this
      | ret => exact this
def leaveS (m mask : Nat) (sel : List Nat) (st so : St) : St :=
  { env := renE (rno m sel st.mem.length) 4 so.env ++ st.env.filter (fun p => !mask.testBit p.1), mem := merge m st.mem sel so.mem, dfs := st.dfs, rd := st.rd }
def callLoop (X : Cx) (m mask : Nat) (cv : List Cv) (σ : LSh) (sel : St → List Nat) (nt : Nt) (LFn : St → Option O) (elim : O → (Ex → St → Option R) → Option R) (st : St) (k : Ex → St → Option R) : Option R :=
  evcv X cv st fun st1 =>
    tst (enterOk σ (sel st1) st1 && Nat.beq (nt.mask &&& mask) mask && st1.dfs.isEmpty)
      (match LFn (enterS σ (sel st1) st1) with
       | none => none
       | some o => elim o fun e so => tst (mergeOk m st1.mem (sel st1) so.mem && so.dfs.isEmpty) (k e (leaveS m mask (sel st1) st1 so)))
theorem look_append : ∀ (A B : List (Nat × AV)) (t : Nat), look (A ++ B) t = look A t ∨ look (A ++ B) t = look B t
  | [], B, t => .inr rfl
  | (u, x) :: A, B, t => by
    simp only [List.cons_append, look_cons, look_nil]
    by_cases ht : t = u
    · subst ht; simp
    · have : (t == u) = false := by simpa using ht
      simp only [this, Bool.false_eq_true, if_false]
      exact look_append A B t
theorem look_mask (mask : Nat) : ∀ (env : List (Nat × AV)) (t : Nat), look (env.filter (fun p => !mask.testBit p.1)) t = .top ∨ (mask.testBit t = false ∧ look (env.filter (fun p => !mask.testBit p.1)) t = look env t)
  | [], t => .inl rfl
  | (u, x) :: env, t => by
    have ih := look_mask mask env t
    rw [List.filter_cons]
    by_cases hu : mask.testBit u = true
    · rw [if_neg (by simp [hu])]
      rcases ih with h | ⟨h1, h2⟩
      · exact .inl h
      · refine .inr ⟨h1, ?_⟩
        have ht : (t == u) = false := by
          by_cases ht : t = u
          · subst ht; rw [hu] at h1; cases h1
          · simpa using ht
        simp only [look_cons, look_nil, ht, Bool.false_eq_true, if_false]
        exact h2
    · have hu' : mask.testBit u = false := by simpa using hu
      rw [if_pos (by simp [hu'])]
      simp only [look_cons, look_nil]
      by_cases ht : t = u
      · subst ht; exact .inr ⟨hu', by simp⟩
      · have : (t == u) = false := by simpa using ht
        simp only [this, Bool.false_eq_true, if_false]
        exact ih
theorem callLoop_sound (hX : X.Ok) {root c : Code} {p : Nat} {L : LTab O} (hL : L.Ok X root) (hat : At root p (.loop c)) {m mask : Nat} {cv cv' : List Cv} {σ : LSh} {sel sel' : St → List Nat} {xs : Ex → St → Option (XSh O)} {LF : Nat → St → Option O} {exOf : O → Ex} {stOf : O → St}
    (h0 : ∀ lk M, LF 0 (canS σ lk M) = none) (hstep : ∀ n lk M, LF (n + 1) (canS σ lk M) = evk X L c (2 * p) (canS σ lk M) (kont X m cv σ sel xs (LF n))) (hx : ∀ e st x, xs e st = some x → outOk x e exOf stOf)
    {nt : Nt} (hnt : L.tab.nt = ⟨nt.n, mask⟩) {elim : O → (Ex → St → Option R) → Option R} (helim : ∀ o k, elim o k = k (exOf o) (stOf o)) {fuel : Nat} {st : St} {k : Ex → St → Option R} {r : R}
    (h : callLoop X m mask cv' σ sel' nt (LF fuel) elim st k = some r) : ∃ e st', CodeRuns X nt (.loop c) st (Ex.exit' e) st' ∧ k e st' = some r := by
  unfold callLoop at h
  obtain ⟨st1, h, e1, e2, hcv⟩ := evcv_sound hX cv' h
  replace h := tst_some h
  obtain ⟨h1, h⟩ := h
  rw [Bool.and_eq_true, Bool.and_eq_true] at h1
  obtain ⟨⟨h1, hmask⟩, hdf1⟩ := h1
  have hdf1 : st1.dfs = [] := by simpa using hdf1
  have hmask : nt.mask &&& mask = mask := Nat.eq_of_beq_eq_true hmask
  split at h
  · cases h
  · rename_i o ho
    rw [helim] at h
    replace h := tst_some h
    obtain ⟨h2, h⟩ := h
    rw [Bool.and_eq_true] at h2
    obtain ⟨hm, hdfs⟩ := h2
    have hdfs : (stOf o).dfs = [] := by simpa using hdfs
    refine ⟨_, _, fun {rdc n w0 S F ρ a w Q} hI hs hq => ?_, h⟩
    obtain ⟨F1, ρ1, i1, s1, g1⟩ := hcv (nt := nt) (rdc := rdc) (a := a) hI hs
    obtain ⟨hok, hmem, _⟩ := enter_facts h1
    have hsub := i1.sub hX hok hd0
    have hro := rounds_sound hX hL hat h0 hstep hx fuel (lk := fun t => ren (idx (sel' st1)) 4 (look st1.env t)) (M := subM st1.mem (sel' st1)) ho (rdc := ⟨rdc.r, rdc.db, fun t => a.tmps.getD t undef, rdc.df⟩) (n := n) (w0 := w) (S := hand w ρ1 st1.mem (sel' st1) F1) (F := F1) (ρ := sub hd0 ρ1 (sel' st1)) (a := a) (w := w) (Q := Q)
      (by have : (canS σ (fun t => ren (idx (sel' st1)) 4 (look st1.env t)) (subM st1.mem (sel' st1))).mem = subM st1.mem (sel' st1) := hmem
          rw [this]; exact hsub)
      ⟨enter_env hX h1 i1 s1.env, by rw [hnt]; exact s1.size, ?_, s1.rd, fun _ _ => rfl⟩ ?_
    · exact wpIn_loop_rounds fuel hro
    · have := s1.defs
      rw [hdf1] at this
      exact this
    · intro a' w' F' ρ' hI' hs' hg'
      obtain ⟨i3, g3, r3⟩ := i1.merge hX hok hd0 hI' hg' hm
      refine hq a' w' F' _ i3 ⟨fun t => ?_, by have := hs'.size; rw [hnt] at this; exact this, ?_, hs'.rd, fun t ht => ?_⟩ (g1.trans g3)
      · rcases look_append (renE (rno m (sel' st1) st1.mem.length) 4 (stOf o).env) (st1.env.filter (fun p => !mask.testBit p.1)) t with e | e
        · simp only [leaveS]; rw [e]; exact (hs'.env.ren hX r3 4) t
        · simp only [leaveS]; rw [e]
          rcases look_mask mask st1.env t with e' | ⟨hb, e'⟩
          · rw [e']; exact .top _
          · rw [e']
            have hk := hs'.kept t (by rw [hnt]; exact hb)
            rw [hk]
            exact (s1.env t).grow g3
      · have hd := hs'.defs
        rw [hdfs] at hd
        simp only [leaveS]
        rw [hdf1]
        exact hd
      · have hb : mask.testBit t = false := by
          rw [← hmask, Nat.testBit_and, ht, Bool.false_and]
        have hk := hs'.kept t (by rw [hnt]; exact hb)
        rw [hk]
        exact s1.kept t ht
end
end Go.Eng

namespace Go.Eng
open Go
noncomputable section
variable {X : Cx} {R O : Type}
def FCalls (X : Cx) (f : FuncId) (m : Nat) (args : List AV) (M : List Blk) (x : AV) (M' : List Blk) : Prop :=
  ∀ {w0 : World} {S : Sc} {F : Addr → Prop} {ρ : List Hd} {w : World} {vs : List Value}, Inv X w0 S F ρ M w → RepL X.K ρ F w args vs →
    Calls X.P f vs.toArray w (fun e w' => ∃ v ρ' F', e = .returned v ∧ Inv X w0 S F' ρ' M' w' ∧ GrowF m F F' ρ ρ' w w' ∧ Rep X.K ρ' F' w' x v)
def goR (X : Cx) (m : Nat) (ys : St → Option (XSh O)) (x : AV) (M : List Blk) : Option O :=
  match ys ⟨[(0, x)], M, [], .unk⟩ with
  | some y => goS X m y.cv y.σ y.sel ⟨[(0, x)], M, [], .unk⟩ fun s => some (y.out s)
  | none => none
def retOk (y : XSh O) (valOf : O → AV) (memOf : O → List Blk) : Prop := ∀ lk M, valOf (y.out (canS y.σ lk M)) = look (canS y.σ lk M).env 0 ∧ memOf (y.out (canS y.σ lk M)) = (canS y.σ lk M).mem
theorem goR_sound (hX : X.Ok) {f : FuncId} {m : Nat} {ys : St → Option (XSh O)} {valOf : O → AV} {memOf : O → List Blk} (hys : ∀ st y, ys st = some y → retOk y valOf memOf) {args : List AV} {M : List Blk} {x : AV} {M1 : List Blk} (hc : ACalls X f args M x M1) {o : O} (h : goR X m ys x M1 = some o) :
    FCalls X f m args M (valOf o) (memOf o) := by
  unfold goR at h
  split at h
  case h_2 => cases h
  rename_i y hys'
  have hy := hys _ _ hys'
  obtain ⟨lk, Mx, ho, hr⟩ := goS_sound hX h
  injection ho with ho
  obtain ⟨q1, q2⟩ := hy lk Mx
  rw [ho] at q1 q2
  intro w0 S F ρ w vs hI hargs
  refine (hc.2 hI hargs).mono ?_
  rintro e w' ⟨v, ρ', F', rfl, hI', hg, hx⟩
  obtain ⟨F2, ρ2, i2, s2, g2⟩ := hr (nt := ⟨1, 0⟩) (rdc := ⟨none, fun _ => False, fun t => (#[v] : Array Value).getD t undef, []⟩) (a := { tmps := #[v], defers := [] }) hI' ⟨fun t => by
    simp only [look_cons, look_nil]
    by_cases ht : t = 0
    · subst ht; simpa using hx
    · have : (t == 0) = false := by simpa using ht
      simp only [this, Bool.false_eq_true, if_false]
      exact .top _, rfl, Marks.nil _ _ (fun _ h => h.elim), .inl rfl, fun _ _ => rfl⟩
  refine ⟨v, ρ2, F2, rfl, by rw [q2]; exact i2, (hg.toF m).trans g2, ?_⟩
  rw [q1]
  exact s2.env 0
def argsE (n : Nat) (env : List (Nat × AV)) : List AV := (List.range n).map fun t => look env t
theorem repL_args {ρ : List Hd} {F : Addr → Prop} {w : World} {args : List AV} {vs : List Value} (h : RepL X.K ρ F w args vs) : EnvRep X ρ F w (argEnv 0 args) vs.toArray := by
  intro t
  rw [look_argEnv, if_pos (Nat.zero_le _)]
  cases hx : args[t - 0]? with
  | none => exact .top _
  | some y =>
    have ht : t < vs.length := by have := (List.getElem?_eq_some_iff.1 hx).1; have := h.1; omega
    have hv : vs.toArray.getD t undef = vs[t] := by simp [Array.getD_eq_getD_getElem?, ht]
    rw [hv]
    exact h.2 t y _ (by simpa using hx) (List.getElem?_eq_getElem ht)
theorem repL_env {ρ : List Hd} {F : Addr → Prop} {w : World} {env : List (Nat × AV)} {vs : List Value} (h : EnvRep X ρ F w env vs.toArray) : RepL X.K ρ F w (argsE vs.length env) vs := by
  refine ⟨by simp [argsE], fun j x v hx hv => ?_⟩
  simp only [argsE, List.getElem?_map] at hx
  have hj : j < vs.length := (List.getElem?_eq_some_iff.1 hv).1
  rw [List.getElem?_range hj] at hx
  simp only [Option.map_some, Option.some.injEq] at hx
  subst hx
  have := h j
  have hv2 : vs.toArray.getD j undef = v := by
    rw [List.getElem?_eq_getElem hj] at hv
    injection hv with hv
    simp [Array.getD_eq_getD_getElem?, hj, hv]
  rw [hv2] at this
  exact this
def goRt (X : Cx) (m n : Nat) (ys : St → Option (XSh O)) (x : AV) (M : List Blk) : Option O :=
  match x with
  | .tup xs =>
    match ys ⟨argEnv 0 xs, M, [], .unk⟩ with
    | some y => tst (Nat.beq xs.length n) (goS X m y.cv y.σ y.sel ⟨argEnv 0 xs, M, [], .unk⟩ fun s => some (y.out s))
    | none => none
  | _ => none
def retOkt (n : Nat) (y : XSh O) (valOf : O → AV) (memOf : O → List Blk) : Prop := ∀ lk M, valOf (y.out (canS y.σ lk M)) = .tup (argsE n (canS y.σ lk M).env) ∧ memOf (y.out (canS y.σ lk M)) = (canS y.σ lk M).mem
theorem goRt_sound (hX : X.Ok) {f : FuncId} {m n : Nat} {ys : St → Option (XSh O)} {valOf : O → AV} {memOf : O → List Blk} (hys : ∀ st y, ys st = some y → retOkt n y valOf memOf) {args : List AV} {M : List Blk} {x : AV} {M1 : List Blk} (hc : ACalls X f args M x M1) {o : O} (h : goRt X m n ys x M1 = some o) :
    FCalls X f m args M (valOf o) (memOf o) := by
  unfold goRt at h
  split at h
  · rename_i xs
    split at h
    case h_2 => cases h
    rename_i y hys'
    have hy := hys _ _ hys'
    replace h := tst_some h
    obtain ⟨hn, h⟩ := h
    have hn : xs.length = n := Nat.eq_of_beq_eq_true hn
    obtain ⟨lk, Mx, ho, hr⟩ := goS_sound hX h
    injection ho with ho
    obtain ⟨q1, q2⟩ := hy lk Mx
    rw [ho] at q1 q2
    intro w0 S F ρ w vs hI hargs
    refine (hc.2 hI hargs).mono ?_
    rintro e w' ⟨v, ρ', F', rfl, hI', hg, hx⟩
    cases hx with
    | tup cs us hl hr2 =>
      obtain ⟨F2, ρ2, i2, s2, g2⟩ := hr (nt := ⟨us.length, 0⟩) (rdc := ⟨none, fun _ => False, fun t => us.toArray.getD t undef, []⟩) (a := { tmps := us.toArray, defers := [] }) hI' ⟨repL_args ⟨hl, hr2⟩, by simp, Marks.nil _ _ (fun _ h => h.elim), .inl rfl, fun _ _ => rfl⟩
      refine ⟨.tuple us.toArray, ρ2, F2, rfl, by rw [q2]; exact i2, (hg.toF m).trans g2, ?_⟩
      rw [q1]
      have := repL_env s2.env
      rw [hl, hn] at this
      exact .tup _ us this.1 this.2
  · cases h
def callFn (X : Cx) (m : Nat) (cv : List Cv) (σ : LSh) (sel : St → List Nat) (FFn : St → Option O) (elim : O → (AV → List Blk → Option R) → Option R) (args : List AV) (M : List Blk) (k : AV → List Blk → Option R) : Option R :=
  evcv X cv ⟨argEnv 0 args, M, [], .unk⟩ fun st1 =>
    tst (enterOk σ (sel st1) st1)
      (match FFn (enterS σ (sel st1) st1) with
       | none => none
       | some o => elim o fun x Mc => tst (mergeOk m st1.mem (sel st1) Mc) (k (ren (rno m (sel st1) st1.mem.length) 4 x) (merge m st1.mem (sel st1) Mc)))
theorem callFn_sound (hX : X.Ok) {f : FuncId} {m na : Nat} {cv : List Cv} {σ : LSh} {sel : St → List Nat} {FFn : St → Option O} {valOf : O → AV} {memOf : O → List Blk} {elim : O → (AV → List Blk → Option R) → Option R} (helim : ∀ o k, elim o k = k (valOf o) (memOf o))
    (hf : ∀ lk M o, FFn (canS σ lk M) = some o → FCalls X f m (argsE na (canS σ lk M).env) (canS σ lk M).mem (valOf o) (memOf o)) (hc : ∀ (vs : Array Value) (w : World), (callFunc f vs).run X.P w = .ok (.enter f vs) w)
    {args : List AV} (hna : args.length = na) {M : List Blk} {k : AV → List Blk → Option R} {r : R} (h : callFn X m cv σ sel FFn elim args M k = some r) : ∃ x M', ACalls X f args M x M' ∧ k x M' = some r ∧ (cv = [] → Agree (sel ⟨argEnv 0 args, M, [], .unk⟩) M M') := by
  unfold callFn at h
  have hst0 : ∃ st1, (tst (enterOk σ (sel st1) st1) (match FFn (enterS σ (sel st1) st1) with | none => none | some o => elim o fun x Mc => tst (mergeOk m st1.mem (sel st1) Mc) (k (ren (rno m (sel st1) st1.mem.length) 4 x) (merge m st1.mem (sel st1) Mc)))) = some r ∧ (cv = [] → st1 = ⟨argEnv 0 args, M, [], .unk⟩) ∧
      ∀ {nt : Nt} {rdc : Cy} {w0 : World} {S : Sc} {F : Addr → Prop} {ρ : List Hd} {a : Act} {w : World}, Inv X w0 S F ρ M w → Sim X nt ⟨argEnv 0 args, M, [], .unk⟩ rdc F ρ a w → ∃ F' ρ', Inv X w0 S F' ρ' st1.mem w ∧ Sim X nt st1 rdc F' ρ' a w ∧ Grow F F' ρ ρ' w w := by
    cases cv with
    | nil => exact ⟨_, h, fun _ => rfl, fun {nt rdc w0 S F ρ a w} hI hs => ⟨F, ρ, hI, hs, Grow.refl _ _ _⟩⟩
    | cons c cs =>
      obtain ⟨st1, h, _, _, hcv⟩ := evcv_sound hX (c :: cs) h
      exact ⟨st1, h, (fun e => by cases e), hcv⟩
  clear h
  obtain ⟨st1, h, hnil, hcv⟩ := hst0
  replace h := tst_some h
  obtain ⟨h1, h⟩ := h
  split at h
  · cases h
  · rename_i o ho
    rw [helim] at h
    replace h := tst_some h
    obtain ⟨hm, h⟩ := h
    refine ⟨_, _, ⟨hc, fun {w0 S F ρ w vs} hI hr => ?_⟩, h, fun e => by rw [hnil e]; exact merge_agree⟩
    obtain ⟨F1, ρ1, i1, s1, g1⟩ := hcv (nt := ⟨vs.length, 0⟩) (rdc := ⟨none, fun _ => False, fun t => vs.toArray.getD t undef, []⟩) (a := { tmps := vs.toArray, defers := [] }) hI ⟨repL_args hr, by simp, Marks.nil _ _ (fun _ h => h.elim), .inl rfl, fun _ _ => rfl⟩
    obtain ⟨hok, hmem, _⟩ := enter_facts h1
    have hsub := i1.sub hX hok hd0
    have henv := enter_env hX h1 i1 s1.env
    have hargs := repL_env henv
    have hl : vs.length = na := by rw [hr.1]; exact hna
    rw [hl] at hargs
    have hcall := hf (fun t => ren (idx (sel st1)) 4 (look st1.env t)) (subM st1.mem (sel st1)) o ho (w0 := w) (S := hand w ρ1 st1.mem (sel st1) F1) (F := F1) (ρ := sub hd0 ρ1 (sel st1)) (w := w) (vs := vs)
      (by have : (canS σ (fun t => ren (idx (sel st1)) 4 (look st1.env t)) (subM st1.mem (sel st1))).mem = subM st1.mem (sel st1) := hmem
          rw [this]; exact hsub) hargs
    refine hcall.mono ?_
    rintro e w' ⟨v, ρ', F', rfl, hI', hg, hx⟩
    obtain ⟨i3, g3, r3⟩ := i1.merge hX hok hd0 hI' hg hm
    exact ⟨v, _, F', rfl, i3, g1.trans g3, hx.ren hX.kinds r3 4⟩
end
end Go.Eng

namespace Go.Eng
open Go
noncomputable section
variable {X : Cx} {R : Type}
theorem Marks.putObj {F : Addr → Prop} {w : World} {db : Addr → Prop} {df ds : List Deferred} (h : Marks F w db df ds) {g : Nat} {lp : Loop} (hg : w.heap[g]? = some (.loop lp)) (o : Obj) : Marks F (w.putObj g o) db df ds := by
  obtain ⟨h0, ms, h1, h2, h3⟩ := h
  refine ⟨h0, ms, h1, h2, fun D hD => ⟨(h3 D hD).1, (h3 D hD).2.1, ?_⟩⟩
  have hne : D ≠ g := by
    rintro rfl
    have := (h3 D hD).2.2
    rw [hg] at this
    cases this
  rw [World.putObj_heap_other hne]; exact (h3 D hD).2.2
theorem Inv.rewrite {w0 w : World} {S : Sc} {F : Addr → Prop} {ρ : List Hd} {M : List Blk} (hI : Inv X w0 S F ρ M w) {D : Nat} (hF : F ⟨D, 0, none⟩) (hD : ∀ a v, a.block = D → w.cell? a ≠ some v) (hN : ∀ a, S.F0 a → a.block ≠ D) (o : Obj) :
    Inv X w0 S F ρ M (w.putObj D o) := by
  have i := hI.write_kept hF hD hN o
  have back : ∀ {id p g}, Hid (w.putObj D o) ρ M id p g → Hid w ρ M id p g := fun hh => hh.back hI.nst hI.len (fun _ _ h _ => h) (fun _ _ h _ => h) fun g _ _ h3 _ => World.putObj_heap_other (fun e => h3 _ hF e.symm)
  have hnst : Nst X w0 S F ρ M (w.putObj D o) := ⟨fun hh => ⟨by simpa using (hI.nst.own (back hh)).1, (hI.nst.own (back hh)).2⟩, fun h1 h2 => hI.nst.inj (back h1) (back h2),
    fun hb hh => (i.nst.rep hb hh).mono (fun _ _ h => h) (fun _ h => h.1) (fun _ _ _ h => h) (fun _ _ => rfl) (fun _ _ _ _ _ _ _ _ _ _ _ _ => rfl)⟩
  exact ⟨i.os, i.tape, i.output, i.size, i.frame, i.len, fun id b hd hb hh => (i.rep id b hd hb hh).mono (fun _ _ h => h) (fun _ h => h.1) (fun _ _ _ h => h) (fun _ _ => rfl),
    fun id b hd g hb hdd hh hgb => ⟨by simpa using (hI.sep id b hd g hb hdd hh hgb).1, (hI.sep id b hd g hb hdd hh hgb).2⟩,
    i.disj, fun a ha => by simpa using hI.fz a ha, fun g => (i.glob g).mono (fun _ _ h => h) (fun _ h => h.1) (fun _ _ _ h => h), i.one, hI.old, hI.fin, hnst⟩
theorem Inv.keep {w0 w : World} {S : Sc} {F : Addr → Prop} {ρ : List Hd} {M : List Blk} (hI : Inv X w0 S F ρ M w) {mk : Option Nat} (h1 : ∀ D, mk = some D → D < w.heap.size ∧ w0.heap.size ≤ D)
    (h2 : ∀ (D : Nat) (id : Nat) b hd, mk = some D → M[id]? = some b → b.isDead = false → ρ[id]? = some hd → hd.blk? ≠ some D) (h3 : ∀ D, mk = some D → ∀ id p, ¬ Hid w ρ M id p D) :
    Inv X w0 S (fun a => F a ∨ ∃ D, mk = some D ∧ a.block = D) ρ M w where
  os := hI.os
  tape := hI.tape
  output := hI.output
  size := hI.size
  frame := hI.frame
  len := hI.len
  rep := fun id b hd hb hh => (hI.rep id b hd hb hh).mono (fun _ _ h => h) (fun _ h => .inl h) (fun _ _ hF hc => hc) (fun _ _ => rfl)
  sep := fun id b hd g hb hdd hh hgb => let ⟨a1, a2, a3⟩ := hI.sep id b hd g hb hdd hh hgb; ⟨a1, a2, fun a ha => by
    rcases ha with ha | ⟨D, hD, e⟩
    · exact a3 a ha
    · intro e'; exact h2 D id b hd hD hb hdd hh (by rw [hgb, ← e', e])⟩
  disj := hI.disj
  fz := fun a ha => by
    rcases ha with ha | ⟨D, hD, e⟩
    · exact hI.fz a ha
    · rw [e]; exact (h1 D hD).1
  glob := fun g => (hI.glob g).mono (fun _ _ h => h) (fun _ h => .inl h) (fun _ _ _ h => h)
  one := hI.one
  old := fun a ha => by
    rcases ha with ha | ⟨D, hD, e⟩
    · exact hI.old a ha
    · rw [e]; exact .inr (.inr (h1 D hD).2)
  fin := fun a ha => .inl (hI.fin a ha)
  nst := ⟨fun {id p g} hh => by
    obtain ⟨a1, a2, a3, a4⟩ := hI.nst.own hh
    refine ⟨a1, a2, fun a ha e => ?_, a4⟩
    rcases ha with ha | ⟨D, hD, e'⟩
    · exact a3 a ha e
    · exact h3 D hD id p (by rw [← e', e]; exact hh), hI.nst.inj, fun hb hh => (hI.nst.rep hb hh).mono (fun _ _ h => h) (fun _ h => .inl h) (fun _ _ _ h => h) (fun _ _ => rfl) (fun _ _ _ _ _ _ _ _ _ _ _ _ => rfl)⟩
def putA : List Nat → List AV → List (Nat × AV) → Option (List (Nat × AV))
  | [], [], env => some env
  | p :: ps, x :: xs, env => putA ps xs ((p, x) :: env)
  | _, _, _ => none
theorem putA_rep {ρ : List Hd} {F : Addr → Prop} {w : World} : ∀ (ps : List Nat) {xs : List AV} {env env' : List (Nat × AV)} {tmps : Array Value} {vs : List Value}, putA ps xs env = some env' → EnvRep X ρ F w env tmps → RepL X.K ρ F w xs vs → (∀ p ∈ ps, p < tmps.size) →
    EnvRep X ρ F w env' ((ps.zip vs).foldl (fun t p => t.setIfInBounds p.1 p.2) tmps) ∧ ((ps.zip vs).foldl (fun t p => t.setIfInBounds p.1 p.2) tmps).size = tmps.size
  | [], [], env, env', tmps, vs, h, he, _, _ => by
    simp only [putA, Option.some.injEq] at h; subst h; simpa using he
  | p :: ps, x :: xs, env, env', tmps, [], h, he, hr, hp => by have := hr.1; simp at this
  | p :: ps, x :: xs, env, env', tmps, v :: vs, h, he, hr, hp => by
    simp only [putA] at h
    have hx := hr.2 0 x v rfl rfl
    have hr' : RepL X.K ρ F w xs vs := ⟨by simpa using hr.1, fun j x' v' hx' hv' => hr.2 (j + 1) x' v' (by simpa using hx') (by simpa using hv')⟩
    have := putA_rep ps h (he.put (hp p (by simp)) hx) hr' (fun q hq => by simpa using hp q (by simp [hq]))
    simp only [List.zip_cons_cons, List.foldl_cons]
    exact ⟨this.1, by rw [this.2]; simp⟩
  | [], _ :: _, _, _, _, _, h, _, _, _ => by simp [putA] at h
  | _ :: _, [], _, _, _, _, h, _, _, _ => by simp [putA] at h
def endOf (e : Ex) : Option Ex := match e with | .normal => none | .exit i => some (.exit i) | .ret => some .ret
def goesOn (e : Ex) : Bool := match e with | .normal => true | _ => false
def evyield (X : Cx) (L : LTab R) (s p : Nat) (id : Nat) (args : List AV) (M : List Blk) (k : AV → List Blk → Option R) : Option R :=
  match gm M id with
  | some (.loop s' env false none) =>
    tst (Nat.beq s' s && Nat.beq (X.site s).nt L.tab.nt.n && (X.site s).params.toList.all fun t => Nat.blt t L.tab.nt.n)
      (match putA (X.site s).params.toList args env with
       | none => none
       | some env' =>
         evk X L (X.site s).assign (2 * p) ⟨env', M.set id .dead, [], .unk⟩ fun e st1 =>
           match e, st1.dfs with
           | .normal, [] =>
             evk X L (X.site s).body (2 * p + 1) st1 fun e st2 =>
               match gm st2.mem id with
               | some .dead => k (.bool (goesOn e)) (st2.mem.set id (.loop s env false (endOf e)))
               | _ => none
           | _, _ => none)
  | _ => none
theorem evyield_core {nt : Nt} {s' : Nat} {id : Nat} {args : List AV} {M : List Blk} {env env' : List (Nat × AV)} (hb : M[id]? = some (.loop s' env false none)) (hnt : (X.site s').nt = nt.n) (hps : ∀ t ∈ (X.site s').params.toList, t < nt.n)
    (hput : putA (X.site s').params.toList args env = some env') {e1 e2 : Ex} {st1 st2 : St} (he1 : e1 = .normal) (hrun1 : CodeRuns X nt (X.site s').assign ⟨env', M.set id .dead, [], .unk⟩ (Ex.exit' e1) st1) (hdf1 : st1.dfs = [])
    (hrun2 : CodeRuns X nt (X.site s').body st1 (Ex.exit' e2) st2) (hdead : st2.mem[id]? = some .dead) : AYields X id args M (.bool (goesOn e2)) (st2.mem.set id (.loop s' env false (endOf e2))) := by
  subst he1
  intro rd n w0 S F ρ w vs hd g hI hr hhd hv
  obtain ⟨g', lp, hv', hheap, hp1, hp2, hp3, hp4, hp5, _, hp6, _, hp7, _⟩ := hI.rep _ _ _ hb hhd
  rw [hv] at hv'
  injection hv' with hv'; injection hv' with hv'; injection hv' with hv'; subst hv'
  have hready : lp.state = .ready := hp6 rfl rfl
  have hpend : lp.pending = none := hp7
  have hblk : hd.blk? = some g := by simp [Hd.blk?, Value.blk?, hv]
  obtain ⟨q1, q2, q3⟩ := hI.sep _ _ _ _ hb rfl hhd hblk
  have hN : ∀ a, S.F0 a → a.block ≠ g := fun a ha => q3 a (hI.fin a ha)
  have hnc := cell_ne_of_loop hheap
  have hlen : args.length = (X.site s').params.toList.length := by
    have : ∀ (ps : List Nat) (xs : List AV) (env env' : List (Nat × AV)), putA ps xs env = some env' → xs.length = ps.length := by
      intro ps
      induction ps with
      | nil => intro xs env env' h; cases xs with | nil => rfl | cons _ _ => simp [putA] at h
      | cons p ps ih => intro xs env env' h; cases xs with | nil => simp [putA] at h | cons x xs => simp only [putA] at h; simp [ih _ _ _ h]
    exact this _ _ _ _ hput
  refine ⟨lp.fn, _, lp.assign, lp.body, run_yield hheap (by rw [hp1]; simp [hr.1, hlen]), roundIn_of_wpIn trivial ?_⟩
  rw [hp2, hp3]
  have i1 : Inv X w0 S (fun a => F a ∨ a.block = g) ρ (M.set id .dead) w := hI.freeze hb rfl hhd hblk rfl trivial
  have g1 : Grow F (fun a => F a ∨ a.block = g) ρ ρ w w := ⟨fun _ h => .inl h, fun _ _ h => h, fun _ _ => rfl⟩
  have hfold : (Array.foldl (fun tmps (x : Nat × Value) => tmps.setIfInBounds x.1 x.2) lp.tmps (lp.params.zip vs.toArray)) = ((X.site s').params.toList.zip vs).foldl (fun t p => t.setIfInBounds p.1 p.2) lp.tmps := by
    rw [← Array.foldl_toList, Array.toList_zip, hp1]
  have hput' := putA_rep (X := X) _ hput (hp5.grow g1) (hr.grow g1) (fun t ht => by rw [hp4, hnt]; exact hps t ht)
  refine hrun1 (rdc := ⟨some g, fun _ => False, fun t => (((X.site s').params.toList.zip vs).foldl (fun t p => t.setIfInBounds p.1 p.2) lp.tmps).getD t undef, []⟩) (n := n) i1
    ⟨by simp only [hfold]; exact hput'.1, by simp only [hfold]; rw [hput'.2, hp4, hnt], Marks.nil _ _ (fun _ h => h.elim), .inr ⟨g, lp, rfl, .inr rfl, hheap⟩, fun t _ => by simp only [hfold]⟩ ?_
  intro a1 w1 F1 ρ1 i2 s2 g2
  have hg0 : Grow F F1 ρ ρ1 w w1 := g1.trans g2
  have hF1 : F1 ⟨g, 0, none⟩ := g2.hF _ (.inr rfl)
  have hh1 : w1.heap[g]? = some (.loop lp) := (g2.hb ⟨g, 0, none⟩ (.inr rfl)).trans hheap
  refine ⟨_, run_beginRound hh1 hready, ?_⟩
  have i3 := i2.rewrite hF1 (cell_ne_of_loop hh1) hN (.loop { lp with state := .busy })
  have hlt1 : g < w1.heap.size := (Array.getElem?_eq_some_iff.1 hh1).1
  have hh2 : (w1.putObj g (.loop { lp with state := .busy })).heap[g]? = some (.loop { lp with state := .busy }) := World.putObj_heap_same hlt1
  have hg1 : Grow F F1 ρ ρ1 w (w1.putObj g (.loop { lp with state := .busy })) := ⟨hg0.hF, hg0.hρ, fun a ha => by rw [World.putObj_heap_other (q3 a ha)]; exact hg0.hb a ha⟩
  have s3 : Sim X nt st1 ⟨some g, fun _ => False, fun t => (((X.site s').params.toList.zip vs).foldl (fun t p => t.setIfInBounds p.1 p.2) lp.tmps).getD t undef, []⟩ F1 ρ1 a1 (w1.putObj g (.loop { lp with state := .busy })) := by
    refine ⟨fun t => ((s2.env t).less (cell_ne_of_loop hh1) _).mono (fun _ _ h => h) (fun _ h => h.1) (fun _ _ _ h => h), s2.size, ?_, .inr ⟨g, _, rfl, hF1, hh2⟩, s2.kept⟩
    have := s2.defs
    rw [hdf1] at this ⊢
    exact Marks.putObj this hh1 _
  refine hrun2 (rdc := ⟨some g, fun _ => False, fun t => (((X.site s').params.toList.zip vs).foldl (fun t p => t.setIfInBounds p.1 p.2) lp.tmps).getD t undef, []⟩) (n := n) i3 s3 ?_
  intro a2 w3 F3 ρ3 i4 s4 g4
  have hF3 : F3 ⟨g, 0, none⟩ := g4.hF _ hF1
  have hh3 : w3.heap[g]? = some (.loop { lp with state := .busy }) := (g4.hb ⟨g, 0, none⟩ hF1).trans hh2
  have hlt3 : g < w3.heap.size := (Array.getElem?_eq_some_iff.1 hh3).1
  have hgall : Grow F F3 ρ ρ3 w w3 := hg1.trans g4
  have hhd3 : ρ3[id]? = some hd := hgall.hρ _ _ hhd
  have key : ∀ (jump : Option Code) (pe : Option Ex), jump = pe.bind Ex.code → jump.isNone = pe.isNone → pe ≠ some .normal → ∃ v w', (Instr.endRound g jump).run X.P w3 = .ok v w' ∧ ∃ v' ρ' F', Ending.returned v = .returned v' ∧ Inv X w0 S F' ρ' (st2.mem.set id (.loop s' env false pe)) w' ∧ Grow F F' ρ ρ' w w' ∧ Rep X.K ρ' F' w' (.bool pe.isNone) v' := by
    intro jump pe hj hjn hpe
    have hcell := cell_ne_of_loop hh3
    refine ⟨_, _, run_endRound jump hh3, _, ρ3, less F3 g, rfl, ?_, hgall.less q3 _, by rw [hjn]; exact .bool _⟩
    refine (i4.write_kept hF3 hcell hN _).revive hdead hhd3 hblk (by simpa using hlt3) q2 (fun a ha => ha.2) (fun id' b' hd' hb' hdd' hh' hgb' => (i4.sep id' b' hd' g hb' hdd' hh' hgb').2.2 _ hF3 rfl) (fun i p hp => (i4.nst.own (hp.back i4.nst i4.len (fun _ _ h _ => h) (fun _ _ h _ => h) fun k _ _ h3 _ => World.putObj_heap_other (fun e => h3 _ hF3 e.symm))).2.2.1 _ hF3 rfl) ?_ rfl
    have hE : EnvRep X ρ3 (less F3 g) (w3.putObj g (.loop { lp with state := if jump.isNone then .ready else .done, pending := jump })) env lp.tmps := (hp5.grow hgall).less hcell _
    refine ⟨g, _, hv, World.putObj_heap_same hlt3, hp1, hp2, hp3, hp4, hE, (fun h => by cases h), fun _ h => ?_, fun _ h => ?_, hj, hpe⟩
    · subst h; simp only [Option.isNone_none] at hjn; simp [hjn]
    · cases pe with
      | none => exact absurd rfl h
      | some _ => simp only [Option.isNone_some] at hjn; simp [hjn]
  cases e2 with
  | normal => obtain ⟨v, w', k1, k2⟩ := key none none rfl rfl (by simp); exact ⟨v, w', k1, k2⟩
  | exit i => obtain ⟨v, w', k1, k2⟩ := key (some (.exit i)) (some (.exit i)) rfl rfl (by simp); exact ⟨v, w', k1, k2⟩
  | ret => obtain ⟨v, w', k1, k2⟩ := key (some .ret) (some .ret) rfl rfl (by simp); exact ⟨v, w', k1, k2⟩
theorem evyield_sound (hX : X.Okb) {root : Code} {L : LTab R} (hL : L.Ok X root) {s p : Nat} {g : Operand} {ps : Array Tmp} (hat : At root p (.rangeFunc g ps (X.site s).assign (X.site s).body)) {id : Nat} {args : List AV} {M : List Blk} {k : AV → List Blk → Option R} {r : R}
    (h : evyield X L s p id args M k = some r) : ∃ x M', AYields X id args M x M' ∧ k x M' = some r := by
  unfold evyield at h
  simp only [gm_eq] at h
  split at h
  case h_2 => cases h
  rename_i s' env hb
  replace h := tst_some h
  obtain ⟨hc, h⟩ := h
  rw [Bool.and_eq_true, Bool.and_eq_true] at hc
  obtain ⟨⟨hs', hnt⟩, hps⟩ := hc
  have hs' : s' = s := Nat.eq_of_beq_eq_true hs'
  subst hs'
  have hnt : (X.site s').nt = L.tab.nt.n := Nat.eq_of_beq_eq_true hnt
  have hps : ∀ t ∈ (X.site s').params.toList, t < L.tab.nt.n := fun t ht => by have := List.all_eq_true.1 hps t ht; simpa using this
  split at h
  case h_1 => cases h
  rename_i env' hput
  obtain ⟨e1, st1, hrun1, h⟩ := evk_sound hX hL _ (hat.down false fun l hl => by simp [codeAt, hl]) h
  split at h
  case h_2 => cases h
  rename_i hdf1
  obtain ⟨e2, st2, hrun2, h⟩ := evk_sound hX hL _ (hat.down true fun l hl => by simp [codeAt, hl]) h
  split at h
  case h_2 => cases h
  rename_i hdead
  exact ⟨_, _, evyield_core hb hnt hps hput rfl hrun1 hdf1 hrun2 hdead, h⟩
def evrange (X : Cx) (T : Tab R) (s : Nat) (keep : List Nat) (g : Operand) (st : St) (k : Ex → St → Option R) : Option R :=
  match evv X st.env g, st.dfs with
  | .clos f [] caps, [] =>
    T.call f (.yld st.mem.length :: caps) (st.mem ++ [.loop s (rst keep st.env) false none]) fun _ M2 =>
      match gm M2 (st.mem.length) with
      | some (.loop _ _ false pe) => k (pe.getD .normal) { st with mem := M2.set st.mem.length .dead }
      | _ => none
  | _, _ => none
theorem enter_loop {rdc : Option Nat} {F : Addr → Prop} {w : World} (hrd : RdRep F w rdc) (fn : FuncId) (tmps : Array Value) (ps : Array Tmp) (ag bd : Code) :
    ∃ l mk w1 lp, (Instr.enterLoop fn tmps ps ag bd rdc).run X.P w = .ok (l, (mk : Option Nat).toList.map (fun D => ({ target := .collected D, args := #[] } : Deferred))) w1 ∧ w.grownBy w1 none ∧ w1.heap[l]? = some (.loop lp) ∧ w.heap.size ≤ l ∧
      (∀ D, mk = some D → w.heap.size ≤ D ∧ D ≠ l ∧ w1.heap[D]? = some (.deferred (some []))) ∧ lp.state = .ready ∧ lp.pending = none ∧ lp.params = ps ∧ lp.assign = ag ∧ lp.body = bd ∧ lp.tmps = tmps := by
  have ga : ∀ (w : World) (o : Obj), w.grownBy (w.alloc o) none := fun w o => World.grownBy_alloc w o none
  rcases hrd with rfl | ⟨g, r, rfl, _, hg⟩
  · refine ⟨w.heap.size + 1, some w.heap.size, (w.alloc (.deferred (some []))).alloc (.loop { state := .ready, pending := none, fn, tmps, params := ps, assign := ag, body := bd, defers := w.heap.size }), { state := .ready, pending := none, fn, tmps, params := ps, assign := ag, body := bd, defers := w.heap.size }, run_enterLoop_outer fn tmps ps ag bd, ?_, ?_, by omega, (fun D hD => ?_), rfl, rfl, rfl, rfl, rfl, rfl⟩
    · exact ⟨rfl, rfl, rfl, by simp; omega, fun k hk _ => by rw [(ga (w.alloc (.deferred (some []))) _).block k (by simp; omega) (by simp), (ga w _).block k hk (by simp)]⟩
    · have := World.alloc_heap_new (w.alloc (.deferred (some []))) (.loop { state := .ready, pending := none, fn, tmps, params := ps, assign := ag, body := bd, defers := w.heap.size })
      rwa [World.size_alloc] at this
    · injection hD with hD
      subst hD
      refine ⟨Nat.le_refl _, by omega, ?_⟩
      rw [(ga (w.alloc (.deferred (some []))) _).block _ (by simp) (by simp)]
      exact World.alloc_heap_new w _
  · exact ⟨w.heap.size, none, w.alloc (.loop { state := .ready, pending := none, fn, tmps, params := ps, assign := ag, body := bd, defers := r.defers }), { state := .ready, pending := none, fn, tmps, params := ps, assign := ag, body := bd, defers := r.defers }, run_enterLoop_inner hg fn tmps ps ag bd, ga _ _, World.alloc_heap_new w _, Nat.le_refl _, (fun D hD => by cases hD), rfl, rfl, rfl, rfl, rfl, rfl⟩
theorem evrange_sound (hX : X.Okb) {T : Tab R} (hT : T.CallOk X) {s : Nat} {keep : List Nat} {g : Operand} {ps : Array Tmp} {ag bd : Code} (hsite : X.site s = ⟨T.nt.n, ps, ag, bd⟩) {st : St} {k : Ex → St → Option R} {r : R}
    (h : evrange X T s keep g st k = some r) : ∃ e st', CodeRuns X T.nt (.rangeFunc g ps ag bd) st (Ex.exit' e) st' ∧ k e st' = some r := by
  unfold evrange at h
  simp only [gm_eq] at h
  split at h
  case h_2 => cases h
  rename_i f caps hg hdf
  obtain ⟨x, M2, ⟨hc1, hc2⟩, h, _⟩ := hT.call h
  split at h
  case h_2 => cases h
  rename_i s2 env2 pe hb2
  refine ⟨_, _, fun {rdc n w0 S F ρ a w Q} hI hs hq => ?_, h⟩
  have h1 := evv_rep hI hs.env g
  rw [hg] at h1
  generalize hv : a.eval g = vf at h1
  cases h1 with
  | clos _ _ _ v1 v2 hl1 hl2 r1 r2 =>
  have hv1 : v1 = [] := List.length_eq_zero_iff.1 (by simpa using hl1)
  subst hv1
  refine wpIn_rangeFunc fun fn _ => ?_
  obtain ⟨l, mk, w1, lp, henter, hgr, hl, hlge, hmk, p1, p2, p3, p4, p5, p6⟩ := enter_loop (X := X) hs.rd fn a.tmps ps ag bd
  have hlt : l < w1.heap.size := (Array.getElem?_eq_some_iff.1 hl).1
  refine ⟨l, _, w1, { target := .fn (.func f) v2.toArray, args := #[.func (.yield l) #[] #[]] }, w1, f, #[.func (.yield l) #[] #[]] ++ v2.toArray, w1, henter, ?_, fun _ _ => trivial, ?_, fun hd => by simp [fen, Fence.wide] at hd, ?_⟩
  · simp only [resolve, hv]
    simp [go_sem]
  · simp [invoke, go_sem, hc1]
  have gr0 : Grow F F ρ ρ w w1 := ⟨fun _ h => h, fun _ _ h => h, fun a ha => hgr.block _ (hI.fz a ha) (by simp)⟩
  have i1 : Inv X w0 S F (ρ ++ [⟨.pointer (some ⟨l, 0, none⟩), 0⟩]) (st.mem ++ [.loop s (rst keep st.env) false none]) w1 := by
    refine hI.push hgr (fun g' hg' => ?_) rfl ?_
    · simp only [Hd.blk?, Value.blk?, Option.some.injEq] at hg'; subst hg'; exact ⟨hlge, hlt⟩
    · refine ⟨l, lp, rfl, hl, by rw [p3, hsite], by rw [p4, hsite], by rw [p5, hsite], by rw [p6, hsite]; exact hs.size, ?_, (fun h => by cases h), fun _ _ => p1, fun _ h => absurd rfl h, p2, by simp⟩
      rw [p6]
      have he : EnvRep X (ρ ++ [⟨.pointer (some ⟨l, 0, none⟩), 0⟩]) F w1 st.env a.tmps := (hs.env.grow gr0).grow ⟨fun _ h => h, fun _ _ h => getElem?_append_old h, fun _ _ => rfl⟩
      exact envRep_rst fun u _ => he u
  have i2 : Inv X w0 S (fun a => F a ∨ ∃ D, mk = some D ∧ a.block = D) (ρ ++ [⟨.pointer (some ⟨l, 0, none⟩), 0⟩]) (st.mem ++ [.loop s (rst keep st.env) false none]) w1 := by
    refine i1.keep (fun D hD => ?_) (fun D id b hd hD hb hdd hh e => ?_) (fun D hD id p hp => by
      have h := (hI.nst.own ((hp.pop hI.len rfl).back hI.nst hI.len (fun _ _ h _ => h) (fun _ _ h _ => h) fun k h1 _ _ _ => hgr.block k h1 (by simp))).1
      have := (hmk D hD).1; omega)
    · obtain ⟨m1, _, m3⟩ := hmk D hD
      exact ⟨(Array.getElem?_eq_some_iff.1 m3).1, Nat.le_trans hI.size m1⟩
    · obtain ⟨m1, m2, _⟩ := hmk D hD
      by_cases hid : id < st.mem.length
      · rw [List.getElem?_append_left hid] at hb
        rw [List.getElem?_append_left (by rw [hI.len]; exact hid)] at hh
        have := (hI.sep id b hd D hb hdd hh e).1
        omega
      · rw [List.getElem?_append_right (by rw [hI.len]; omega)] at hh
        have hid' : id - ρ.length = 0 := by
          have := (List.getElem?_eq_some_iff.1 hh).1
          simp at this; exact this
        rw [hid'] at hh
        simp only [List.getElem?_cons_zero, Option.some.injEq] at hh
        subst hh
        simp only [Hd.blk?, Value.blk?, Option.some.injEq] at e
        exact m2 e.symm
  have g2 : Grow F (fun a => F a ∨ ∃ D, mk = some D ∧ a.block = D) ρ (ρ ++ [⟨.pointer (some ⟨l, 0, none⟩), 0⟩]) w w1 := ⟨fun _ h => .inl h, fun _ _ h => getElem?_append_old h, gr0.hb⟩
  have hyl : (ρ ++ [(⟨.pointer (some ⟨l, 0, none⟩), 0⟩ : Hd)])[st.mem.length]? = some ⟨.pointer (some ⟨l, 0, none⟩), 0⟩ := by rw [← hI.len]; simp
  have hargs : RepL X.K (ρ ++ [⟨.pointer (some ⟨l, 0, none⟩), 0⟩]) (fun a => F a ∨ ∃ D, mk = some D ∧ a.block = D) w1 (.yld st.mem.length :: caps) (.func (.yield l) #[] #[] :: v2) := by
    refine ⟨by simp [hl2], fun j y v hy hv => ?_⟩
    cases j with
    | zero => simp at hy hv; subst hy; subst hv; exact .yld _ _ l hyl rfl
    | succ j => simp at hy hv; exact (r2 j y v hy hv).grow g2
  have hcall := hc2 i2 hargs
  have hin : CallsIn Fence.wide (n - 1) X.P f (.func (.yield l) #[] #[] :: v2).toArray w1 _ := callsIn_wide.2 hcall
  have hin2 : CallsIn (fen rdc.r) (n - 1) X.P f (.func (.yield l) #[] #[] :: v2).toArray w1 _ := hin
  have e1 : #[Value.func (.yield l) #[] #[]] ++ v2.toArray = (.func (.yield l) #[] #[] :: v2).toArray := by apply Array.ext'; simp
  rw [e1]
  refine hin2.mono ?_
  rintro en w2 ⟨v, ρ', F', rfl, i3, g3, _⟩
  have hid : ρ'[st.mem.length]? = some ⟨.pointer (some ⟨l, 0, none⟩), 0⟩ := g3.hρ _ _ hyl
  obtain ⟨g', lp', hv', hh2, _, _, _, _, _, _, k1, k2, k3, k4⟩ := i3.rep _ _ _ hb2 hid
  simp only [Value.pointer.injEq, Option.some.injEq, Addr.mk.injEq] at hv'
  obtain ⟨rfl, _⟩ := hv'
  have hnb : lp'.state ≠ .busy := by
    cases pe with
    | none => rw [k1 rfl rfl]; simp
    | some _ => rw [k2 rfl (by simp)]; simp
  have hFl : ∀ a, F a → a.block ≠ l := fun a ha e => by have := hI.fz a ha; omega
  have i4 : Inv X w0 S (fun a => F' a ∨ a.block = l) ρ' (M2.set st.mem.length .dead) w2 := i3.freeze hb2 rfl hid rfl rfl trivial
  have i5 := i4.write_kept (D := l) (.inr rfl) (cell_ne_of_loop hh2) (fun a ha => hFl a (hI.fin a ha)) (.loop { lp' with state := .exhausted })
  have g5 : Grow F (less (fun a => F' a ∨ a.block = l) l) ρ ρ' w (w2.putObj l (.loop { lp' with state := .exhausted })) := (g2.trans (g3.trans ⟨fun _ h => .inl h, fun _ _ h => h, fun _ _ => rfl⟩)).less hFl _
  have hsim : Sim X T.nt { st with mem := M2.set st.mem.length .dead } rdc (less (fun a => F' a ∨ a.block = l) l) ρ' { a with defers := mk.toList.map (fun D => ({ target := .collected D, args := #[] } : Deferred)) ++ a.defers } (w2.putObj l (.loop { lp' with state := .exhausted })) := by
    refine ⟨hs.env.grow g5, hs.size, ?_, hs.rd.mono g5.hF g5.hb, hs.kept⟩
    have hd := hs.defs
    rw [hdf] at hd
    simp only [hdf]
    obtain ⟨d0, ms, d1, d2, d3⟩ := Marks.mono g5.hF g5.hb hd
    refine ⟨d0, mk.toList ++ ms, by rw [List.map_append, d1, List.append_assoc], ?_, fun D hD => ?_⟩
    · cases mk with
      | none => simpa using d2
      | some D =>
        simp only [Option.toList_some, List.singleton_append, List.nodup_cons]
        refine ⟨fun hD => ?_, d2⟩
        obtain ⟨_, ms', e1', _, e3⟩ := hd
        have : ms = ms' := by
          have := List.append_cancel_right (d1.symm.trans e1')
          have inj : ∀ (a b : List Nat), a.map (fun D => ({ target := .collected D, args := #[] } : Deferred)) = b.map (fun D => ({ target := .collected D, args := #[] } : Deferred)) → a = b := by
            intro a
            induction a with
            | nil => intro b hb; cases b with | nil => rfl | cons _ _ => simp at hb
            | cons x a ih => intro b hb; cases b with
              | nil => simp at hb
              | cons y b => simp only [List.map_cons, List.cons.injEq, Deferred.mk.injEq, Target.collected.injEq] at hb; rw [hb.1.1, ih b hb.2]
          exact inj _ _ this
        subst this
        have := hI.fz _ (e3 D hD).2.1
        have := (hmk D rfl).1
        simp at *; omega
    · rw [List.mem_append] at hD
      rcases hD with hD | hD
      · have hD : mk = some D := by simpa using hD
        obtain ⟨m1, m2, m3⟩ := hmk D hD
        have hkept : w2.heap[D]? = w1.heap[D]? := g3.hb ⟨D, 0, none⟩ (.inr ⟨D, hD, rfl⟩)
        refine ⟨fun a ha e => ?_, ⟨.inl (g3.hF _ (.inr ⟨D, hD, rfl⟩)), m2⟩, ?_⟩
        · have := hI.fz a (hd.1 a ha); omega
        · rw [World.putObj_heap_other m2, hkept]; exact m3
      · exact d3 D hD
  refine ⟨pe.bind Ex.code, _, by rw [← k3]; exact run_endLoop hh2 hnb, ?_⟩
  cases pe with
  | none => exact hq _ _ _ _ i5 hsim g5
  | some e =>
    cases e with
    | normal => exact absurd rfl k4
    | exit i => exact wpIn_exit (hq _ _ _ _ i5 hsim g5)
    | ret => exact wpIn_ret (hq _ _ _ _ i5 hsim g5)
end
end Go.Eng

namespace Go.Eng
open Go
noncomputable section
variable {X : Cx} {R O : Type}
def kontX (X : Cx) (m : Nat) (xs : Ex → St → Option (XSh O)) (e : Ex) (st : St) : Option O :=
  match xs e st with
  | some x => goS X m x.cv x.σ x.sel st fun s => some (x.out s)
  | none => none
theorem callCut_sound (hX : X.Ok) {root c : Code} {p : Nat} {L : LTab O} (hL : L.Ok X root) (hat : At root p c) {m mask : Nat} {cv' : List Cv} {σ : LSh} {sel' : St → List Nat} {xs : Ex → St → Option (XSh O)} {JF : St → Option O} {exOf : O → Ex} {stOf : O → St}
    (hstep : ∀ lk M, JF (canS σ lk M) = evk X L c p (canS σ lk M) (kontX X m xs)) (hx : ∀ e st x, xs e st = some x → outOk x e exOf stOf)
    {nt : Nt} (hnt : L.tab.nt = ⟨nt.n, mask⟩) {elim : O → (Ex → St → Option R) → Option R} (helim : ∀ o k, elim o k = k (exOf o) (stOf o)) {st : St} {k : Ex → St → Option R} {r : R}
    (h : callLoop X m mask cv' σ sel' nt JF elim st k = some r) : ∃ e st', CodeRuns X nt c st (Ex.exit' e) st' ∧ k e st' = some r := by
  unfold callLoop at h
  obtain ⟨st1, h, e1, e2, hcv⟩ := evcv_sound hX cv' h
  replace h := tst_some h
  obtain ⟨h1, h⟩ := h
  rw [Bool.and_eq_true, Bool.and_eq_true] at h1
  obtain ⟨⟨h1, hmask⟩, hdf1⟩ := h1
  have hdf1 : st1.dfs = [] := by simpa using hdf1
  have hmask : nt.mask &&& mask = mask := Nat.eq_of_beq_eq_true hmask
  split at h
  · cases h
  · rename_i o ho
    rw [helim] at h
    replace h := tst_some h
    obtain ⟨h2, h⟩ := h
    rw [Bool.and_eq_true] at h2
    obtain ⟨hm, hdfs⟩ := h2
    have hdfs : (stOf o).dfs = [] := by simpa using hdfs
    refine ⟨_, _, fun {rdc n w0 S F ρ a w Q} hI hs hq => ?_, h⟩
    obtain ⟨F1, ρ1, i1, s1, g1⟩ := hcv (nt := nt) (rdc := rdc) (a := a) hI hs
    obtain ⟨hok, hmem, _⟩ := enter_facts h1
    have hsub := i1.sub hX hok hd0
    have ho' : evk X L c p (canS σ (fun t => ren (idx (sel' st1)) 4 (look st1.env t)) (subM st1.mem (sel' st1))) (kontX X m xs) = some o := (hstep _ _).symm.trans ho
    obtain ⟨e, st2, hrun, hk⟩ := evk_sound hX hL c hat ho'
    have hout : exOf o = e ∧ ∀ {nt : Nt} {rdc : Cy} {w0 : World} {S : Sc} {F : Addr → Prop} {ρ : List Hd} {a : Act} {w : World}, Inv X w0 S F ρ st2.mem w → Sim X nt st2 rdc F ρ a w →
        ∃ F' ρ', Inv X w0 S F' ρ' (stOf o).mem w ∧ Sim X nt (stOf o) rdc F' ρ' a w ∧ GrowF m F F' ρ ρ' w w := by
      unfold kontX at hk
      split at hk
      case h_2 => cases hk
      rename_i x hxe
      obtain ⟨lk, M, ho2, hr⟩ := goS_sound hX hk
      injection ho2 with ho2
      obtain ⟨q1, q2⟩ := hx e st2 x hxe lk M
      rw [ho2] at q1 q2
      refine ⟨q1, fun {nt rdc w0 S F ρ a w} hI hs => ?_⟩
      rw [q2]
      exact hr hI hs
    refine hrun (rdc := ⟨rdc.r, rdc.db, fun t => a.tmps.getD t undef, rdc.df⟩) (n := n) (w0 := w) (S := hand w ρ1 st1.mem (sel' st1) F1) (F := F1) (ρ := sub hd0 ρ1 (sel' st1)) (a := a) (w := w)
      (by have : (canS σ (fun t => ren (idx (sel' st1)) 4 (look st1.env t)) (subM st1.mem (sel' st1))).mem = subM st1.mem (sel' st1) := hmem
          rw [this]; exact hsub)
      ⟨enter_env hX h1 i1 s1.env, by rw [hnt]; exact s1.size, by have := s1.defs; rw [hdf1] at this; exact this, s1.rd, fun _ _ => rfl⟩ ?_
    intro a' w' F0 ρ0 hI0 hs0 hg0
    obtain ⟨F', ρ', hI', hs', hg1⟩ := hout.2 hI0 hs0
    have hg' := (hg0.toF m).trans hg1
    rw [← hout.1]
    obtain ⟨i3, g3, r3⟩ := i1.merge hX hok hd0 hI' hg' hm
    refine hq a' w' F' _ i3 ⟨fun t => ?_, by have := hs'.size; rw [hnt] at this; exact this, ?_, hs'.rd, fun t ht => ?_⟩ (g1.trans g3)
    · rcases look_append (renE (rno m (sel' st1) st1.mem.length) 4 (stOf o).env) (st1.env.filter (fun p => !mask.testBit p.1)) t with e | e
      · simp only [leaveS]; rw [e]; exact (hs'.env.ren hX r3 4) t
      · simp only [leaveS]; rw [e]
        rcases look_mask mask st1.env t with e' | ⟨hb, e'⟩
        · rw [e']; exact .top _
        · rw [e']
          have hk := hs'.kept t (by rw [hnt]; exact hb)
          rw [hk]
          exact (s1.env t).grow g3
    · have hd := hs'.defs
      rw [hdfs] at hd
      simp only [leaveS]
      rw [hdf1]
      exact hd
    · have hb : mask.testBit t = false := by
        rw [← hmask, Nat.testBit_and, ht, Bool.false_and]
      have hk := hs'.kept t (by rw [hnt]; exact hb)
      rw [hk]
      exact s1.kept t ht
abbrev Ent1 (R : Type) := St → (Ex → St → Option R) → Option R
def pickE : List (Nat × Ent1 R) → Nat → Ent1 R
  | [], _ => fun _ _ => none
  | e :: es, p => match Nat.beq p e.1 with | true => e.2 | false => pickE es p
def pickO : List (Nat × Ent1 R) → Nat → Option (Ent1 R)
  | [], _ => none
  | e :: es, p => match Nat.beq p e.1 with | true => some e.2 | false => pickO es p
def AllE {α : Type} (P : α → Prop) : List α → Prop
  | [] => True
  | e :: es => P e ∧ AllE P es
theorem pickE_some {es : List (Nat × Ent1 R)} {P : Nat × Ent1 R → Prop} (hP : AllE P es) {p : Nat} {st : St} {k : Ex → St → Option R} {r : R} (h : pickE es p st k = some r) : ∃ f, P (p, f) ∧ f st k = some r := by
  induction es with
  | nil => simp [pickE] at h
  | cons e es ih =>
    simp only [pickE] at h
    cases hb : Nat.beq p e.1 with
    | true =>
      simp only [hb] at h
      have := Nat.eq_of_beq_eq_true hb
      subst this
      exact ⟨e.2, hP.1, h⟩
    | false => simp only [hb] at h; exact ih hP.2 h
theorem pickO_some {es : List (Nat × Ent1 R)} {P : Nat × Ent1 R → Prop} (hP : AllE P es) {p : Nat} {f : Ent1 R} (h : pickO es p = some f) : P (p, f) := by
  induction es with
  | nil => simp [pickO] at h
  | cons e es ih =>
    simp only [pickO] at h
    split at h
    · rename_i hb
      have := Nat.eq_of_beq_eq_true hb
      subst this
      injection h with h
      subst h
      exact hP.1
    · exact ih hP.2 h
def LoopOk (X : Cx) (root : Code) (nt : Nt) (e : Nat × Ent1 R) : Prop := ∀ {c st k r}, At root e.1 (.loop c) → e.2 st k = some r → ∃ x st', CodeRuns X nt (.loop c) st (Ex.exit' x) st' ∧ k x st' = some r
def RangeOk (X : Cx) (root : Code) (nt : Nt) (e : Nat × Ent1 R) : Prop := ∀ {g ps a b st k r}, At root e.1 (.rangeFunc g ps a b) → e.2 st k = some r → ∃ x st', CodeRuns X nt (.rangeFunc g ps a b) st (Ex.exit' x) st' ∧ k x st' = some r
def CutOk (X : Cx) (root : Code) (nt : Nt) (e : Nat × Ent1 R) : Prop := ∀ {c st k r}, At root e.1 c → e.2 st k = some r → ∃ x st', CodeRuns X nt c st (Ex.exit' x) st' ∧ k x st' = some r
structure CE (R : Type) where
  f : FuncId
  test : List AV → List Blk → Bool
  wr : List AV → List Blk → Option (List Nat)
  run : List AV → List Blk → (AV → List Blk → Option R) → Option R
def pickC : List (CE R) → FuncId → List AV → List Blk → (AV → List Blk → Option R) → Option R
  | [], _, _, _, _ => none
  | e :: es, f, args, M, k => match Nat.beq f e.f && e.test args M with | true => e.run args M k | false => pickC es f args M k
def pickW : List (CE R) → FuncId → List AV → List Blk → Option (List Nat)
  | [], _, _, _ => none
  | e :: es, f, args, M => match Nat.beq f e.f && e.test args M with | true => e.wr args M | false => pickW es f args M
def CeOk (X : Cx) (e : CE R) : Prop := ∀ {args M k r}, e.run args M k = some r → ∃ x M', ACalls X e.f args M x M' ∧ k x M' = some r ∧ ∀ ids, e.wr args M = some ids → Agree ids M M'
theorem pickC_some {es : List (CE R)} (hP : AllE (CeOk X) es) {f : FuncId} {args : List AV} {M : List Blk} {k : AV → List Blk → Option R} {r : R} (h : pickC es f args M k = some r) :
    ∃ x M', ACalls X f args M x M' ∧ k x M' = some r ∧ ∀ ids, pickW es f args M = some ids → Agree ids M M' := by
  induction es with
  | nil => simp [pickC] at h
  | cons e es ih =>
    simp only [pickC] at h
    split at h
    · rename_i hb
      have hb' := hb
      rw [Bool.and_eq_true] at hb
      have := Nat.eq_of_beq_eq_true hb.1
      subst this
      obtain ⟨x, M', h1, h2, h3⟩ := hP.1 h
      refine ⟨x, M', h1, h2, fun ids hi => ?_⟩
      simp only [pickW, hb'] at hi
      exact h3 ids hi
    · rename_i hb
      obtain ⟨x, M', h1, h2, h3⟩ := ih hP.2 h
      refine ⟨x, M', h1, h2, fun ids hi => ?_⟩
      simp only [pickW, hb] at hi
      exact h3 ids hi
def mkTab (nt : Nt) (cs : List (CE R)) (y : Nat → List AV → List Blk → (AV → List Blk → Option R) → Option R) (ls rs ks : List (Nat × Ent1 R)) : LTab R :=
  ⟨⟨nt, pickW cs, pickC cs, y⟩, pickE ls, pickE rs, pickO ks, fun _ => ([], [])⟩
def withGh (g : List (Nat × (List Gh × List Gh))) (L : LTab R) : LTab R := { L with gh := fun rid => (g.lookup rid).getD ([], []) }
theorem withGh_ok {root : Code} {L : LTab R} (g : List (Nat × (List Gh × List Gh))) (h : L.Ok X root) : (withGh g L).Ok X root := ⟨h.tab, h.loop, h.range, h.cut⟩
def YOk (X : Cx) (y : Nat → List AV → List Blk → (AV → List Blk → Option R) → Option R) : Prop := ∀ {id args M k r}, y id args M k = some r → ∃ x M', AYields X id args M x M' ∧ k x M' = some r
def noY : Nat → List AV → List Blk → (AV → List Blk → Option R) → Option R := fun _ _ _ _ => none
theorem noY_ok : YOk X (noY (R := R)) := fun {_ _ _ _ _} h => by cases h
theorem mkTab_ok {root : Code} {nt : Nt} {cs : List (CE R)} {y : Nat → List AV → List Blk → (AV → List Blk → Option R) → Option R} {ls rs ks : List (Nat × Ent1 R)} (hc : AllE (CeOk X) cs) (hy : YOk X y)
    (hl : AllE (LoopOk X root nt) ls) (hr : AllE (RangeOk X root nt) rs) (hk : AllE (CutOk X root nt) ks) : (mkTab nt cs y ls rs ks).Ok X root where
  tab := ⟨fun {f args M k r} h => pickC_some hc h, fun {id args M k r} h => hy h⟩
  loop := fun {p c st k r} hat h => by
    obtain ⟨f, h1, h2⟩ := pickE_some hl h
    exact h1 hat h2
  range := fun {p g ps a b st k r} hat h => by
    obtain ⟨f, h1, h2⟩ := pickE_some hr h
    exact h1 hat h2
  cut := fun {p c f st k r} hat hf h => pickO_some hk hf hat h
theorem loop_ok (hX : X.Ok) {root c0 : Code} {path : List Bool} (hc0 : codeAt root path = some (.loop c0)) {p : Nat} (hp : enc path = p) {L : LTab O} (hL : L.Ok X root) {m mask : Nat} {cv cv' : List Cv} {σ : LSh} {sel sel' : St → List Nat} {xs : Ex → St → Option (XSh O)} {LF : Nat → St → Option O} {exOf : O → Ex} {stOf : O → St}
    (h0 : ∀ lk M, LF 0 (canS σ lk M) = none) (hstep : ∀ n lk M, LF (n + 1) (canS σ lk M) = evk X L c0 (2 * p) (canS σ lk M) (kont X m cv σ sel xs (LF n))) (hx : ∀ e st x, xs e st = some x → outOk x e exOf stOf)
    {nt : Nt} (hnt : L.tab.nt = ⟨nt.n, mask⟩) {elim : O → (Ex → St → Option R) → Option R} (helim : ∀ o k, elim o k = k (exOf o) (stOf o)) {fuel : Nat} :
    LoopOk X root nt (p, fun st k => callLoop X m mask cv' σ sel' nt (LF fuel) elim st k) := by
  intro c st k r hat h
  have hd := hat.det path hp
  rw [hc0] at hd
  injection hd with hd; injection hd with hd; subst hd
  exact callLoop_sound hX hL hat h0 hstep hx hnt helim h
def unroll (X : Cx) (L : LTab R) (c : Code) (p : Nat) : Nat → St → (Ex → St → Option R) → Option R
  | 0, _, _ => none
  | n + 1, st, k => evk X L c p st fun e st' => match e with | .normal => unroll X L c p n st' k | .exit i => k (.exit i) st' | .ret => k .ret st'
theorem unroll_sound (hX : X.Okb) {root c : Code} {p : Nat} {L : LTab R} (hL : L.Ok X root) (hat : At root p (.loop c)) : ∀ (fuel : Nat) {st : St} {k : Ex → St → Option R} {r : R}, unroll X L c (2 * p) fuel st k = some r →
    ∃ e st', k e st' = some r ∧ ∀ {rdc : Cy} {n : Nat} {w0 : World} {S : Sc} {F : Addr → Prop} {ρ : List Hd} {a : Act} {w : World} {Q : Exit → Act → World → Prop}, Inv X w0 S F ρ st.mem w → Sim X L.tab.nt st rdc F ρ a w →
      (∀ a' w' F' ρ', Inv X w0 S F' ρ' st'.mem w' → Sim X L.tab.nt st' rdc F' ρ' a' w' → Grow F F' ρ ρ' w w' → Q (Ex.exit' e) a' w') → Code.roundsIn (fen rdc.r) n X.P c Q fuel a w
  | 0, st, k, r, h => by cases h
  | fuel + 1, st, k, r, h => by
    simp only [unroll] at h
    obtain ⟨e, st1, hrun, h⟩ := evk_sound hX hL c (hat.down false fun l hl => by simp [codeAt, hl]) h
    cases e with
    | normal =>
      obtain ⟨e', st', hk, hr⟩ := unroll_sound hX hL hat fuel h
      refine ⟨e', st', hk, fun {rdc n w0 S F ρ a w Q} hI hs hq => ?_⟩
      rw [roundsIn_succ]
      refine hrun hI hs fun a' w' F' ρ' hI' hs' hg => ?_
      exact hr hI' hs' fun a'' w'' F'' ρ'' hI'' hs'' hg'' => hq a'' w'' F'' ρ'' hI'' hs'' (hg.trans hg'')
    | exit i =>
      refine ⟨.exit i, st1, h, fun {rdc n w0 S F ρ a w Q} hI hs hq => ?_⟩
      rw [roundsIn_succ]
      exact hrun hI hs fun a' w' F' ρ' hI' hs' hg => hq a' w' F' ρ' hI' hs' hg
    | ret =>
      refine ⟨.ret, st1, h, fun {rdc n w0 S F ρ a w Q} hI hs hq => ?_⟩
      rw [roundsIn_succ]
      exact hrun hI hs fun a' w' F' ρ' hI' hs' hg => hq a' w' F' ρ' hI' hs' hg
theorem unroll_ok (hX : X.Okb) {root c0 : Code} {path : List Bool} (hc0 : codeAt root path = some (.loop c0)) {p : Nat} (hp : enc path = p) {L : LTab R} (hL : L.Ok X root) {nt : Nt} (hnt : L.tab.nt = nt) {fuel : Nat} :
    LoopOk X root nt (p, fun st k => unroll X L c0 (2 * p) fuel st k) := by
  intro c st k r hat h
  have hd := hat.det path hp
  rw [hc0] at hd
  injection hd with hd; injection hd with hd; subst hd
  obtain ⟨e, st', hk, hr⟩ := unroll_sound hX hL hat fuel h
  subst hnt
  exact ⟨e, st', fun {rdc n w0 S F ρ a w Q} hI hs hq => wpIn_loop_rounds fuel (hr hI hs hq), hk⟩
theorem cut_ok (hX : X.Ok) {root c0 : Code} {path : List Bool} (hc0 : codeAt root path = some c0) {p : Nat} (hp : enc path = p) {L : LTab O} (hL : L.Ok X root) {m mask : Nat} {cv' : List Cv} {σ : LSh} {sel' : St → List Nat} {xs : Ex → St → Option (XSh O)} {JF : St → Option O} {exOf : O → Ex} {stOf : O → St}
    (hstep : ∀ lk M, JF (canS σ lk M) = evk X L c0 p (canS σ lk M) (kontX X m xs)) (hx : ∀ e st x, xs e st = some x → outOk x e exOf stOf)
    {nt : Nt} (hnt : L.tab.nt = ⟨nt.n, mask⟩) {elim : O → (Ex → St → Option R) → Option R} (helim : ∀ o k, elim o k = k (exOf o) (stOf o)) :
    CutOk X root nt (p, fun st k => callLoop X m mask cv' σ sel' nt JF elim st k) := by
  intro c st k r hat h
  have hd := hat.det path hp
  rw [hc0] at hd
  injection hd with hd; subst hd
  exact callCut_sound hX hL hat hstep hx hnt helim h
def inl (g : FuncId) (run : List AV → List Blk → (AV → List Blk → Option R) → Option R) : List (CE R) := [⟨g, fun _ _ => true, fun _ _ => none, run⟩]
def oneTab (nt : Nt) (cs : List (CE R)) : Tab R := ⟨nt, pickW cs, pickC cs, noY⟩
theorem oneTab_ok {nt : Nt} {cs : List (CE R)} (hc : AllE (CeOk X) cs) : (oneTab nt cs).CallOk X := ⟨fun {f args M k r} h => pickC_some hc h, fun {_ _ _ _ _} h => by cases h⟩
theorem range_ok (hX : X.Okb) {root : Code} {path : List Bool} {g0 : Operand} {ps0 : Array Tmp} {a0 b0 : Code} (hc0 : codeAt root path = some (.rangeFunc g0 ps0 a0 b0)) {p : Nat} (hp : enc path = p) {nt : Nt} {cs : List (CE R)} (hc : AllE (CeOk X) cs) {s : Nat} {keep : List Nat}
    (hsite : X.site s = ⟨nt.n, ps0, a0, b0⟩) : RangeOk X root nt (p, fun st k => evrange X (oneTab nt cs) s keep g0 st k) := by
  intro g ps a b st k r hat h
  have hd := hat.det path hp
  rw [hc0] at hd
  injection hd with hd; injection hd with h1 h2 h3 h4; subst h1; subst h2; subst h3; subst h4
  exact evrange_sound hX (T := oneTab nt cs) (oneTab_ok hc) hsite h
theorem inl_ok {g : FuncId} {run : List AV → List Blk → (AV → List Blk → Option R) → Option R} (h : ∀ {args M k r}, run args M k = some r → ∃ x M', ACalls X g args M x M' ∧ k x M' = some r) : AllE (CeOk X) (inl g run) :=
  ⟨fun {args M k r} hr => by
    obtain ⟨x, M', h1, h2⟩ := h hr
    exact ⟨x, M', h1, h2, fun ids hi => by cases hi⟩, trivial⟩
def pickY : List (Nat × (Nat → List AV → List Blk → (AV → List Blk → Option R) → Option R)) → Nat → List AV → List Blk → (AV → List Blk → Option R) → Option R
  | [], _, _, _, _ => none
  | e :: es, id, args, M, k =>
    match gm M id with
    | some (.loop s _ _ _) => (match Nat.beq s e.1 with | true => e.2 id args M k | false => pickY es id args M k)
    | _ => none
theorem pickY_ok {es : List (Nat × (Nat → List AV → List Blk → (AV → List Blk → Option R) → Option R))} (h : AllE (fun e => YOk X e.2) es) : YOk X (pickY es) := by
  induction es with
  | nil => intro id args M k r h; cases h
  | cons e es ih =>
    intro id args M k r hk
    simp only [pickY, gm_eq] at hk
    split at hk
    · split at hk
      · exact h.1 hk
      · exact ih h.2 hk
    · cases hk
theorem ce_ok (hX : X.Ok) {f : FuncId} {m na : Nat} {cv : List Cv} {σ : LSh} {sel : St → List Nat} {FFn : St → Option O} {valOf : O → AV} {memOf : O → List Blk} {elim : O → (AV → List Blk → Option R) → Option R} (helim : ∀ o k, elim o k = k (valOf o) (memOf o))
    (hf : ∀ lk M o, FFn (canS σ lk M) = some o → FCalls X f m (argsE na (canS σ lk M).env) (canS σ lk M).mem (valOf o) (memOf o)) (hc : ∀ (vs : Array Value) (w : World), (callFunc f vs).run X.P w = .ok (.enter f vs) w)
    {test : List AV → List Blk → Bool} {wr : List AV → List Blk → Option (List Nat)} (hwr : ∀ args M ids, wr args M = some ids → cv = [] ∧ ids = sel ⟨argEnv 0 args, M, [], .unk⟩) :
    CeOk X ⟨f, test, wr, fun args M k => tst (Nat.beq args.length na) (callFn X m cv σ sel FFn elim args M k)⟩ := by
  intro args M k r h
  replace h := tst_some h
  obtain ⟨hna, h⟩ := h
  obtain ⟨x, M', h1, h2, h3⟩ := callFn_sound hX helim hf hc (Nat.eq_of_beq_eq_true hna) h
  refine ⟨x, M', h1, h2, fun ids hi => ?_⟩
  obtain ⟨e1, e2⟩ := hwr args M ids hi
  rw [e2]; exact h3 e1
theorem ce_okc (hX : X.Ok) {f : FuncId} {m na : Nat} {cv : List Cv} {σ : LSh} {sel : St → List Nat} {FFn : St → Option O} {valOf : O → AV} {memOf : O → List Blk} {elim : O → (AV → List Blk → Option R) → Option R} (helim : ∀ o k, elim o k = k (valOf o) (memOf o))
    (hf : ∀ lk M o, FFn (canS σ lk M) = some o → FCalls X f m (argsE na (canS σ lk M).env) (canS σ lk M).mem (valOf o) (memOf o)) (hc : ∀ (vs : Array Value) (w : World), (callFunc f vs).run X.P w = .ok (.enter f vs) w)
    {test : List AV → List Blk → Bool} :
    CeOk X ⟨f, test, fun _ M => some (List.range M.length), fun args M k => tst (Nat.beq args.length na) (callFn X m cv σ sel FFn elim args M fun x M' => tst (Nat.ble M.length M'.length) (k x M'))⟩ := by
  intro args M k r h
  replace h := tst_some h
  obtain ⟨hna, h⟩ := h
  obtain ⟨x, M', h1, h2, h3⟩ := callFn_sound hX helim hf hc (Nat.eq_of_beq_eq_true hna) h
  replace h2 := tst_some h2
  obtain ⟨hle, h2⟩ := h2
  refine ⟨x, M', h1, h2, fun ids hi => ?_⟩
  injection hi with hi
  subst hi
  exact ⟨Nat.le_of_ble_eq_true hle, fun i hi hn => absurd (List.mem_range.2 hi) hn⟩
theorem inl1_ok {g : FuncId} {test : List AV → List Blk → Bool} {run : List AV → List Blk → (AV → List Blk → Option R) → Option R} (h : ∀ {args M k r}, run args M k = some r → ∃ x M', ACalls X g args M x M' ∧ k x M' = some r) :
    CeOk X ⟨g, test, fun _ M => some (List.range M.length), fun args M k => run args M fun x M' => tst (Nat.ble M.length M'.length) (k x M')⟩ := by
  intro args M k r hr
  obtain ⟨x, M', h1, h2⟩ := h hr
  replace h2 := tst_some h2
  obtain ⟨hle, h2⟩ := h2
  refine ⟨x, M', h1, h2, fun ids hi => ?_⟩
  injection hi with hi
  subst hi
  exact ⟨Nat.le_of_ble_eq_true hle, fun i hi hn => absurd (List.mem_range.2 hi) hn⟩
def nilfix : List (Nat × TypeId) → List AV → List AV
  | [], xs => xs
  | p :: ps, xs => nilfix ps (match xs[p.1]? with | some .nilsl => xs.set p.1 (.list p.2 []) | _ => xs)
theorem repL_nilfix {ρ : List Hd} {F : Addr → Prop} {w : World} {vs : List Value} : ∀ (ps : List (Nat × TypeId)) {xs : List AV}, RepL X.K ρ F w xs vs → RepL X.K ρ F w (nilfix ps xs) vs
  | [], xs, h => h
  | p :: ps, xs, h => by
    refine repL_nilfix ps ?_
    split
    · rename_i hx
      refine ⟨by simp [h.1], fun j y v hy hv => ?_⟩
      by_cases e : j = p.1
      · subst e
        have hlt : p.1 < xs.length := (List.getElem?_eq_some_iff.1 hx).1
        rw [List.getElem?_set_self hlt] at hy
        injection hy with hy
        subst hy
        have := h.2 p.1 _ v hx hv
        cases this
        exact .list0 _
      · rw [List.getElem?_set_ne (Ne.symm e)] at hy
        exact h.2 j y v hy hv
    · exact h
theorem nil_ok {e : CE R} (h : CeOk X e) (ps : List (Nat × TypeId)) (test : List AV → List Blk → Bool) : CeOk X ⟨e.f, test, fun args M => e.wr (nilfix ps args) M, fun args M k => e.run (nilfix ps args) M k⟩ := by
  intro args M k r hr
  obtain ⟨x, M', h1, h2, h3⟩ := h hr
  exact ⟨x, M', ⟨h1.1, fun {w0 S F ρ w vs} hI hv => h1.2 hI (repL_nilfix ps hv)⟩, h2, h3⟩
def testV (X : Cx) (cv : List Cv) (σ : LSh) (sel : St → List Nat) (args : List AV) (M : List Blk) : Bool :=
  match evcv X cv ⟨argEnv 0 args, M, [], .unk⟩ (fun st1 => some (enterOk σ (sel st1) st1)) with
  | some true => true
  | _ => false
theorem fn_sound (hX : X.Ok) {f : FuncId} {fn : Func} {c : Code} {L : LTab O} (hL : L.Ok X c) (hf : X.P.funcs[f]? = some fn) (hb : fn.body = some c) (hn : fn.ntmps = L.tab.nt.n)
    (hc : ∀ (vs : Array Value) (w : World), (callFunc f vs).run X.P w = .ok (.enter f vs) w) {rs : List ResultVar} (hrs : fn.results.toList = rs) {m : Nat} {ys : St → Option (XSh O)} {valOf : O → AV} {memOf : O → List Blk} (hys : ∀ st y, ys st = some y → retOk y valOf memOf)
    {args : List AV} {M : List Blk} {o : O} (h : evfn X L c rs args M (goR X m ys) = some o) : FCalls X f m args M (valOf o) (memOf o) := by
  obtain ⟨x, M', h1, h2⟩ := evfn_sound hX hL hf hb hn hc hrs h
  exact goR_sound hX hys h1 h2
theorem fn_soundt (hX : X.Ok) {f : FuncId} {fn : Func} {c : Code} {L : LTab O} (hL : L.Ok X c) (hf : X.P.funcs[f]? = some fn) (hb : fn.body = some c) (hn : fn.ntmps = L.tab.nt.n)
    (hc : ∀ (vs : Array Value) (w : World), (callFunc f vs).run X.P w = .ok (.enter f vs) w) {rs : List ResultVar} (hrs : fn.results.toList = rs) {m n : Nat} {ys : St → Option (XSh O)} {valOf : O → AV} {memOf : O → List Blk} (hys : ∀ st y, ys st = some y → retOkt n y valOf memOf)
    {args : List AV} {M : List Blk} {o : O} (h : evfn X L c rs args M (goRt X m n ys) = some o) : FCalls X f m args M (valOf o) (memOf o) := by
  obtain ⟨x, M', h1, h2⟩ := evfn_sound hX hL hf hb hn hc hrs h
  exact goRt_sound hX hys h1 h2
def lendV (M : List Blk) (x : AV) (k : AV → Option R) : Option R :=
  match x with
  | .own id =>
    match gm M id with
    | some (.nst t xs none) => k (.list t (xs.map fun r => r.map AV.froz))
    | some (.row t xs) => k (.list t xs)
    | some (.fro t xs) => k (.list t xs)
    | _ => none
  | .agg cs => tst (cs.all AV.pure) (k (.agg cs))
  | x => tst x.pure (k x)
def lendL (M : List Blk) : List AV → (List AV → Option R) → Option R
  | [], k => k []
  | x :: xs, k => lendV M x fun y => lendL M xs fun ys => k (y :: ys)
def flatX : AV → Bool | .int _ _ | .bool _ | .str _ => true | _ => false
def lentN (w : World) (ρ : List Hd) (M : List Blk) (F : Addr → Prop) (a : Addr) : Prop := F a ∨ Ours ρ M a.block ∨ ∃ id p, Hid w ρ M id p a.block
theorem rep_lent (hK : ∀ t, ∀ k ∈ X.K t, k ≠ .any) {w : World} {ρ : List Hd} {F' : Addr → Prop} {hd : Hd} {t : TypeId} {xs : List Row} (h : BRep X ρ F' w hd (.row t xs)) (hF : ∀ g, hd.blk? = some g → ∀ a, a.block = g → F' a) : Rep X.K [] F' w (.list t xs) hd.v := by
  rcases rep_list_of_brow h with ⟨_, h2, h3⟩ | ⟨g, h1, h2⟩
  · rw [h3, h2]; exact .list0 _
  · exact (h2 F' (fun _ h => h) (hF g h1)).pure hK rfl
theorem lendV_some (hX : X.Ok) {M : List Blk} {x : AV} {k : AV → Option R} {r : R} (h : lendV M x k = some r) : ∃ y, k y = some r ∧ ∀ {w0 : World} {S : Sc} {F : Addr → Prop} {ρ : List Hd} {w : World}, Inv X w0 S F ρ M w → ∀ v, Rep X.K ρ F w x v → Rep X.K [] (lentN w ρ M F) w y v := by
  unfold lendV at h
  split at h
  · rename_i id
    rw [gm_eq] at h
    split at h
    · rename_i t xs hb
      refine ⟨_, h, fun {w0 S F ρ w} hI v hv => ?_⟩
      cases hv with
      | own _ hd hid =>
        have hr := hI.nst.rep hb hid
        refine rep_lent hX.kinds (hr.froz (F' := lentN w ρ M F) (fun _ h => .inl h) (fun p g hp a ha => .inr (.inr ⟨id, some p, by rw [ha]; exact .ofB hb hid hp⟩))) fun g hg a ha => .inr (.inr ⟨id, none, by rw [ha]; exact .out hb hid hg⟩)
    · rename_i t xs hb
      refine ⟨_, h, fun {w0 S F ρ w} hI v hv => ?_⟩
      cases hv with
      | own _ hd hid =>
        refine rep_lent hX.kinds ((hI.rep id _ hd hb hid).mono (F' := lentN w ρ M F) (fun _ _ h => h) (fun _ h => .inl h) (fun _ _ _ h => h) (fun _ _ => rfl)) fun g hg a ha => .inr (.inl ⟨id, _, hd, hb, rfl, hid, by rw [ha]; exact hg⟩)
    · rename_i t xs hb
      refine ⟨_, h, fun {w0 S F ρ w} hI v hv => ?_⟩
      cases hv with
      | own _ hd hid =>
        have : Rep X.K ρ F w (.list t xs) hd.v := hI.rep id _ hd hb hid
        exact (this.pure hX.kinds rfl).mono (fun _ _ h => h) (fun _ h => .inl h) (fun _ _ _ h => h)
    · cases h
  · rename_i cs
    replace h := tst_some h
    obtain ⟨hp, h⟩ := h
    refine ⟨_, h, fun {w0 S F ρ w} hI v hv => ?_⟩
    cases hv with
    | agg _ vs hl hr =>
      refine .agg cs vs hl fun j x v hx hv => ((hr j x v hx hv).pure hX.kinds (List.all_eq_true.1 hp x (List.mem_of_getElem? hx))).mono (fun _ _ h => h) (fun _ h => .inl h) (fun _ _ _ h => h)
  · replace h := tst_some h
    obtain ⟨hp, h⟩ := h
    exact ⟨_, h, fun {w0 S F ρ w} hI v hv => (hv.pure hX.kinds hp).mono (fun _ _ h => h) (fun _ h => .inl h) (fun _ _ _ h => h)⟩
theorem lendL_some (hX : X.Ok) {M : List Blk} : ∀ (xs : List AV) {k : List AV → Option R} {r : R}, lendL M xs k = some r → ∃ ys, k ys = some r ∧ ∀ {w0 : World} {S : Sc} {F : Addr → Prop} {ρ : List Hd} {w : World}, Inv X w0 S F ρ M w → ∀ vs, RepL X.K ρ F w xs vs → RepL X.K [] (lentN w ρ M F) w ys vs
  | [], k, r, h => ⟨[], h, fun {w0 S F ρ w} hI vs hv => ⟨hv.1, fun j x v hx => by simp at hx⟩⟩
  | x :: xs, k, r, h => by
    simp only [lendL] at h
    obtain ⟨y, h, h1⟩ := lendV_some hX h
    obtain ⟨ys, h, h2⟩ := lendL_some hX xs h
    refine ⟨_, h, fun {w0 S F ρ w} hI vs hv => ?_⟩
    match vs, hv.1 with
    | v :: vs, hl =>
      have hr := h2 hI vs ⟨by simpa using hl, fun j z u hz hu => hv.2 (j + 1) z u (by simpa using hz) (by simpa using hu)⟩
      refine ⟨by simp [hr.1], fun j z u hz hu => ?_⟩
      cases j with
      | zero => simp at hz hu; subst hz; subst hu; exact h1 hI v (hv.2 0 x v rfl rfl)
      | succ j => exact hr.2 j z u (by simpa using hz) (by simpa using hu)
theorem ACalls.lendN (hX : X.Ok) {f : FuncId} {args ys : List AV} {x : AV} {M M' : List Blk} (h : ACalls X f ys [] x M')
    (ha : ∀ {w0 : World} {S : Sc} {F : Addr → Prop} {ρ : List Hd} {w : World}, Inv X w0 S F ρ M w → ∀ vs, RepL X.K ρ F w args vs → RepL X.K [] (lentN w ρ M F) w ys vs) (hx : flatX x = true) : ACalls X f args M x M := by
  refine ⟨h.1, fun {w0 S F ρ w vs} hI hr => ?_⟩
  have hfz : ∀ a, lentN w ρ M F a → a.block < w.heap.size := by
    rintro a (ha | ⟨id, b, hd, h1, h2, h3, h4⟩ | ⟨id, p, hh⟩)
    · exact hI.fz a ha
    · exact (hI.sep id b hd _ h1 h2 h3 h4).1
    · exact (hI.nst.own hh).1
  have hi : Inv X w ⟨fun _ => False, lentN w ρ M F⟩ (lentN w ρ M F) [] [] w := {
    os := rfl, tape := rfl, output := rfl, size := Nat.le_refl _, frame := fun _ _ _ => rfl, len := rfl
    rep := fun id b hd hb _ => by simp at hb
    sep := fun id b hd g hb _ _ _ => by simp at hb
    disj := fun id id' b b' hd hd' g _ hb _ _ _ _ _ _ => by simp at hb
    fz := hfz, glob := fun g => ((hI.glob g).top_pure hX.kinds (hX.glob g)).mono (fun _ _ h => h) (fun _ h => .inl h) (fun _ _ _ h => h)
    one := fun id hd hh => by simp at hh
    old := fun a ha => .inl ha, fin := fun a ha => ha, nst := .none (by simp) }
  refine (h.2 hi (ha hI vs hr)).mono ?_
  rintro e w' ⟨v, ρ', F', rfl, hI', hg, hv⟩
  have hfr : ∀ g, g < w.heap.size → w'.heap[g]? = w.heap[g]? := fun g hlt => hI'.frame g hlt (fun h => h)
  have hgr : Grow F F ρ ρ w w' := ⟨fun _ h => h, fun _ _ h => h, fun a ha => hfr _ (hI.fz a ha)⟩
  have hvx : Rep X.K ρ F w' x v := by
    cases x <;> simp only [flatX, Bool.false_eq_true] at hx <;> cases hv
    · exact .int _ _
    · exact .bool _
    · exact .str _
  refine ⟨v, ρ, F, rfl, ?_, hgr, hvx⟩
  exact {
    os := hI'.os.trans hI.os, tape := hI'.tape.trans hI.tape, output := hI'.output.trans hI.output, size := Nat.le_trans hI.size hI'.size
    frame := fun g hlt hn => (hfr g (Nat.lt_of_lt_of_le hlt hI.size)).trans (hI.frame g hlt hn)
    len := hI.len
    rep := fun id b hd h1 h2 => by
      cases hd' : b.isDead with
      | true => exact (hI.rep id b hd h1 h2).mono_dead (fun _ _ h => h) hgr.hF hgr.hw hd'
      | false => exact (hI.rep id b hd h1 h2).mono (fun _ _ h => h) hgr.hF hgr.hw (fun g hgb => hfr g (hI.sep id b hd g h1 hd' h2 hgb).1)
    sep := fun id b hd g h1 h2 h3 h4 => by
      obtain ⟨s1, s2, s3⟩ := hI.sep id b hd g h1 h2 h3 h4
      exact ⟨Nat.lt_of_lt_of_le s1 hI'.size, s2, s3⟩
    disj := hI.disj
    fz := fun a ha => Nat.lt_of_lt_of_le (hI.fz a ha) hI'.size
    glob := fun g => (hI.glob g).mono (fun _ _ h => h) hgr.hF hgr.hw
    one := hI.one
    old := hI.old
    fin := hI.fin
    nst := hI.nst.stay hI.len (fun _ _ h _ => h) (fun _ _ h => h) hgr.hF hgr.hw fun g h1 h2 h3 h4 => ⟨Nat.lt_of_lt_of_le h1 hI'.size, h2, hfr g h1, h3, h4⟩ }
def lendCe (e : CE R) : CE R := ⟨e.f, e.test, fun _ _ => some [], fun args M k => lendL M args fun ys => e.run ys [] fun x _ => tst (flatX x) (k x M)⟩
theorem lendCe_ok (hX : X.Ok) {e : CE R} (h : CeOk X e) : CeOk X (lendCe e) := by
  intro args M k r hr
  obtain ⟨ys, hr, ha⟩ := lendL_some hX args (show lendL M args _ = some r from hr)
  obtain ⟨x, M', hc, hr, _⟩ := h hr
  replace hr := tst_some hr
  obtain ⟨hx, hr⟩ := hr
  exact ⟨x, M, hc.lendN hX ha hx, hr, fun ids hi => Agree.refl _ _⟩
end
end Go.Eng

namespace Go.Eng
open Go
noncomputable section
variable {X : Cx}
def badTI : TI := ⟨false, .other, 0, 0, [], []⟩
def lookTI : List (Nat × TI) → Nat → TI
  | [], _ => badTI
  | e :: es, t => match Nat.beq t e.1 with | true => e.2 | false => lookTI es t
def lookS : List (Nat × Site) → Nat → Site
  | [], _ => ⟨0, #[], .skip, .skip⟩
  | e :: es, t => match Nat.beq t e.1 with | true => e.2 | false => lookS es t
theorem lookTI_ok {P : Program} {l : List (Nat × TI)} (h : AllE (fun e => e.2 = tiOf P e.1 ∧ e.2.ok = true) l) (t : Nat) : ((lookTI l t).ok = true → lookTI l t = tiOf P t) ∧ ((lookTI l t).ok = false → (lookTI l t).ks = []) := by
  induction l with
  | nil => exact ⟨fun h => (by cases h), fun _ => rfl⟩
  | cons e es ih =>
    simp only [lookTI]
    cases hb : Nat.beq t e.1 with
    | true =>
      have := Nat.eq_of_beq_eq_true hb
      subst this
      exact ⟨fun _ => h.1.1, fun hf => (by have := h.1.2; rw [hf] at this; cases this)⟩
    | false => exact ih h.2
def lookVw : List (Nat × Nat) → Nat → Nat → Bool
  | [], _, _ => false
  | e :: es, d, t => match Nat.beq d e.1 && Nat.beq t e.2 with | true => true | false => lookVw es d t
def lookE : List Nat → Nat → Bool
  | [], _ => false
  | e :: es, t => match Nat.beq t e with | true => true | false => lookE es t
theorem lookE_ok {P : Program} {l : List Nat} (h : AllE (fun e => eqOk P e = true) l) (t : Nat) (ht : lookE l t = true) : eqOk P t = true := by
  induction l with
  | nil => cases ht
  | cons e es ih =>
    simp only [lookE] at ht
    cases hb : Nat.beq t e with
    | true =>
      have := Nat.eq_of_beq_eq_true hb
      subst this
      exact h.1
    | false => rw [hb] at ht; exact ih h.2 ht
theorem alike_refl (a : TI) : TI.alike a a := ⟨rfl, rfl, rfl, rfl, rfl, rfl⟩
theorem cx_ok {P : Program} {l : List (Nat × TI)} {s : Nat → Site} {el : List Nat} {gl : Nat → AV} {vw : Nat → TypeId → Bool} (hgl : ∀ g, gl g = .top ∨ (gl g).pure = true) (hm : P.follows .mixedOrders = true) (h : AllE (fun e => e.2 = tiOf P e.1 ∧ e.2.ok = true) l) (he : AllE (fun e => eqOk P e = true) el) : (⟨P, lookTI l, s, gl, lookE el, true, vw, none⟩ : Cx).Ok where
  eqs := lookE_ok he
  facts := fun {t} ht => facts_of_ti (X := ⟨P, lookTI l, s, gl, lookE el, true, vw, none⟩) (by rw [show (Cx.ti ⟨P, lookTI l, s, gl, lookE el, true, vw, none⟩ t) = lookTI l t from rfl, (lookTI_ok h t).1 ht]; exact alike_refl _) ht
  mixed := hm
  bad := fun t => (lookTI_ok h t).2
  glob := hgl
  kindsP := fun _ => kinds_of_ti (X := ⟨P, lookTI l, s, gl, lookE el, true, vw, none⟩) (fun t => (lookTI_ok h t).1) (fun t => (lookTI_ok h t).2)
  ub := fun u h => by cases h
  pkt := rfl
def vTI (e : TI) : TI := ⟨e.ok, e.u, e.size, e.bytes, e.zero, e.ks.map Kind.v⟩
theorem cx_okv {P : Program} {l : List (Nat × TI)} {s : Nat → Site} {el : List Nat} {gl : Nat → AV} {vw : Nat → TypeId → Bool} {ub : Option Ub} (hub : ∀ u, ub = some u → UbOk P u) (hgl : ∀ g, gl g = .top ∨ (gl g).pure = true) (hm : P.follows .mixedOrders = true) (h : AllE (fun e => e.2 = tiOf P e.1 ∧ e.2.ok = true) l) (he : AllE (fun e => eqOk P e = true) el) : (⟨P, fun t => vTI (lookTI l t), s, gl, lookE el, false, vw, ub⟩ : Cx).Okb where
  eqs := lookE_ok he
  facts := fun {t} ht => facts_of_ti (X := ⟨P, fun t => vTI (lookTI l t), s, gl, lookE el, false, vw, ub⟩) (by
    rw [show (Cx.ti ⟨P, fun t => vTI (lookTI l t), s, gl, lookE el, false, vw, ub⟩ t) = vTI (lookTI l t) from rfl, (lookTI_ok h t).1 ht]
    exact ⟨rfl, rfl, rfl, rfl, rfl, by simp [vTI]⟩) ht
  mixed := hm
  bad := fun t ht => by
    show (vTI (lookTI l t)).ks = []
    have := (lookTI_ok h t).2 ht
    simp [vTI, this]
  glob := hgl
  kindsP := fun h => by cases h
  ub := hub
theorem ub_bt {P : Program} {t : TypeId} (h : (match P.info? t with | some j => !Nat.beq j.size 0 | none => false) = true) : ∃ j, P.info? t = some j ∧ j.size ≠ 0 := by
  split at h
  · rename_i j hj
    exact ⟨j, hj, fun e => by rw [e] at h; simp at h⟩
  · cases h
theorem enters {P : Program} {f : FuncId} {fn : Func} {c : Code} (hf : P.funcs[f]? = some fn) (hb : fn.body = some c) (hn : (fn.name == "runtime.NumGoroutine") = false) (vs : Array Value) (w : World) : (callFunc f vs).run P w = .ok (.enter f vs) w := by
  have hp : (program).run P w = .ok P w := rfl
  have hn' : fn.name ≠ "runtime.NumGoroutine" := by simpa using hn
  simp [callFunc, Sem.run_bind, hp, Result.andThen, hf, hn', hb]
end
end Go.Eng

namespace Go.Eng
open Go Go.ChangeShapes Go.WideShapes Go.ChangeAt Go.RowKit
noncomputable section
variable {X : Cx}
inductive Wf (K : TypeId → List Kind) : AV → Prop
  | int (k : IntKind) (n : Int) (h : (Lit.int k n).wf = true) : Wf K (.int k n)
  | bool (b : Bool) : Wf K (.bool b)
  | str (s : ByteArray) (h : s.size ≤ maxLen) : Wf K (.str s)
  | list (t : TypeId) (xs : List Row) (hl : xs.length ≤ maxLen) (hk : ∀ row ∈ xs, koks (K t) row = true) (h : ∀ row ∈ xs, ∀ x ∈ row, Wf K x) : Wf K (.list t xs)
def WfL (K : TypeId → List Kind) (row : Row) : Prop := ∀ x ∈ row, Wf K x
def offsOk (X : Cx) : Nat → List (Nat × TypeId) → Nat → Bool
  | o, [], n => o == n
  | o, f :: fs, n => f.1 == o && offsOk X (o + (X.ti f.2).size) fs n
def rd1 (X : Cx) (S : List TypeId) (t : TypeId) : Bool :=
  (X.ti t).ok && match (X.ti t).u with
    | .int k => (X.ti t).ks == [.int k]
    | .bool => (X.ti t).ks == [.bool]
    | .str => (X.ti t).ks == [.str]
    | .slice e => (X.ti t).ks == [.slice e] && S.contains e && Nat.blt 0 (X.ti e).size
    | .struct fs => (X.ti t).ks == fs.flatMap (fun f => (X.ti f.2).ks) && offsOk X 0 fs (X.ti t).size && fs.all (fun f => S.contains f.2)
    | .array m e => (X.ti t).ks == (List.replicate m (X.ti e).ks).flatten && S.contains e && (m * (X.ti e).size == (X.ti t).size)
    | _ => false
def rdS (X : Cx) (S : List TypeId) : Bool := S.all (rd1 X S)
theorem rd1_of {S : List TypeId} (h : rdS X S = true) {t : TypeId} (ht : S.contains t = true) : rd1 X S t = true := by
  unfold rdS at h
  exact List.all_eq_true.1 h t (by simpa using ht)
theorem koks_append : ∀ {ks ls : List Kind} {r s : Row}, koks ks r = true → koks ls s = true → koks (ks ++ ls) (r ++ s) = true
  | [], _, [], _, _, h => h
  | k :: ks, ls, x :: r, s, h, h' => by
    simp only [koks, Bool.and_eq_true] at h
    simp only [List.cons_append, koks, Bool.and_eq_true]
    exact ⟨h.1, koks_append h.2 h'⟩
  | [], _, _ :: _, _, h, _ => by simp [koks] at h
  | _ :: _, _, [], _, h, _ => by simp [koks] at h
section
variable {w : World} {ρ : List Hd}
def there (w : World) (a : Addr) : Prop := a.block < w.heap.size
def Reads (X : Cx) (ρ : List Hd) (w : World) (ks : List Kind) (cs : List Value) (row : Row) : Prop := RepL X.K ρ (there w) w row cs ∧ koks ks row = true ∧ WfL X.K row
theorem reads_fields {cs : List Value} : ∀ (fs : List (Nat × TypeId)) (o : Nat), o ≤ cs.length → offsOk X o fs cs.length = true → (∀ f ∈ fs, (X.ti f.2).ks.length = (X.ti f.2).size) →
    (∀ f ∈ fs, ∃ row, Reads X ρ w (X.ti f.2).ks ((cs.drop f.1).take (X.ti f.2).size) row) → ∃ row, Reads X ρ w (fs.flatMap fun f => (X.ti f.2).ks) (cs.drop o) row
  | [], o, ho, h, _, _ => by
    have : o = cs.length := by simpa [offsOk] using h
    subst this
    exact ⟨[], ⟨by simp [RepL], rfl, fun x hx => by simp at hx⟩⟩
  | f :: fs, o, ho, h, hks, hr => by
    simp only [offsOk, Bool.and_eq_true, beq_iff_eq] at h
    obtain ⟨h1, h2⟩ := h
    obtain ⟨r1, a1, a2, a3⟩ := hr f (by simp)
    rw [h1] at a1
    have hl1 : ((cs.drop o).take (X.ti f.2).size).length = (X.ti f.2).size := by rw [a1.1, koks_length a2]; exact hks f (by simp)
    have ho2 : o + (X.ti f.2).size ≤ cs.length := by simp at hl1; omega
    obtain ⟨r2, b1, b2, b3⟩ := reads_fields fs (o + (X.ti f.2).size) ho2 h2 (fun g hg => hks g (by simp [hg])) (fun g hg => hr g (by simp [hg]))
    refine ⟨r1 ++ r2, ?_, ?_, fun x hx => ?_⟩
    · have := RepL.append a1 b1
      rwa [← List.drop_drop, List.take_append_drop] at this
    · simp only [List.flatMap_cons]; exact koks_append a2 b2
    · rw [List.mem_append] at hx
      rcases hx with hx | hx
      · exact a3 x hx
      · exact b3 x hx
theorem reads_elems {cs : List Value} {ks : List Kind} {sz : Nat} (hks : ks.length = sz) : ∀ (m o : Nat), o + m * sz = cs.length → (∀ i, i < m → ∃ row, Reads X ρ w ks ((cs.drop (o + i * sz)).take sz) row) → ∃ row, Reads X ρ w (List.replicate m ks).flatten (cs.drop o) row
  | 0, o, ho, _ => by
    have : o = cs.length := by simpa using ho
    subst this
    exact ⟨[], ⟨by simp [RepL], rfl, fun x hx => by simp at hx⟩⟩
  | m + 1, o, ho, hr => by
    obtain ⟨r1, a1, a2, a3⟩ := hr 0 (by omega)
    simp only [Nat.zero_mul, Nat.add_zero] at a1
    have e1 : (m + 1) * sz = m * sz + sz := Nat.succ_mul m sz
    obtain ⟨r2, b1, b2, b3⟩ := reads_elems (cs := cs) hks m (o + sz) (by omega) (fun i hi => by
      have := hr (i + 1) (by omega)
      have e2 : (i + 1) * sz = i * sz + sz := Nat.succ_mul i sz
      rw [e2, show o + (i * sz + sz) = o + sz + i * sz by omega] at this
      exact this)
    refine ⟨r1 ++ r2, ?_, ?_, fun x hx => ?_⟩
    · have := RepL.append a1 b1
      rwa [← List.drop_drop, List.take_append_drop] at this
    · simp only [List.replicate_succ, List.flatten_cons]; exact koks_append a2 b2
    · rw [List.mem_append] at hx
      rcases hx with hx | hx
      · exact a3 x hx
      · exact b3 x hx
theorem reads_one {k : Kind} {x : AV} {v : Value} (hr : Rep X.K ρ (there w) w x v) (hk : kok k x = true) (hw : Wf X.K x) : Reads X ρ w [k] [v] [x] :=
  ⟨⟨rfl, fun j y u hy hu => by
    cases j with
    | zero => simp at hy hu; subst hy; subst hu; exact hr
    | succ j => simp at hy⟩, by simp [koks, hk], fun y hy => by simp at hy; subst hy; exact hw⟩
theorem reads_of_trod (hX : X.Ok) {S : List TypeId} (hS : rdS X S = true) {H : Type} {enc : TypeId × Value → H} : ∀ (n : Nat) {fuel : Nat} {t : TypeId} {cs : List Value} {x : DataW H × List MemPlace}, fuel < n → S.contains t = true →
    DataW.trod enc X.P w 0 (fun _ => true) true fuel t cs = some x → ∃ row, Reads X ρ w (X.ti t).ks cs row
  | 0, _, _, _, _, h, _, _ => absurd h (Nat.not_lt_zero _)
  | n + 1, fuel, t, cs, x, hfu, ht, hx => by
    have h := rd1_of hS ht
    simp only [rd1, Bool.and_eq_true] at h
    obtain ⟨hok, h⟩ := h
    obtain ⟨i, d, z, f⟩ := hX.facts hok
    have hcell : ∀ t', (X.ti t').ok = true → X.P.cellsOf t' = (X.ti t').size := fun t' hok' => by
      obtain ⟨i', d', z', f'⟩ := hX.facts hok'
      simp [Program.cellsOf, f'.info, f'.size]
    have hlen : ∀ t', (X.ti t').ok = true → (X.ti t').ks.length = (X.ti t').size := fun t' hok' => by
      obtain ⟨i', d', z', f'⟩ := hX.facts hok'
      rw [f'.ks, f'.size]
    have okof : ∀ {t'}, S.contains t' = true → (X.ti t').ok = true := fun {t'} hm => by
      have := rd1_of hS hm
      simp only [rd1, Bool.and_eq_true] at this
      exact this.1
    split at h
    · rename_i k hu
      have hk : (X.ti t).ks = [.int k] := by simpa using h
      obtain ⟨m, rfl, _, hwf⟩ := DataW.trod_int (f.intK hu) hx
      rw [hk]
      exact ⟨_, reads_one (.int k m) (by simp [kok]) (.int k m hwf)⟩
    · rename_i hu
      have hk : (X.ti t).ks = [.bool] := by simpa using h
      have hund : X.P.underlying t = some .bool := by
        have := f.und; rw [f.u] at hu
        cases d <;> simp_all [tyOf]
      obtain ⟨b, rfl, _⟩ := DataW.trod_bool hund hx
      rw [hk]
      exact ⟨_, reads_one (.bool b) rfl (.bool b)⟩
    · rename_i hu
      have hk : (X.ti t).ks = [.str] := by simpa using h
      have hund : X.P.underlying t = some .string := by
        have := f.und; rw [f.u] at hu
        cases d <;> simp_all [tyOf]
      obtain ⟨s, rfl, _, hs⟩ := DataW.trod_string hund hx
      rw [hk]
      exact ⟨_, reads_one (.str s) rfl (.str s hs)⟩
    · rename_i e hu
      simp only [Bool.and_eq_true, beq_iff_eq] at h
      obtain ⟨⟨hk, hrd⟩, hpos⟩ := h
      have hpos : 0 < (X.ti e).size := by simpa using hpos
      have hoke := okof hrd
      rcases DataW.trod_slice (f.slice hu) hx with ⟨rfl, _⟩ | ⟨a, len, cap, elems, rest, m, hfm, rfl, _, _, hlc, hcm, hel, hread, _, _⟩
      · rw [hk]
        exact ⟨_, reads_one (.list0 e) (by simp [kok]) (.list e [] (by simp) (fun row h => by simp at h) (fun row h => by simp at h))⟩
      · rw [hk]
        have each : ∀ i, i < len → ∃ vs row, w.cells? 0 (a.add (i * (X.ti e).size)) (X.ti e).size = some vs ∧ Reads X ρ w (X.ti e).ks vs row := by
          intro i hi
          have := hread i hi
          rw [hcell e hoke, List.getElem?_eq_getElem (by omega)] at this
          rw [Option.bind_eq_some_iff] at this
          obtain ⟨vs, h1, h2⟩ := this
          obtain ⟨row, h3⟩ := reads_of_trod hX hS n (by omega) hrd h2
          exact ⟨vs, row, h1, h3⟩
        have hch : ∃ g : Nat → List Value × Row, ∀ i, i < len → w.cells? 0 (a.add (i * (X.ti e).size)) (X.ti e).size = some (g i).1 ∧ Reads X ρ w (X.ti e).ks (g i).1 (g i).2 := by
          refine ⟨fun i => if hi : i < len then ((each i hi).choose, (each i hi).choose_spec.choose) else ([], []), fun i hi => ?_⟩
          simp only [hi, dif_pos]
          exact (each i hi).choose_spec.choose_spec
        obtain ⟨g, hg⟩ := hch
        have hkl := hlen e hoke
        have hxs : ((List.range len).map fun i => (g i).2).length = len := by simp
        have rep := Rep.list (K := X.K) (ρ := ρ) (F := there w) (w := w) e ((List.range len).map fun i => (g i).2) a cap ((List.range len).map fun i => (g i).1) (by simp) (by simpa using hlc) hcm
          (fun i row hi => by
            have hlt : i < len := by have := (List.getElem?_eq_some_iff.1 hi).1; simpa using this
            simp only [List.getElem?_map, List.getElem?_range hlt, Option.map_some, Option.some.injEq] at hi
            subst hi
            exact (hg i hlt).2.2.1)
          (fun i vs hi => by
            have hlt : i < len := by have := (List.getElem?_eq_some_iff.1 hi).1; simpa using this
            simp only [List.getElem?_map, List.getElem?_range hlt, Option.map_some, Option.some.injEq] at hi
            subst hi
            obtain ⟨c1, c2⟩ := hg i hlt
            have hvl : (g i).1.length = (X.K e).length := by rw [c2.1.1, koks_length c2.2.1]; rfl
            refine ⟨hvl, fun j v hj => ?_⟩
            have hjl : j < (X.ti e).size := by have := (List.getElem?_eq_some_iff.1 hj).1; rw [hvl] at this; rw [← hkl]; exact this
            have hcell' : w.cell? (a.add (i * (X.K e).length + j)) = some v := by
              have hsome := World.cells?_some c1
              obtain ⟨_, hsome⟩ := hsome
              have := hsome.2 j hjl
              rw [hj] at this
              have e2 : (X.K e).length = (X.ti e).size := hkl
              rw [e2]
              rwa [Addr.add_add] at this
            exact ⟨hcell', World.block_lt_of_cell? w _ hcell'⟩)
          (fun i row vs hi hvs j y v hy hv => by
            have hlt : i < len := by have := (List.getElem?_eq_some_iff.1 hi).1; simpa using this
            simp only [List.getElem?_map, List.getElem?_range hlt, Option.map_some, Option.some.injEq] at hi hvs
            subst hi; subst hvs
            exact (hg i hlt).2.1.2 j y v hy hv)
        rw [hxs] at rep
        refine ⟨_, reads_one rep (by simp [kok]) (.list e _ (by rw [hxs]; omega) (fun row hrow => ?_) fun row hrow y hy => ?_)⟩
        · obtain ⟨i, hi, rfl⟩ := List.mem_map.1 hrow
          exact (hg i (List.mem_range.1 hi)).2.2.1
        · obtain ⟨i, hi, rfl⟩ := List.mem_map.1 hrow
          exact (hg i (List.mem_range.1 hi)).2.2.2 y hy
    · rename_i fs hu
      simp only [Bool.and_eq_true, beq_iff_eq] at h
      obtain ⟨⟨hk, hoff⟩, hall⟩ := h
      obtain ⟨gs, hund, rfl⟩ := f.struct hu
      obtain ⟨xs, m, hfm, _, hcl, hxl, hfield⟩ := DataW.trod_struct hund hx
      rw [hk]
      rw [hcell t hok] at hcl
      have := reads_fields (X := X) (ρ := ρ) (w := w) (cs := cs) (gs.toList.map fun f => (f.offset, f.type)) 0 (Nat.zero_le _) (by rw [hcl]; exact hoff)
        (fun g hg => hlen _ (okof (List.all_eq_true.1 hall g hg))) (fun g hg => by
          have hrd := List.all_eq_true.1 hall g hg
          obtain ⟨q, hq, rfl⟩ := List.mem_map.1 hg
          obtain ⟨j, hj, hq⟩ := List.mem_iff_getElem.1 hq
          have hj' : gs[j]? = some q := by rw [← hq]; simp [Array.length_toList ▸ hj]
          have hf := hfield j q hj'
          rw [hcell _ (okof hrd)] at hf
          have hjx : j < xs.length := by rw [hxl]; simpa using hj
          rw [List.getElem?_eq_getElem hjx] at hf
          exact reads_of_trod hX hS n (by omega) hrd hf)
      simpa using this
    · rename_i m e hu
      simp only [Bool.and_eq_true, beq_iff_eq] at h
      obtain ⟨⟨hk, hrd⟩, hmul⟩ := h
      have hoke := okof hrd
      obtain ⟨xs, m', hfm, _, hcl, hxl, hread⟩ := DataW.trod_array (f.array hu) hx
      rw [hk]
      rw [hcell t hok] at hcl
      have := reads_elems (X := X) (ρ := ρ) (w := w) (cs := cs) (hlen e hoke) m 0 (by omega) (fun i hi => by
        have hf := hread i hi
        rw [hcell _ hoke, List.getElem?_eq_getElem (by omega)] at hf
        simpa using reads_of_trod hX hS n (by omega) hrd hf)
      simpa using this
    · cases h
end
def ArgAV (X : Cx) (t : TypeId) (x : AV) : Prop := ((X.ti t).u.agg = true ∧ ∃ row, x = .agg row ∧ koks (X.ti t).ks row = true ∧ WfL X.K row) ∨ ((X.ti t).u.agg = false ∧ koks (X.ti t).ks [x] = true ∧ Wf X.K x)
theorem argAV_of_trod (hX : X.Ok) {S : List TypeId} (hS : rdS X S = true) {w : World} {base : Nat} {ρ : List Hd} {H : Type} {enc : TypeId × Value → H} {t : TypeId} {v : Value} {d : DataW H} {ps : List MemPlace} (hrd : S.contains t = true) (h : DataW.Trod enc X.P w 0 (fun _ => true) true t v d ps)
    (hok : Value.okWide X.P w .any base t v) : ∃ x, ArgAV X t x ∧ Rep X.K ρ (there w) w x v := by
  obtain ⟨fuel, h⟩ := h
  obtain ⟨row, hr⟩ := reads_of_trod hX hS (ρ := ρ) (fuel + 1) (by omega) hrd h
  have hr1 := rd1_of hS hrd
  have hto : (X.ti t).ok = true := by
    simp only [rd1, Bool.and_eq_true] at hr1
    exact hr1.1
  obtain ⟨i, dd, z, f⟩ := hX.facts hto
  cases hag : (X.ti t).u.agg with
  | true =>
    have hv : ∃ cs, v = .agg cs := by
      unfold Value.okWide at hok
      rw [f.und] at hok
      rw [f.u] at hag
      cases dd <;> simp [tyOf, TyI.agg] at hag
      · obtain ⟨cs, h1, _⟩ := hok; exact ⟨cs, h1⟩
      · obtain ⟨cs, h1, _⟩ := hok; exact ⟨cs, h1⟩
    obtain ⟨cs, rfl⟩ := hv
    have hc : (Value.agg cs).cells.toList = cs.toList := rfl
    rw [hc] at hr
    refine ⟨.agg row, .inl ⟨hag, row, rfl, hr.2.1, hr.2.2⟩, ?_⟩
    have := Rep.agg (K := X.K) (ρ := ρ) (F := there w) (w := w) row cs.toList hr.1.1 hr.1.2
    simpa using this
  | false =>
    have hkl : (X.ti t).ks.length = 1 := by
      simp only [rd1, Bool.and_eq_true] at hr1
      have h2 := hr1.2
      split at h2
      · rename_i k hu
        have : (X.ti t).ks = [.int k] := by simpa using h2
        rw [this]; rfl
      · have : (X.ti t).ks = [.bool] := by simpa using h2
        rw [this]; rfl
      · have : (X.ti t).ks = [.str] := by simpa using h2
        rw [this]; rfl
      · simp only [Bool.and_eq_true, beq_iff_eq] at h2
        rw [h2.1.1]; rfl
      · rename_i hu; rw [hu] at hag; simp [TyI.agg] at hag
      · rename_i hu; rw [hu] at hag; simp [TyI.agg] at hag
      · cases h2
    have hrl := koks_length hr.2.1
    rw [hkl] at hrl
    obtain ⟨x, rfl⟩ := List.length_eq_one_iff.1 hrl
    have hcl : v.cells.toList.length = 1 := by rw [hr.1.1, hrl]
    have hv : v.cells.toList = [v] := by
      cases v with
      | agg cs =>
        exfalso
        unfold Value.okWide at hok
        rw [f.und] at hok
        rw [f.u] at hag
        cases dd <;> simp [tyOf, TyI.agg] at hag <;> simp [Cell.okWide, Cell.ok, f.und] at hok
      | _ => rfl
    rw [hv] at hr
    exact ⟨x, .inr ⟨hag, hr.2.1, hr.2.2 x (by simp)⟩, hr.1.2 0 x v rfl rfl⟩
theorem below_of_inv {w0 w : World} {F : Addr → Prop} {ρ : List Hd} {M : List Blk} {F0 : Addr → Prop} (hI : Inv X w0 ⟨fun _ => False, F0⟩ F ρ M w) : Below w0.heap.size w0 w :=
  ⟨hI.os, hI.tape, hI.output, hI.size, fun k hk => hI.frame k hk (fun h => h)⟩
theorem kept_of_below {w w' : World} (h : Below w.heap.size w w') (may : MemPlace → Prop) : w.keptBut w' may := by
  refine ⟨h.os, h.output, fun i hi => ?_⟩
  rw [h.block i hi]
  exact (World.keptBut_refl w may).2.2 i hi
theorem inv_start (hX : X.Ok) (w : World) (hg : ∀ g, Rep X.K [] (there w) w (X.glob g) (.pointer (some ⟨g, 0, none⟩))) : Inv X w ⟨fun _ => False, there w⟩ (there w) [] [] w where
  os := rfl
  tape := rfl
  output := rfl
  size := Nat.le_refl _
  frame := fun _ _ _ => rfl
  len := rfl
  rep := fun id b hd hb _ => by simp at hb
  sep := fun id b hd g hb _ _ _ => by simp at hb
  disj := fun id id' b b' hd hd' g _ hb _ _ _ _ _ _ => by simp at hb
  fz := fun a ha => ha
  glob := hg
  one := fun id hd hh => by simp at hh
  old := fun a ha => .inl ha
  fin := fun a ha => ha
  nst := .none (by simp)
def ArgsAV (X : Cx) : List TypeId → List AV → Prop
  | [], [] => True
  | t :: ts, x :: xs => ArgAV X t x ∧ ArgsAV X ts xs
  | _, _ => False
theorem argsAV_of_trod (hX : X.Ok) {S : List TypeId} (hS : rdS X S = true) {w : World} {base : Nat} {ρ : List Hd} {H : Type} {enc : TypeId × Value → H} : ∀ {ts : List TypeId} {vs : List Value} {ds : List (DataW H)} {ps : List MemPlace}, (ts.all S.contains) = true →
    DataW.TrodAll enc X.P w 0 (fun _ => true) true ts vs ds ps → (∀ (j : Nat) t v, ts[j]? = some t → vs[j]? = some v → Value.okWide X.P w .any base t v) → ∃ xs, ArgsAV X ts xs ∧ RepL X.K ρ (there w) w xs vs
  | [], [], [], ps, _, _, _ => ⟨[], trivial, by simp [RepL]⟩
  | t :: ts, v :: vs, d :: ds, ps, hrd, h, hok => by
    obtain ⟨p, q, h1, h2, _⟩ := h
    simp only [List.all_cons, Bool.and_eq_true] at hrd
    obtain ⟨x, hx, hr⟩ := argAV_of_trod hX hS (ρ := ρ) hrd.1 h1 (hok 0 t v rfl rfl)
    obtain ⟨xs, hxs, hrs⟩ := argsAV_of_trod hX hS (ρ := ρ) (ts := ts) (vs := vs) hrd.2 h2 (fun j t' v' ht hv => hok (j + 1) t' v' (by simpa using ht) (by simpa using hv))
    refine ⟨x :: xs, ⟨hx, hxs⟩, by simp [hrs.1], fun j y u hy hu => ?_⟩
    cases j with
    | zero => simp at hy hu; subst hy; subst hu; exact hr
    | succ j => simp at hy hu; exact hrs.2 j y u hy hu
  | [], [], _ :: _, _, _, h, _ => by simp [DataW.TrodAll] at h
  | [], _ :: _, _, _, _, h, _ => by simp [DataW.TrodAll] at h
  | _ :: _, [], _, _, _, h, _ => by simp [DataW.TrodAll] at h
  | _ :: _, _ :: _, [], _, _, h, _ => by simp [DataW.TrodAll] at h
theorem trodAll_behind {P : Program} {H : Type} {enc : TypeId × Value → H} (hl : laidOutB P = true) {w w' : World} (hb : Below w.heap.size w w') : ∀ {ts : List TypeId} {vs : List Value} {ds : List (DataW H)} {ps : List MemPlace}, (ts.all fun t => P.readableRec t && Nat.blt t P.types.size) = true →
    DataW.TrodAll enc P w 0 (fun _ => true) true ts vs ds ps → (∀ x ∈ ps, x.block < w.heap.size) → DataW.TrodAll enc P w' 0 (fun b => decide (b < w.heap.size)) true ts vs ds ps
  | [], [], [], ps, _, h, _ => h
  | t :: ts, v :: vs, d :: ds, ps, hrd, h, hlt => by
    obtain ⟨p, q, h1, h2, rfl⟩ := h
    simp only [List.all_cons, Bool.and_eq_true] at hrd
    exact ⟨p, q, Below.trod hl hrd.1.1 (by simpa using hrd.1.2) h1 hb (fun x hx => hlt x (by simp [hx])), trodAll_behind hl hb (ts := ts) (vs := vs) hrd.2 h2 (fun x hx => hlt x (by simp [hx])), rfl⟩
  | [], [], _ :: _, _, _, h, _ => by simp [DataW.TrodAll] at h
  | [], _ :: _, _, _, _, h, _ => by simp [DataW.TrodAll] at h
  | _ :: _, [], _, _, _, h, _ => by simp [DataW.TrodAll] at h
  | _ :: _, _ :: _, [], _, _, h, _ => by simp [DataW.TrodAll] at h
theorem rep_table {w : World} {t : TypeId} {row : Row} {g : Nat} (hk : koks (X.K t) row = true) (hc : ∀ j x, row[j]? = some x → ∃ k n, x = .int k n ∧ w.cell? ⟨g, j, none⟩ = some (.int k n)) (hb : g < w.heap.size) : Rep X.K [] (there w) w (.iptr t row 0) (.pointer (some ⟨g, 0, none⟩)) := by
  have hv : ∀ (j : Nat) v, (row.map fun x => match x with | .int k n => Value.int k n | _ => .bool false)[j]? = some v → ∃ k n, row[j]? = some (.int k n) ∧ v = .int k n := by
    intro j v hj
    rw [List.getElem?_map] at hj
    cases hx : row[j]? with
    | none => rw [hx] at hj; cases hj
    | some x =>
      obtain ⟨k, n, rfl, _⟩ := hc j x hx
      rw [hx] at hj
      exact ⟨k, n, rfl, by simpa using hj.symm⟩
  have := Rep.iptr (K := X.K) (ρ := []) (F := there w) (w := w) t row 0 ⟨g, 0, none⟩ (row.map fun x => match x with | .int k n => Value.int k n | _ => .bool false) hk (by simp) (fun j v hj => by
      obtain ⟨k, n, hr, rfl⟩ := hv j v hj
      obtain ⟨k', n', e, h⟩ := hc j _ hr
      cases e
      have e : (⟨g, 0, none⟩ : Addr).add j = ⟨g, j, none⟩ := by
        unfold Addr.add
        by_cases hj0 : j = 0
        · subst hj0; simp
        · simp [hj0]
      rw [e]
      exact ⟨h, hb⟩) (fun j x v hx hj => by
      obtain ⟨k, n, hr, rfl⟩ := hv j v hj
      rw [hx] at hr
      cases hr
      exact .int k n)
  simpa [Addr.add] using this
theorem law_contract' (hX : X.Ok) (hl : laidOutB X.P = true) {f : FuncId} {fn : Func} {s : ChangeSpec} {ts : List TypeId} {tb : TypeId} (hts : fn.params.toList = ts) (hrt : fn.resultTypes = #[tb]) (htb : X.P.underlying tb = some .bool)
    {S : List TypeId} (hS : rdS X S = true) (hrd : (ts.all S.contains) = true) (hrr : (ts.all fun t => X.P.readableRec t && Nat.blt t X.P.types.size) = true) (hv : s.vars = []) {H : Type} {enc : TypeId × Value → H}
    (hs : ∀ ds : List (DataW H), ds.length = ts.length → s.fn H ds = { results := [.lit (.bool true)], args := ds })
    (hlaw : ∀ xs, ArgsAV X ts xs → ∃ m M', FCalls X f m xs [] (.bool true) M')
    (W : World) (hg : ∀ g, Rep X.K [] (there W) W (X.glob g) (.pointer (some ⟨g, 0, none⟩))) (base : Nat) (args : Array Value) (ds gs : List (DataW H)) (before : List MemPlace) (hval : ∀ (j : Nat) t v, fn.params[j]? = some t → args[j]? = some v → Value.okWide X.P W .any base t v)
    (hW : DataW.Whole enc X.P fn.params.toList s.vars false W args.toList ds gs before) :
    Calls X.P f args W fun e W' => ∃ v, e = .returned v ∧ s.post enc X.P fn false true false false W args v W' := by
  have hW' := hW
  obtain ⟨p, q, hA, hV, hpq, hfz, hnd⟩ := hW
  rw [hv] at hV
  obtain ⟨rfl, rfl⟩ := trodVars_none hV
  rw [List.append_nil] at hpq
  have hpq' : p = before := hpq.symm
  subst hpq'
  have hA0 := hA
  rw [hts] at hA
  have hlen : ds.length = ts.length := by
    have : ∀ (ts : List TypeId) (vs : List Value) (ds : List (DataW H)) (ps : List MemPlace), DataW.TrodAll enc X.P W 0 (fun _ => true) true ts vs ds ps → ds.length = ts.length := by
      intro ts
      induction ts with
      | nil => intro vs ds ps h; cases vs <;> cases ds <;> simp_all [DataW.TrodAll]
      | cons t ts ih =>
        intro vs ds ps h
        cases vs with
        | nil => cases ds <;> simp [DataW.TrodAll] at h
        | cons v vs =>
          cases ds with
          | nil => simp [DataW.TrodAll] at h
          | cons d ds => obtain ⟨_, _, _, h2, _⟩ := h; simp [ih _ _ _ h2]
    exact this _ _ _ _ hA
  obtain ⟨xs, hxs, hrep⟩ := argsAV_of_trod hX hS (ρ := []) hrd hA (fun j t v ht hv => hval j t v (by rw [← hts] at ht; simpa using ht) (by simpa using hv))
  obtain ⟨m, M', hcall⟩ := hlaw xs hxs
  have := hcall (inv_start hX W hg) hrep
  refine this.mono ?_
  rintro e W' ⟨v, ρ', F', rfl, hI, _, hr⟩
  refine ⟨v, rfl, ?_⟩
  cases hr
  have hb := below_of_inv hI
  have hlt : ∀ x ∈ p, x.block < W.heap.size := fun x hx => by simpa using hW'.lt x hx
  have hfn : s.fn H (ds ++ []) = { results := [.lit (.bool true)], args := ds } := by rw [List.append_nil]; exact hs ds hlen
  refine ⟨ds, [], p, [], p, [], hW', ?_, ?_, ?_, kept_of_below hb _, fun h => by cases h⟩
  · rw [hfn, hrt]
    exact trodAll_mk1 (shut_bool htb true)
  · rw [hfn]
    rw [hts]
    exact trodAll_behind hl hb hrr hA hlt
  · rw [hfn, hv]; exact rfl
theorem law_contract (hX : X.Ok) (hg : ∀ g, X.glob g = .top) (hl : laidOutB X.P = true) {f : FuncId} {fn : Func} {s : ChangeSpec} {ts : List TypeId} {tb : TypeId} (hts : fn.params.toList = ts) (hrt : fn.resultTypes = #[tb]) (htb : X.P.underlying tb = some .bool)
    {S : List TypeId} (hS : rdS X S = true) (hrd : (ts.all S.contains) = true) (hrr : (ts.all fun t => X.P.readableRec t && Nat.blt t X.P.types.size) = true) (hv : s.vars = []) {H : Type} {enc : TypeId × Value → H}
    (hs : ∀ ds : List (DataW H), ds.length = ts.length → s.fn H ds = { results := [.lit (.bool true)], args := ds })
    (hlaw : ∀ xs, ArgsAV X ts xs → ∃ m M', FCalls X f m xs [] (.bool true) M')
    (W : World) (base : Nat) (args : Array Value) (ds gs : List (DataW H)) (before : List MemPlace) (hval : ∀ (j : Nat) t v, fn.params[j]? = some t → args[j]? = some v → Value.okWide X.P W .any base t v)
    (hW : DataW.Whole enc X.P fn.params.toList s.vars false W args.toList ds gs before) :
    Calls X.P f args W fun e W' => ∃ v, e = .returned v ∧ s.post enc X.P fn false true false false W args v W' :=
  law_contract' hX hl hts hrt htb hS hrd hrr hv hs hlaw W (fun g => by rw [hg]; exact .top _) base args ds gs before hval hW
end
end Go.Eng

namespace Go.Eng
open Go Go.ChangeShapes Go.WideShapes Go.ChangeAt Go.RowKit
noncomputable section
variable {X : Cx} {R : Type}
structure FI where
  c : Code
  nt : Nt
  rs : List ResultVar
def FiOk (X : Cx) (f : Nat) (fi : FI) : Prop := ∃ fn, X.P.funcs[f]? = some fn ∧ fn.body = some fi.c ∧ fn.ntmps = fi.nt.n ∧ fn.results.toList = fi.rs ∧ ∀ (vs : Array Value) (w : World), (callFunc f vs).run X.P w = .ok (.enter f vs) w
def pickF : List (Nat × FI) → Nat → Option FI
  | [], _ => none
  | e :: es, f => match Nat.beq f e.1 with | true => some e.2 | false => pickF es f
theorem pickF_ok {I : List (Nat × FI)} (h : AllE (fun e => FiOk X e.1 e.2) I) {f : Nat} {fi : FI} (hf : pickF I f = some fi) : FiOk X f fi := by
  induction I with
  | nil => cases hf
  | cons e es ih =>
    simp only [pickF] at hf
    cases hb : Nat.beq f e.1 with
    | true =>
      rw [hb] at hf
      injection hf with hf
      subst hf
      have := Nat.eq_of_beq_eq_true hb
      subst this
      exact h.1
    | false => rw [hb] at hf; exact ih h.2 hf
def decP : Nat → Nat → List Bool
  | 0, _ => []
  | n + 1, p => match Nat.ble p 1 with | true => [] | false => (Nat.beq (p % 2) 1) :: decP n (p / 2)
def codeOf (root : Code) (p : Nat) : Option Code := match Nat.beq (enc (decP p.log2.succ.succ p)) p with | true => codeAt root (decP p.log2.succ.succ p) | false => none
theorem codeOf_at {root c d : Code} {p : Nat} (h : codeOf root p = some d) (hat : At root p c) : d = c := by
  unfold codeOf at h
  split at h
  · rename_i hb
    have := hat.det _ (Nat.eq_of_beq_eq_true hb)
    rw [h] at this
    injection this
  · cases h
def trm (env : List (Nat × AV)) : Nat → List (Nat × AV) → (List (Nat × AV) → Option R) → Option R :=
  List.rec (motive := fun _ => Nat → List (Nat × AV) → (List (Nat × AV) → Option R) → Option R) (fun _ acc k => k acc)
    (fun p _ ih seen acc k => Bool.rec (motive := fun _ => Option R) (ih (Nat.lor seen (Nat.shiftLeft 1 p.1)) (p :: acc) k) (ih seen acc k) (Nat.beq (Nat.land (Nat.shiftRight seen p.1) 1) 1)) env
theorem look_cons' (p : Nat × AV) (env : List (Nat × AV)) (u : Nat) : look (p :: env) u = if u == p.1 then p.2 else look env u := look_cons p.1 p.2 env u
theorem lor_bit (seen p t : Nat) : (Nat.lor seen (Nat.shiftLeft 1 p)).testBit t = (seen.testBit t || t == p) := by
  show (seen ||| (1 <<< p)).testBit t = _
  rw [Nat.testBit_or, Nat.one_shiftLeft, Nat.testBit_two_pow]
  congr 1
  by_cases h : p = t
  · subst h; simp
  · simp [h, Ne.symm h]
theorem trm_spec : ∀ (env : List (Nat × AV)) (seen : Nat) (acc : List (Nat × AV)) (k : List (Nat × AV) → Option R), (∀ t, seen.testBit t = false → look acc t = .top) →
    ∃ out, trm env seen acc k = k out ∧ ∀ t, look out t = .top ∨ look out t = (if seen.testBit t then look acc t else look env t)
  | [], seen, acc, k, h => ⟨acc, rfl, fun t => by
    cases hs : seen.testBit t with
    | true => exact .inr (by simp)
    | false => exact .inl (h t hs)⟩
  | p :: env, seen, acc, k, h => by
    cases hb : seen.testBit p.1 with
    | true =>
      obtain ⟨out, h1, h2⟩ := trm_spec env seen acc k h
      refine ⟨out, ?_, fun t => ?_⟩
      · rw [← h1]
        show Bool.rec (motive := fun _ => Option R) _ (trm env seen acc k) (Nat.beq (Nat.land (Nat.shiftRight seen p.1) 1) 1) = _
        rw [bit_eq, hb]
      · rcases h2 t with h2 | h2
        · exact .inl h2
        · refine .inr ?_
          rw [h2]
          by_cases ht : seen.testBit t = true
          · simp [ht]
          · have hne : t ≠ p.1 := fun e => ht (e ▸ hb)
            simp [ht, look_cons', hne]
    | false =>
      obtain ⟨out, h1, h2⟩ := trm_spec env (Nat.lor seen (Nat.shiftLeft 1 p.1)) (p :: acc) k (fun t ht => by
        rw [lor_bit] at ht
        rw [Bool.or_eq_false_iff] at ht
        have hne : t ≠ p.1 := by simpa using ht.2
        rw [look_cons']
        simp [hne, h t ht.1])
      refine ⟨out, ?_, fun t => ?_⟩
      · rw [← h1]
        show Bool.rec (motive := fun _ => Option R) (trm env (Nat.lor seen (Nat.shiftLeft 1 p.1)) (p :: acc) k) _ (Nat.beq (Nat.land (Nat.shiftRight seen p.1) 1) 1) = _
        rw [bit_eq, hb]
      · rcases h2 t with h2 | h2
        · exact .inl h2
        · refine .inr ?_
          rw [h2, lor_bit]
          by_cases hne : t = p.1
          · subst hne
            simp [hb, look_cons']
          · simp [look_cons', hne]
def allB {α : Type} (f : α → Bool) (l : List α) : Bool := List.rec (motive := fun _ => Bool) true (fun x _ ih => Bool.rec (motive := fun _ => Bool) false ih (f x)) l
theorem allB_mem {α : Type} {f : α → Bool} : ∀ {l : List α}, allB f l = true → ∀ x ∈ l, f x = true
  | [], _, x, hx => by simp at hx
  | y :: l, h, x, hx => by
    have h' : Bool.rec (motive := fun _ => Bool) false (allB f l) (f y) = true := h
    cases hy : f y with
    | false => rw [hy] at h'; cases h'
    | true =>
      rw [hy] at h'
      rcases List.mem_cons.1 hx with rfl | hx
      · exact hy
      · exact allB_mem h' x hx
def bd0 (n : Nat) (x : AV) : Bool :=
  match x with
  | .int _ _ => true
  | .bool _ => true
  | .str _ => true
  | .nilp => true
  | .nilsl => true
  | .nilfn => true
  | .nilmp => true
  | .top => true
  | .ptr id _ _ => Nat.ble (Nat.succ id) n
  | .own id => Nat.ble (Nat.succ id) n
  | .yld id => Nat.ble (Nat.succ id) n
  | .mp id => Nat.ble (Nat.succ id) n
  | .vsl id _ => Nat.ble (Nat.succ id) n
  | .vw id _ _ => Nat.ble (Nat.succ id) n
  | .enl => true
  | _ => false
def bd1 (n : Nat) (x : AV) : Bool :=
  match x with
  | .agg cs => allB (bd0 n) cs
  | .clos _ a b => allB (bd0 n) a && allB (bd0 n) b
  | x => bd0 n x
def bd2 (n : Nat) (x : AV) : Bool :=
  match x with
  | .tup cs => allB (bd1 n) cs
  | x => bd1 n x
def bdB (n : Nat) (b : Blk) : Bool :=
  match b with
  | .var _ cs => allB (bd1 n) cs
  | .row _ xs => allB (allB (bd1 n)) xs
  | .map _ _ _ es => allB (fun e => bd1 n e.1 && bd1 n e.2) es
  | .loop _ env _ _ => allB (fun p => bd1 n p.2) env
  | .dfr => true
  | .dead => true
  | .fro _ _ => false
  | .nst _ _ _ => false
section
variable {w : World} {F : Addr → Prop} {ρ : List Hd} {n : Nat}
theorem take_get {α : Type} {l : List α} {n id : Nat} (hid : Nat.ble (Nat.succ id) n = true) {x : α} (h : l[id]? = some x) : (l.take n)[id]? = some x := by
  have := Nat.le_of_ble_eq_true hid
  rw [List.getElem?_take, if_pos (by omega)]; exact h
theorem Rep.bd0 {K : TypeId → List Kind} {x : AV} {v : Value} (h : Rep K ρ F w x v) (hb : bd0 n x = true) : Rep K (ρ.take n) F w x v := by
  cases h <;> simp only [Eng.bd0, Bool.false_eq_true] at hb <;> first
    | exact .top _
    | exact .int _ _
    | exact .bool _
    | exact .str _
    | exact .nilp
    | exact .nilsl
    | exact .nilfn
    | exact .nilmp
    | exact .enl _ _
    | skip
  · rename_i id i off hd g o m c hid hv; exact .ptr id i off hd g o m c (take_get hb hid) hv
  · rename_i id hd hid; exact .own id hd (take_get hb hid)
  · rename_i id hd g hid hv; exact .yld id hd g (take_get hb hid) hv
  · rename_i id hd hid; exact .mp id hd (take_get hb hid)
  · rename_i id m hd g o k c cap hid hv; exact .vsl id m hd g o k c cap (take_get hb hid) hv
  · rename_i id lo m hd g o k c cap hid hv hc hb2; exact .vw id lo m hd g o k c cap (take_get hb hid) hv hc hb2
  · exact .vwn _ _
  · exact .vws _ _ _ _
theorem RepL.bd {K : TypeId → List Kind} {xs : List AV} {vs : List Value} (h : RepL K ρ F w xs vs) {f : AV → Bool} (hf : ∀ {x v}, Rep K ρ F w x v → f x = true → Rep K (ρ.take n) F w x v) (hb : allB f xs = true) : RepL K (ρ.take n) F w xs vs :=
  ⟨h.1, fun j x v hx hv => hf (h.2 j x v hx hv) (allB_mem hb x (List.mem_of_getElem? hx))⟩
theorem Rep.bd1 {K : TypeId → List Kind} {x : AV} {v : Value} (h : Rep K ρ F w x v) (hb : bd1 n x = true) : Rep K (ρ.take n) F w x v := by
  unfold Eng.bd1 at hb
  split at hb
  · cases h with
    | agg cs vs hl hc => exact .agg _ _ hl (RepL.bd (vs := vs) ⟨hl, hc⟩ (fun h hb => Rep.bd0 h hb) hb).2
  · rw [Bool.and_eq_true] at hb
    cases h with
    | clos f a b vf vc hf hc h1 h2 => exact .clos _ _ _ _ _ hf hc (RepL.bd (vs := vf) ⟨hf, h1⟩ (fun h hb => Rep.bd0 h hb) hb.1).2 (RepL.bd (vs := vc) ⟨hc, h2⟩ (fun h hb => Rep.bd0 h hb) hb.2).2
  · exact h.bd0 hb
theorem Rep.bd2 {K : TypeId → List Kind} {x : AV} {v : Value} (h : Rep K ρ F w x v) (hb : bd2 n x = true) : Rep K (ρ.take n) F w x v := by
  unfold Eng.bd2 at hb
  split at hb
  · cases h with
    | tup cs vs hl hc => exact .tup _ _ hl (RepL.bd (vs := vs) ⟨hl, hc⟩ (fun h hb => Rep.bd1 h hb) hb).2
  · exact h.bd1 hb
theorem look_bd {env : List (Nat × AV)} (hb : allB (fun p => bd1 n p.2) env = true) (t : Nat) : look env t = .top ∨ bd1 n (look env t) = true := by
  induction env with
  | nil => exact .inl rfl
  | cons p env ih =>
    have h1 := allB_mem hb p List.mem_cons_self
    have h2 : allB (fun p : Nat × AV => bd1 n p.2) env = true := by
      have h' : Bool.rec (motive := fun _ => Bool) false (allB (fun p : Nat × AV => bd1 n p.2) env) (bd1 n p.2) = true := hb
      rw [h1] at h'
      exact h'
    obtain ⟨u, x⟩ := p
    rw [look_cons]
    split
    · exact .inr h1
    · exact ih h2
theorem BRep.bd {hd : Hd} {b : Blk} (h : BRep X ρ F w hd b) (hb : bdB n b = true) : BRep X (ρ.take n) F w hd b := by
  cases b with
  | var ks cs =>
    obtain ⟨h1, h2, g, cur, e, h3, h4, h5, h6⟩ := h
    exact ⟨h1, h2, g, cur, e, h3, h4, h5.bd (fun h hb => Rep.bd1 h hb) hb, h6⟩
  | row t xs =>
    obtain ⟨h1, h2, h3⟩ := h
    refine ⟨h1, h2, ?_⟩
    rcases h3 with h3 | ⟨g, o, c, cur, e1, e2, e3, e4, e5, e6⟩
    · exact .inl h3
    · refine .inr ⟨g, o, c, cur, e1, e2, e3, e4, e5, fun i row hi j x hx => ?_⟩
      obtain ⟨v, hv, hr⟩ := e6 i row hi j x hx
      exact ⟨v, hv, hr.bd1 (allB_mem (allB_mem hb row (List.mem_of_getElem? hi)) x (List.mem_of_getElem? hx))⟩
  | map kd ag ks es =>
    obtain ⟨h0, g, mes, clock, h1, h2, h3, h4⟩ := h
    refine ⟨h0, g, mes, clock, h1, h2, h3, fun i e me he hm => ?_⟩
    obtain ⟨h5, h6, h7⟩ := h4 i e me he hm
    have := allB_mem hb e (List.mem_of_getElem? he)
    rw [Bool.and_eq_true] at this
    exact ⟨h5, h6.bd1 this.1, h7.bd1 this.2⟩
  | loop s env busy pend =>
    obtain ⟨g, lp, h1, h2, h3, h4, h5, h6, h7, h8⟩ := h
    refine ⟨g, lp, h1, h2, h3, h4, h5, h6, fun t => ?_, h8⟩
    rcases look_bd hb t with e | e
    · rw [e]; exact .top _
    · exact (h7 t).bd1 e
  | dfr => exact h
  | fro t xs => simp [bdB] at hb
  | dead => trivial
  | nst _ _ _ => trivial
def GlobFree (X : Cx) : Prop := ∀ (g : Nat) {ρ ρ' : List Hd} {F : Addr → Prop} {w : World} {v : Value}, Rep X.K ρ F w (X.glob g) v → Rep X.K ρ' F w (X.glob g) v
theorem Inv.cut (hG : GlobFree X) {w0 : World} {S : Sc} {M : List Blk} (hI : Inv X w0 S F ρ M w) (hb : allB (bdB n) (M.take n) = true) : Inv X w0 S F (ρ.take n) (M.take n) w := by
  have tk : ∀ {α : Type} {l : List α} {i : Nat} {x : α}, (l.take n)[i]? = some x → l[i]? = some x := by
    intro α l i x h
    rw [List.getElem?_take] at h
    split at h
    · exact h
    · cases h
  exact {
    os := hI.os, tape := hI.tape, output := hI.output, size := hI.size, frame := hI.frame
    len := by rw [List.length_take, List.length_take, hI.len]
    rep := fun id b hd h1 h2 => (hI.rep id b hd (tk h1) (tk h2)).bd (allB_mem hb b (List.mem_of_getElem? h1))
    sep := fun id b hd g h1 h2 h3 => hI.sep id b hd g (tk h1) h2 (tk h3)
    disj := fun id id' b b' hd hd' g hne h1 h2 h3 h4 h5 h6 => hI.disj id id' b b' hd hd' g hne (tk h1) (tk h2) h3 h4 (tk h5) (tk h6)
    fz := hI.fz
    glob := fun g => hG g (hI.glob g)
    one := fun id hd h => hI.one id hd (tk h)
    old := hI.old, fin := hI.fin
    nst := .none fun b hm => by have := allB_mem hb b hm; cases b <;> first | rfl | (simp [bdB] at this) }
theorem ACalls.cut (hG : GlobFree X) {f : FuncId} {args : List AV} {M M' : List Blk} {x : AV} (h : ACalls X f args M x M') (hx : bd2 M.length x = true) (hb : allB (bdB M.length) (M'.take M.length) = true) : ACalls X f args M x (M'.take M.length) := by
  refine ⟨h.1, fun {w0 S F ρ w vs} hI hr => (h.2 hI hr).mono ?_⟩
  rintro e w' ⟨v, ρ', F', rfl, hI', hg, hr'⟩
  refine ⟨v, ρ'.take M.length, F', rfl, hI'.cut hG hb, ⟨hg.hF, fun id hd hh => ?_, hg.hb⟩, hr'.bd2 hx⟩
  have hlt : id < ρ.length := (List.getElem?_eq_some_iff.1 hh).1
  rw [hI.len] at hlt
  rw [List.getElem?_take, if_pos hlt]
  exact hg.hρ id hd hh
end
def cutM (n : Nat) (x : AV) (M : List Blk) (k : List Blk → Option R) : Option R :=
  match Nat.beq n M.length with
  | true => k M
  | false => fzL (fun b k => k b) (M.take n) fun M1 => match bd2 n x && allB (bdB n) M1 with | true => k M1 | false => k M
theorem cutM_some (hG : GlobFree X) {f : FuncId} {args : List AV} {M M' : List Blk} {x : AV} (h : ACalls X f args M x M') {k : List Blk → Option R} {r : R} (hk : cutM M.length x M' k = some r) : ∃ M2, ACalls X f args M x M2 ∧ k M2 = some r := by
  unfold cutM at hk
  split at hk
  · exact ⟨M', h, hk⟩
  · rw [fzL_eq (fun _ _ => rfl)] at hk
    split at hk
    · rename_i hb
      rw [Bool.and_eq_true] at hb
      exact ⟨_, h.cut hG hb.1 hb.2, hk⟩
    · exact ⟨M', h, hk⟩
def tidy (m dead : Nat) (st : St) (k : St → Option R) : Option R :=
  trm st.env dead [] fun env =>
    match Nat.beq m st.mem.length with
    | true => k { st with env := env }
    | false => fzL (fun b k => k b) (st.mem.take m) fun M1 =>
      match allB (fun p => bd1 m p.2) env && allB (bdB m) M1 with
      | true => k { st with env := env, mem := M1 }
      | false => k { st with env := env }
theorem tidy_some (hG : GlobFree X) {m dead : Nat} {st : St} {k : St → Option R} {r : R} (h : tidy m dead st k = some r) : ∃ st', k st' = some r ∧
    ∀ {nt : Nt} {rdc : Cy} {w0 : World} {S : Sc} {F : Addr → Prop} {ρ : List Hd} {a : Act} {w : World}, Inv X w0 S F ρ st.mem w → Sim X nt st rdc F ρ a w → ∃ ρ', Inv X w0 S F ρ' st'.mem w ∧ Sim X nt st' rdc F ρ' a w ∧ GrowF m F F ρ ρ' w w := by
  obtain ⟨out, h1, h2⟩ := trm_spec (R := R) st.env dead [] (fun env =>
    match Nat.beq m st.mem.length with
    | true => k { st with env := env }
    | false => fzL (fun b k => k b) (st.mem.take m) fun M1 =>
      match allB (fun p => bd1 m p.2) env && allB (bdB m) M1 with
      | true => k { st with env := env, mem := M1 }
      | false => k { st with env := env }) (fun t _ => rfl)
  unfold tidy at h
  rw [h1] at h
  have henv : ∀ {F : Addr → Prop} {ρ : List Hd} {a : Act} {w : World}, EnvRep X ρ F w st.env a.tmps → EnvRep X ρ F w out a.tmps := by
    intro F ρ a w he t
    rcases h2 t with e | e
    · rw [e]; exact .top _
    · rw [e]
      split
      · exact .top _
      · exact he t
  have gr : ∀ {F : Addr → Prop} {ρ : List Hd} {w : World}, GrowF m F F ρ ρ w w := ⟨fun _ h => h, fun _ _ _ h => h, fun _ _ => rfl⟩
  have plain : k { st with env := out } = some r → ∃ st', k st' = some r ∧
      ∀ {nt : Nt} {rdc : Cy} {w0 : World} {S : Sc} {F : Addr → Prop} {ρ : List Hd} {a : Act} {w : World}, Inv X w0 S F ρ st.mem w → Sim X nt st rdc F ρ a w → ∃ ρ', Inv X w0 S F ρ' st'.mem w ∧ Sim X nt st' rdc F ρ' a w ∧ GrowF m F F ρ ρ' w w :=
    fun h => ⟨_, h, fun {nt rdc w0 S F ρ a w} hI hs => ⟨ρ, hI, ⟨henv hs.env, hs.size, hs.defs, hs.rd, hs.kept⟩, gr⟩⟩
  split at h
  · exact plain h
  · rw [fzL_eq (fun _ _ => rfl)] at h
    split at h
    · rename_i hb
      rw [Bool.and_eq_true] at hb
      refine ⟨_, h, fun {nt rdc w0 S F ρ a w} hI hs => ⟨ρ.take m, hI.cut hG hb.2, ⟨fun t => ?_, hs.size, hs.defs, hs.rd, hs.kept⟩, fun _ h => h, fun id hd hlt hh => by rw [List.getElem?_take, if_pos hlt]; exact hh, fun _ _ => rfl⟩⟩
      show Rep X.K (ρ.take m) F w (look out t) _
      rcases look_bd hb.1 t with e | e
      · rw [e]; exact .top _
      · exact (henv hs.env t).bd1 e
    · exact plain h
def unrollC (X : Cx) (L : LTab R) (c : Code) (p m dead : Nat) : Nat → St → (Ex → St → Option R) → Option R
  | 0, _, _ => none
  | n + 1, st, k => evk X L c p st fun e st' => tidy m dead st' fun st' => match e with | .normal => unrollC X L c p m dead n st' k | .exit i => k (.exit i) st' | .ret => k .ret st'
theorem unrollC_sound (hX : X.Okb) (hG : GlobFree X) {root c : Code} {p m dead : Nat} {L : LTab R} (hL : L.Ok X root) (hat : At root p (.loop c)) : ∀ (fuel : Nat) {st : St} {k : Ex → St → Option R} {r : R}, unrollC X L c (2 * p) m dead fuel st k = some r →
    ∃ e st', k e st' = some r ∧ ∀ {rdc : Cy} {n : Nat} {w0 : World} {S : Sc} {F : Addr → Prop} {ρ : List Hd} {a : Act} {w : World} {Q : Exit → Act → World → Prop}, Inv X w0 S F ρ st.mem w → Sim X L.tab.nt st rdc F ρ a w →
      (∀ a' w' F' ρ', Inv X w0 S F' ρ' st'.mem w' → Sim X L.tab.nt st' rdc F' ρ' a' w' → GrowF m F F' ρ ρ' w w' → Q (Ex.exit' e) a' w') → Code.roundsIn (fen rdc.r) n X.P c Q fuel a w
  | 0, st, k, r, h => by cases h
  | fuel + 1, st, k, r, h => by
    simp only [unrollC] at h
    obtain ⟨e, st1, hrun, h⟩ := evk_sound hX hL c (hat.down false fun l hl => by simp [codeAt, hl]) h
    obtain ⟨st2, h, htd⟩ := tidy_some hG h
    cases e with
    | normal =>
      obtain ⟨e', st', hk, hr⟩ := unrollC_sound hX hG hL hat fuel h
      refine ⟨e', st', hk, fun {rdc n w0 S F ρ a w Q} hI hs hq => ?_⟩
      rw [roundsIn_succ]
      refine hrun hI hs fun a' w' F' ρ' hI' hs' hg => ?_
      obtain ⟨ρ2, hI2, hs2, hg2⟩ := htd hI' hs'
      exact hr hI2 hs2 fun a'' w'' F'' ρ'' hI'' hs'' hg'' => hq a'' w'' F'' ρ'' hI'' hs'' (((hg.toF m).trans hg2).trans hg'')
    | exit i =>
      refine ⟨.exit i, st2, h, fun {rdc n w0 S F ρ a w Q} hI hs hq => ?_⟩
      rw [roundsIn_succ]
      refine hrun hI hs fun a' w' F' ρ' hI' hs' hg => ?_
      obtain ⟨ρ2, hI2, hs2, hg2⟩ := htd hI' hs'
      exact hq a' w' F' ρ2 hI2 hs2 ((hg.toF m).trans hg2)
    | ret =>
      refine ⟨.ret, st2, h, fun {rdc n w0 S F ρ a w Q} hI hs hq => ?_⟩
      rw [roundsIn_succ]
      refine hrun hI hs fun a' w' F' ρ' hI' hs' hg => ?_
      obtain ⟨ρ2, hI2, hs2, hg2⟩ := htd hI' hs'
      exact hq a' w' F' ρ2 hI2 hs2 ((hg.toF m).trans hg2)
theorem GrowF.whole {F F' : Addr → Prop} {ρ ρ' : List Hd} {w w' : World} {m : Nat} (h : GrowF m F F' ρ ρ' w w') (hl : ρ.length = m) : Grow F F' ρ ρ' w w' :=
  ⟨h.hF, fun id hd hh => h.hρ id hd (by rw [← hl]; exact (List.getElem?_eq_some_iff.1 hh).1) hh, h.hb⟩
def deadP : List (Nat × Nat) → Nat → Nat
  | [], _ => 0
  | e :: es, p => match Nat.beq p e.1 with | true => e.2 | false => deadP es p
def deadL : List (Nat × List (Nat × Nat)) → Nat → List (Nat × Nat)
  | [], _ => []
  | e :: es, f => match Nat.beq f e.1 with | true => e.2 | false => deadL es f
def deadOf (dd : List (Nat × List (Nat × Nat))) (f p : Nat) : Nat := deadP (deadL dd f) p
def regC (X : Cx) (T : Tab R) (ops : Array Oper) (draw : Bool) (dead : Nat) (st : St) (k : Ex → St → Option R) : Option R :=
  evreg X T ops draw st fun st' => trm st'.env dead [] fun env => k .normal { st' with env := env }
theorem regC_sound (hX : X.Okb) {T : Tab R} (hT : T.CallOk X) {id : Nat} {ops : Array Oper} {draw : Bool} {dead : Nat} {st : St} {k : Ex → St → Option R} {r : R} (h : regC X T ops draw dead st k = some r) :
    ∃ e st', CodeRuns X T.nt (.region id ops draw) st (Ex.exit' e) st' ∧ k e st' = some r := by
  unfold regC at h
  obtain ⟨st1, h, hrun⟩ := evreg_sound hX hT (id := id) h
  obtain ⟨out, h1, h2⟩ := trm_spec (R := R) st1.env dead [] (fun env => k .normal { st1 with env := env }) (fun t _ => rfl)
  rw [h1] at h
  have henv : ∀ {F : Addr → Prop} {ρ : List Hd} {a : Act} {w : World}, EnvRep X ρ F w st1.env a.tmps → EnvRep X ρ F w out a.tmps := by
    intro F ρ a w he t
    rcases h2 t with e | e
    · rw [e]; exact .top _
    · rw [e]
      split
      · exact .top _
      · exact he t
  exact ⟨.normal, { st1 with env := out }, fun {rdc n w0 S F ρ a w Q} hI hs hq => hrun hI hs fun a' w' F' ρ' hI' hs' hg => hq a' w' F' ρ' hI' ⟨henv hs'.env, hs'.size, hs'.defs, hs'.rd, hs'.kept⟩ hg, h⟩
section
variable {w : World} {F : Addr → Prop} {ρ : List Hd}
theorem Rep.free {K : TypeId → List Kind} {x : AV} {v : Value} (h : Rep K ρ F w x v) (hb : Eng.bd2 0 x = true) (ρ' : List Hd) : Rep K ρ' F w x v := by
  have := h.bd2 (n := 0) hb
  rw [List.take_zero] at this
  exact this.mono (fun id hd h => by simp at h) (fun _ h => h) (fun _ _ _ h => h)
theorem RepL.free {K : TypeId → List Kind} {xs : List AV} {vs : List Value} (h : RepL K ρ F w xs vs) (hb : allB (bd2 0) xs = true) (ρ' : List Hd) : RepL K ρ' F w xs vs :=
  ⟨h.1, fun j x v hx hv => (h.2 j x v hx hv).free (allB_mem hb x (List.mem_of_getElem? hx)) ρ'⟩
theorem ACalls.lift0 (hG : GlobFree X) {f : FuncId} {args : List AV} {x : AV} (h : ACalls X f args [] x []) (ha : allB (bd2 0) args = true) (hx : bd2 0 x = true) (M : List Blk) : ACalls X f args M x M := by
  refine ⟨h.1, fun {w0 S F ρ w vs} hI hr => ?_⟩
  have hi : Inv X w ⟨fun _ => False, F⟩ F [] [] w := {
    os := rfl, tape := rfl, output := rfl, size := Nat.le_refl _, frame := fun _ _ _ => rfl, len := rfl
    rep := fun id b hd hb _ => by simp at hb
    sep := fun id b hd g hb _ _ _ => by simp at hb
    disj := fun id id' b b' hd hd' g _ hb _ _ _ _ _ _ => by simp at hb
    fz := hI.fz, glob := fun g => hG g (hI.glob g)
    one := fun id hd hh => by simp at hh
    old := fun a ha => .inl ha, fin := fun a ha => ha, nst := .none (by simp) }
  refine (h.2 hi (hr.free ha [])).mono ?_
  rintro e w' ⟨v, ρ', F', rfl, hI', hg, hv⟩
  have hfr : ∀ g, g < w.heap.size → w'.heap[g]? = w.heap[g]? := fun g hlt => hI'.frame g hlt (fun h => h)
  refine ⟨v, ρ, F', rfl, ?_, ⟨hg.hF, fun _ _ h => h, hg.hb⟩, hv.free hx ρ⟩
  exact {
    os := hI'.os.trans hI.os, tape := hI'.tape.trans hI.tape, output := hI'.output.trans hI.output, size := Nat.le_trans hI.size hI'.size
    frame := fun g hlt hn => (hfr g (Nat.lt_of_lt_of_le hlt hI.size)).trans (hI.frame g hlt hn)
    len := hI.len
    rep := fun id b hd h1 h2 => by
      cases hd' : b.isDead with
      | true => exact (hI.rep id b hd h1 h2).mono_dead (fun _ _ h => h) hg.hF hg.hw hd'
      | false => exact (hI.rep id b hd h1 h2).mono (fun _ _ h => h) hg.hF hg.hw (fun g hgb => hfr g (hI.sep id b hd g h1 hd' h2 hgb).1)
    sep := fun id b hd g h1 h2 h3 h4 => by
      obtain ⟨s1, s2, s3⟩ := hI.sep id b hd g h1 h2 h3 h4
      refine ⟨Nat.lt_of_lt_of_le s1 hI'.size, s2, fun a ha => ?_⟩
      rcases hI'.old a ha with h | h | h
      · exact s3 a h
      · exact h.elim
      · intro e; omega
    disj := hI.disj
    fz := hI'.fz
    glob := fun g => hG g (hI'.glob g)
    one := hI.one
    old := fun a ha => by
      rcases hI'.old a ha with h | h | h
      · exact hI.old a h
      · exact h.elim
      · exact .inr (.inr (Nat.le_trans hI.size h))
    fin := fun a ha => hg.hF a (hI.fin a ha)
    nst := hI.nst.stay hI.len (fun _ _ h _ => h) (fun _ _ h => h) hg.hF hg.hw fun g h1 h2 h3 h4 => ⟨Nat.lt_of_lt_of_le h1 hI'.size, h2, hfr g h1, fun a ha e => by
      rcases hI'.old a ha with h | h | h
      · exact h3 a h e
      · exact h.elim
      · omega, h4⟩ }
end
structure KC where
  f : Nat
  args : List AV
  x : AV
def pickK : List KC → Nat → List AV → Option AV
  | [], _, _ => none
  | e :: es, f, args => match Nat.beq f e.f && sameL same1 e.args args with | true => some e.x | false => pickK es f args
def KcOk (X : Cx) (e : KC) : Prop := ∀ M, ACalls X e.f e.args M e.x M
theorem pickK_ok {l : List KC} (h : AllE (KcOk X) l) {f : Nat} {args : List AV} {x : AV} (hp : pickK l f args = some x) (M : List Blk) : ACalls X f args M x M := by
  induction l with
  | nil => cases hp
  | cons e es ih =>
    simp only [pickK] at hp
    split at hp
    · rename_i hb
      rw [Bool.and_eq_true] at hb
      injection hp with hp
      subst hp
      have h1 := Nat.eq_of_beq_eq_true hb.1
      have h2 := sameL_eq same1_eq hb.2
      rw [h1, ← h2]
      exact h.1 M
    · exact ih h.2 hp
structure SI where
  s : Nat
  f : Nat
  p : Nat
def siteAt : List SI → Nat → Nat → Option Nat
  | [], _, _ => none
  | e :: es, f, p => match Nat.beq f e.f && Nat.beq p e.p with | true => some e.s | false => siteAt es f p
def siteBy : List SI → Nat → Option (Nat × Nat)
  | [], _ => none
  | e :: es, s => match Nat.beq s e.s with | true => some (e.f, e.p) | false => siteBy es s
def codeF (I : List (Nat × FI)) (f : Nat) : Code := match pickF I f with | some fi => fi.c | none => .skip
def ntF (I : List (Nat × FI)) (f : Nat) : Nt := match pickF I f with | some fi => fi.nt | none => ⟨0, 0⟩
def SiOk (X : Cx) (I : List (Nat × FI)) (e : SI) : Prop := ∃ g, At (codeF I e.f) e.p (.rangeFunc g (X.site e.s).params (X.site e.s).assign (X.site e.s).body) ∧ (X.site e.s).nt = (ntF I e.f).n
def LA (X : Cx) (I : List (Nat × FI)) (Ss : List SI) (kc : List KC) (dd : List (Nat × List (Nat × Nat))) (rounds : Nat) : Nat → Nat → LTab R
  | 0, f => ⟨⟨ntF I f, fun _ _ _ => none, fun _ _ _ _ => none, noY⟩, fun _ _ _ => none, fun _ _ _ => none, fun _ => none, fun _ => ([], [])⟩
  | n + 1, f => ⟨⟨ntF I f, fun _ _ M => some (List.range M.length),
      fun g args M k => fzL fz1 args fun args => match pickK kc g args with
        | some x => k x M
        | none => match pickF I g with
        | some fi => fzN M.length fun m => evfn X (LA X I Ss kc dd rounds n g) fi.c fi.rs args M fun x M' => fz2 x fun x => cutM m x M' fun M' => tst (Nat.ble m M'.length) (k x M')
        | none => none,
      fun id args M k => fzL fz1 args fun args => match gm M id with
        | some (.loop s _ _ _) => (match siteBy Ss s with
          | some (f', p) => evyield X (LA X I Ss kc dd rounds n f') s p id args M k
          | none => none)
        | _ => none⟩,
    fun p st k => match codeOf (codeF I f) p with
      | some (.loop c) => fzN st.mem.length fun m => unrollC X (LA X I Ss kc dd rounds n f) c (2 * p) m (deadOf dd f p) rounds st k
      | _ => none,
    fun p st k => match siteAt Ss f p, codeOf (codeF I f) p with
      | some s, some (.rangeFunc g _ _ _) => evrange X (LA X I Ss kc dd rounds n f).tab s (List.range (ntF I f).n) g st k
      | _, _ => none,
    fun p => match codeOf (codeF I f) p with
      | some (.region _ ops draw) => some fun st k => regC X (LA X I Ss kc dd rounds n f).tab ops draw (deadOf dd f p) st k
      | _ => none, fun _ => ([], [])⟩
theorem siteAt_ok {I : List (Nat × FI)} {Ss : List SI} (h : AllE (SiOk X I) Ss) {f p s : Nat} (hs : siteAt Ss f p = some s) : SiOk X I ⟨s, f, p⟩ := by
  induction Ss with
  | nil => cases hs
  | cons e es ih =>
    simp only [siteAt] at hs
    cases hb : Nat.beq f e.f && Nat.beq p e.p with
    | true =>
      rw [hb] at hs
      injection hs with hs
      rw [Bool.and_eq_true] at hb
      have h1 := Nat.eq_of_beq_eq_true hb.1
      have h2 := Nat.eq_of_beq_eq_true hb.2
      subst h1; subst h2; subst hs
      exact h.1
    | false => rw [hb] at hs; exact ih h.2 hs
theorem siteBy_ok {I : List (Nat × FI)} {Ss : List SI} (h : AllE (SiOk X I) Ss) {f p s : Nat} (hs : siteBy Ss s = some (f, p)) : SiOk X I ⟨s, f, p⟩ := by
  induction Ss with
  | nil => cases hs
  | cons e es ih =>
    simp only [siteBy] at hs
    cases hb : Nat.beq s e.s with
    | true =>
      rw [hb] at hs
      injection hs with hs
      injection hs with h1 h2
      have h3 := Nat.eq_of_beq_eq_true hb
      subst h1; subst h2; subst h3
      exact h.1
    | false => rw [hb] at hs; exact ih h.2 hs
theorem LA_nt {I : List (Nat × FI)} {Ss : List SI} {kc : List KC} {dd : List (Nat × List (Nat × Nat))} {rounds : Nat} (n f : Nat) : (LA (R := R) X I Ss kc dd rounds n f).tab.nt = ntF I f := by cases n <;> rfl
theorem evfn_LA (hX : X.Okb) {I : List (Nat × FI)} (hI : AllE (fun e => FiOk X e.1 e.2) I) {Ss : List SI} {kc : List KC} {dd : List (Nat × List (Nat × Nat))} {rounds n : Nat} {f : Nat} {fi : FI} (hf : pickF I f = some fi) (hL : (LA (R := R) X I Ss kc dd rounds n f).Ok X (codeF I f))
    {args : List AV} {M : List Blk} {k : AV → List Blk → Option R} {r : R} (h : evfn X (LA X I Ss kc dd rounds n f) fi.c fi.rs args M k = some r) : ∃ x M', ACalls X f args M x M' ∧ k x M' = some r := by
  obtain ⟨fn, h1, h2, h3, h4, h5⟩ := pickF_ok hI hf
  have hc : codeF I f = fi.c := by unfold codeF; rw [hf]
  rw [hc] at hL
  refine evfn_sound hX hL h1 h2 ?_ h5 h4 h
  rw [LA_nt, h3]
  show fi.nt.n = (ntF I f).n
  unfold ntF; rw [hf]
theorem LA_ok (hX : X.Okb) (hG : GlobFree X) {I : List (Nat × FI)} (hI : AllE (fun e => FiOk X e.1 e.2) I) {Ss : List SI} (hS : AllE (SiOk X I) Ss) {kc : List KC} (hK : AllE (KcOk X) kc) {dd : List (Nat × List (Nat × Nat))} {rounds : Nat} : ∀ (n f : Nat), (LA (R := R) X I Ss kc dd rounds n f).Ok X (codeF I f)
  | 0, f => ⟨⟨fun {_ _ _ _ _} h => (by cases h), fun {_ _ _ _ _} h => (by cases h)⟩, fun {_ _ _ _ _} _ h => (by cases h), fun {_ _ _ _ _ _ _ _} _ h => (by cases h), fun {_ _ _ _ _ _} _ h _ => (by cases h)⟩
  | n + 1, f => by
    refine ⟨⟨fun {g args M k r} h => ?_, fun {id args M k r} h => ?_⟩, fun {p c st k r} hat h => ?_, fun {p g ps x y st k r} hat h => ?_, fun {p c f' st k r} hat h hk => ?_⟩
    · simp only [LA] at h
      rw [fzL_eq fz1_eq] at h
      split at h
      · rename_i y hy
        exact ⟨y, M, pickK_ok hK hy M, h, fun ids hi => Agree.refl _ _⟩
      split at h
      · rename_i fi hfi
        rw [fzN_eq] at h
        obtain ⟨x, M0, h1, h2⟩ := evfn_LA hX hI hfi (LA_ok hX hG hI hS hK n g) h
        rw [fz2_eq] at h2
        obtain ⟨M', h1, h2⟩ := cutM_some hG h1 h2
        replace h2 := tst_some h2
        obtain ⟨hle, h2⟩ := h2
        refine ⟨x, M', h1, h2, fun ids hi => ?_⟩
        injection hi with hi
        subst hi
        exact ⟨Nat.le_of_ble_eq_true hle, fun i hi hn => absurd (List.mem_range.2 hi) hn⟩
      · cases h
    · simp only [LA] at h
      rw [fzL_eq fz1_eq] at h
      split at h
      · rename_i s _ _ _ _
        split at h
        · rename_i f' p hsb
          obtain ⟨g, hat, hnt⟩ := siteBy_ok hS hsb
          exact evyield_sound hX (LA_ok hX hG hI hS hK n f') hat h
        · cases h
      · cases h
    · simp only [LA] at h
      split at h
      · rename_i c' hc
        have := codeOf_at hc hat
        injection this with this
        subst this
        rw [fzN_eq] at h
        obtain ⟨e, st', hk, hr⟩ := unrollC_sound hX hG (LA_ok hX hG hI hS hK n f) hat rounds h
        refine ⟨e, st', fun {rdc n' w0 S F ρ a w Q} hI' hs hq => wpIn_loop_rounds rounds (hr hI' ?_ ?_), hk⟩
        · rw [LA_nt] at hs ⊢; exact hs
        · intro a' w' F' ρ' h1 h2 h3
          refine hq a' w' F' ρ' h1 ?_ (h3.whole hI'.len)
          rw [LA_nt] at h2 ⊢; exact h2
      · cases h
    · simp only [LA] at h
      split at h
      · rename_i s g' ps' x' y' hs hc
        have hcc := codeOf_at hc hat
        injection hcc with e1 e2 e3 e4
        subst e1; subst e2; subst e3; subst e4
        obtain ⟨g2, hat2, hnt⟩ := siteAt_ok hS hs
        obtain ⟨l, hl1, hl2⟩ := hat2
        have := hat.det l hl1
        rw [hl2] at this
        injection this with this
        injection this with e1 e2 e3 e4
        have hsite : X.site s = ⟨(LA (R := R) X I Ss kc dd rounds n f).tab.nt.n, ps', x', y'⟩ := by
          rw [LA_nt]
          show X.site s = ⟨(ntF I f).n, ps', x', y'⟩
          rw [← hnt, ← e2, ← e3, ← e4]
        obtain ⟨e, st', h1, h2⟩ := evrange_sound hX (LA_ok hX hG hI hS hK n f).tab hsite h
        refine ⟨e, st', ?_, h2⟩
        rw [LA_nt] at h1 ⊢; exact h1
      · cases h
    · simp only [LA] at h
      split at h
      · rename_i id ops draw hc
        have hcc := codeOf_at hc hat
        subst hcc
        injection h with h
        subst h
        have := regC_sound hX (LA_ok hX hG hI hS hK n f).tab (id := id) hk
        rw [LA_nt] at this ⊢
        exact this
      · cases h
def asB (o : Option Bool) : Bool := match o with | some b => b | none => false
def kB (x : AV) (_ : List Blk) : Option Bool := match x with | .bool b => some b | _ => none
theorem closed_run (hX : X.Okb) (hG : GlobFree X) {I : List (Nat × FI)} (hI : AllE (fun e => FiOk X e.1 e.2) I) {Ss : List SI} (hS : AllE (SiOk X I) Ss) {kc : List KC} (hK : AllE (KcOk X) kc) {dd : List (Nat × List (Nat × Nat))} {rounds n f : Nat} {fi : FI} (hf : pickF I f = some fi)
    (h : asB (evfn X (LA X I Ss kc dd rounds n f) fi.c fi.rs [] [] kB) = true) : ACalls X f [] [] (.bool true) [] := by
  unfold asB at h
  split at h
  · rename_i b hb
    subst h
    obtain ⟨x, M', h1, h2⟩ := evfn_LA hX hI hf (LA_ok hX hG hI hS hK n f) hb
    unfold kB at h2
    split at h2
    · injection h2 with h2
      subst h2
      have := h1.cut hG (x := .bool true) rfl (by rw [List.length_nil, List.take_zero]; rfl)
      rwa [List.length_nil, List.take_zero] at this
    · cases h2
  · cases h
theorem closed_kc (hG : GlobFree X) {f : Nat} (h : ACalls X f [] [] (.bool true) []) : KcOk X ⟨f, [], .bool true⟩ := fun M => h.lift0 hG rfl rfl M
theorem law_closed (hl : laidOutB X.P = true) {f : FuncId} {fn : Func} {s : ChangeSpec} {tb : TypeId} (hts : fn.params.toList = []) (hrt : fn.resultTypes = #[tb]) (htb : X.P.underlying tb = some .bool)
    (hv : s.vars = []) {H : Type} {enc : TypeId × Value → H} (hs : s.fn H ([] : List (DataW H)) = { results := [.lit (.bool true)], args := [] })
    (hlaw : ACalls X f [] [] (.bool true) [])
    (W : World) (hg : ∀ g, Rep X.K [] (there W) W (X.glob g) (.pointer (some ⟨g, 0, none⟩))) (args : Array Value) (ds gs : List (DataW H)) (before : List MemPlace)
    (hW : DataW.Whole enc X.P fn.params.toList s.vars false W args.toList ds gs before) :
    Calls X.P f args W fun e W' => ∃ v, e = .returned v ∧ s.post enc X.P fn false true false false W args v W' := by
  have hW' := hW
  obtain ⟨p, q, hA, hV, hpq, hfz, hnd⟩ := hW
  rw [hv] at hV
  obtain ⟨rfl, rfl⟩ := trodVars_none hV
  rw [List.append_nil] at hpq
  have hpq' : p = before := hpq.symm
  subst hpq'
  have hA0 := hA
  rw [hts] at hA
  have hnil : args.toList = [] ∧ ds = [] := by
    revert hA
    generalize args.toList = vs
    intro hA
    cases vs with
    | nil => cases ds with
      | nil => exact ⟨rfl, rfl⟩
      | cons d ds => simp [DataW.TrodAll] at hA
    | cons v vs => cases ds <;> simp [DataW.TrodAll] at hA
  obtain ⟨ha, rfl⟩ := hnil
  have hrep : RepL X.K [] (there W) W [] args.toList := by rw [ha]; exact ⟨rfl, fun j x v hx => by simp at hx⟩
  have hi : Inv X W ⟨fun _ => False, there W⟩ (there W) [] [] W := {
    os := rfl, tape := rfl, output := rfl, size := Nat.le_refl _, frame := fun _ _ _ => rfl, len := rfl
    rep := fun id b hd hb _ => by simp at hb
    sep := fun id b hd g hb _ _ _ => by simp at hb
    disj := fun id id' b b' hd hd' g _ hb _ _ _ _ _ _ => by simp at hb
    fz := fun a ha => ha, glob := hg
    one := fun id hd hh => by simp at hh
    old := fun a ha => .inl ha, fin := fun a ha => ha, nst := .none (by simp) }
  have := hlaw.2 hi hrep
  refine this.mono ?_
  rintro e W' ⟨v, ρ', F', rfl, hI, _, hr⟩
  refine ⟨v, rfl, ?_⟩
  cases hr
  have hb := below_of_inv hI
  have hlt : ∀ x ∈ p, x.block < W.heap.size := fun x hx => by simpa using hW'.lt x hx
  have hfn : s.fn H ([] ++ []) = { results := [.lit (.bool true)], args := [] } := hs
  refine ⟨[], [], p, [], p, [], hW', ?_, ?_, ?_, kept_of_below hb _, fun h => by cases h⟩
  · rw [hfn, hrt]
    exact trodAll_mk1 (shut_bool htb true)
  · rw [hfn, hts, ha]
    rw [ha] at hA
    exact hA
  · rw [hfn, hv]; exact rfl
theorem ACalls.bridge {Y : Cx} (hP : Y.P = X.P) (hG : ∀ g, Y.glob g = .top) {f : FuncId} (h : ACalls Y f [] [] (.bool true) []) (M : List Blk) : ACalls X f [] M (.bool true) M := by
  refine ⟨by rw [← hP]; exact h.1, fun {w0 S F ρ w vs} hI hr => ?_⟩
  have hnil : vs = [] := List.eq_nil_of_length_eq_zero (show vs.length = 0 from by have := hr.1; simp only [List.length_nil] at this; omega)
  subst hnil
  have hi : Inv Y w ⟨fun _ => False, F⟩ F [] [] w := {
    os := rfl, tape := rfl, output := rfl, size := Nat.le_refl _, frame := fun _ _ _ => rfl, len := rfl
    rep := fun id b hd hb _ => by simp at hb
    sep := fun id b hd g hb _ _ _ => by simp at hb
    disj := fun id id' b b' hd hd' g _ hb _ _ _ _ _ _ => by simp at hb
    fz := hI.fz, glob := fun g => by rw [hG g]; exact .top _
    one := fun id hd hh => by simp at hh
    old := fun a ha => .inl ha, fin := fun a ha => ha, nst := .none (by simp) }
  have h2 := h.2 hi (vs := []) ⟨rfl, fun j x v hx => by simp at hx⟩
  rw [hP] at h2
  refine h2.mono ?_
  rintro e w' ⟨v, ρ', F', rfl, hI', hg, hv⟩
  have hfr : ∀ g, g < w.heap.size → w'.heap[g]? = w.heap[g]? := fun g hlt => hI'.frame g hlt (fun h => h)
  refine ⟨v, ρ, F', rfl, ?_, ⟨hg.hF, fun _ _ h => h, hg.hb⟩, by cases hv; exact .bool _⟩
  exact {
    os := hI'.os.trans hI.os, tape := hI'.tape.trans hI.tape, output := hI'.output.trans hI.output, size := Nat.le_trans hI.size hI'.size
    frame := fun g hlt hn => (hfr g (Nat.lt_of_lt_of_le hlt hI.size)).trans (hI.frame g hlt hn)
    len := hI.len
    rep := fun id b hd h1 h2 => by
      cases hd' : b.isDead with
      | true => exact (hI.rep id b hd h1 h2).mono_dead (fun _ _ h => h) hg.hF hg.hw hd'
      | false => exact (hI.rep id b hd h1 h2).mono (fun _ _ h => h) hg.hF hg.hw (fun g hgb => hfr g (hI.sep id b hd g h1 hd' h2 hgb).1)
    sep := fun id b hd g h1 h2 h3 h4 => by
      obtain ⟨s1, s2, s3⟩ := hI.sep id b hd g h1 h2 h3 h4
      refine ⟨Nat.lt_of_lt_of_le s1 hI'.size, s2, fun a ha => ?_⟩
      rcases hI'.old a ha with h | h | h
      · exact s3 a h
      · exact h.elim
      · intro e; omega
    disj := hI.disj
    fz := hI'.fz
    glob := fun g => (hI.glob g).mono (fun _ _ h => h) hg.hF hg.hw
    one := hI.one
    old := fun a ha => by
      rcases hI'.old a ha with h | h | h
      · exact hI.old a h
      · exact h.elim
      · exact .inr (.inr (Nat.le_trans hI.size h))
    fin := fun a ha => hg.hF a (hI.fin a ha)
    nst := hI.nst.stay hI.len (fun _ _ h _ => h) (fun _ _ h => h) hg.hF hg.hw fun g h1 h2 h3 h4 => ⟨Nat.lt_of_lt_of_le h1 hI'.size, h2, hfr g h1, fun a ha e => by
      rcases hI'.old a ha with h | h | h
      · exact h3 a h e
      · exact h.elim
      · omega, h4⟩ }
def kce {R : Type} (f : FuncId) : CE R := ⟨f, fun _ _ => true, fun _ _ => some [], fun args M k => match args with | [] => k (.bool true) M | _ => none⟩
theorem kce_ok {R : Type} {Y : Cx} (hP : Y.P = X.P) (hG : ∀ g, Y.glob g = .top) {f : FuncId} (h : ACalls Y f [] [] (.bool true) []) : CeOk X (kce (R := R) f) := by
  intro args M k r hr
  cases args with
  | cons a b => cases hr
  | nil => exact ⟨_, _, h.bridge hP hG M, hr, fun ids hi => Agree.refl _ _⟩
end
end Go.Eng
