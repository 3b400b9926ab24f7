/-
  The engine, part M: one operation of the code, whatever it is.
  The engine, part Ma: cells that nobody writes, given back; the records of ranges over functions, laid aside and taken up again.
  The engine, part N: lists of operations; what is known of a frame.
  The engine, part O: operations that leave the memory alone, and what the others may write: for regions that draw their order.
  The engine, part S: other numbers for our blocks; a part of the memory handed on and taken back.
  The engine, part T: the part of the memory that was handed on is taken back.
  The engine, part Ta: calls that neither see nor change the memory.
  The engine, part P: regions that draw the order of their operations.
  The engine, part Q: regions that draw the order of their operations, on: every order does what the text order does.
  The engine, part Qa: regions that draw their order and make several variables, ahead of all that writes.
  The engine, part R: regions, evaluated.
  The engine, part Ra: regions, evaluated; several new variables at once.
  The engine, part Rb: regions that draw their order, in closed runs: what does not hang on the values is looked at once.
  The engine, part U: code.
  The engine, part V: calls on a part of the memory; a function's contract out of its code.
-/
import Derived.Test.YtbgdiljnmifakaaKn1
import Derived.OrdersIn
import Derived.LoopNIn
import Derived.RangeFuncLeaves
set_option linter.all false
set_option linter.deprecated false
namespace Go.Eng
open Go
noncomputable section

variable {X : Cx} {R : Type}
variable {w0 w w' : World} {S : Sc} {F : Addr → Prop} {ρ : List Hd} {M : List Blk}

/-- The fence that keeps nothing out, for an activation (or a round of the loop whose record is block l). -/
def fen (rd : Option Nat) : Fence := { Fence.wide with round := rd }
theorem fen_fn (rd : Option Nat) (f : FuncId) : (fen rd).fn f := trivial
theorem fen_room (rd : Option Nat) (n : Nat) : (fen rd).room n := fun _ h => by simp [fen, Fence.wide] at h

/-- An operation, stated as the model's calculus wants it. -/
def OpRuns (X : Cx) (o : Oper) (e : Operand → AV) (M : List Blk) (x : AV) (M' : List Blk) : Prop :=
  ∀ {rd : Option Nat} {n : Nat} {w0 : World} {S : Sc} {F : Addr → Prop} {ρ : List Hd} {w : World} {a : Act} {next : Act → World → Prop} {Q : Exit → Act → World → Prop}, Inv X w0 S F ρ M w → (∀ y, Rep X.K ρ F w (e y) (a.eval y)) →
    (∀ v w' ρ' F', Inv X w0 S F' ρ' M' w' → Grow F F' ρ ρ' w w' → Rep X.K ρ' F' w' x v → next (a.put o.dst v) w') → o.wpIn (fen rd) n X.P a w next Q

/-- What a call of a function does. -/
def ACalls (X : Cx) (f : FuncId) (args : List AV) (M : List Blk) (x : AV) (M' : List Blk) : Prop :=
  (∀ (vs : Array Value) (w : World), (callFunc f vs).run X.P w = .ok (.enter f vs) w) ∧
  ∀ {w0 : World} {S : Sc} {F : Addr → Prop} {ρ : List Hd} {w : World} {vs : List Value}, Inv X w0 S F ρ M w → RepL X.K ρ F w args vs →
    Calls X.P f vs.toArray w (fun e w' => ∃ v ρ' F', e = .returned v ∧ Inv X w0 S F' ρ' M' w' ∧ Grow F F' ρ ρ' w w' ∧ Rep X.K ρ' F' w' x v)

/-- What a call of yield does: one round. -/
def AYields (X : Cx) (id : Nat) (args : List AV) (M : List Blk) (x : AV) (M' : List Blk) : Prop :=
  ∀ {rd : Option Nat} {n : Nat} {w0 : World} {S : Sc} {F : Addr → Prop} {ρ : List Hd} {w : World} {vs : List Value} {hd : Hd} {g : Nat}, Inv X w0 S F ρ M w → RepL X.K ρ F w args vs → ρ[id]? = some hd → hd.v = .pointer (some ⟨g, 0, none⟩) →
    ∃ f tmps ag body, (Instr.yield g vs.toArray).run X.P w = .ok (.round g f tmps ag body) w ∧
      RoundIn (fen rd) n X.P g f tmps ag body w (fun e w' => ∃ v ρ' F', e = .returned v ∧ Inv X w0 S F' ρ' M' w' ∧ Grow F F' ρ ρ' w w' ∧ Rep X.K ρ' F' w' x v)

/-- How many variables there are; which of them may be written. -/
structure Nt where
  n : Nat
  mask : Nat

/-- What the interpreter is told of other code: calls, yields, loops. -/
structure Tab (R : Type) where
  nt : Nt
  wr : FuncId → List AV → List Blk → Option (List Nat)
  call : FuncId → List AV → List Blk → (AV → List Blk → Option R) → Option R
  yield : Nat → List AV → List Blk → (AV → List Blk → Option R) → Option R

structure Tab.CallOk (X : Cx) (T : Tab R) : Prop where
  call : ∀ {f args M k r}, T.call f args M k = some r → ∃ x M', ACalls X f args M x M' ∧ k x M' = some r ∧ ∀ ids, T.wr f args M = some ids → Agree ids M M'
  yield : ∀ {id args M k r}, T.yield id args M k = some r → ∃ x M', AYields X id args M x M' ∧ k x M' = some r

def evv (X : Cx) (env : List (Nat × AV)) : Operand → AV
  | .tmp t => look env t
  | .const v => constAV v
  | .global g => X.glob g
  | .func f => .clos f [] []

theorem evv_rep (hI : Inv X w0 S F ρ M w) {env : List (Nat × AV)} {a : Act} (h : EnvRep X ρ F w env a.tmps) (y : Operand) : Rep X.K ρ F w (evv X env y) (a.eval y) := by
  cases y with
  | tmp t => exact h t
  | const v => exact rep_constAV _ _ _ _ v
  | global g => exact hI.glob g
  | func f => exact .clos f [] [] [] [] rfl rfl (fun j x v h _ => by simp at h) (fun j x v h _ => by simp at h)

def evUn (op : UnOp) (x : AV) (k : AV → Option R) : Option R :=
  match op, x with
  | .not, .bool b => k (.bool (!b))
  | .neg, .int kd n => k (.int kd (kd.wrap (0 - n)))
  | _, _ => none

def evConv (X : Cx) (s d : TypeId) (x : AV) (k : AV → Option R) : Option R :=
  match (X.ti s).ok, (X.ti d).ok, (X.ti d).u, x with
  | true, true, .int kd, .int _ n => k (.int kd (kd.wrap n))
  | _, _, _, _ => none

def evNilCheck (x : AV) (k : AV → Option R) : Option R :=
  match x with
  | .ptr _ _ _ => k x
  | .iptr _ _ _ => k x
  | .clos _ _ _ => k x
  | _ => none

def evop0 (X : Cx) (T : Tab R) (e : Operand → AV) (o : Oper) (M : List Blk) (k : AV → List Blk → Option R) : Option R :=
  match o.op with
  | .move x => k (e x) M
  | .assign x => k (e x) M
  | .pick c a b => match e c with | .bool t => (match t with | true => k (e a) M | false => k (e b) M) | _ => none
  | .alloc t => evAlloc X t M k
  | .box t x => evBox X t (e x) M k
  | .build t ps => evBuild X t (ps.toList.map fun p => (p.1, e p.2)) fun y => k y M
  | .buildSlice t n ps => match impPs (ps.toList.map fun p => (p.1, e p.2)) with | true => evBuildVar X t n (ps.toList.map fun p => (p.1, e p.2)) M k | false => evBuildSlice X t n (ps.toList.map fun p => (p.1, e p.2)) M k
  | .load t x => evLoad X t (e x) M fun y => k y M
  | .store t x y => evStore X t (e x) (e y) M fun M' => k (.tup []) M'
  | .nilCheck x => evNilCheck (e x) fun y => k y M
  | .binOp op t x y _ => evBin X op t (e x) (e y) fun z => k z M
  | .unOp op _ x => evUn op (e x) fun z => k z M
  | .convert s d x => evConv X s d (e x) fun z => k z M
  | .fieldAddr t x f => evFieldAddr X t (e x) f fun y => k y M
  | .field t x f => evField X t (e x) f fun y => k y M
  | .indexAddr t x i => evIndexAddr X t (e x) (e i) M fun y => k y M
  | .index t x i => evIndex X t (e x) (e i) fun y => k y M
  | .slice t x lo hi mx => evSlice X t (e x) (lo.map e) (hi.map e) (mx.map e) M k
  | .makeSlice t l c => evMakeSlice X t (e l) (e c) M k
  | .extract x i => match e x with | .tup vs => (match vs[i]? with | some y => k y M | none => none) | _ => none
  | .makeFunc (.func f) first caps => k (.clos f (first.toList.map e) (caps.toList.map e)) M
  | .call c =>
    match c.callee with
    | .value f =>
      match e f with
      | .clos g first caps => T.call g (first ++ c.args.toList.map e ++ caps) M k
      | .yld id => T.yield id (c.args.toList.map e) M fun x M' => tst (Nat.ble M.length M'.length) (k x M')
      | _ => none
    | .builtin .len => match c.argTypes.toList, c.args.toList with | [t], [x] => evLen X t (e x) M fun y => k y M | _, _ => none
    | .builtin .min => evMin imin (c.args.toList.map e) fun y => k y M
    | .builtin .max => evMin imax (c.args.toList.map e) fun y => k y M
    | .builtin .append => match c.args.toList with | [s, x] => evAppend X c.argTypes.toList (e s) (e x) M k | _ => none
    | _ => none
  | .makeMap t r => match r with | none => evMakeMap X t M k | some _ => none
  | .lookup t x i ok => evLookup X t (e x) (e i) ok M fun y => k y M
  | .mapUpdate t m i x => evMapUpdate X t (e m) (e i) (e x) M fun M' => k (.tup []) M'
  | .insert t m i x => evMapUpdate X t (e m) (e i) (e x) M fun M' => k (.tup []) M'
  | _ => none

/-- The blocks that an operation may write which does not leave the memory alone. -/
def wrIds (T : Tab R) (e : Operand → AV) (o : Oper) (M : List Blk) : Option (List Nat) :=
  match o.op with
  | .alloc _ => some []
  | .box _ _ => some []
  | .makeSlice _ _ _ => some []
  | .buildSlice _ _ ps => some ((ps.toList.map fun p => (p.1, e p.2)).flatMap fun p => p.2.cells.flatMap ownIds)
  | .store _ x y => some (ptrIds (e x) ++ (e y).cells.flatMap ownIds)
  | .slice _ x _ _ _ => some (ownIds (e x))
  | .call c =>
    match c.callee with
    | .value f =>
      match e f with
      | .clos g first caps => T.wr g (first ++ c.args.toList.map e ++ caps) M
      | .yld _ => some (List.range M.length)
      | _ => none
    | .builtin .append => match c.args.toList with | [s, _] => some (ownIds (e s)) | _ => none
    | _ => none
  | .makeMap _ _ => some []
  | .mapUpdate _ m _ _ => some (mpIds (e m))
  | .insert _ m _ _ => some (mpIds (e m))
  | _ => none

theorem wpIn_of_value {o : Oper} (hd : ∀ c, o.op ≠ .defer c) {rd : Option Nat} {n : Nat} {a : Act} {next : Act → World → Prop} {Q : Exit → Act → World → Prop} {v : Value} (h : (execOp a.eval o).run X.P w = .ok (.value v) w') (hn : next (a.put o.dst v) w') :
    o.wpIn (fen rd) n X.P a w next Q := by
  refine ⟨fun _ _ => trivial, ?_⟩
  rw [Oper.semAt_eq _ _ _ hd, h]
  exact hn
theorem wpIn_of_skip {o : Oper} (hd : ∀ c, o.op ≠ .defer c) {rd : Option Nat} {n : Nat} {a : Act} {next : Act → World → Prop} {Q : Exit → Act → World → Prop} (h : (execOp a.eval o).run X.P w = .ok .skip w') (hn : next (a.put o.dst undef) w') :
    o.wpIn (fen rd) n X.P a w next Q := by
  refine ⟨fun _ _ => trivial, ?_⟩
  rw [Oper.semAt_eq _ _ _ hd, h]
  exact hn

/-- A value that is worked out from the operands alone (the memory may be read). -/
theorem OpRuns.of_val {o : Oper} (hd : ∀ c, o.op ≠ .defer c) {e : Operand → AV} {x : AV} {s : (Operand → Value) → Sem Value} (hs : ∀ ρe, execOp ρe o = (do pure (.value (← s ρe)) : Sem Next))
    (h : ∀ {w0 : World} {S : Sc} {F : Addr → Prop} {ρ : List Hd} {w : World} {ρe : Operand → Value}, Inv X w0 S F ρ M w → (∀ y, Rep X.K ρ F w (e y) (ρe y)) → ∃ v, (s ρe).run X.P w = .ok v w ∧ Rep X.K ρ F w x v) : OpRuns X o e M x M := by
  intro rd n w0 S F ρ w a next Q hI hr hn
  obtain ⟨v, h1, h2⟩ := h hI hr
  exact wpIn_of_value hd (by rw [hs, Sem.run_bind, h1]; rfl) (hn v w ρ F hI (Grow.refl _ _ _) h2)

theorem OpRuns.of_does {o : Oper} (hd : ∀ c, o.op ≠ .defer c) {e : Operand → AV} {x : AV} {M' : List Blk} {s : (Operand → Value) → Sem Value} (hs : ∀ ρe, execOp ρe o = (do pure (.value (← s ρe)) : Sem Next))
    (h : ∀ {w0 : World} {S : Sc} {F : Addr → Prop} {ρ : List Hd} {w : World} {ρe : Operand → Value}, Inv X w0 S F ρ M w → (∀ y, Rep X.K ρ F w (e y) (ρe y)) → ∃ v w' ρ' F', (s ρe).run X.P w = .ok v w' ∧ Inv X w0 S F' ρ' M' w' ∧ Grow F F' ρ ρ' w w' ∧ Rep X.K ρ' F' w' x v) : OpRuns X o e M x M' := by
  intro rd n w0 S F ρ w a next Q hI hr hn
  obtain ⟨v, w', ρ', F', h1, h2, h3, h4⟩ := h hI hr
  exact wpIn_of_value hd (by rw [hs, Sem.run_bind, h1]; rfl) (hn v w' ρ' F' h2 h3 h4)

theorem repL_map {e : Operand → AV} {ρe : Operand → Value} (hr : ∀ y, Rep X.K ρ F w (e y) (ρe y)) (xs : List Operand) : RepL X.K ρ F w (xs.map e) (xs.map ρe) := by
  refine ⟨by simp, fun j x v hx hv => ?_⟩
  rw [List.getElem?_map] at hx hv
  cases h : xs[j]? with
  | none => rw [h] at hx; cases hx
  | some y =>
    rw [h] at hx hv
    simp only [Option.map_some, Option.some.injEq] at hx hv
    subst hx; subst hv
    exact hr y
theorem RepL.append {xs ys : List AV} {vs us : List Value} (h : RepL X.K ρ F w xs vs) (k : RepL X.K ρ F w ys us) : RepL X.K ρ F w (xs ++ ys) (vs ++ us) := by
  refine ⟨by simp [h.1, k.1], fun j x v hx hv => ?_⟩
  by_cases hj : j < xs.length
  · rw [List.getElem?_append_left hj] at hx
    rw [List.getElem?_append_left (by rw [h.1]; exact hj)] at hv
    exact h.2 j x v hx hv
  · rw [List.getElem?_append_right (by omega)] at hx
    rw [List.getElem?_append_right (by rw [h.1]; omega), h.1] at hv
    exact k.2 _ x v hx hv
theorem orep_map {e : Operand → AV} {ρe : Operand → Value} (hr : ∀ y, Rep X.K ρ F w (e y) (ρe y)) (o : Option Operand) : ORep X.K ρ F w (o.map e) (o.map ρe) := by
  cases o with
  | none => trivial
  | some y => exact hr y

set_option maxHeartbeats 1600000 in
theorem evop0_sound (hX : X.Okb) {T : Tab R} (hT : T.CallOk X) {e : Operand → AV} {o : Oper} {k : AV → List Blk → Option R} {r : R} (h : evop0 X T e o M k = some r) :
    ∃ x M', OpRuns X o e M x M' ∧ k x M' = some r ∧ ∀ ids, wrIds T e o M = some ids → Agree ids M M' := by
  unfold evop0 at h
  split at h
  · rename_i x ho
    exact ⟨_, _, OpRuns.of_val (s := fun ρe => pure (ρe x)) (by simp [ho]) (fun ρe => by simp [execOp, ho]) (fun {w0 S F ρ w ρe} hI hr => ⟨_, rfl, hr x⟩), h, fun ids hi => by simp [wrIds, ho] at hi⟩
  · rename_i x ho
    exact ⟨_, _, OpRuns.of_val (s := fun ρe => pure (ρe x)) (by simp [ho]) (fun ρe => by simp [execOp, ho]) (fun {w0 S F ρ w ρe} hI hr => ⟨_, rfl, hr x⟩), h, fun ids hi => by simp [wrIds, ho] at hi⟩
  · rename_i c a b ho
    split at h
    · rename_i t hc
      have hsem : ∀ ρe, execOp ρe o = (do pure (.value (if ← asBool (ρe c) then ρe a else ρe b)) : Sem Next) := fun ρe => by simp [execOp, ho]
      split at h
      · refine ⟨_, _, fun {rd n w0 S F ρ w act next Q} hI hr hn => ?_, h, fun ids hi => by simp [wrIds, ho] at hi⟩
        have h1 := hr c
        rw [hc] at h1
        generalize hv : act.eval c = vc at h1
        cases h1
        exact wpIn_of_value (by simp [ho]) (by rw [hsem, hv]; rfl) (hn _ w ρ F hI (Grow.refl _ _ _) (hr a))
      · refine ⟨_, _, fun {rd n w0 S F ρ w act next Q} hI hr hn => ?_, h, fun ids hi => by simp [wrIds, ho] at hi⟩
        have h1 := hr c
        rw [hc] at h1
        generalize hv : act.eval c = vc at h1
        cases h1
        exact wpIn_of_value (by simp [ho]) (by rw [hsem, hv]; rfl) (hn _ w ρ F hI (Grow.refl _ _ _) (hr b))
    · cases h
  · rename_i t ho
    obtain ⟨x, M', h, hag, hd⟩ := evAlloc_sound hX h
    exact ⟨x, M', OpRuns.of_does (s := fun _ => Instr.alloc t true (.tuple #[])) (by simp [ho]) (fun ρe => by simp [execOp, ho]) (fun {w0 S F ρ w ρe} hI hr => hd hI trivial), h, fun ids hi => by simp only [wrIds, ho, Option.some.injEq] at hi; subst hi; exact hag⟩
  · rename_i t x ho
    obtain ⟨y, M', h, hag, hd⟩ := evBox_sound h
    exact ⟨y, M', OpRuns.of_does (s := fun ρe => Instr.box t (ρe x)) (by simp [ho]) (fun ρe => by simp [execOp, ho]) (fun {w0 S F ρ w ρe} hI hr => hd (ρe x) hI (hr x)), h, fun ids hi => by simp only [wrIds, ho, Option.some.injEq] at hi; subst hi; exact hag⟩
  · rename_i t ps ho
    obtain ⟨y, h, hd⟩ := evBuild_sound (M := M) hX h
    refine ⟨y, M, OpRuns.of_val (s := fun ρe => Instr.build t (ps.map fun (i, x) => (i, ρe x))) (by simp [ho]) (fun ρe => by simp [execOp, ho]) (fun {w0 S F ρ w ρe} hI hr => ?_), h, fun ids hi => by simp [wrIds, ho] at hi⟩
    obtain ⟨u, h1, h2⟩ := hd (ps.toList.map fun p => (p.1, ρe p.2)) hI (by simp) (fun j p q hp hq => by
      rw [List.getElem?_map] at hp hq
      cases hj : ps.toList[j]? with
      | none => rw [hj] at hp; cases hp
      | some z =>
        rw [hj] at hp hq
        simp only [Option.map_some, Option.some.injEq] at hp hq
        subst hp; subst hq
        exact ⟨rfl, hr z.2⟩)
    refine ⟨u, ?_, h2⟩
    have : (ps.map fun (i, x) => (i, ρe x)) = (ps.toList.map fun p => (p.1, ρe p.2)).toArray := by apply Array.ext'; simp
    rw [this]
    exact h1
  · rename_i t n ps ho
    split at h
    · obtain ⟨y, M', h, hag, hd⟩ := evBuildVar_sound hX h
      refine ⟨y, M', OpRuns.of_does (s := fun ρe => Instr.buildSlice t n (ps.map fun (i, x) => (i, ρe x))) (by simp [ho]) (fun ρe => by simp [execOp, ho]) (fun {w0 S F ρ w ρe} hI hr => ?_), h, fun ids hi => by simp only [wrIds, ho, Option.some.injEq] at hi; subst hi; exact hag.mono (fun i hi => by cases hi)⟩
      have := hd (ps.toList.map fun p => (p.1, ρe p.2)) hI (by simp) (fun j p q hp hq => by
        rw [List.getElem?_map] at hp hq
        cases hj : ps.toList[j]? with
        | none => rw [hj] at hp; cases hp
        | some z =>
          rw [hj] at hp hq
          simp only [Option.map_some, Option.some.injEq] at hp hq
          subst hp; subst hq
          exact ⟨rfl, hr z.2⟩)
      have e1 : (ps.map fun (i, x) => (i, ρe x)) = (ps.toList.map fun p => (p.1, ρe p.2)).toArray := by apply Array.ext'; simp
      rw [e1]
      exact this
    · obtain ⟨y, M', h, hag, hd⟩ := evBuildSlice_sound hX h
      refine ⟨y, M', OpRuns.of_does (s := fun ρe => Instr.buildSlice t n (ps.map fun (i, x) => (i, ρe x))) (by simp [ho]) (fun ρe => by simp [execOp, ho]) (fun {w0 S F ρ w ρe} hI hr => ?_), h, fun ids hi => by simp only [wrIds, ho, Option.some.injEq] at hi; subst hi; exact hag⟩
      have := hd (ps.toList.map fun p => (p.1, ρe p.2)) hI (by simp) (fun j p q hp hq => by
        rw [List.getElem?_map] at hp hq
        cases hj : ps.toList[j]? with
        | none => rw [hj] at hp; cases hp
        | some z =>
          rw [hj] at hp hq
          simp only [Option.map_some, Option.some.injEq] at hp hq
          subst hp; subst hq
          exact ⟨rfl, hr z.2⟩)
      have e1 : (ps.map fun (i, x) => (i, ρe x)) = (ps.toList.map fun p => (p.1, ρe p.2)).toArray := by apply Array.ext'; simp
      rw [e1]
      obtain ⟨v, w', ρ', F', h1, h2, h3, h4, _⟩ := this
      exact ⟨v, w', ρ', F', h1, h2, h3, h4⟩
  · rename_i t x ho
    obtain ⟨y, h, hd⟩ := evLoad_sound hX h
    exact ⟨y, M, OpRuns.of_val (s := fun ρe => Instr.loadAt t (ρe x)) (by simp [ho]) (fun ρe => by simp [execOp, ho]) (fun {w0 S F ρ w ρe} hI hr => hd hI (hr x)), h, fun ids hi => by simp [wrIds, ho] at hi⟩
  · rename_i t x y ho
    obtain ⟨M', h, hag, hd⟩ := evStore_sound hX h
    refine ⟨_, M', fun {rd n w0 S F ρ w act next Q} hI hr hn => ?_, h, fun ids hi => by simp only [wrIds, ho, Option.some.injEq] at hi; subst hi; exact hag⟩
    obtain ⟨w', F', h1, h2, h3⟩ := hd hI (hr x) (hr y)
    refine wpIn_of_skip (by simp [ho]) (w' := w') ?_ (hn undef w' ρ F' h2 h3 (.tup [] [] rfl (fun j x v h _ => by simp at h)))
    simp [execOp, ho, h1]
  · rename_i x ho
    unfold evNilCheck at h
    have core : ∀ (hp : ∀ {ρ : List Hd} {F : Addr → Prop} {w : World} {v : Value}, Rep X.K ρ F w (e x) v → (∃ a, v = .pointer (some a)) ∨ ∃ f c1 c2, v = .func (.func f) c1 c2), k (e x) M = some r → ∃ y M', OpRuns X o e M y M' ∧ k y M' = some r ∧ ∀ ids, wrIds T e o M = some ids → Agree ids M M' := by
      intro hp h
      refine ⟨_, _, fun {rd n w0 S F ρ w act next Q} hI hr hn => ?_, h, fun ids hi => by simp [wrIds, ho] at hi⟩
      have h1 := hr x
      refine wpIn_of_value (by simp [ho]) (v := act.eval x) (w' := w) ?_ (hn _ w ρ F hI (Grow.refl _ _ _) h1)
      rcases hp h1 with ⟨a, hv⟩ | ⟨f, c1, c2, hv⟩ <;> simp [execOp, ho, hv]
    split at h
    · rename_i id i off hx
      exact core (fun {ρ F w v} hv => by rw [hx] at hv; cases hv; exact .inl ⟨_, rfl⟩) h
    · rename_i t row off hx
      exact core (fun {ρ F w v} hv => by rw [hx] at hv; cases hv; exact .inl ⟨_, rfl⟩) h
    · rename_i f c1 c2 hx
      exact core (fun {ρ F w v} hv => by rw [hx] at hv; cases hv; exact .inr ⟨_, _, _, rfl⟩) h
    · cases h
  · rename_i op t x y u ho
    obtain ⟨z, h, hd⟩ := evBin_sound (a := x) (b := y) (u := u) hX h
    exact ⟨z, M, OpRuns.of_val (s := fun ρe => (do eqGuard op t x y (ρe x) (ρe y); binOp op t (ρe x) (ρe y))) (by simp [ho]) (fun ρe => by simp [execOp, ho]) (fun {w0 S F ρ w ρe} hI hr => hd ρ F w _ _ (hr x) (hr y)), h, fun ids hi => by simp [wrIds, ho] at hi⟩
  · rename_i op t x ho
    unfold evUn at h
    split at h
    · rename_i b hx
      refine ⟨_, M, OpRuns.of_val (s := fun ρe => Op.unary .not (ρe x)) (by simp [ho]) (fun ρe => by simp [execOp, ho]) (fun {w0 S F ρ w ρe} hI hr => ?_), h, fun ids hi => by simp [wrIds, ho] at hi⟩
      have h1 := hr x
      rw [hx] at h1
      generalize ρe x = vx at h1
      cases h1
      exact ⟨_, rfl, .bool _⟩
    · rename_i kd n hx
      refine ⟨_, M, OpRuns.of_val (s := fun ρe => Op.unary .neg (ρe x)) (by simp [ho]) (fun ρe => by simp [execOp, ho]) (fun {w0 S F ρ w ρe} hI hr => ?_), h, fun ids hi => by simp [wrIds, ho] at hi⟩
      have h1 := hr x
      rw [hx] at h1
      generalize ρe x = vx at h1
      cases h1
      exact ⟨_, rfl, .int _ _⟩
    · cases h
  · rename_i s d x ho
    unfold evConv at h
    split at h
    · rename_i kd k0 n h1 h2 h3 hx
      obtain ⟨i1, d1, z1, f1⟩ := hX.facts h1
      obtain ⟨i2, d2, z2, f2⟩ := hX.facts h2
      have hund := f2.intK h3
      refine ⟨_, M, OpRuns.of_val (s := fun ρe => convert s d (ρe x)) (by simp [ho]) (fun ρe => by simp [execOp, ho]) (fun {w0 S F ρ w ρe} hI hr => ?_), h, fun ids hi => by simp [wrIds, ho] at hi⟩
      have h4 := hr x
      rw [hx] at h4
      generalize ρe x = vx at h4
      cases h4
      refine ⟨.int kd (kd.wrap n), ?_, .int _ _⟩
      unfold convert
      simp only [Sem.run_bind, run_underlying f1.und, run_underlying hund, Result.andThen_ok, Conv.intToInt, Sem.run_pure]
    · cases h
  · rename_i t x f ho
    obtain ⟨y, h, hd⟩ := evFieldAddr_sound hX h
    exact ⟨y, M, OpRuns.of_val (s := fun ρe => Instr.fieldAt t (ρe x) f) (by simp [ho]) (fun ρe => by simp [execOp, ho]) (fun {w0 S F ρ w ρe} hI hr => hd (hr x)), h, fun ids hi => by simp [wrIds, ho] at hi⟩
  · rename_i t x f ho
    obtain ⟨y, h, hd⟩ := evField_sound hX h
    exact ⟨y, M, OpRuns.of_val (s := fun ρe => Instr.field t (ρe x) f) (by simp [ho]) (fun ρe => by simp [execOp, ho]) (fun {w0 S F ρ w ρe} hI hr => hd (hr x)), h, fun ids hi => by simp [wrIds, ho] at hi⟩
  · rename_i t x i ho
    obtain ⟨y, h, hd⟩ := evIndexAddr_sound hX h
    exact ⟨y, M, OpRuns.of_val (s := fun ρe => Instr.indexAt t (ρe x) (ρe i)) (by simp [ho]) (fun ρe => by simp [execOp, ho]) (fun {w0 S F ρ w ρe} hI hr => hd hI (hr x) (hr i)), h, fun ids hi => by simp [wrIds, ho] at hi⟩
  · rename_i t x i ho
    obtain ⟨y, h, hd⟩ := evIndex_sound hX h
    exact ⟨y, M, OpRuns.of_val (s := fun ρe => Instr.index t (ρe x) (ρe i)) (by simp [ho]) (fun ρe => by simp [execOp, ho]) (fun {w0 S F ρ w ρe} hI hr => hd (hr x) (hr i)), h, fun ids hi => by simp [wrIds, ho] at hi⟩
  · rename_i t x lo hi mx ho
    obtain ⟨y, M', h, hag, hd⟩ := evSlice_sound hX h
    exact ⟨y, M', OpRuns.of_does (s := fun ρe => Instr.sliceAt t (ρe x) (lo.map ρe) (hi.map ρe) (mx.map ρe)) (by simp [ho]) (fun ρe => by simp [execOp, ho]) (fun {w0 S F ρ w ρe} hI hr => hd hI ⟨hr x, orep_map hr lo, orep_map hr hi, orep_map hr mx⟩), h, fun ids hi => by simp only [wrIds, ho, Option.some.injEq] at hi; subst hi; exact hag⟩
  · rename_i t l c ho
    obtain ⟨y, M', h, hag, hd⟩ := evMakeSlice_sound hX h
    exact ⟨y, M', OpRuns.of_does (s := fun ρe => Instr.makeSlice t (ρe l) (ρe c)) (by simp [ho]) (fun ρe => by simp [execOp, ho]) (fun {w0 S F ρ w ρe} hI hr => hd hI ⟨hr l, hr c⟩), h, fun ids hi => by simp only [wrIds, ho, Option.some.injEq] at hi; subst hi; exact hag⟩
  · rename_i x i ho
    split at h
    · rename_i vs hx
      split at h
      · rename_i y hy
        refine ⟨y, M, OpRuns.of_val (s := fun ρe => Instr.extract (ρe x) i) (by simp [ho]) (fun ρe => by simp [execOp, ho]) (fun {w0 S F ρ w ρe} hI hr => ?_), h, fun ids hi => by simp [wrIds, ho] at hi⟩
        have h1 := hr x
        rw [hx] at h1
        generalize ρe x = vx at h1
        cases h1 with
        | tup _ us hl hu =>
          have hi := (List.getElem?_eq_some_iff.1 hy).1
          have hui : us[i]? = some (us[i]'(by omega)) := List.getElem?_eq_getElem (by omega)
          refine ⟨us[i]'(by omega), ?_, hu i y _ hy hui⟩
          unfold Instr.extract
          simp only [List.getElem?_toArray, hui, Sem.run_pure]
      · cases h
    · cases h
  · rename_i f first caps ho
    refine ⟨_, M, OpRuns.of_val (s := fun ρe => Instr.makeFunc (.func f) (first.map ρe) (caps.map ρe)) (by simp [ho]) (fun ρe => by simp [execOp, ho]) (fun {w0 S F ρ w ρe} hI hr => ⟨_, rfl, ?_⟩), h, fun ids hi => by simp [wrIds, ho] at hi⟩
    have h1 := repL_map hr first.toList
    have h2 := repL_map hr caps.toList
    have := Rep.clos (K := X.K) (ρ := ρ) (F := F) (w := w) f _ _ _ _ h1.1 h2.1 h1.2 h2.2
    have e1 : (first.toList.map ρe).toArray = first.map ρe := by apply Array.ext'; simp
    have e2 : (caps.toList.map ρe).toArray = caps.map ρe := by apply Array.ext'; simp
    rw [e1, e2] at this
    exact this
  · rename_i c ho
    split at h
    · rename_i f hcal
      split at h
      · rename_i g first caps hf
        obtain ⟨x, M', ⟨hc1, hc2⟩, h, hag⟩ := hT.call h
        refine ⟨x, M', fun {rd n w0 S F ρ w act next Q} hI hr hn => ?_, h, fun ids hi => hag ids (by simpa only [wrIds, ho, hcal, hf] using hi)⟩
        have h1 := hr f
        rw [hf] at h1
        generalize hv : act.eval f = vf at h1
        cases h1 with
        | clos _ _ _ v1 v2 hl1 hl2 r1 r2 =>
          have hargs : RepL X.K ρ F w (first ++ c.args.toList.map e ++ caps) (v1 ++ c.args.toList.map act.eval ++ v2) := (RepL.append ⟨hl1, r1⟩ (repL_map hr _)).append ⟨hl2, r2⟩
          have hcall := hc2 hI hargs
          have e1 : (v1.toArray ++ c.args.map act.eval) ++ v2.toArray = (v1 ++ c.args.toList.map act.eval ++ v2).toArray := by apply Array.ext'; simp
          refine ⟨fun _ _ => trivial, ?_⟩
          rw [Oper.semAt_eq _ _ _ (by simp [ho])]
          have hrun : (execOp act.eval o).run X.P w = .ok (.enter g (v1 ++ c.args.toList.map act.eval ++ v2).toArray) w := by
            simp only [execOp, ho, resolve, hcal, hv, Deferred.ofValue, Sem.run_bind, Sem.run_pure, Result.andThen_ok, invoke]
            rw [e1]
            exact hc1 _ _
          rw [hrun]
          refine ⟨fun hd => by simp [fen, Fence.wide] at hd, ?_⟩
          have hin : CallsIn Fence.wide (n - 1) X.P g (v1 ++ c.args.toList.map act.eval ++ v2).toArray w (fun e w' => ∃ v ρ' F', e = .returned v ∧ Inv X w0 S F' ρ' M' w' ∧ Grow F F' ρ ρ' w w' ∧ Rep X.K ρ' F' w' x v) := callsIn_wide.2 hcall
          have hin2 : CallsIn (fen rd) (n - 1) X.P g (v1 ++ c.args.toList.map act.eval ++ v2).toArray w (fun e w' => ∃ v ρ' F', e = .returned v ∧ Inv X w0 S F' ρ' M' w' ∧ Grow F F' ρ ρ' w w' ∧ Rep X.K ρ' F' w' x v) := hin
          refine hin2.mono ?_
          rintro en w' ⟨v, ρ', F', rfl, h3, h4, h5⟩
          exact hn v w' ρ' F' h3 h4 h5
      · rename_i id hf
        obtain ⟨x, M', hy, h⟩ := hT.yield h
        replace h := tst_some h
        obtain ⟨hble, h⟩ := h
        refine ⟨x, M', fun {rd n w0 S F ρ w act next Q} hI hr hn => ?_, h, fun ids hi => by
          simp only [wrIds, ho, hcal, hf, Option.some.injEq] at hi
          subst hi
          exact ⟨Nat.le_of_ble_eq_true hble, fun i hi hn => absurd (List.mem_range.2 hi) hn⟩⟩
        have h1 := hr f
        rw [hf] at h1
        generalize hv : act.eval f = vf at h1
        cases h1 with
        | yld _ hd g hid hhd =>
          obtain ⟨fn, tmps, ag, body, h2, h3⟩ := hy (rd := rd) (n := n - 1) hI (repL_map hr c.args.toList) hid hhd
          refine ⟨fun _ _ => trivial, ?_⟩
          rw [Oper.semAt_eq _ _ _ (by simp [ho])]
          have hrun : (execOp act.eval o).run X.P w = .ok (.round g fn tmps ag body) w := by
            simp only [execOp, ho, resolve, hcal, hv, Deferred.ofValue, Sem.run_bind, Sem.run_pure, Result.andThen_ok, invoke]
            have e1 : #[] ++ c.args.map act.eval = (c.args.toList.map act.eval).toArray := by apply Array.ext'; simp
            rw [e1]
            exact h2
          rw [hrun]
          refine ⟨fun hd => by simp [fen, Fence.wide] at hd, ?_⟩
          refine h3.mono ?_
          rintro en w' ⟨v, ρ', F', rfl, h4, h5, h6⟩
          exact hn v w' ρ' F' h4 h5 h6
      · cases h
    · rename_i hcal
      split at h
      · rename_i t x ht hx
        have e1 : c.argTypes = #[t] := by apply Array.ext'; simpa using ht
        have e2 : c.args = #[x] := by apply Array.ext'; simpa using hx
        obtain ⟨y, h, hd⟩ := evLen_sound (ty := o.type) hX h
        exact ⟨y, M, OpRuns.of_val (s := fun ρe => Builtin.len_ #[t] o.type #[ρe x]) (by simp [ho]) (fun ρe => by simp [execOp, ho, resolve, hcal, invoke, builtin, e1, e2]) (fun {w0 S F ρ w ρe} hI hr => hd hI (hr x)), h, fun ids hi => by simp [wrIds, ho, hcal] at hi⟩
      · cases h
    · rename_i hcal
      obtain ⟨y, h, hd⟩ := evMin_min (P := X.P) (K := X.K) h
      refine ⟨y, M, OpRuns.of_val (s := fun ρe => Builtin.min_ c.argTypes o.type (c.args.map ρe)) (by simp [ho]) (fun ρe => by simp [execOp, ho, resolve, hcal, invoke, builtin]) (fun {w0 S F ρ w ρe} hI hr => ?_), h, fun ids hi => by simp [wrIds, ho, hcal] at hi⟩
      have e1 : c.args.map ρe = (c.args.toList.map ρe).toArray := by apply Array.ext'; simp
      rw [e1]
      exact hd _ _ (repL_map hr _)
    · rename_i hcal
      obtain ⟨y, h, hd⟩ := evMin_max (P := X.P) (K := X.K) h
      refine ⟨y, M, OpRuns.of_val (s := fun ρe => Builtin.max_ c.argTypes o.type (c.args.map ρe)) (by simp [ho]) (fun ρe => by simp [execOp, ho, resolve, hcal, invoke, builtin]) (fun {w0 S F ρ w ρe} hI hr => ?_), h, fun ids hi => by simp [wrIds, ho, hcal] at hi⟩
      have e1 : c.args.map ρe = (c.args.toList.map ρe).toArray := by apply Array.ext'; simp
      rw [e1]
      exact hd _ _ (repL_map hr _)
    · rename_i hcal
      split at h
      · rename_i s x hx
        have e2 : c.args = #[s, x] := by apply Array.ext'; simpa using hx
        obtain ⟨y, M', h, hag, hd⟩ := evAppend_sound (ty := o.type) hX h
        refine ⟨y, M', OpRuns.of_does (s := fun ρe => Builtin.append_ c.argTypes o.type #[ρe s, ρe x]) (by simp [ho]) (fun ρe => by simp [execOp, ho, resolve, hcal, invoke, builtin, e2]) (fun {w0 S F ρ w ρe} hI hr => ?_), h, fun ids hi => by simp only [wrIds, ho, hcal, hx, Option.some.injEq] at hi; subst hi; exact hag⟩
        have := hd hI ⟨hr s, hr x⟩
        simpa using this
      · cases h
    · cases h
  · rename_i t r' ho
    split at h
    · obtain ⟨x, M', h, hag, hd⟩ := evMakeMap_sound hX h
      exact ⟨x, M', OpRuns.of_does (s := fun _ => Instr.makeMap t none) (by simp [ho]) (fun ρe => by simp [execOp, ho]) (fun {w0 S F ρ w ρe} hI hr => hd hI trivial), h, fun ids hi => by simp only [wrIds, ho, Option.some.injEq] at hi; subst hi; exact hag⟩
    · cases h
  · rename_i t x i ok ho
    obtain ⟨y, h, hd⟩ := evLookup_sound hX h
    exact ⟨y, M, OpRuns.of_val (s := fun ρe => Instr.lookup t (ρe x) (ρe i) ok) (by simp [ho]) (fun ρe => by simp [execOp, ho]) (fun {w0 S F ρ w ρe} hI hr => hd hI (hr x) (hr i)), h, fun ids hi => by simp [wrIds, ho] at hi⟩
  · rename_i t m i x ho
    obtain ⟨M', h, hag, hd⟩ := evMapUpdate_sound hX h
    refine ⟨_, M', fun {rd n w0 S F ρ w act next Q} hI hr hn => ?_, h, fun ids hi => by simp only [wrIds, ho, Option.some.injEq] at hi; subst hi; exact hag⟩
    obtain ⟨w', F', h1, h2, h3⟩ := hd hI (hr m) (hr i) (hr x)
    refine wpIn_of_skip (by simp [ho]) (w' := w') ?_ (hn undef w' ρ F' h2 h3 (.tup [] [] rfl (fun j x v h _ => by simp at h)))
    simp [execOp, ho, h1]
  · rename_i t m i x ho
    obtain ⟨M', h, hag, hd⟩ := evMapUpdate_sound hX h
    refine ⟨_, M', fun {rd n w0 S F ρ w act next Q} hI hr hn => ?_, h, fun ids hi => by simp only [wrIds, ho, Option.some.injEq] at hi; subst hi; exact hag⟩
    obtain ⟨w', F', h1, h2, h3⟩ := hd hI (hr m) (hr i) (hr x)
    refine wpIn_of_skip (by simp [ho]) (w' := w') ?_ (hn undef w' ρ F' h2 h3 (.tup [] [] rfl (fun j x v h _ => by simp at h)))
    simp [execOp, ho, h1]
  · cases h

/-! Values written out: the same value, in normal form (for runs in the kernel; only where rows may name blocks, X.pk = false). -/

section
variable {α : Type}
def fzN (n : Nat) (k : Nat → Option R) : Option R := match n with | 0 => k 0 | m + 1 => k (Nat.succ m)
def fzI (n : Int) (k : Int → Option R) : Option R := match n with | .ofNat m => fzN m fun m => k (.ofNat m) | .negSucc m => fzN m fun m => k (.negSucc m)
theorem fzN_eq (n : Nat) (k : Nat → Option R) : fzN n k = k n := by cases n <;> rfl
theorem fzI_eq (n : Int) (k : Int → Option R) : fzI n k = k n := by cases n <;> (unfold fzI; exact fzN_eq _ fun _ => _)
noncomputable def fzL (f : α → (α → Option R) → Option R) (l : List α) : (List α → Option R) → Option R :=
  List.rec (motive := fun _ => (List α → Option R) → Option R) (fun k => k []) (fun x _ ih k => f x fun x' => ih fun l' => k (x' :: l')) l
theorem fzL_eq {f : α → (α → Option R) → Option R} (hf : ∀ x k, f x k = k x) : ∀ (l : List α) (k : List α → Option R), fzL f l k = k l
  | [], _ => rfl
  | x :: l, k => by
    show f x (fun x' => fzL f l fun l' => k (x' :: l')) = k (x :: l)
    rw [hf, fzL_eq hf l]
def fz0 (x : AV) (k : AV → Option R) : Option R :=
  match x with
  | .int kd n => fzI n fun n => k (.int kd n)
  | .bool b => (match b with | true => k (.bool true) | false => k (.bool false))
  | .ptr id i off => fzN id fun id => fzN i fun i => fzN off fun off => k (.ptr id i off)
  | .own id => fzN id fun id => k (.own id)
  | .yld id => fzN id fun id => k (.yld id)
  | .mp id => fzN id fun id => k (.mp id)
  | .vsl id n => fzN id fun id => fzN n fun n => k (.vsl id n)
  | x => k x
theorem fz0_eq (x : AV) (k : AV → Option R) : fz0 x k = k x := by
  cases x <;> simp only [fz0, fzI_eq, fzN_eq]
  split <;> rfl
noncomputable def fz1 (x : AV) (k : AV → Option R) : Option R :=
  match x with
  | .agg cs => fzL fz0 cs fun cs => k (.agg cs)
  | .clos f a b => fzL fz0 a fun a => fzL fz0 b fun b => k (.clos f a b)
  | x => fz0 x k
theorem fz1_eq (x : AV) (k : AV → Option R) : fz1 x k = k x := by
  unfold fz1
  split
  · exact fzL_eq fz0_eq _ _
  · rw [fzL_eq fz0_eq, fzL_eq fz0_eq]
  · exact fz0_eq _ _
noncomputable def fz2 (x : AV) (k : AV → Option R) : Option R :=
  match x with
  | .tup cs => fzL fz1 cs fun cs => k (.tup cs)
  | x => fz1 x k
theorem fz2_eq (x : AV) (k : AV → Option R) : fz2 x k = k x := by
  unfold fz2
  split
  · exact fzL_eq fz1_eq _ _
  · exact fz1_eq _ _
noncomputable def fzE (e : AV × AV) (k : AV × AV → Option R) : Option R := fz0 e.1 fun a => fz1 e.2 fun b => k (a, b)
theorem fzE_eq (e : AV × AV) (k : AV × AV → Option R) : fzE e k = k e := by unfold fzE; rw [fz0_eq, fz1_eq]
noncomputable def fzB (b : Blk) (k : Blk → Option R) : Option R :=
  match b with
  | .var ks cs => fzL fz1 cs fun cs => k (.var ks cs)
  | .row t xs => fzL (fzL fz1) xs fun xs => k (.row t xs)
  | .map kd ag ks es => fzL fzE es fun es => k (.map kd ag ks es)
  | b => k b
theorem fzB_eq (b : Blk) (k : Blk → Option R) : fzB b k = k b := by
  unfold fzB
  split
  · exact fzL_eq fz1_eq _ _
  · exact fzL_eq (fun _ _ => fzL_eq fz1_eq _ _) _ _
  · exact fzL_eq fzE_eq _ _
  · rfl
/-- Up to a block, which is written out. -/
noncomputable def fzAt (M : List Blk) (id : Nat) (k : List Blk → Option R) : Option R :=
  List.rec (motive := fun _ => Nat → (List Blk → Option R) → Option R) (fun _ k => k []) (fun b tl ih n k => Nat.rec (motive := fun _ => Option R) (fzB b fun b => k (b :: tl)) (fun m _ => ih m fun l => k (b :: l)) n) M id k
theorem fzAt_eq : ∀ (M : List Blk) (id : Nat) (k : List Blk → Option R), fzAt M id k = k M
  | [], _, _ => rfl
  | b :: M, 0, k => by
    show (fzB b fun b => k (b :: M)) = _
    rw [fzB_eq]
  | b :: M, n + 1, k => by
    show (fzAt M n fun l => k (b :: l)) = _
    rw [fzAt_eq M n]
/-- To the end; the last block is written out. -/
noncomputable def fzEnd (M : List Blk) (k : List Blk → Option R) : Option R :=
  List.rec (motive := fun _ => (List Blk → Option R) → Option R) (fun k => k []) (fun b tl ih k => List.rec (motive := fun _ => Option R) (fzB b fun b => k [b]) (fun _ _ _ => ih fun l => k (b :: l)) tl) M k
theorem fzEnd_eq : ∀ (M : List Blk) (k : List Blk → Option R), fzEnd M k = k M
  | [], _ => rfl
  | [b], k => by
    show (fzB b fun b => k [b]) = _
    rw [fzB_eq]
  | b :: c :: M, k => by
    show (fzEnd (c :: M) fun l => k (b :: l)) = _
    rw [fzEnd_eq (c :: M)]
/-- What an operation has made or written, written out. -/
noncomputable def fzOp (e : Operand → AV) (o : Oper) (k : AV → List Blk → Option R) (x : AV) (M : List Blk) : Option R :=
  match o.op with
  | .store _ p _ => (match e p with | .ptr id _ _ => fzAt M id fun M => k x M | _ => k x M)
  | .mapUpdate _ m _ _ => (match e m with | .mp id => fzAt M id fun M => k x M | _ => k x M)
  | .insert _ m _ _ => (match e m with | .mp id => fzAt M id fun M => k x M | _ => k x M)
  | .alloc _ => fz2 x fun x => fzEnd M fun M => k x M
  | .box _ _ => fz2 x fun x => fzEnd M fun M => k x M
  | .makeSlice _ _ _ => fz2 x fun x => fzEnd M fun M => k x M
  | .buildSlice _ _ _ => fz2 x fun x => fzEnd M fun M => k x M
  | .makeMap _ _ => fz2 x fun x => fzEnd M fun M => k x M
  | .slice _ _ _ _ _ => fz2 x fun x => fzEnd M fun M => k x M
  | .call c => (match c.callee with | .value _ => k x M | .builtin .append => fz2 x fun x => fzEnd M fun M => k x M | _ => fz2 x fun x => k x M)
  | _ => fz2 x fun x => k x M
theorem fzOp_eq (e : Operand → AV) (o : Oper) (k : AV → List Blk → Option R) (x : AV) (M : List Blk) : fzOp e o k x M = k x M := by
  unfold fzOp
  split <;> try (simp only [fz2_eq, fzEnd_eq]; done)
  · split
    · exact fzAt_eq _ _ _
    · rfl
  · split
    · exact fzAt_eq _ _ _
    · rfl
  · split
    · exact fzAt_eq _ _ _
    · rfl
  · split
    · rfl
    · simp only [fz2_eq, fzEnd_eq]
    · exact fz2_eq _ _
end

noncomputable def evop (X : Cx) (T : Tab R) (e : Operand → AV) (o : Oper) (M : List Blk) (k : AV → List Blk → Option R) : Option R :=
  match X.pk with
  | true => evop0 X T e o M k
  | false => evop0 X T e o M (fzOp e o k)
theorem evop_eq (X : Cx) (T : Tab R) (e : Operand → AV) (o : Oper) (M : List Blk) (k : AV → List Blk → Option R) : evop X T e o M k = evop0 X T e o M k := by
  unfold evop
  split
  · rfl
  · rw [show fzOp e o k = k from funext fun x => funext fun M => fzOp_eq e o k x M]
theorem evop_sound (hX : X.Okb) {T : Tab R} (hT : T.CallOk X) {e : Operand → AV} {o : Oper} {k : AV → List Blk → Option R} {r : R} (h : evop X T e o M k = some r) :
    ∃ x M', OpRuns X o e M x M' ∧ k x M' = some r ∧ ∀ ids, wrIds T e o M = some ids → Agree ids M M' := evop0_sound hX hT (by rwa [evop_eq] at h)

end
end Go.Eng

namespace Go.Eng
open Go
noncomputable section

variable {X : Cx} {R : Type}

/-- Without block D. -/
def less (F : Addr → Prop) (D : Nat) (a : Addr) : Prop := F a ∧ a.block ≠ D

theorem Rep.shrink {K : TypeId → List Kind} {ρ : List Hd} {F : Addr → Prop} {w : World} {D : Nat} (hD : ∀ a v, a.block = D → w.cell? a ≠ some v) {x : AV} {v : Value} (h : Rep K ρ F w x v) : Rep K ρ (less F D) w x v := by
  induction h with
  | top v => exact .top v
  | int k n => exact .int k n
  | bool b => exact .bool b
  | str s => exact .str s
  | agg cs vs hl _ ih => exact .agg cs vs hl ih
  | tup cs vs hl _ ih => exact .tup cs vs hl ih
  | nilp => exact .nilp
  | iptr t row off a vs hk hl hc _ ih => exact .iptr t row off a vs hk hl (fun j v hv => ⟨(hc j v hv).1, (hc j v hv).2, fun e => hD _ v e (hc j v hv).1⟩) ih
  | ptr id i off hd g o n c hid hv => exact .ptr id i off hd g o n c hid hv
  | list0 t => exact .list0 t
  | list t xs a cap vss hl hcap hmax hk hc _ ih =>
    exact .list t xs a cap vss hl hcap hmax hk (fun i vs hvs => ⟨(hc i vs hvs).1, fun j v hv => ⟨((hc i vs hvs).2 j v hv).1, ((hc i vs hvs).2 j v hv).2, fun e => hD _ v e ((hc i vs hvs).2 j v hv).1⟩⟩) ih
  | own id hd hid => exact .own id hd hid
  | nilsl => exact .nilsl
  | clos f first caps vf vc hf hc _ _ ih1 ih2 => exact .clos f first caps vf vc hf hc ih1 ih2
  | nilfn => exact .nilfn
  | yld id hd g hid hv => exact .yld id hd g hid hv
  | mp id hd hid => exact .mp id hd hid
  | nilmp => exact .nilmp
  | vsl id m hd g o n c cap hid hv => exact .vsl id m hd g o n c cap hid hv

theorem cell_ne_of_loop {w : World} {D : Nat} {lp : Loop} (h : w.heap[D]? = some (.loop lp)) : ∀ (a : Addr) v, a.block = D → w.cell? a ≠ some v := by
  intro a v e hc
  subst e
  simp [World.cell?, h] at hc
theorem cell_ne_of_deferred {w : World} {D : Nat} {ds : Option (List Deferred)} (h : w.heap[D]? = some (.deferred ds)) : ∀ (a : Addr) v, a.block = D → w.cell? a ≠ some v := by
  intro a v e hc
  subst e
  simp [World.cell?, h] at hc

theorem cell_putObj {w : World} {D : Nat} {o : Obj} {a : Addr} (h : a.block ≠ D) : (w.putObj D o).cell? a = w.cell? a := by
  unfold World.cell?
  rw [World.putObj_heap_other h]

/-- From the world before to the one in which block D (no cells) is another: without D's addresses. -/
theorem Rep.less {K : TypeId → List Kind} {ρ : List Hd} {F : Addr → Prop} {w : World} {D : Nat} (hD : ∀ a v, a.block = D → w.cell? a ≠ some v) (o : Obj) {x : AV} {v : Value} (h : Rep K ρ F w x v) : Rep K ρ (less F D) (w.putObj D o) x v :=
  (h.shrink hD).mono (fun _ _ h => h) (fun _ h => h) (fun a v ha hc => by rw [cell_putObj ha.2]; exact hc)

theorem EnvRep.less {ρ : List Hd} {F : Addr → Prop} {w : World} {D : Nat} (hD : ∀ a v, a.block = D → w.cell? a ≠ some v) (o : Obj) {env : List (Nat × AV)} {tmps : Array Value} (h : EnvRep X ρ F w env tmps) : EnvRep X ρ (less F D) (w.putObj D o) env tmps :=
  fun t => (h t).less hD o

theorem BRep.less {ρ : List Hd} {F : Addr → Prop} {w : World} {D : Nat} (hD : ∀ a v, a.block = D → w.cell? a ≠ some v) (o : Obj) {hd : Hd} {b : Blk} (hne : b.isDead = false → ∀ g, hd.blk? = some g → g ≠ D) (h : BRep X ρ F w hd b) : BRep X ρ (less F D) (w.putObj D o) hd b := by
  cases b with
  | var ks cs =>
    obtain ⟨h1, h2, g, cur, e, hv, hh, hr⟩ := h
    exact ⟨h1, h2, g, cur, e, hv, by rw [World.putObj_heap_other (hne rfl g (by simp [Hd.blk?, Value.blk?, hv]))]; exact hh, hr.1, fun j x v hx hv => (hr.2 j x v hx hv).less hD o⟩
  | row t xs =>
    obtain ⟨h1, h2, h3⟩ := h
    refine ⟨h1, h2, ?_⟩
    rcases h3 with h3 | ⟨g, of, c, cur, hv, hh, h4, h5, h6, h7⟩
    · exact .inl h3
    · refine .inr ⟨g, of, c, cur, hv, by rw [World.putObj_heap_other (hne rfl g (by simp [Hd.blk?, Value.blk?, hv]))]; exact hh, h4, h5, h6, fun i row hi j x hx => ?_⟩
      obtain ⟨v, hcv, hr⟩ := h7 i row hi j x hx
      exact ⟨v, hcv, hr.less hD o⟩
  | map kd ag ks es =>
    obtain ⟨hkd, g, mes, clock, hv, hh, hsz, hes⟩ := h
    exact ⟨hkd, g, mes, clock, hv, by rw [World.putObj_heap_other (hne rfl g (by simp [Hd.blk?, Value.blk?, hv]))]; exact hh, hsz, fun i e me he hm => let ⟨a, r1, r2⟩ := hes i e me he hm; ⟨a, r1.less hD o, r2.less hD o⟩⟩
  | loop s env busy pend =>
    obtain ⟨g, lp, hv, hh, h1, h2, h3, h4, h5, h6⟩ := h
    exact ⟨g, lp, hv, by rw [World.putObj_heap_other (hne rfl g (by simp [Hd.blk?, Value.blk?, hv]))]; exact hh, h1, h2, h3, h4, h5.less hD o, h6⟩
  | dfr =>
    obtain ⟨g, hv, hh⟩ := h
    exact ⟨g, hv, by rw [World.putObj_heap_other (hne rfl g (by simp [Hd.blk?, Value.blk?, hv]))]; exact hh⟩
  | fro t xs => exact Rep.less (K := X.K) hD o h
  | dead => trivial

/-- A block that is kept (and holds no cells) is written, and kept no more. -/
theorem Inv.write_kept {w0 w : World} {S : Sc} {F : Addr → Prop} {ρ : List Hd} {M : List Blk} (hI : Inv X w0 S F ρ M w) {D : Nat} (hF : F ⟨D, 0, none⟩) (hD : ∀ a v, a.block = D → w.cell? a ≠ some v) (hN : ∀ a, S.F0 a → a.block ≠ D) (o : Obj) :
    Inv X w0 S (less F D) ρ M (w.putObj D o) where
  os := hI.os
  tape := hI.tape
  output := hI.output
  size := by simpa using hI.size
  frame := fun g h1 h2 => by
    have hne : g ≠ D := by
      rintro rfl
      rcases hI.old _ hF with h | h | h
      · exact hN _ h rfl
      · exact h2 h
      · simp only at h; omega
    rw [World.putObj_heap_other hne]; exact hI.frame g h1 h2
  len := hI.len
  rep := fun id b hd hb hh => (hI.rep id b hd hb hh).less hD o (fun hdd g hgb e => (hI.sep id b hd g hb hdd hh hgb).2.2 _ hF e.symm)
  sep := fun id b hd g hb hdd hh hgb => let ⟨a1, a2, a3⟩ := hI.sep id b hd g hb hdd hh hgb; ⟨by simpa using a1, a2, fun a ha => a3 a ha.1⟩
  disj := hI.disj
  fz := fun a ha => by simpa using hI.fz a ha.1
  glob := fun g => (hI.glob g).less hD o
  one := hI.one
  old := fun a ha => hI.old a ha.1
  fin := fun a ha => ⟨hI.fin a ha, hN a ha⟩

/-- A block of ours that was laid aside is taken up again. -/
theorem Inv.revive {w0 w : World} {S : Sc} {F : Addr → Prop} {ρ : List Hd} {M : List Blk} (hI : Inv X w0 S F ρ M w) {id : Nat} {b : Blk} {hd : Hd} {g : Nat} (hdead : M[id]? = some .dead) (hh : ρ[id]? = some hd) (hgb : hd.blk? = some g)
    (h1 : g < w.heap.size) (h2 : S g ∨ w0.heap.size ≤ g) (h3 : ∀ a, F a → a.block ≠ g) (h4 : ∀ (id' : Nat) b' hd', M[id']? = some b' → b'.isDead = false → ρ[id']? = some hd' → hd'.blk? ≠ some g) (hrep : BRep X ρ F w hd b) :
    Inv X w0 S F ρ (M.set id b) w where
  os := hI.os
  tape := hI.tape
  output := hI.output
  size := hI.size
  frame := hI.frame
  len := by simp [hI.len]
  rep := fun i b' hd' hb hh' => by
    rw [List.getElem?_set] at hb
    split at hb
    · rename_i e; subst e
      split at hb
      · injection hb with hb; subst hb; rw [hh] at hh'; injection hh' with hh'; subst hh'; exact hrep
      · cases hb
    · exact hI.rep i b' hd' hb hh'
  sep := fun i b' hd' g' hb hdd hh' hgb' => by
    rw [List.getElem?_set] at hb
    split at hb
    · rename_i e; subst e
      rw [hh] at hh'; injection hh' with hh'; subst hh'; rw [hgb] at hgb'; injection hgb' with e; subst e
      exact ⟨h1, h2, h3⟩
    · exact hI.sep i b' hd' g' hb hdd hh' hgb'
  disj := fun i j b1 b2 hd1 hd2 g' hij hb1 hb2 hd1' hd2' hh1 hh2 hg1 hg2 => by
    rw [List.getElem?_set] at hb1 hb2
    split at hb1
    · rename_i e; subst e
      rw [if_neg hij] at hb2
      rw [hh] at hh1; injection hh1 with hh1; subst hh1; rw [hgb] at hg1; injection hg1 with e; subst e
      exact h4 j b2 hd2 hb2 hd2' hh2 hg2
    · split at hb2
      · rename_i e; subst e
        rw [hh] at hh2; injection hh2 with hh2; subst hh2; rw [hgb] at hg2; injection hg2 with e; subst e
        exact h4 i b1 hd1 hb1 hd1' hh1 hg1
      · exact hI.disj i j b1 b2 hd1 hd2 g' hij hb1 hb2 hd1' hd2' hh1 hh2 hg1 hg2
  fz := hI.fz
  glob := hI.glob
  one := hI.one
  old := hI.old
  fin := hI.fin

end
end Go.Eng

namespace Go.Eng
open Go
noncomputable section

variable {X : Cx} {R : Type}

/-- Whose activation it is: a function's; not known; a round's of the loop with this record. -/
inductive Rd where
  | out
  | unk
  | at (id : Nat)
  deriving Inhabited, DecidableEq
/-- The round's loop, if it is a round; how great the heap was when the activation began. -/
structure Cy where
  r : Option Nat
  db : Addr → Prop
  tv : Nat → Value

/-- What is known of an activation: its variables, the memory, the marks of its loops over functions, the loop of which it is a round. -/
structure St where
  env : List (Nat × AV)
  mem : List Blk
  dfs : List Nat
  rd : Rd

/-- The marks that loops over functions lay among the deferred calls. -/
def Marks (F : Addr → Prop) (w : World) (db : Addr → Prop) (ds : List Deferred) : Prop :=
  (∀ a, db a → F a) ∧ ∃ ms : List Nat, ds = ms.map (fun D => ({ target := .collected D, args := #[] } : Deferred)) ∧ ms.Nodup ∧ ∀ D ∈ ms, (∀ a, db a → a.block ≠ D) ∧ F ⟨D, 0, none⟩ ∧ w.heap[D]? = some (.deferred (some []))
def DefRep (F : Addr → Prop) (w : World) (db : Addr → Prop) : List Nat → List Deferred → Prop
  | [], ds => Marks F w db ds
  | _ :: _, _ => False
def RdRep (F : Addr → Prop) (w : World) (rdc : Option Nat) : Prop := rdc = none ∨ ∃ g r, rdc = some g ∧ F ⟨g, 0, none⟩ ∧ w.heap[g]? = some (.loop r)

theorem Marks.nil (F : Addr → Prop) (w : World) {db : Addr → Prop} (h : ∀ a, db a → F a) : Marks F w db [] := ⟨h, [], rfl, List.nodup_nil, fun _ h => by simp at h⟩
theorem Marks.mono {F F' : Addr → Prop} {w w' : World} {db : Addr → Prop} (hF : ∀ a, F a → F' a) (hb : ∀ a, F a → w'.heap[a.block]? = w.heap[a.block]?) {ds : List Deferred} (h : Marks F w db ds) : Marks F' w' db ds := by
  obtain ⟨h0, ms, h1, h2, h3⟩ := h
  exact ⟨fun a ha => hF _ (h0 a ha), ms, h1, h2, fun D hD => ⟨(h3 D hD).1, hF _ (h3 D hD).2.1, (hb _ (h3 D hD).2.1).trans (h3 D hD).2.2⟩⟩
theorem DefRep.mono {F F' : Addr → Prop} {w w' : World} {db : Addr → Prop} (hF : ∀ a, F a → F' a) (hb : ∀ a, F a → w'.heap[a.block]? = w.heap[a.block]?) : ∀ {ids : List Nat} {ds : List Deferred}, DefRep F w db ids ds → DefRep F' w' db ids ds
  | [], _, hd => Marks.mono hF hb hd
theorem RdRep.mono {F F' : Addr → Prop} {w w' : World} (hF : ∀ a, F a → F' a) (hb : ∀ a, F a → w'.heap[a.block]? = w.heap[a.block]?) {rdc : Option Nat} (hr : RdRep F w rdc) : RdRep F' w' rdc := by
  rcases hr with h | ⟨g, r, h1, h2, h3⟩
  · exact .inl h
  · exact .inr ⟨g, r, h1, hF _ h2, (hb _ h2).trans h3⟩

structure Sim (X : Cx) (nt : Nt) (st : St) (rdc : Cy) (F : Addr → Prop) (ρ : List Hd) (a : Act) (w : World) : Prop where
  env : EnvRep X ρ F w st.env a.tmps
  size : a.tmps.size = nt.n
  defs : DefRep F w rdc.db st.dfs a.defers
  rd : RdRep F w rdc.r
  kept : ∀ t, nt.mask.testBit t = false → a.tmps.getD t undef = rdc.tv t

theorem Sim.grow {nt : Nt} {st : St} {rdc : Cy} {F F' : Addr → Prop} {ρ ρ' : List Hd} {a : Act} {w w' : World} (h : Sim X nt st rdc F ρ a w) (g : Grow F F' ρ ρ' w w') : Sim X nt st rdc F' ρ' a w' :=
  ⟨h.env.grow g, h.size, h.defs.mono g.hF g.hb, h.rd.mono g.hF g.hb, h.kept⟩

/-- A piece of code, from what is known before to what is known behind it. -/
def CodeRuns (X : Cx) (nt : Nt) (c : Code) (st : St) (e : Exit) (st' : St) : Prop :=
  ∀ {rdc : Cy} {n : Nat} {w0 : World} {S : Sc} {F : Addr → Prop} {ρ : List Hd} {a : Act} {w : World} {Q : Exit → Act → World → Prop}, Inv X w0 S F ρ st.mem w → Sim X nt st rdc F ρ a w →
    (∀ a' w' F' ρ', Inv X w0 S F' ρ' st'.mem w' → Sim X nt st' rdc F' ρ' a' w' → Grow F F' ρ ρ' w w' → Q e a' w') → c.wpIn (fen rdc.r) n X.P Q a w

def filt (keep : List Nat) (env : List (Nat × AV)) : List (Nat × AV) := env.filter fun p => keep.contains p.1
theorem look_filt (keep : List Nat) : ∀ (env : List (Nat × AV)) (t : Nat), look (filt keep env) t = if keep.contains t then look env t else .top
  | [], t => by simp [filt, look_cons, look_nil]
  | (u, x) :: env, t => by
    have ih := look_filt keep env t
    unfold filt at *
    rw [List.filter_cons]
    by_cases hu : keep.contains u = true
    · rw [if_pos hu]
      simp only [look_cons, look_nil]
      by_cases ht : t = u
      · subst ht; rw [if_pos hu]; simp
      · have : (t == u) = false := by simpa using ht
        simp only [this, Bool.false_eq_true, if_false, ih]
    · rw [if_neg hu, ih]
      by_cases hk : keep.contains t = true
      · rw [if_pos hk, if_pos hk]
        have ht : (t == u) = false := by
          by_cases ht : t = u
          · subst ht; exact absurd hk hu
          · simpa using ht
        simp only [look_cons, look_nil, ht, Bool.false_eq_true, if_false]
      · rw [if_neg hk, if_neg hk]
theorem EnvRep.filt {ρ : List Hd} {F : Addr → Prop} {w : World} {env : List (Nat × AV)} {tmps : Array Value} (h : EnvRep X ρ F w env tmps) (keep : List Nat) : EnvRep X ρ F w (filt keep env) tmps := by
  intro t
  rw [look_filt]
  split
  · exact h t
  · exact .top _

def putD (nt : Nt) (st : St) (dst : Option Tmp) (x : AV) (M : List Blk) (k : St → Option R) : Option R :=
  match dst with
  | none => k { st with mem := M }
  | some d => tst (Nat.blt d nt.n && nt.mask.testBit d) (k { st with env := (d, x) :: st.env, mem := M })

theorem EnvRep.put {ρ : List Hd} {F : Addr → Prop} {w : World} {env : List (Nat × AV)} {tmps : Array Value} (h : EnvRep X ρ F w env tmps) {d : Nat} (hd : d < tmps.size) {x : AV} {v : Value} (hx : Rep X.K ρ F w x v) :
    EnvRep X ρ F w ((d, x) :: env) (tmps.setIfInBounds d v) := by
  intro t
  simp only [look_cons, look_nil]
  by_cases ht : t = d
  · subst ht
    simp only [beq_self_eq_true, if_true]
    have : (tmps.setIfInBounds t v).getD t undef = v := by simp [Array.getD_eq_getD_getElem?, hd]
    rw [this]
    exact hx
  · have : (t == d) = false := by simpa using ht
    simp only [this, Bool.false_eq_true, if_false]
    have e : (tmps.setIfInBounds d v).getD t undef = tmps.getD t undef := by simp [Array.getD_eq_getD_getElem?, Array.getElem?_setIfInBounds_ne (Ne.symm ht)]
    rw [e]
    exact h t

theorem kept_put {mask d : Nat} (hd : mask.testBit d = true) {a : Act} {tv : Nat → Value} (h : ∀ t, mask.testBit t = false → a.tmps.getD t undef = tv t) {v : Value} : ∀ t, mask.testBit t = false → (a.put (some d) v).tmps.getD t undef = tv t := by
  intro t ht
  have hne : d ≠ t := fun e => by subst e; rw [hd] at ht; cases ht
  rw [← h t ht]
  simp [Act.put, Array.getD_eq_getD_getElem?, Array.getElem?_setIfInBounds_ne hne]

theorem Sim.put {nt : Nt} {st : St} {rdc : Cy} {F : Addr → Prop} {ρ : List Hd} {a : Act} {w : World} (h : Sim X nt st rdc F ρ a w) {dst : Option Tmp} {x : AV} {v : Value} (hx : Rep X.K ρ F w x v) {M : List Blk} {k : St → Option R} {r : R} (hk : putD nt st dst x M k = some r) :
    ∃ st', k st' = some r ∧ st'.mem = M ∧ ∀ {rdc : Cy} {F : Addr → Prop} {ρ : List Hd} {a : Act} {w : World} {v : Value}, Sim X nt st rdc F ρ a w → Rep X.K ρ F w x v → Sim X nt st' rdc F ρ (a.put dst v) w := by
  unfold putD at hk
  cases dst with
  | none => exact ⟨_, hk, rfl, fun {rdc F ρ a w v} h _ => ⟨h.env, h.size, h.defs, h.rd, h.kept⟩⟩
  | some d =>
    replace hk := tst_some hk
    obtain ⟨hd, hk⟩ := hk
    refine ⟨_, hk, rfl, fun {rdc F ρ a w v} h hx => ⟨h.env.put (by rw [h.size]; simp only [Bool.and_eq_true] at hd; simpa using hd.1) hx, by simp [Act.put, h.size], h.defs, h.rd, kept_put (by simp only [Bool.and_eq_true] at hd; exact hd.2) h.kept⟩⟩

theorem putD_some {nt : Nt} {st : St} {dst : Option Tmp} {x : AV} {M : List Blk} {k : St → Option R} {r : R} (hk : putD nt st dst x M k = some r) :
    ∃ st', k st' = some r ∧ st'.mem = M ∧ ∀ {rdc : Cy} {F : Addr → Prop} {ρ : List Hd} {a : Act} {w : World} {v : Value}, Sim X nt st rdc F ρ a w → Rep X.K ρ F w x v → Sim X nt st' rdc F ρ (a.put dst v) w := by
  unfold putD at hk
  cases dst with
  | none => exact ⟨_, hk, rfl, fun {rdc F ρ a w v} h _ => ⟨h.env, h.size, h.defs, h.rd, h.kept⟩⟩
  | some d =>
    replace hk := tst_some hk
    obtain ⟨hd, hk⟩ := hk
    refine ⟨_, hk, rfl, fun {rdc F ρ a w v} h hx => ⟨h.env.put (by rw [h.size]; simp only [Bool.and_eq_true] at hd; simpa using hd.1) hx, by simp [Act.put, h.size], h.defs, h.rd, kept_put (by simp only [Bool.and_eq_true] at hd; exact hd.2) h.kept⟩⟩

/-- The slot of the operation that a guard looks at. -/
def gslot (ops : Array Oper) (j : Nat) : Option Nat := (ops[j]?).bind (·.dst)

/-- Operations one after the other. -/
def evops (X : Cx) (T : Tab R) (ops : Array Oper) : List Oper → St → (St → Option R) → Option R
  | [], st, k => k st
  | o :: rest, st, k =>
    match o.guard with
    | none => evop X T (evv X st.env) o st.mem fun x M => putD T.nt st o.dst x M fun st' => evops X T ops rest st' k
    | some (j, want) =>
      match gslot ops j with
      | none => none
      | some d =>
        match look st.env d with
        | .bool b =>
          match b with
          | true => match want with
            | true => evop X T (evv X ((d, .bool true) :: st.env)) o st.mem fun x M => putD T.nt { st with env := (d, .bool true) :: st.env } o.dst x M fun st' => evops X T ops rest st' k
            | false => putD T.nt { st with env := (d, .bool true) :: st.env } o.dst (.tup []) st.mem fun st' => evops X T ops rest st' k
          | false => match want with
            | false => evop X T (evv X ((d, .bool false) :: st.env)) o st.mem fun x M => putD T.nt { st with env := (d, .bool false) :: st.env } o.dst x M fun st' => evops X T ops rest st' k
            | true => putD T.nt { st with env := (d, .bool false) :: st.env } o.dst (.tup []) st.mem fun st' => evops X T ops rest st' k
        | .tup [] => putD T.nt st o.dst (.tup []) st.mem fun st' => evops X T ops rest st' k
        | _ => none

theorem rep_undef {K : TypeId → List Kind} {ρ : List Hd} {F : Addr → Prop} {w : World} : Rep K ρ F w (.tup []) undef := .tup [] [] rfl (fun j x v h _ => by simp at h)

theorem yielded_of {ops : Array Oper} {j d : Nat} (hd : gslot ops j = some d) {tmps : Array Value} {b : Bool} (h : tmps.getD d undef = .bool b) : yielded ops tmps j = some b := by
  unfold yielded
  unfold gslot at hd
  rw [hd]
  simp only [Option.bind_some]
  rw [Array.getD_eq_getD_getElem?] at h
  cases ht : tmps[d]? with
  | none => rw [ht] at h; simp [undef] at h
  | some v => rw [ht] at h; simp only [Option.getD_some] at h; rw [h]
theorem yielded_undef {ops : Array Oper} {j d : Nat} (hd : gslot ops j = some d) {tmps : Array Value} (h : tmps.getD d undef = undef) : yielded ops tmps j = none := by
  unfold yielded
  unfold gslot at hd
  rw [hd]
  simp only [Option.bind_some]
  rw [Array.getD_eq_getD_getElem?] at h
  cases ht : tmps[d]? with
  | none => rfl
  | some v => rw [ht] at h; simp only [Option.getD_some] at h; rw [h]; rfl

/-- Operation number i, then the rest. -/
theorem wpOpsIn_cons' {rdc : Cy} {n : Nat} {ops : Array Oper} {Q : Exit → Act → World → Prop} {i : Nat} {rest : List Nat} {o : Oper} (ho : ops[i]? = some o) {a : Act} {w : World}
    (h : wpOpIn (fen rdc.r) n X.P ops Q i (wpOpsIn (fen rdc.r) n X.P ops Q rest) a w) : wpOpsIn (fen rdc.r) n X.P ops Q (i :: rest) a w := by
  rw [wpOpsIn_cons]; exact h

/-- What one operation does, its guard and all: from state to state. -/
def OneRuns (X : Cx) (nt : Nt) (ops : Array Oper) (o : Oper) (st st' : St) : Prop :=
  ∀ {rdc : Cy} {n : Nat} {w0 : World} {S : Sc} {F : Addr → Prop} {ρ : List Hd} {a : Act} {w : World} {Q : Exit → Act → World → Prop} {K : Act → World → Prop}, Inv X w0 S F ρ st.mem w → Sim X nt st rdc F ρ a w →
    (∀ a' w' F' ρ', Inv X w0 S F' ρ' st'.mem w' → Sim X nt st' rdc F' ρ' a' w' → Grow F F' ρ ρ' w w' → K a' w') →
    ∀ i, ops[i]? = some o → wpOpIn (fen rdc.r) n X.P ops Q i K a w

theorem one_run {nt : Nt} {ops : Array Oper} {o : Oper} {st stg st' : St} {x : AV} {M' : List Blk} (hop : OpRuns X o (evv X stg.env) st.mem x M')
    (hg : ∀ {rdc : Cy} {F : Addr → Prop} {ρ : List Hd} {a : Act} {w : World}, Sim X nt st rdc F ρ a w → Sim X nt stg rdc F ρ a w ∧ Region.wanted o (yielded ops a.tmps) = true)
    (hm : st'.mem = M') (hp : ∀ {rdc : Cy} {F : Addr → Prop} {ρ : List Hd} {a : Act} {w : World} {v : Value}, Sim X nt stg rdc F ρ a w → Rep X.K ρ F w x v → Sim X nt st' rdc F ρ (a.put o.dst v) w) : OneRuns X nt ops o st st' := by
  intro rdc n w0 S F ρ a w Q K hI hs hk i hi
  obtain ⟨hs', hw⟩ := hg hs
  unfold wpOpIn
  simp only [hi, hw, if_true]
  refine hop hI (fun y => evv_rep hI hs'.env y) ?_
  intro v w' ρ' F' hI' hgr hx
  exact hk _ w' F' ρ' (hm ▸ hI') (hp (hs'.grow hgr) hx) hgr

theorem one_skip {nt : Nt} {ops : Array Oper} {o : Oper} {st stg st' : St}
    (hg : ∀ {rdc : Cy} {F : Addr → Prop} {ρ : List Hd} {a : Act} {w : World}, Sim X nt st rdc F ρ a w → Sim X nt stg rdc F ρ a w ∧ Region.wanted o (yielded ops a.tmps) = false)
    (hm : st'.mem = st.mem) (hp : ∀ {rdc : Cy} {F : Addr → Prop} {ρ : List Hd} {a : Act} {w : World} {v : Value}, Sim X nt stg rdc F ρ a w → Rep X.K ρ F w (.tup []) v → Sim X nt st' rdc F ρ (a.put o.dst v) w) : OneRuns X nt ops o st st' := by
  intro rdc n w0 S F ρ a w Q K hI hs hk i hi
  obtain ⟨hs', hw⟩ := hg hs
  unfold wpOpIn
  simp only [hi, hw, Bool.false_eq_true, if_false]
  exact ⟨fun _ _ => trivial, hk _ w F ρ (hm ▸ hI) (hp hs' rep_undef) (Grow.refl _ _ _)⟩

theorem wanted_none {o : Oper} (h : o.guard = none) (y : Nat → Option Bool) : Region.wanted o y = true := by unfold Region.wanted; rw [h]
theorem wanted_some {o : Oper} {j : Nat} {want : Bool} (h : o.guard = some (j, want)) (y : Nat → Option Bool) : Region.wanted o y = (y j == some want) := by unfold Region.wanted; rw [h]

theorem Sim.refine {nt : Nt} {st : St} {rdc : Cy} {F : Addr → Prop} {ρ : List Hd} {a : Act} {w : World} (h : Sim X nt st rdc F ρ a w) {d : Nat} {x : AV} (hx : look st.env d = x) : Sim X nt { st with env := (d, x) :: st.env } rdc F ρ a w := by
  refine ⟨fun t => ?_, h.size, h.defs, h.rd, h.kept⟩
  simp only [look_cons, look_nil]
  by_cases ht : t = d
  · subst ht; simp only [beq_self_eq_true, if_true]; rw [← hx]; exact h.env t
  · have : (t == d) = false := by simpa using ht
    simp only [this, Bool.false_eq_true, if_false]
    exact h.env t

theorem evops_step (hX : X.Okb) {T : Tab R} (hT : T.CallOk X) {ops : Array Oper} {o : Oper} {rest : List Oper} {st : St} {k : St → Option R} {r : R} (h : evops X T ops (o :: rest) st k = some r) :
    ∃ st', OneRuns X T.nt ops o st st' ∧ evops X T ops rest st' k = some r := by
  simp only [evops] at h
  split at h
  · rename_i hgd
    obtain ⟨x, M', hop, h, _⟩ := evop_sound hX hT h
    obtain ⟨st', h, hm, hp⟩ := putD_some (X := X) h
    exact ⟨st', one_run (stg := st) hop (fun {rdc F ρ a w} hs => ⟨hs, wanted_none hgd _⟩) hm hp, h⟩
  · rename_i j want hgd
    split at h
    · cases h
    · rename_i d hd
      have ysome : ∀ {b : Bool}, look st.env d = .bool b → ∀ {rdc : Cy} {F : Addr → Prop} {ρ : List Hd} {a : Act} {w : World}, Sim X T.nt st rdc F ρ a w → yielded ops a.tmps j = some b := by
        intro b hb rdc F ρ a w hs
        have := hs.env d
        rw [hb] at this
        generalize hv : a.tmps.getD d undef = v at this
        cases this
        exact yielded_of hd hv
      have run : ∀ (b : Bool), look st.env d = .bool b → want = b → (evop X T (evv X ((d, .bool b) :: st.env)) o st.mem fun x M => putD T.nt { st with env := (d, .bool b) :: st.env } o.dst x M fun st' => evops X T ops rest st' k) = some r →
          ∃ st', OneRuns X T.nt ops o st st' ∧ evops X T ops rest st' k = some r := by
        intro b hb hwb h
        obtain ⟨x, M', hop, h, _⟩ := evop_sound hX hT h
        obtain ⟨st', h, hm, hp⟩ := putD_some (X := X) h
        refine ⟨st', one_run (stg := { st with env := (d, .bool b) :: st.env }) hop (fun {rdc F ρ a w} hs => ⟨hs.refine hb, ?_⟩) hm hp, h⟩
        rw [wanted_some hgd, ysome hb hs, hwb]
        simp
      have skip : ∀ (b : Bool), look st.env d = .bool b → want ≠ b → (putD T.nt { st with env := (d, .bool b) :: st.env } o.dst (.tup []) st.mem fun st' => evops X T ops rest st' k) = some r →
          ∃ st', OneRuns X T.nt ops o st st' ∧ evops X T ops rest st' k = some r := by
        intro b hb hwb h
        obtain ⟨st', h, hm, hp⟩ := putD_some (X := X) h
        refine ⟨st', one_skip (stg := { st with env := (d, .bool b) :: st.env }) (fun {rdc F ρ a w} hs => ⟨hs.refine hb, ?_⟩) hm hp, h⟩
        rw [wanted_some hgd, ysome hb hs]
        simp only [beq_eq_false_iff_ne, ne_eq, Option.some.injEq]
        exact fun e => hwb e.symm
      split at h
      · rename_i b hb
        split at h
        · split at h
          · exact run true hb rfl h
          · exact skip true hb (by simp) h
        · split at h
          · exact run false hb rfl h
          · exact skip false hb (by simp) h
      · rename_i hb
        obtain ⟨st', h, hm, hp⟩ := putD_some (X := X) h
        refine ⟨st', one_skip (stg := st) (fun {rdc F ρ a w} hs => ⟨hs, ?_⟩) hm hp, h⟩
        have := hs.env d
        rw [hb] at this
        generalize hv : a.tmps.getD d undef = v at this
        have hu : v = undef := by
          cases this with
          | tup _ vs hl _ => have : vs = [] := List.eq_nil_of_length_eq_zero (by simpa using hl); subst this; rfl
        rw [wanted_some hgd, yielded_undef hd (hv.trans hu)]
        simp
      · cases h

theorem evops_sound (hX : X.Okb) {T : Tab R} (hT : T.CallOk X) {ops : Array Oper} : ∀ (rest : List Oper) (m : Nat) {st : St} {k : St → Option R} {r : R}, (∀ (i : Nat), rest[i]? = ops[m + i]?) → evops X T ops rest st k = some r →
    ∃ st', k st' = some r ∧ ∀ {rdc : Cy} {n : Nat} {w0 : World} {S : Sc} {F : Addr → Prop} {ρ : List Hd} {a : Act} {w : World} {Q : Exit → Act → World → Prop}, Inv X w0 S F ρ st.mem w → Sim X T.nt st rdc F ρ a w →
      (∀ a' w' F' ρ', Inv X w0 S F' ρ' st'.mem w' → Sim X T.nt st' rdc F' ρ' a' w' → Grow F F' ρ ρ' w w' → Q .normal a' w') → wpOpsIn (fen rdc.r) n X.P ops Q ((List.range rest.length).map (m + ·)) a w
  | [], m, st, k, r, _, h => ⟨st, h, fun {rdc n w0 S F ρ a w Q} hI hs hq => hq a w F ρ hI hs (Grow.refl _ _ _)⟩
  | o :: rest, m, st, k, r, hr, h => by
    obtain ⟨st1, h1, h⟩ := evops_step hX hT h
    obtain ⟨st2, h, h2⟩ := evops_sound hX hT rest (m + 1) (fun i => by have := hr (i + 1); rw [show m + 1 + i = m + (i + 1) by omega]; simpa using this) h
    refine ⟨st2, h, fun {rdc n w0 S F ρ a w Q} hI hs hq => ?_⟩
    have ho : ops[m]? = some o := by have := hr 0; simpa using this.symm
    have hl : (List.range (o :: rest).length).map (m + ·) = m :: (List.range rest.length).map ((m + 1) + ·) := by
      rw [List.length_cons, List.range_succ_eq_map, List.map_cons, List.map_map]
      congr 1
      apply List.map_congr_left
      intro i _
      simp; omega
    rw [hl]
    refine wpOpsIn_cons' ho (h1 hI hs ?_ m ho)
    intro a' w' F' ρ' hI' hs' hg
    exact h2 hI' hs' (fun a'' w'' F'' ρ'' hI'' hs'' hg'' => hq a'' w'' F'' ρ'' hI'' hs'' (hg.trans hg''))

end
end Go.Eng

namespace Go.Eng
open Go
noncomputable section

variable {X : Cx} {R R' : Type} {M M' : List Blk}

/-- A function in continuation-passing form hands its continuation one value, whatever that is. -/
def Det (f : (R : Type) → (AV → Option R) → Option R) : Prop := ∀ {R : Type} {k : AV → Option R} {r : R}, f R k = some r → ∃ y, k y = some r ∧ ∀ (R' : Type) (k' : AV → Option R'), f R' k' = k' y

theorem det_bin (op : BinOp) (t : TypeId) (x y : AV) : Det fun _ k => evBin X op t x y k := by
  intro R k r h
  simp only [evBin] at h ⊢
  split at h
  · rename_i kx a ky b
    cases op <;> simp only at h ⊢ <;> first
      | (replace h := tst_some h; obtain ⟨e, h⟩ := h
         first
          | (exact ⟨_, h, fun R' k' => by simp only [e, tst]⟩)
          | (replace h := tst_some h; obtain ⟨e2, h⟩ := h
             exact ⟨_, h, fun R' k' => by simp only [e, e2, tst]⟩)
          | (cases h))
      | cases h
  · rename_i a b
    split at h
    · rename_i h1 h2
      exact ⟨_, h, fun R' k' => by simp only [h1, h2]⟩
    · rename_i h1 h2
      exact ⟨_, h, fun R' k' => by simp only [h1, h2]⟩
    · cases h
  · rename_i xs ys
    split at h
    · rename_i fs h1 h2 h3
      split at h
      · cases h
      · rename_i bb hbb
        split at h
        · exact ⟨_, h, fun R' k' => by simp only [h1, h2, h3, hbb]⟩
        · exact ⟨_, h, fun R' k' => by simp only [h1, h2, h3, hbb]⟩
        · cases h
    · cases h
  · cases h

theorem det_un (op : UnOp) (x : AV) : Det fun _ k => evUn op x k := by
  intro R k r h
  simp only [evUn] at h ⊢
  split at h
  · exact ⟨_, h, fun R' k' => rfl⟩
  · exact ⟨_, h, fun R' k' => rfl⟩
  · cases h
theorem det_conv (s d : TypeId) (x : AV) : Det fun _ k => evConv X s d x k := by
  intro R k r h
  simp only [evConv] at h ⊢
  split at h
  · rename_i h1 h2 h3
    exact ⟨_, h, fun R' k' => by simp only [h1, h2, h3]⟩
  · cases h
theorem det_nil (x : AV) : Det fun _ k => evNilCheck x k := by
  intro R k r h
  simp only [evNilCheck] at h ⊢
  split at h
  · exact ⟨_, h, fun R' k' => rfl⟩
  · exact ⟨_, h, fun R' k' => rfl⟩
  · exact ⟨_, h, fun R' k' => rfl⟩
  · cases h
theorem det_fieldAddr (t : TypeId) (x : AV) (f : Nat) : Det fun _ k => evFieldAddr X t x f k := by
  intro R k r h
  simp only [evFieldAddr] at h ⊢
  split at h
  · rename_i fs h1 h2
    split at h
    · rename_i off ft h3
      replace h := tst_some h
      obtain ⟨e, h⟩ := h
      split at h
      · exact ⟨_, h, fun R' k' => by simp only [h1, h2, h3, e, tst]⟩
      · exact ⟨_, h, fun R' k' => by simp only [h1, h2, h3, e, tst]⟩
      · cases h
    · cases h
  · cases h
theorem det_part (t : TypeId) (cs : List AV) (off : Nat) : Det fun _ k => evPart X t cs off k := by
  intro R k r h
  simp only [evPart] at h ⊢
  replace h := tst_some h
  obtain ⟨e, h⟩ := h
  split at h
  · rename_i h1
    exact ⟨_, h, fun R' k' => by simp only [h1, e, tst]⟩
  · rename_i h1
    replace h := tst_some h
    obtain ⟨e2, h⟩ := h
    exact ⟨_, h, fun R' k' => by simp only [h1, e, e2, tst]⟩
theorem det_field (t : TypeId) (x : AV) (f : Nat) : Det fun _ k => evField X t x f k := by
  intro R k r h
  simp only [evField] at h ⊢
  split at h
  · rename_i fs cs h1 h2
    split at h
    · rename_i off ft h3
      obtain ⟨y, h, hd⟩ := det_part _ _ _ h
      exact ⟨y, h, fun R' k' => hd R' k'⟩
    · cases h
  · cases h
theorem det_index (t : TypeId) (x i : AV) : Det fun _ k => evIndex X t x i k := by
  intro R k r h
  simp only [evIndex] at h ⊢
  split at h
  · rename_i len e cs kk n h1 h2
    replace h := tst_some h
    obtain ⟨e1, h⟩ := h
    obtain ⟨y, h, hd⟩ := det_part _ _ _ h
    exact ⟨y, h, fun R' k' => by simp only [h1, h2, e1, tst]; exact hd R' k'⟩
  · cases h
theorem det_build (t : TypeId) (ps : List (Nat × AV)) : Det fun _ k => evBuild X t ps k := by
  intro R k r h
  simp only [evBuild] at h ⊢
  split at h
  · rename_i fs h1 h2
    replace h := tst_some h
    obtain ⟨e1, h⟩ := h
    split at h
    · rename_i cs h3
      exact ⟨_, h, fun R' k' => by simp only [h1, h2, h3, e1, tst]⟩
    · cases h
  · rename_i n e h1 h2
    replace h := tst_some h
    obtain ⟨e1, h⟩ := h
    split at h
    · rename_i cs h3
      exact ⟨_, h, fun R' k' => by simp only [h1, h2, h3, e1, tst]⟩
    · cases h
  · cases h
theorem det_min (f : Int → Int → Int) (xs : List AV) : Det fun _ k => evMin f xs k := by
  intro R k r h
  simp only [evMin] at h ⊢
  split at h
  · split at h
    · rename_i h1
      exact ⟨_, h, fun R' k' => by simp only [h1]⟩
    · cases h
  · cases h

theorem mem_load {t : TypeId} {p : AV} {k : AV → Option R} {r : R} (h : evLoad X t p M k = some r) : ∃ y, k y = some r ∧ ∀ (M' : List Blk), (∀ id ∈ ptrIds p, M'[id]? = M[id]?) → ∀ (R' : Type) (k' : AV → Option R'), evLoad X t p M' k' = k' y := by
  unfold evLoad at h
  simp only [gm_eq] at h
  split at h
  · replace h := tst_some h
    obtain ⟨e, h⟩ := h
    split at h
    · rename_i h1
      exact ⟨_, h, fun M' _ R' k' => by simp only [gm_eq, evLoad, h1, e, tst]⟩
    · rename_i h1
      replace h := tst_some h
      obtain ⟨e2, h⟩ := h
      exact ⟨_, h, fun M' _ R' k' => by simp only [gm_eq, evLoad, h1, e, e2, tst]⟩
  · rename_i id i off
    split at h
    · rename_i hb
      replace h := tst_some h
      obtain ⟨e, h⟩ := h
      split at h
      · rename_i h1
        exact ⟨_, h, fun M' hM R' k' => by have hm := hM id (by simp [ptrIds]); simp only [gm_eq, evLoad, hm, hb, h1, e, tst]⟩
      · rename_i h1
        replace h := tst_some h
        obtain ⟨e2, h⟩ := h
        exact ⟨_, h, fun M' hM R' k' => by have hm := hM id (by simp [ptrIds]); simp only [gm_eq, evLoad, hm, hb, h1, e, e2, tst]⟩
    · rename_i hb
      replace h := tst_some h
      obtain ⟨e, h⟩ := h
      split at h
      · rename_i h1
        exact ⟨_, h, fun M' hM R' k' => by have hm := hM id (by simp [ptrIds]); simp only [gm_eq, evLoad, hm, hb, h1, e, tst]⟩
      · rename_i h1
        replace h := tst_some h
        obtain ⟨e2, h⟩ := h
        exact ⟨_, h, fun M' hM R' k' => by have hm := hM id (by simp [ptrIds]); simp only [gm_eq, evLoad, hm, hb, h1, e, e2, tst]⟩
    · cases h
  · cases h

theorem mem_indexAddr {t : TypeId} {x i : AV} {k : AV → Option R} {r : R} (h : evIndexAddr X t x i M k = some r) : ∃ y, k y = some r ∧ ∀ (M' : List Blk), (∀ id ∈ ownIds x, M'[id]? = M[id]?) → ∀ (R' : Type) (k' : AV → Option R'), evIndexAddr X t x i M' k' = k' y := by
  unfold evIndexAddr at h
  simp only [gm_eq] at h
  split at h
  · split at h
    · rename_i h1 h2
      replace h := tst_some h
      obtain ⟨e, h⟩ := h
      split at h
      · replace h := tst_some h
        obtain ⟨e2, h⟩ := h
        exact ⟨_, h, fun M' _ R' k' => by simp only [gm_eq, evIndexAddr, h1, h2, e, e2, tst]⟩
      · rename_i id
        split at h
        · rename_i hb
          replace h := tst_some h
          obtain ⟨e2, h⟩ := h
          exact ⟨_, h, fun M' hM R' k' => by have hm := hM id (by simp [ownIds]); simp only [gm_eq, evIndexAddr, h1, h2, hm, hb, e, e2, tst]⟩
        · rename_i hb
          replace h := tst_some h
          obtain ⟨e2, h⟩ := h
          exact ⟨_, h, fun M' hM R' k' => by have hm := hM id (by simp [ownIds]); simp only [gm_eq, evIndexAddr, h1, h2, hm, hb, e, e2, tst]⟩
        · cases h
      · replace h := tst_some h
        obtain ⟨e2, h⟩ := h
        exact ⟨_, h, fun M' _ R' k' => by simp only [gm_eq, evIndexAddr, h1, h2, e, e2, tst]⟩
      · cases h
    · rename_i h1 h2
      replace h := tst_some h
      obtain ⟨e, h⟩ := h
      split at h
      · exact ⟨_, h, fun M' _ R' k' => by simp only [gm_eq, evIndexAddr, h1, h2, e, tst]⟩
      · exact ⟨_, h, fun M' _ R' k' => by simp only [gm_eq, evIndexAddr, h1, h2, e, tst]⟩
      · cases h
    · cases h
  · cases h

theorem rowsOf_congr {x : AV} (h : ∀ id ∈ ownIds x, M'[id]? = M[id]?) : rowsOf M' x = rowsOf M x := by
  cases x <;> simp only [gm_eq, rowsOf]
  rename_i id
  rw [h id (by simp [ownIds])]

theorem evLen_slice {t e : TypeId} {x : AV} {k : AV → Option R} (h1 : (X.ti t).ok = true) (h2 : (X.ti t).u = .slice e) (hx : ∀ id m, x ≠ .vsl id m) : evLen X t x M k = match rowsOf M x with | some (_, xs) => k (.int .i64 xs.length) | none => none := by
  cases x <;> first
    | exact absurd rfl (hx _ _)
    | (unfold evLen; simp only [h1, h2]; rfl)
    | (unfold evLen; simp only [h1, h2]; generalize rowsOf M _ = o; cases o <;> rfl)
theorem mem_len {t : TypeId} {x : AV} {k : AV → Option R} {r : R} (h : evLen X t x M k = some r) : ∃ y, k y = some r ∧ ∀ (M' : List Blk), (∀ id ∈ ownIds x, M'[id]? = M[id]?) → ∀ (R' : Type) (k' : AV → Option R'), evLen X t x M' k' = k' y := by
  unfold evLen at h
  split at h
  · rename_i h1 h2
    exact ⟨_, h, fun M' _ R' k' => by simp only [evLen, h1, h2]⟩
  · rename_i h1 h2
    exact ⟨_, h, fun M' _ R' k' => by simp only [evLen, h1, h2]⟩
  · rename_i h1 h2
    exact ⟨_, h, fun M' _ R' k' => by simp only [evLen, h1, h2]⟩
  · rename_i e h1 h2 hx'
    split at h
    · rename_i o xs hr
      refine ⟨_, h, fun M' hM R' k' => ?_⟩
      have := rowsOf_congr (M := M) (M' := M') hM
      rw [evLen_slice h1 h2 hx', this, hr]
    · cases h
  · cases h

theorem mem_slice {t : TypeId} {x : AV} {lo hi mx : Option AV} {k : AV → List Blk → Option R} {r : R} (hx : ownIds x = []) (h : evSlice X t x lo hi mx M k = some r) :
    ∃ y, k y M = some r ∧ ∀ (M' : List Blk) (R' : Type) (k' : AV → List Blk → Option R'), evSlice X t x lo hi mx M' k' = k' y M' := by
  have hrow : ∀ M', rowsOf M' x = rowsOf M x := fun M' => rowsOf_congr (by rw [hx]; simp)
  unfold evSlice at h
  simp only [gm_eq] at h
  split at h
  · rename_i e h1 h2
    split at h
    · rename_i o xs h3
      split at h
      · rename_i l hh m h4 h5 h6
        replace h := tst_some h
        obtain ⟨h7, h⟩ := h
        split at h
        · replace h := tst_some h
          obtain ⟨h8, h⟩ := h
          exact ⟨_, h, fun M' R' k' => by unfold evSlice; simp only [gm_eq, h1, h2, hrow M', h3, h4, h5, h6, h7, h8, tst]⟩
        · exact ⟨_, h, fun M' R' k' => by unfold evSlice; simp only [gm_eq, h1, h2, hrow M', h3, h4, h5, h6, h7, tst]⟩
        · simp [ownIds] at hx
        · cases h
      · cases h
    · cases h
  · cases h

theorem mem_lkOut {et : TypeId} {ok : Bool} {k : AV → Option R} {o : Option AV} {r : R} (h : lkOut X et ok k o = some r) : ∃ y, k y = some r ∧ ∀ (R' : Type) (k' : AV → Option R'), lkOut X et ok k' o = k' y :=
  ⟨_, lkOut_spec h, fun R' k' => by cases o <;> cases ok <;> rfl⟩
theorem mem_lookup {t : TypeId} {x i : AV} {ok : Bool} {k : AV → Option R} {r : R} (h : evLookup X t x i ok M k = some r) : ∃ y, k y = some r ∧ ∀ (M' : List Blk), (∀ id ∈ mpIds x, M'[id]? = M[id]?) → ∀ (R' : Type) (k' : AV → Option R'), evLookup X t x i ok M' k' = k' y := by
  unfold evLookup at h
  simp only [gm_eq] at h
  split at h
  case h_2 => cases h
  rename_i kt et h1 h2
  split at h
  case h_2 => cases h
  rename_i kd h3
  replace h := tst_some h
  obtain ⟨h4, h⟩ := h
  cases x <;> simp only at h <;> try (cases h; done)
  case nilmp =>
    obtain ⟨y, h, hd⟩ := mem_lkOut h
    exact ⟨y, h, fun M' _ R' k' => by unfold evLookup; simp only [gm_eq, h1, h2, h3, h4, tst]; exact hd R' k'⟩
  case mp id =>
    split at h
    case h_2 => cases h
    rename_i kd' ag ks es hb
    replace h := tst_some h
    obtain ⟨h5, h⟩ := h
    split at h
    · rename_i h6
      split at h
      · rename_i y' h7
        obtain ⟨y, h, hd⟩ := mem_lkOut h
        exact ⟨y, h, fun M' hM R' k' => by unfold evLookup; have hm := hM id (by simp [mpIds]); simp only [gm_eq, h1, h2, h3, h4, hm, hb, h5, h6, h7, tst]; exact hd R' k'⟩
      · rename_i h7
        obtain ⟨y, h, hd⟩ := mem_lkOut h
        exact ⟨y, h, fun M' hM R' k' => by unfold evLookup; have hm := hM id (by simp [mpIds]); simp only [gm_eq, h1, h2, h3, h4, hm, hb, h5, h6, h7, tst]; exact hd R' k'⟩
    · rename_i h6
      rw [evFind_eq] at h
      obtain ⟨y, h, hd⟩ := mem_lkOut h
      exact ⟨y, h, fun M' hM R' k' => by unfold evLookup; have hm := hM id (by simp [mpIds]); simp only [gm_eq, h1, h2, h3, h4, hm, hb, h5, h6, tst, evFind_eq]; exact hd R' k'⟩

/-- The blocks that an operation looks at which leaves the memory alone; none: it may write. -/
def quietIds (e : Operand → AV) (o : Oper) : Option (List Nat) :=
  match o.op with
  | .move _ => some []
  | .assign _ => some []
  | .pick _ _ _ => some []
  | .binOp _ _ _ _ _ => some []
  | .unOp _ _ _ => some []
  | .convert _ _ _ => some []
  | .fieldAddr _ _ _ => some []
  | .field _ _ _ => some []
  | .index _ _ _ => some []
  | .extract _ _ => some []
  | .makeFunc _ _ _ => some []
  | .nilCheck _ => some []
  | .build _ _ => some []
  | .load _ x => some (ptrIds (e x))
  | .indexAddr _ x _ => some (ownIds (e x))
  | .slice _ x _ _ _ => match ownIds (e x) with | [] => some [] | _ => none
  | .call c =>
    match c.callee with
    | .builtin .len => some (c.args.toList.flatMap fun x => ownIds (e x))
    | .builtin .min => some []
    | .builtin .max => some []
    | _ => none
  | .lookup _ x _ _ => some (mpIds (e x))
  | _ => none

theorem quiet_spec0 {T : Tab R} {T' : Tab R'} {e : Operand → AV} {o : Oper} {k : AV → List Blk → Option R} {r : R} {ids : List Nat} (hq : quietIds e o = some ids) (h : evop0 X T e o M k = some r) :
    ∃ y, k y M = some r ∧ ∀ (M' : List Blk), (∀ id ∈ ids, M'[id]? = M[id]?) → ∀ (k' : AV → List Blk → Option R'), evop0 X T' e o M' k' = k' y M' := by
  unfold quietIds at hq
  unfold evop0 at h
  split at hq
  all_goals (rename_i ho; simp only [ho] at h)
  · exact ⟨_, h, fun M' _ k' => by unfold evop0; simp only [ho]⟩
  · exact ⟨_, h, fun M' _ k' => by unfold evop0; simp only [ho]⟩
  · split at h
    · rename_i t hc
      split at h
      · exact ⟨_, h, fun M' _ k' => by unfold evop0; simp only [ho, hc]⟩
      · exact ⟨_, h, fun M' _ k' => by unfold evop0; simp only [ho, hc]⟩
    · cases h
  · obtain ⟨y, h, hd⟩ := det_bin (X := X) _ _ _ _ h
    exact ⟨y, h, fun M' _ k' => by unfold evop0; simp only [ho]; exact hd _ _⟩
  · obtain ⟨y, h, hd⟩ := det_un _ _ h
    exact ⟨y, h, fun M' _ k' => by unfold evop0; simp only [ho]; exact hd _ _⟩
  · obtain ⟨y, h, hd⟩ := det_conv (X := X) _ _ _ h
    exact ⟨y, h, fun M' _ k' => by unfold evop0; simp only [ho]; exact hd _ _⟩
  · obtain ⟨y, h, hd⟩ := det_fieldAddr (X := X) _ _ _ h
    exact ⟨y, h, fun M' _ k' => by unfold evop0; simp only [ho]; exact hd _ _⟩
  · obtain ⟨y, h, hd⟩ := det_field (X := X) _ _ _ h
    exact ⟨y, h, fun M' _ k' => by unfold evop0; simp only [ho]; exact hd _ _⟩
  · obtain ⟨y, h, hd⟩ := det_index (X := X) _ _ _ h
    exact ⟨y, h, fun M' _ k' => by unfold evop0; simp only [ho]; exact hd _ _⟩
  · split at h
    · rename_i vs hv
      split at h
      · rename_i y hy
        exact ⟨_, h, fun M' _ k' => by unfold evop0; simp only [ho, hv, hy]⟩
      · cases h
    · cases h
  · rename_i fn first caps
    cases fn with
    | func f => exact ⟨_, h, fun M' _ k' => by unfold evop0; simp only [ho]⟩
    | _ => cases h
  · obtain ⟨y, h, hd⟩ := det_nil _ h
    exact ⟨y, h, fun M' _ k' => by unfold evop0; simp only [ho]; exact hd _ _⟩
  · obtain ⟨y, h, hd⟩ := det_build (X := X) _ _ h
    exact ⟨y, h, fun M' _ k' => by unfold evop0; simp only [ho]; exact hd _ _⟩
  · injection hq with hq; subst hq
    obtain ⟨y, h, hd⟩ := mem_load h
    exact ⟨y, h, fun M' hM k' => by unfold evop0; simp only [ho]; exact hd M' hM _ _⟩
  · injection hq with hq; subst hq
    obtain ⟨y, h, hd⟩ := mem_indexAddr h
    exact ⟨y, h, fun M' hM k' => by unfold evop0; simp only [ho]; exact hd M' hM _ _⟩
  · split at hq
    · rename_i hx
      obtain ⟨y, h, hd⟩ := mem_slice hx h
      exact ⟨y, h, fun M' hM k' => by unfold evop0; simp only [ho]; exact hd M' _ _⟩
    · cases hq
  · rename_i c
    split at hq
    · rename_i hc
      simp only [hc] at h
      injection hq with hq; subst hq
      split at h
      · rename_i t x ht hx
        obtain ⟨y, h, hd⟩ := mem_len h
        refine ⟨y, h, fun M' hM k' => ?_⟩
        unfold evop0
        simp only [ho, hc, ht, hx]
        exact hd M' (fun id hid => hM id (by rw [hx]; simpa using hid)) _ _
      · cases h
    · rename_i hc
      simp only [hc] at h
      obtain ⟨y, h, hd⟩ := det_min _ _ h
      exact ⟨y, h, fun M' _ k' => by unfold evop0; simp only [ho, hc]; exact hd _ _⟩
    · rename_i hc
      simp only [hc] at h
      obtain ⟨y, h, hd⟩ := det_min _ _ h
      exact ⟨y, h, fun M' _ k' => by unfold evop0; simp only [ho, hc]; exact hd _ _⟩
    · cases hq
  · injection hq with hq; subst hq
    obtain ⟨y, h, hd⟩ := mem_lookup h
    exact ⟨y, h, fun M' hM k' => by unfold evop0; simp only [ho]; exact hd M' hM _ _⟩
  · cases hq

theorem quiet_spec {T : Tab R} {T' : Tab R'} {e : Operand → AV} {o : Oper} {k : AV → List Blk → Option R} {r : R} {ids : List Nat} (hq : quietIds e o = some ids) (h : evop X T e o M k = some r) :
    ∃ y, k y M = some r ∧ ∀ (M' : List Blk), (∀ id ∈ ids, M'[id]? = M[id]?) → ∀ (k' : AV → List Blk → Option R'), evop X T' e o M' k' = k' y M' := by
  rw [evop_eq] at h
  obtain ⟨y, h1, h2⟩ := quiet_spec0 (T' := T') hq h
  exact ⟨y, h1, fun M' hM k' => by rw [evop_eq]; exact h2 M' hM k'⟩

/-- The interpreter's table that knows of no other code. -/
def tab0 (R : Type) : Tab R := ⟨⟨0, 0⟩, fun _ _ _ => none, fun _ _ _ _ => none, fun _ _ _ _ => none⟩
theorem tab0_ok (X : Cx) (R : Type) : (tab0 R).CallOk X := ⟨fun h => by simp [tab0] at h, fun h => by simp [tab0] at h⟩

theorem quiet_runs (hX : X.Okb) {T : Tab R} {e : Operand → AV} {o : Oper} {k : AV → List Blk → Option R} {r : R} {ids : List Nat} (hq : quietIds e o = some ids) (h : evop X T e o M k = some r) :
    ∃ y, k y M = some r ∧ ∀ (M' : List Blk), (∀ id ∈ ids, M'[id]? = M[id]?) → OpRuns X o e M' y M' := by
  obtain ⟨y, h1, h2⟩ := quiet_spec (T' := tab0 (AV × List Blk)) hq h
  refine ⟨y, h1, fun M' hM => ?_⟩
  obtain ⟨x, M1, h3, h4, _⟩ := evop_sound hX (tab0_ok X _) (h2 M' hM fun x M => some (x, M))
  injection h4 with h4
  injection h4 with h4 h5
  subst h4; subst h5
  exact h3

/-- The writers of a region. -/
def wrsOf : List Oper → Nat
  | [] => 0
  | o :: os => match o.op with
    | .buildSlice _ _ _ => wrsOf os + 1
    | .call c => (match c.callee with | .value _ => wrsOf os + 1 | _ => wrsOf os)
    | _ => wrsOf os
/-- A composite slice that becomes a list at once: in a region with another writer, of plain values. -/
def lstOf (X : Cx) (ops : Array Oper) (e : Operand → AV) (o : Oper) : Option (TypeId × Nat × Array (Nat × Operand)) :=
  match o.op with
  | .buildSlice t n ps =>
    match (Nat.blt 1 (wrsOf ops.toList)) && ps.toList.all fun p => leafB (e p.2) with
    | true => some (t, n, ps)
    | false => none
  | _ => none

theorem lstOf_some {ops : Array Oper} {e : Operand → AV} {o : Oper} {t : TypeId} {n : Nat} {ps : Array (Nat × Operand)} (h : lstOf X ops e o = some (t, n, ps)) : o.op = .buildSlice t n ps := by
  unfold lstOf at h
  split at h
  · rename_i ho
    split at h
    · injection h with h
      injection h with h1 h
      injection h with h2 h3
      subst h1; subst h2; subst h3
      exact ho
    · cases h
  · cases h

theorem list_runs (hX : X.Okb) {e : Operand → AV} {o : Oper} {t : TypeId} {n : Nat} {ps : Array (Nat × Operand)} {k : AV → Option R} {r : R} (ho : o.op = .buildSlice t n ps) (h : evBuildList X t n (ps.toList.map fun p => (p.1, e p.2)) k = some r) :
    ∃ y, k y = some r ∧ ∀ (M' : List Blk), OpRuns X o e M' y M' := by
  obtain ⟨y, h1, _, hd⟩ := evBuildList_sound hX h
  refine ⟨y, h1, fun M' => OpRuns.of_does (s := fun ρe => Instr.buildSlice t n (ps.map fun (i, x) => (i, ρe x))) (by simp [ho]) (fun ρe => by simp [execOp, ho]) (fun {w0 S F ρ w ρe} hI hr => ?_)⟩
  have := hd (ps.toList.map fun p => (p.1, ρe p.2)) hI (by simp) (fun j p q hp hq => by
    rw [List.getElem?_map] at hp hq
    cases hj : ps.toList[j]? with
    | none => rw [hj] at hp; cases hp
    | some z =>
      rw [hj] at hp hq
      simp only [Option.map_some, Option.some.injEq] at hp hq
      subst hp; subst hq
      exact ⟨rfl, hr z.2⟩)
  have e1 : (ps.map fun (i, x) => (i, ρe x)) = (ps.toList.map fun p => (p.1, ρe p.2)).toArray := by apply Array.ext'; simp
  rw [e1]
  exact this

end
end Go.Eng

namespace Go.Eng
open Go
noncomputable section

variable {X : Cx} {R : Type}

def ren (f : Nat → Option Nat) : Nat → AV → AV
  | 0, _ => .top
  | n + 1, x =>
    match x with
    | .own id => match f id with | some j => .own j | none => .top
    | .ptr id i off => match f id with | some j => .ptr j i off | none => .top
    | .yld id => match f id with | some j => .yld j | none => .top
    | .mp id => match f id with | some j => .mp j | none => .top
    | .vsl id m => match f id with | some j => .vsl j m | none => .top
    | .agg cs => .agg (cs.map (ren f n))
    | .tup cs => .tup (cs.map (ren f n))
    | .clos g first caps => .clos g (first.map (ren f n)) (caps.map (ren f n))
    | x => x

def Ren (f : Nat → Option Nat) (ρ ρ' : List Hd) : Prop := ∀ (id j : Nat) hd, f id = some j → ρ[id]? = some hd → ρ'[j]? = some hd

theorem Rep.ren {K : TypeId → List Kind} (hK : ∀ t, ∀ k ∈ K t, k ≠ .any) {f : Nat → Option Nat} {ρ ρ' : List Hd} (hf : Ren f ρ ρ') {F : Addr → Prop} {w : World} : ∀ (n : Nat) {x : AV} {v : Value}, Rep K ρ F w x v → Rep K ρ' F w (ren f n x) v
  | 0, _, v, _ => .top v
  | n + 1, x, v, h => by
    have ih := fun {x : AV} {v : Value} (h : Rep K ρ F w x v) => Rep.ren hK hf n h
    have lst : ∀ {xs : List AV} {vs : List Value}, (∀ (j : Nat) x v, xs[j]? = some x → vs[j]? = some v → Rep K ρ F w x v) → ∀ (j : Nat) x v, (xs.map (Eng.ren f n))[j]? = some x → vs[j]? = some v → Rep K ρ' F w x v := by
      intro xs vs h j x v hx hv
      rw [List.getElem?_map] at hx
      cases hj : xs[j]? with
      | none => rw [hj] at hx; cases hx
      | some y =>
        rw [hj] at hx
        simp only [Option.map_some, Option.some.injEq] at hx
        subst hx
        exact ih (h j y v hj hv)
    cases h with
    | top v => exact .top v
    | int k n => exact .int k n
    | bool b => exact .bool b
    | str s => exact .str s
    | agg cs vs hl h => exact .agg _ vs (by simpa using hl) (lst h)
    | tup cs vs hl h => exact .tup _ vs (by simpa using hl) (lst h)
    | nilp => exact .nilp
    | iptr t row off a vs hk hl hc h => exact (Rep.iptr (ρ := ρ) t row off a vs hk hl hc h).pure hK rfl
    | ptr id i off hd g o m c hid hv =>
      simp only [Eng.ren]
      split
      · rename_i j hj; exact .ptr j i off hd g o m c (hf id j hd hj hid) hv
      · exact .top _
    | list0 t => exact .list0 t
    | list t xs a cap vss hl hcap hmax hk hc h => exact (Rep.list (ρ := ρ) t xs a cap vss hl hcap hmax hk hc h).pure hK rfl
    | own id hd hid =>
      simp only [Eng.ren]
      split
      · rename_i j hj; exact .own j hd (hf id j hd hj hid)
      · exact .top _
    | nilsl => exact .nilsl
    | clos g first caps vf vc h1 h2 h3 h4 => exact .clos g _ _ vf vc (by simpa using h1) (by simpa using h2) (lst h3) (lst h4)
    | nilfn => exact .nilfn
    | yld id hd g hid hv =>
      simp only [Eng.ren]
      split
      · rename_i j hj; exact .yld j hd g (hf id j hd hj hid) hv
      · exact .top _
    | mp id hd hid =>
      simp only [Eng.ren]
      split
      · rename_i j hj; exact .mp j hd (hf id j hd hj hid)
      · exact .top _
    | nilmp => exact .nilmp
    | vsl id m hd g o n' c cap hid hv =>
      simp only [Eng.ren]
      split
      · rename_i j hj; exact .vsl j m hd g o n' c cap (hf id j hd hj hid) hv
      · exact .top _

theorem RepL.ren {K : TypeId → List Kind} (hK : ∀ t, ∀ k ∈ K t, k ≠ .any) {f : Nat → Option Nat} {ρ ρ' : List Hd} (hf : Ren f ρ ρ') {F : Addr → Prop} {w : World} (n : Nat) {xs : List AV} {vs : List Value} (h : RepL K ρ F w xs vs) : RepL K ρ' F w (xs.map (Eng.ren f n)) vs := by
  refine ⟨by simpa using h.1, fun j x v hx hv => ?_⟩
  rw [List.getElem?_map] at hx
  cases hj : xs[j]? with
  | none => rw [hj] at hx; cases hx
  | some y =>
    rw [hj] at hx
    simp only [Option.map_some, Option.some.injEq] at hx
    subst hx
    exact (h.2 j y v hj hv).ren hK hf n

def renE (f : Nat → Option Nat) (n : Nat) (env : List (Nat × AV)) : List (Nat × AV) := env.map fun p => (p.1, ren f n p.2)
theorem look_renE (f : Nat → Option Nat) (n : Nat) : ∀ (env : List (Nat × AV)) (t : Nat), look (renE f n env) t = ren f n (look env t) ∨ look (renE f n env) t = .top
  | [], t => .inr rfl
  | (u, x) :: env, t => by
    unfold renE
    simp only [List.map_cons, look_cons, look_nil]
    by_cases ht : t = u
    · subst ht; simp
    · have : (t == u) = false := by simpa using ht
      simp only [this, Bool.false_eq_true, if_false]
      exact look_renE f n env t
theorem EnvRep.ren (hX : X.Ok) {f : Nat → Option Nat} {ρ ρ' : List Hd} (hf : Ren f ρ ρ') {F : Addr → Prop} {w : World} (n : Nat) {env : List (Nat × AV)} {tmps : Array Value} (h : EnvRep X ρ F w env tmps) : EnvRep X ρ' F w (renE f n env) tmps := by
  intro t
  rcases look_renE f n env t with e | e
  · rw [e]; exact (h t).ren hX.kinds hf n
  · rw [e]; exact .top _

def Kind.fix : Kind → Bool | .any => false | _ => true
def renB (f : Nat → Option Nat) : Blk → Blk
  | .var ks cs => match ks.all Kind.fix with | true => .var ks cs | false => .var ks (cs.map (ren f 4))
  | .loop s env b p => .loop s (renE f 4 env) b p
  | .map kd ag ks es => match ks.all Kind.fix with | true => .map kd ag ks es | false => .map kd ag ks (es.map fun e => (e.1, ren f 4 e.2))
  | b => b
def renOk (f : Nat → Option Nat) : Blk → Bool
  | .var ks cs => match ks.all Kind.fix with | true => true | false => koks ks (cs.map (ren f 4))
  | .map _ ag ks es => match ks.all Kind.fix with | true => true | false => es.all fun e => koks ks (ren f 4 e.2).cells && (ren f 4 e.2).shape ag
  | _ => true

theorem renB_dead (f : Nat → Option Nat) (b : Blk) : (renB f b).isDead = b.isDead := by
  cases b <;> simp only [renB] <;> first | rfl | (split <;> rfl)

theorem Rep.fix {K : TypeId → List Kind} (hK : ∀ t, ∀ k ∈ K t, k ≠ .any) {ρ ρ' : List Hd} {F : Addr → Prop} {w : World} {ks : List Kind} (hk : ks.all Kind.fix = true) {x : AV} {v : Value} (hx : koks ks x.cells = true) (h : Rep K ρ F w x v) : Rep K ρ' F w x v := by
  have each : ∀ {j : Nat} {y : AV}, x.cells[j]? = some y → y.pure = true := fun {j y} hy => by
    have hl := koks_length hx
    have hj : j < ks.length := by have := (List.getElem?_eq_some_iff.1 hy).1; omega
    refine pure_of_kok (fun e => ?_) (koks_get hx (List.getElem?_eq_getElem hj) hy)
    have := List.all_eq_true.1 hk _ (List.getElem_mem hj)
    rw [e] at this
    cases this
  cases h with
  | agg cs vs hl hr => exact .agg cs vs hl fun j y u hy hu => (hr j y u hy hu).pure hK (each hy)
  | top v => have := each (j := 0) (y := .top) rfl; cases this
  | tup cs vs hl hr => have := each (j := 0) (y := .tup cs) rfl; cases this
  | int k n => exact .int k n
  | bool b => exact .bool b
  | str s => exact .str s
  | nilp => exact .nilp
  | iptr t row off a vs hk' hl hc hr => exact Rep.pure hK (.iptr t row off a vs hk' hl hc hr) (each (j := 0) rfl)
  | list0 t => exact .list0 t
  | list t xs a cap vss hl hcap hmax hk' hc hr => exact Rep.pure hK (.list t xs a cap vss hl hcap hmax hk' hc hr) (each (j := 0) rfl)
  | nilsl => exact .nilsl
  | clos f first caps vf vc hf hc h1 h2 => exact Rep.pure hK (.clos f first caps vf vc hf hc h1 h2) (each (j := 0) rfl)
  | nilfn => exact .nilfn
  | nilmp => exact .nilmp
  | ptr id i off hd g o n c hid hv => have := each (j := 0) rfl; cases this
  | own id hd hid => have := each (j := 0) rfl; cases this
  | yld id hd g hid hv => have := each (j := 0) rfl; cases this
  | vsl id m hd g o n c cap hid hv => have := each (j := 0) rfl; cases this
  | mp id hd hid => have := each (j := 0) rfl; cases this
theorem kok_pure_key {kd : Kind} (hkd : kd ≠ .any) {x : AV} (h : kok kd x = true) : x.pure = true := pure_of_kok hkd h
theorem BRep.ren (hX : X.Ok) {f : Nat → Option Nat} {ρ ρ' : List Hd} (hf : Ren f ρ ρ') {F : Addr → Prop} {w : World} {hd : Hd} {b : Blk} (hok : renOk f b = true) (h : BRep X ρ F w hd b) : BRep X ρ' F w hd (renB f b) := by
  cases b with
  | var ks cs =>
    obtain ⟨h1, h2, g, cur, e, hv, hh, hr⟩ := h
    simp only [renB]
    simp only [renOk] at hok
    split
    · rename_i hk
      refine ⟨h1, h2, g, cur, e, hv, hh, hr.1, fun j x v hx hv => (hr.2 j x v hx hv).pure hX.kinds ?_⟩
      have hl := koks_length h1
      have hj : j < ks.length := by
        have := (List.getElem?_eq_some_iff.1 hx).1; omega
      refine pure_of_kok (fun e => ?_) (koks_get h1 (List.getElem?_eq_getElem hj) hx)
      have := List.all_eq_true.1 hk _ (List.getElem_mem hj)
      rw [e] at this
      cases this
    · rename_i hk
      rw [hk] at hok
      exact ⟨hok, by simpa using h2, g, cur, e, hv, hh, hr.ren hX.kinds hf 4⟩
  | row t xs =>
    obtain ⟨h1, h2, h3⟩ := h
    refine ⟨h1, h2, ?_⟩
    rcases h3 with h3 | ⟨g, o, c, cur, hv, hh, h4, h5, h6, h7⟩
    · exact .inl h3
    · refine .inr ⟨g, o, c, cur, hv, hh, h4, h5, h6, fun i row hi j x hx => ?_⟩
      obtain ⟨v, hcv, hr⟩ := h7 i row hi j x hx
      refine ⟨v, hcv, hr.pure hX.kinds ?_⟩
      have hk := h2 i row hi
      have hl := koks_length hk
      have hj : j < (X.K t).length := by
        have := (List.getElem?_eq_some_iff.1 hx).1; omega
      exact pure_of_kok (hX.kinds t _ (List.getElem_mem hj)) (koks_get hk (List.getElem?_eq_getElem hj) hx)
  | map kd ag ks es =>
    obtain ⟨hkd, g, mes, clock, hv, hh, hsz, hes⟩ := h
    simp only [renB]
    simp only [renOk] at hok
    split
    · rename_i hk
      exact ⟨hkd, g, mes, clock, hv, hh, hsz, fun i e me he hm => let ⟨a, r1, r2⟩ := hes i e me he hm; ⟨a, r1.pure hX.kinds (kok_pure_key hkd a.1), r2.fix hX.kinds hk a.2.1⟩⟩
    · rename_i hk
      rw [hk] at hok
      refine ⟨hkd, g, mes, clock, hv, hh, by simpa using hsz, fun i e me he hm => ?_⟩
      rw [List.getElem?_map] at he
      cases hi : es[i]? with
      | none => rw [hi] at he; cases he
      | some e0 =>
        rw [hi] at he
        simp only [Option.map_some, Option.some.injEq] at he
        subst he
        obtain ⟨a, r1, r2⟩ := hes i e0 me hi hm
        have := List.all_eq_true.1 hok e0 (List.mem_of_getElem? hi)
        rw [Bool.and_eq_true] at this
        exact ⟨⟨a.1, this.1, this.2⟩, r1.pure hX.kinds (kok_pure_key hkd a.1), r2.ren hX.kinds hf 4⟩
  | loop s env busy pend =>
    obtain ⟨g, lp, hv, hh, h1, h2, h3, h4, h5, h6⟩ := h
    exact ⟨g, lp, hv, hh, h1, h2, h3, h4, h5.ren hX hf 4, h6⟩
  | dfr => exact h
  | fro t xs => exact Rep.pure hX.kinds h rfl
  | dead => trivial

/-- Which number a block of the part has in the part. -/
def idx : List Nat → Nat → Option Nat
  | [], _ => none
  | i :: is, id => if id == i then some 0 else (idx is id).map (· + 1)
theorem idx_get : ∀ {sel : List Nat} {id j : Nat}, idx sel id = some j → sel[j]? = some id
  | [], id, j, h => by simp [idx] at h
  | i :: is, id, j, h => by
    simp only [idx] at h
    split at h
    · rename_i hi
      injection h with h
      subst h
      simpa using Eq.symm (by simpa using hi)
    · cases hx : idx is id with
      | none => rw [hx] at h; cases h
      | some m =>
        rw [hx] at h
        simp only [Option.map_some, Option.some.injEq] at h
        subst h
        simpa using idx_get hx

/-- Which number a block of the part has in the whole. -/
def rno (m : Nat) (sel : List Nat) (n : Nat) (j : Nat) : Option Nat := match Nat.blt j m with | true => sel[j]? | false => some (n + (j - m))

def sub (d : Hd) (ρ : List Hd) (sel : List Nat) : List Hd := sel.map fun i => ρ.getD i d
def subM (M : List Blk) (sel : List Nat) : List Blk := sel.map fun i => renB (idx sel) (M.getD i .dead)
def subOk (M : List Blk) (sel : List Nat) : Bool := distinct sel && sel.all fun i => Nat.blt i M.length && renOk (idx sel) (M.getD i .dead)
where distinct : List Nat → Bool
  | [] => true
  | i :: is => !is.contains i && distinct is

theorem nodup_of_distinct : ∀ {sel : List Nat}, subOk.distinct sel = true → sel.Nodup
  | [], _ => .nil
  | i :: is, h => by
    simp only [subOk.distinct, Bool.and_eq_true] at h
    exact List.nodup_cons.2 ⟨by simpa using h.1, nodup_of_distinct h.2⟩

def mset : List Blk → List Nat → List Blk → List Blk
  | M, i :: is, b :: bs => mset (M.set i b) is bs
  | M, _, _ => M
theorem mset_length : ∀ (sel : List Nat) (bs M : List Blk), (mset M sel bs).length = M.length
  | [], _, _ => by simp [mset]
  | _ :: _, [], _ => by simp [mset]
  | i :: is, b :: bs, M => by simp only [mset]; rw [mset_length is bs]; simp
theorem mset_not : ∀ (sel : List Nat) (bs M : List Blk) {id : Nat}, id ∉ sel → (mset M sel bs)[id]? = M[id]?
  | [], _, _, _, _ => by simp [mset]
  | _ :: _, [], _, _, _ => by simp [mset]
  | i :: is, b :: bs, M, id, h => by
    simp only [mset]
    rw [mset_not is bs _ (fun h' => h (List.mem_cons_of_mem _ h')), List.getElem?_set_ne (fun e => h (by rw [e]; exact List.mem_cons_self))]
theorem mset_get : ∀ (sel : List Nat) (bs M : List Blk), sel.Nodup → (∀ i ∈ sel, i < M.length) → ∀ {j i : Nat} {b : Blk}, sel[j]? = some i → bs[j]? = some b → (mset M sel bs)[i]? = some b
  | [], _, _, _, _, j, i, b, h, _ => by simp at h
  | _ :: _, [], _, _, _, j, i, b, _, h => by simp at h
  | i0 :: is, b0 :: bs, M, hn, hl, j, i, b, hi, hb => by
    simp only [mset]
    rw [List.nodup_cons] at hn
    cases j with
    | zero =>
      simp at hi hb
      subst hi; subst hb
      rw [mset_not is bs _ hn.1, List.getElem?_set_self (hl i0 List.mem_cons_self)]
    | succ j =>
      simp at hi hb
      exact mset_get is bs _ hn.2 (fun k hk => by simpa using hl k (List.mem_cons_of_mem _ hk)) hi hb

/-- The first m blocks of the part are the same as before; the others of those that were handed on are gone; what is behind is new. -/
def merge (m : Nat) (M : List Blk) (sel : List Nat) (Mc : List Blk) : List Blk := mset M sel ((Mc.take m).map (renB (rno m sel M.length)) ++ List.replicate (sel.length - m) .dead) ++ (Mc.drop m).map (renB (rno m sel M.length))
def mergeOk (m : Nat) (M : List Blk) (sel : List Nat) (Mc : List Blk) : Bool := Nat.ble m sel.length && Nat.ble m Mc.length && Mc.all (renOk (rno m sel M.length))

/-- As 'Grow', but only the first m blocks are the same. -/
structure GrowF (m : Nat) (F F' : Addr → Prop) (ρ ρ' : List Hd) (w w' : World) : Prop where
  hF : ∀ a, F a → F' a
  hρ : ∀ (id : Nat) hd, id < m → ρ[id]? = some hd → ρ'[id]? = some hd
  hb : ∀ a, F a → w'.heap[a.block]? = w.heap[a.block]?
theorem Grow.toF {F F' : Addr → Prop} {ρ ρ' : List Hd} {w w' : World} (h : Grow F F' ρ ρ' w w') (m : Nat) : GrowF m F F' ρ ρ' w w' := ⟨h.hF, fun id hd _ hh => h.hρ id hd hh, h.hb⟩
theorem GrowF.hw {m : Nat} {F F' : Addr → Prop} {ρ ρ' : List Hd} {w w' : World} (h : GrowF m F F' ρ ρ' w w') : ∀ a v, F a → w.cell? a = some v → w'.cell? a = some v := fun a _ ha hc => cell_of_blk (h.hb a ha) hc

section
variable {w0 w w' : World} {S : Sc} {F F' : Addr → Prop} {ρ ρc' : List Hd} {M Mc' : List Blk} {sel : List Nat}

/-- The blocks that are handed on. -/
def hand (ρ : List Hd) (M : List Blk) (sel : List Nat) (F : Addr → Prop) : Sc := ⟨fun g => ∃ i ∈ sel, ∃ b hd, M[i]? = some b ∧ b.isDead = false ∧ ρ[i]? = some hd ∧ hd.blk? = some g, F⟩

theorem sub_get {d : Hd} {j i : Nat} (h : sel[j]? = some i) (hi : i < ρ.length) : (sub d ρ sel)[j]? = ρ[i]? := by
  simp only [sub, List.getElem?_map, h, Option.map_some, List.getD, List.getElem?_eq_getElem hi, Option.getD_some]
theorem subM_get {j i : Nat} {b : Blk} (h : sel[j]? = some i) (hi : M[i]? = some b) : (subM M sel)[j]? = some (renB (idx sel) b) := by
  simp only [subM, List.getElem?_map, h, Option.map_some, List.getD, hi, Option.getD_some]

theorem ren_idx (hlt : ∀ i ∈ sel, i < ρ.length) (d : Hd) : Ren (idx sel) ρ (sub d ρ sel) := by
  intro id j hd hj hh
  have := idx_get hj
  rw [sub_get this (hlt _ (List.mem_of_getElem? this)), hh]

theorem Inv.sub' (hX : X.Ok) (hI : Inv X w0 S F ρ M w) (hok : subOk M sel = true) (d : Hd) : Inv X w0 S F (Eng.sub d ρ sel) (subM M sel) w ∧ Inv X w (hand ρ M sel F) F (Eng.sub d ρ sel) (subM M sel) w := by
  unfold subOk at hok
  rw [Bool.and_eq_true] at hok
  obtain ⟨hdis, hall⟩ := hok
  have hnd := nodup_of_distinct hdis
  have hlt : ∀ i ∈ sel, i < M.length := fun i hi => by
    have := List.all_eq_true.1 hall i hi
    rw [Bool.and_eq_true] at this
    simpa using this.1
  have hro : ∀ i ∈ sel, renOk (idx sel) (M.getD i .dead) = true := fun i hi => by
    have := List.all_eq_true.1 hall i hi
    rw [Bool.and_eq_true] at this
    exact this.2
  have hltρ : ∀ i ∈ sel, i < ρ.length := fun i hi => by rw [hI.len]; exact hlt i hi
  -- an entry of the part is an entry of the whole
  have back : ∀ {j : Nat} {c : Blk}, (subM M sel)[j]? = some c → ∃ i b, sel[j]? = some i ∧ M[i]? = some b ∧ c = renB (idx sel) b ∧ renOk (idx sel) b = true := by
    intro j c hc
    simp only [subM, List.getElem?_map] at hc
    cases hj : sel[j]? with
    | none => rw [hj] at hc; cases hc
    | some i =>
      rw [hj] at hc
      have hi := hlt i (List.mem_of_getElem? hj)
      simp only [Option.map_some, Option.some.injEq, List.getD, List.getElem?_eq_getElem hi, Option.getD_some] at hc
      have h2 := hro i (List.mem_of_getElem? hj)
      simp only [List.getD, List.getElem?_eq_getElem hi, Option.getD_some] at h2
      exact ⟨i, M[i], rfl, List.getElem?_eq_getElem hi, hc.symm, h2⟩
  have backρ : ∀ {j : Nat} {h : Hd}, (Eng.sub d ρ sel)[j]? = some h → ∃ i, sel[j]? = some i ∧ ρ[i]? = some h := by
    intro j h hh
    cases hj : sel[j]? with
    | none => simp only [Eng.sub, List.getElem?_map, hj] at hh; cases hh
    | some i => rw [sub_get hj (hltρ i (List.mem_of_getElem? hj))] at hh; exact ⟨i, rfl, hh⟩
  have h1 : ∀ (id : Nat) b hd, (subM M sel)[id]? = some b → (Eng.sub d ρ sel)[id]? = some hd → BRep X (Eng.sub d ρ sel) F w hd b := by
    intro j c h hc hh
    obtain ⟨i, b, h1, h2, rfl, h3⟩ := back hc
    obtain ⟨i', h1', h4⟩ := backρ hh
    rw [h1] at h1'; injection h1' with h1'; subst h1'
    exact (hI.rep i b h h2 h4).ren hX (ren_idx hltρ d) h3
  have h2 : ∀ (j : Nat) c h g, (subM M sel)[j]? = some c → c.isDead = false → (Eng.sub d ρ sel)[j]? = some h → h.blk? = some g → (g < w.heap.size ∧ (S g ∨ w0.heap.size ≤ g) ∧ ∀ a, F a → a.block ≠ g) ∧ (hand ρ M sel F) g := by
    intro j c h g hc hdd hh hgb
    obtain ⟨i, b, h1, h2, rfl, h3⟩ := back hc
    obtain ⟨i', h1', h4⟩ := backρ hh
    rw [h1] at h1'; injection h1' with h1'; subst h1'
    rw [renB_dead] at hdd
    exact ⟨hI.sep i b h g h2 hdd h4 hgb, i, List.mem_of_getElem? h1, b, h, h2, hdd, h4, hgb⟩
  have h3 : ∀ (j j' : Nat) c c' h h' g, j ≠ j' → (subM M sel)[j]? = some c → (subM M sel)[j']? = some c' → c.isDead = false → c'.isDead = false → (Eng.sub d ρ sel)[j]? = some h → (Eng.sub d ρ sel)[j']? = some h' → h.blk? = some g → h'.blk? ≠ some g := by
    intro j j' c c' h h' g hne hc hc' hdd hdd' hh hh' hgb
    obtain ⟨i, b, h1, h2, rfl, h3⟩ := back hc
    obtain ⟨i', b', h1', h2', rfl, h3'⟩ := back hc'
    obtain ⟨i2, e1, h4⟩ := backρ hh
    obtain ⟨i2', e2, h4'⟩ := backρ hh'
    rw [h1] at e1; injection e1 with e1; subst e1
    rw [h1'] at e2; injection e2 with e2; subst e2
    rw [renB_dead] at hdd hdd'
    refine hI.disj i i' b b' h h' g (fun e => hne ?_) h2 h2' hdd hdd' h4 h4' hgb
    subst e
    have l1 := (List.getElem?_eq_some_iff.1 h1).1
    have l2 := (List.getElem?_eq_some_iff.1 h1').1
    exact (List.getElem?_inj l1 hnd).1 (h1.trans h1'.symm)
  have h4 : ∀ (id : Nat) hd, (Eng.sub d ρ sel)[id]? = some hd → hd.v.oneCell' = true := by
    intro j h hh
    obtain ⟨i, _, h4⟩ := backρ hh
    exact hI.one i h h4
  have h5 : ∀ g, Rep X.K (Eng.sub d ρ sel) F w (X.glob g) (.pointer (some ⟨g, 0, none⟩)) := fun g => (hI.glob g).top_pure hX.kinds (hX.glob g)
  have h6 : (Eng.sub d ρ sel).length = (subM M sel).length := by simp [Eng.sub, subM]
  exact ⟨⟨hI.os, hI.tape, hI.output, hI.size, hI.frame, h6, h1, fun j c h g p1 p2 p3 p4 => (h2 j c h g p1 p2 p3 p4).1, h3, hI.fz, h5, h4, hI.old, hI.fin⟩,
    ⟨rfl, rfl, rfl, Nat.le_refl _, fun _ _ _ => rfl, h6, h1, fun j c h g p1 p2 p3 p4 => ⟨(h2 j c h g p1 p2 p3 p4).1.1, .inl (h2 j c h g p1 p2 p3 p4).2, (h2 j c h g p1 p2 p3 p4).1.2.2⟩, h3, hI.fz, h5, h4, fun a ha => .inl ha, fun a ha => ha⟩⟩

theorem Inv.sub (hX : X.Ok) (hI : Inv X w0 S F ρ M w) (hok : subOk M sel = true) (d : Hd) : Inv X w (hand ρ M sel F) F (Eng.sub d ρ sel) (subM M sel) w := (hI.sub' hX hok d).2
end

end
end Go.Eng

namespace Go.Eng
open Go
noncomputable section

variable {X : Cx} {R : Type}
variable {w0 w w' : World} {S : Sc} {F F' : Addr → Prop} {ρ ρc' : List Hd} {M Mc' : List Blk} {sel : List Nat} {m : Nat}

structure SubFacts (M : List Blk) (sel : List Nat) : Prop where
  nd : sel.Nodup
  lt : ∀ i ∈ sel, i < M.length

theorem sub_facts (hok : subOk M sel = true) : SubFacts M sel := by
  unfold subOk at hok
  rw [Bool.and_eq_true] at hok
  obtain ⟨hdis, hall⟩ := hok
  refine ⟨nodup_of_distinct hdis, fun i hi => ?_⟩
  have := List.all_eq_true.1 hall i hi
  rw [Bool.and_eq_true] at this
  simpa using this.1

theorem merge_length : (merge m M sel Mc').length = M.length + (Mc'.length - m) := by
  simp [merge, mset_length]

theorem merge_get (hs : SubFacts M sel) (hm : mergeOk m M sel Mc' = true) {id : Nat} {b : Blk} (h : (merge m M sel Mc')[id]? = some b) :
    (id ∉ sel ∧ id < M.length ∧ M[id]? = some b) ∨ b = .dead ∨ ∃ j c, rno m sel M.length j = some id ∧ Mc'[j]? = some c ∧ b = renB (rno m sel M.length) c ∧ renOk (rno m sel M.length) c = true := by
  unfold mergeOk at hm
  rw [Bool.and_eq_true, Bool.and_eq_true] at hm
  obtain ⟨⟨hms, hle⟩, hall⟩ := hm
  have hle : m ≤ Mc'.length := Nat.le_of_ble_eq_true hle
  have hms : m ≤ sel.length := Nat.le_of_ble_eq_true hms
  have ro : ∀ {j : Nat} {c : Blk}, Mc'[j]? = some c → renOk (rno m sel M.length) c = true := fun hj => List.all_eq_true.1 hall _ (List.mem_of_getElem? hj)
  unfold merge at h
  by_cases hid : id < M.length
  · rw [List.getElem?_append_left (by rw [mset_length]; exact hid)] at h
    by_cases hsel : id ∈ sel
    · obtain ⟨j, hj⟩ := List.getElem?_of_mem hsel
      have hjl := (List.getElem?_eq_some_iff.1 hj).1
      by_cases hjm : j < m
      · have hjc : j < Mc'.length := by omega
        have hb : ((Mc'.take m).map (renB (rno m sel M.length)) ++ List.replicate (sel.length - m) .dead)[j]? = some (renB (rno m sel M.length) Mc'[j]) := by
          rw [List.getElem?_append_left (by simp; omega), List.getElem?_map, List.getElem?_take, if_pos hjm, List.getElem?_eq_getElem hjc]; rfl
        rw [mset_get sel _ M hs.nd hs.lt hj hb] at h
        injection h with h
        have : Nat.blt j m = true := by simpa using hjm
        exact .inr (.inr ⟨j, Mc'[j], by simp only [rno, this]; exact hj, List.getElem?_eq_getElem hjc, h.symm, ro (List.getElem?_eq_getElem hjc)⟩)
      · have hb : ((Mc'.take m).map (renB (rno m sel M.length)) ++ List.replicate (sel.length - m) .dead)[j]? = some .dead := by
          rw [List.getElem?_append_right (by simp; omega), List.getElem?_replicate, if_pos (by simp; omega)]
        rw [mset_get sel _ M hs.nd hs.lt hj hb] at h
        injection h with h
        exact .inr (.inl h.symm)
    · rw [mset_not sel _ M hsel] at h
      exact .inl ⟨hsel, hid, h⟩
  · rw [List.getElem?_append_right (by rw [mset_length]; omega), mset_length, List.getElem?_map, List.getElem?_drop] at h
    cases hc : Mc'[m + (id - M.length)]? with
    | none => rw [hc] at h; cases h
    | some c =>
      rw [hc] at h
      simp only [Option.map_some, Option.some.injEq] at h
      refine .inr (.inr ⟨_, c, ?_, hc, h.symm, ro hc⟩)
      have : Nat.blt (m + (id - M.length)) m = false := by
        rw [Bool.eq_false_iff]; simp
      simp only [rno, this, Option.some.injEq]
      omega

theorem merge_ren (hI : Inv X w0 S F ρ M w) (hs : SubFacts M sel) (d : Hd) (hg : GrowF m F F' (sub d ρ sel) ρc' w w') : Ren (rno m sel M.length) ρc' (ρ ++ ρc'.drop m) := by
  intro j id hd hj hh
  have hlen := hI.len
  simp only [rno] at hj
  split at hj
  · rename_i hb
    have hjm : j < m := by simpa using hb
    have hi : id < ρ.length := by rw [hlen]; exact hs.lt id (List.mem_of_getElem? hj)
    rw [List.getElem?_append_left hi]
    have h1 : (sub d ρ sel)[j]? = some ρ[id] := by rw [sub_get hj hi, List.getElem?_eq_getElem hi]
    have := hg.hρ j _ hjm h1
    rw [hh] at this
    injection this with this
    rw [List.getElem?_eq_getElem hi, this]
  · rename_i hb
    have hjm : ¬ j < m := fun hlt => by rw [(by simpa using hlt : Nat.blt j m = true)] at hb; cases hb
    simp only [Option.some.injEq] at hj
    subst hj
    rw [List.getElem?_append_right (by omega), List.getElem?_drop, ← hh]
    congr 1
    omega

theorem Inv.merge (hX : X.Ok) (hI : Inv X w0 S F ρ M w) (hok : subOk M sel = true) (d : Hd) (hC : Inv X w (hand ρ M sel F) F' ρc' Mc' w') (hg : GrowF m F F' (Eng.sub d ρ sel) ρc' w w') (hm : mergeOk m M sel Mc' = true) :
    Inv X w0 S F' (ρ ++ ρc'.drop m) (Eng.merge m M sel Mc') w' ∧ Grow F F' ρ (ρ ++ ρc'.drop m) w w' ∧ Ren (rno m sel M.length) ρc' (ρ ++ ρc'.drop m) := by
  have hs := sub_facts hok
  have hren := merge_ren hI hs d hg
  have hlen := hI.len
  have hclen := hC.len
  have hsz : w.heap.size ≤ w'.heap.size := hC.size
  have hpre : ∀ (id : Nat) hd, ρ[id]? = some hd → (ρ ++ ρc'.drop m)[id]? = some hd := fun id hd h => by
    rw [List.getElem?_append_left (List.getElem?_eq_some_iff.1 h).1]; exact h
  have hgrow : Grow F F' ρ (ρ ++ ρc'.drop m) w w' := ⟨hg.hF, hpre, hg.hb⟩
  -- a block that is ours and was not handed on
  have apart : ∀ {id : Nat} {b : Blk} {hd : Hd} {g : Nat}, id ∉ sel → M[id]? = some b → b.isDead = false → ρ[id]? = some hd → hd.blk? = some g → g < w.heap.size ∧ ¬ (hand ρ M sel F) g := by
    intro id b hd g hns hb hdd hh hgb
    refine ⟨(hI.sep id b hd g hb hdd hh hgb).1, ?_⟩
    rintro ⟨i, hi, b', hd', hb', hdd', hh', hgb'⟩
    exact hI.disj id i b b' hd hd' g (fun e => hns (e ▸ hi)) hb hb' hdd hdd' hh hh' hgb hgb'
  have handed : ∀ {g : Nat}, (hand ρ M sel F) g → S g ∨ w0.heap.size ≤ g := by
    rintro g ⟨i, _, b', hd', hb', hdd', hh', hgb'⟩
    exact (hI.sep i b' hd' g hb' hdd' hh' hgb').2.1
  have cρ : ∀ {id : Nat} {h : Hd}, id < M.length → (ρ ++ ρc'.drop m)[id]? = some h → ρ[id]? = some h := by
    intro id h hid hh
    rw [List.getElem?_append_left (by omega)] at hh; exact hh
  -- an entry behind
  have cρ' : ∀ {j id : Nat} {c : Blk} {h : Hd}, rno m sel M.length j = some id → Mc'[j]? = some c → (ρ ++ ρc'.drop m)[id]? = some h → ρc'[j]? = some h := by
    intro j id c h hj hc hh
    have hl : j < ρc'.length := by have := (List.getElem?_eq_some_iff.1 hc).1; omega
    have := hren j id _ hj (List.getElem?_eq_getElem hl)
    rw [hh] at this
    injection this with this
    rw [List.getElem?_eq_getElem hl, this]
  refine ⟨⟨hC.os.trans hI.os, hC.tape.trans hI.tape, hC.output.trans hI.output, Nat.le_trans hI.size hsz, fun g h1 h2 => ?_, ?_, fun id b hd hb hh => ?_, fun id b hd g hb hdd hh hgb => ?_,
    fun id id' b b' hd hd' g hne hb hb' hdd hdd' hh hh' hgb hgb' => ?_, hC.fz, fun g => (hI.glob g).grow hgrow, fun id hd hh => ?_, fun a ha => ?_, fun a ha => hg.hF _ (hI.fin a ha)⟩, hgrow, hren⟩
  · refine (hC.frame g (Nat.lt_of_lt_of_le h1 hI.size) (fun h => ?_)).trans (hI.frame g h1 h2)
    rcases handed h with h | h
    · exact h2 h
    · omega
  · rw [merge_length, List.length_append, List.length_drop]; omega
  · rcases merge_get hs hm hb with ⟨hns, hlt, hb⟩ | rfl | ⟨j, c, hj, hc, rfl, hro⟩
    · have hh := cρ hlt hh
      by_cases hdd : b.isDead = true
      · exact (hI.rep id b hd hb hh).mono_dead hpre hg.hF hg.hw hdd
      · refine (hI.rep id b hd hb hh).mono hpre hg.hF hg.hw fun g hgb => ?_
        obtain ⟨a1, a2⟩ := apart hns hb (by simpa using hdd) hh hgb
        exact hC.frame g a1 a2
    · trivial
    · exact (hC.rep j c hd hc (cρ' hj hc hh)).ren hX hren hro
  · rcases merge_get hs hm hb with ⟨hns, hlt, hb⟩ | rfl | ⟨j, c, hj, hc, rfl, hro⟩
    · have hh := cρ hlt hh
      obtain ⟨a1, a2, a3⟩ := hI.sep id b hd g hb hdd hh hgb
      refine ⟨Nat.lt_of_lt_of_le a1 hsz, a2, fun a ha e => ?_⟩
      rcases hC.old a ha with h | h | h
      · exact a3 a h e
      · exact (apart hns hb hdd hh hgb).2 (e ▸ h)
      · omega
    · exact absurd hdd (by simp [Blk.isDead])
    · rw [renB_dead] at hdd
      obtain ⟨a1, a2, a3⟩ := hC.sep j c hd g hc hdd (cρ' hj hc hh) hgb
      refine ⟨a1, ?_, a3⟩
      rcases a2 with a2 | a2
      · exact handed a2
      · exact .inr (Nat.le_trans hI.size a2)
  · have mixed : ∀ {id id' j : Nat} {b c : Blk} {hd hd' : Hd} {g : Nat}, id ∉ sel → M[id]? = some b → b.isDead = false → ρ[id]? = some hd → hd.blk? = some g → Mc'[j]? = some c → c.isDead = false → ρc'[j]? = some hd' → hd'.blk? = some g → False := by
      intro id id' j b c hd hd' g hns hb hdd hh hgb hc hdd' hh' hgb'
      obtain ⟨a1, a2⟩ := apart hns hb hdd hh hgb
      rcases (hC.sep j c hd' g hc hdd' hh' hgb').2.1 with h | h
      · exact a2 h
      · omega
    rcases merge_get hs hm hb with ⟨hns, hlt, hb⟩ | rfl | ⟨j, c, hj, hc, rfl, hro⟩
    · rcases merge_get hs hm hb' with ⟨hns', hlt', hb'⟩ | rfl | ⟨j', c', hj', hc', rfl, hro'⟩
      · exact hI.disj id id' b b' hd hd' g hne hb hb' hdd hdd' (cρ hlt hh) (cρ hlt' hh') hgb hgb'
      · exact absurd hdd' (by simp [Blk.isDead])
      · rw [renB_dead] at hdd'
        exact mixed (id' := 0) hns hb hdd (cρ hlt hh) hgb hc' hdd' (cρ' hj' hc' hh') hgb'
    · exact absurd hdd (by simp [Blk.isDead])
    · rw [renB_dead] at hdd
      rcases merge_get hs hm hb' with ⟨hns', hlt', hb'⟩ | rfl | ⟨j', c', hj', hc', rfl, hro'⟩
      · exact mixed (id' := 0) hns' hb' hdd' (cρ hlt' hh') hgb' hc hdd (cρ' hj hc hh) hgb
      · exact absurd hdd' (by simp [Blk.isDead])
      · rw [renB_dead] at hdd'
        refine hC.disj j j' c c' hd hd' g (fun e => hne ?_) hc hc' hdd hdd' (cρ' hj hc hh) (cρ' hj' hc' hh') hgb hgb'
        subst e
        rw [hj] at hj'
        injection hj'
  · by_cases hid : id < ρ.length
    · rw [List.getElem?_append_left hid] at hh; exact hI.one id hd hh
    · rw [List.getElem?_append_right (by omega), List.getElem?_drop] at hh; exact hC.one _ hd hh
  · rcases hC.old a ha with h | h | h
    · exact hI.old a h
    · exact .inr (handed h)
    · exact .inr (.inr (Nat.le_trans hI.size h))

end
end Go.Eng

namespace Go.Eng
open Go
noncomputable section

variable {X : Cx} {R : Type} {M M' : List Blk}

/-- A value that holds no block. -/
def leafQ : AV → Bool | .int _ _ | .bool _ | .str _ | .nilp | .iptr _ _ _ | .list _ _ | .nilfn | .clos _ [] [] => true | _ => false
def aggQ : AV → Bool | .agg cs => cs.all leafQ | x => leafQ x
theorem leafQ_pure {x : AV} (h : leafQ x = true) : x.pure = true := by
  unfold leafQ at h
  split at h <;> first | rfl | cases h
theorem Rep.aggQ (hX : X.Ok) {ρ ρ' : List Hd} {F : Addr → Prop} {w : World} {x : AV} {v : Value} (hq : aggQ x = true) (h : Rep X.K ρ F w x v) : Rep X.K ρ' F w x v := by
  cases h with
  | agg cs vs hl hr => exact .agg cs vs hl fun j y u hy hu => (hr j y u hy hu).pure hX.kinds (leafQ_pure (List.all_eq_true.1 hq y (List.mem_of_getElem? hy)))
  | int k n => exact .int k n
  | bool b => exact .bool b
  | str s => exact .str s
  | nilp => exact .nilp
  | iptr t row off a vs hk hl hc hr => exact Rep.pure hX.kinds (.iptr t row off a vs hk hl hc hr) rfl
  | list0 t => exact .list0 t
  | list t xs a cap vss hl hcap hmax hk hc hr => exact Rep.pure hX.kinds (.list t xs a cap vss hl hcap hmax hk hc hr) rfl
  | nilfn => exact .nilfn
  | clos f first caps vf vc hf hc h1 h2 => exact Rep.pure hX.kinds (.clos f first caps vf vc hf hc h1 h2) (leafQ_pure (by simpa only [Eng.aggQ] using hq))
  | _ => exact absurd hq (by simp [Eng.aggQ, leafQ])
theorem RepL.aggQ (hX : X.Ok) {ρ ρ' : List Hd} {F : Addr → Prop} {w : World} {xs : List AV} {vs : List Value} (hq : xs.all aggQ = true) (h : RepL X.K ρ F w xs vs) : RepL X.K ρ' F w xs vs :=
  ⟨h.1, fun j y u hy hu => (h.2 j y u hy hu).aggQ hX (List.all_eq_true.1 hq y (List.mem_of_getElem? hy))⟩

def hdQ : Hd := ⟨.nilFunc, 0⟩
theorem ACalls.lift (hX : X.Ok) {f : FuncId} {args : List AV} {x : AV} (h : ACalls X f args [] x []) (ha : args.all aggQ = true) (hx : aggQ x = true) (M : List Blk) : ACalls X f args M x M := by
  refine ⟨h.1, fun {w0 S F ρ w vs} hI hr => ?_⟩
  have hok : subOk M [] = true := rfl
  have hs := hI.sub hX hok hdQ
  have hr' : RepL X.K (Eng.sub hdQ ρ []) F w args vs := hr.aggQ hX ha
  refine (h.2 hs hr').mono ?_
  rintro e w' ⟨v, ρ', F', rfl, hI', hg, hv⟩
  obtain ⟨i3, g3, _⟩ := hI.merge (m := 0) hX hok hdQ hI' (hg.toF 0) rfl
  have hm : Eng.merge 0 M [] [] = M := by simp [Eng.merge, mset]
  rw [hm] at i3
  exact ⟨v, _, F', rfl, i3, g3, hv.aggQ hX hx⟩

theorem call_runs {e : Operand → AV} {o : Oper} {c : Call} (ho : o.op = .call c) {f : Operand} (hcal : c.callee = .value f) {g : FuncId} {first caps : List AV} (hf : e f = .clos g first caps) {x : AV}
    (h : ACalls X g (first ++ c.args.toList.map e ++ caps) M x M') : OpRuns X o e M x M' := by
  obtain ⟨hc1, hc2⟩ := h
  intro rd n w0 S F ρ w act next Q hI hr hn
  have h1 := hr f
  rw [hf] at h1
  generalize hv : act.eval f = vf at h1
  cases h1 with
  | clos _ _ _ v1 v2 hl1 hl2 r1 r2 =>
    have hargs : RepL X.K ρ F w (first ++ c.args.toList.map e ++ caps) (v1 ++ c.args.toList.map act.eval ++ v2) := (RepL.append ⟨hl1, r1⟩ (repL_map hr _)).append ⟨hl2, r2⟩
    have hcall := hc2 hI hargs
    have e1 : (v1.toArray ++ c.args.map act.eval) ++ v2.toArray = (v1 ++ c.args.toList.map act.eval ++ v2).toArray := by apply Array.ext'; simp
    refine ⟨fun _ _ => trivial, ?_⟩
    rw [Oper.semAt_eq _ _ _ (by simp [ho])]
    have hrun : (execOp act.eval o).run X.P w = .ok (.enter g (v1 ++ c.args.toList.map act.eval ++ v2).toArray) w := by
      simp only [execOp, ho, resolve, hcal, hv, Deferred.ofValue, Sem.run_bind, Sem.run_pure, Result.andThen_ok, invoke]
      rw [e1]
      exact hc1 _ _
    rw [hrun]
    refine ⟨fun hd => by simp [fen, Fence.wide] at hd, ?_⟩
    have hin : CallsIn Fence.wide (n - 1) X.P g (v1 ++ c.args.toList.map act.eval ++ v2).toArray w (fun e w' => ∃ v ρ' F', e = .returned v ∧ Inv X w0 S F' ρ' M' w' ∧ Grow F F' ρ ρ' w w' ∧ Rep X.K ρ' F' w' x v) := callsIn_wide.2 hcall
    have hin2 : CallsIn (fen rd) (n - 1) X.P g (v1 ++ c.args.toList.map act.eval ++ v2).toArray w (fun e w' => ∃ v ρ' F', e = .returned v ∧ Inv X w0 S F' ρ' M' w' ∧ Grow F F' ρ ρ' w w' ∧ Rep X.K ρ' F' w' x v) := hin
    refine hin2.mono ?_
    rintro en w' ⟨v, ρ', F', rfl, h3, h4, h5⟩
    exact hn v w' ρ' F' h3 h4 h5

/-- A type whose values hold no block. -/
def flatT (X : Cx) (t : TypeId) : Bool := (X.ti t).ok && (X.ti t).ks.all fun k => match k with | .int _ => true | .bool => true | .str => true | _ => false
/-- A call of which type and arguments show that it neither sees nor changes the memory. -/
def callQ (X : Cx) (e : Operand → AV) (o : Oper) : Option (FuncId × List AV) :=
  match o.op with
  | .call c =>
    match c.callee with
    | .value f =>
      match e f with
      | .clos g first caps =>
        match (flatT X o.type && (first ++ c.args.toList.map e ++ caps).all aggQ) && X.pk with
        | true => some (g, first ++ c.args.toList.map e ++ caps)
        | false => none
      | _ => none
    | _ => none
  | _ => none

theorem callQ_runs (hX : X.Okb) {T : Tab R} (hT : T.CallOk X) {e : Operand → AV} {o : Oper} {g : FuncId} {args : List AV} {k : AV → Option R} {r : R} (hq : callQ X e o = some (g, args))
    (h : (T.call g args [] fun x M' => tst (M'.isEmpty && aggQ x) (k x)) = some r) : ∃ y, k y = some r ∧ ∀ (M' : List Blk), OpRuns X o e M' y M' := by
  unfold callQ at hq
  split at hq
  case h_2 => cases hq
  rename_i c ho
  split at hq
  case h_2 => cases hq
  rename_i f hcal
  split at hq
  case h_2 => cases hq
  rename_i g' first caps hf
  split at hq
  case h_2 => cases hq
  rename_i hall
  injection hq with hq
  injection hq with h1 h2
  subst h1; subst h2
  obtain ⟨x, M1, hc, h, _⟩ := hT.call h
  replace h := tst_some h
  obtain ⟨h1, h⟩ := h
  rw [Bool.and_eq_true] at h1 hall
  obtain ⟨hall, hpk⟩ := hall
  rw [Bool.and_eq_true] at hall
  have : M1 = [] := by simpa using h1.1
  subst this
  exact ⟨x, h, fun M' => call_runs ho hcal hf (hc.lift (hX.ok hpk) hall.2 h1.2 M')⟩

end
end Go.Eng

namespace Go.Eng
open Go
noncomputable section

variable {X : Cx} {R : Type}

/-- What was written down of one operation. -/
structure Ent where
  i : Nat
  o : Oper
  q : Bool
  x : AV
  ids : List Nat
  cl : Nat
  env : List (Nat × AV)
  M : List Blk
  M' : List Blk

def readsOf (o : Oper) : List Nat := o.op.operands.toList.filterMap fun | .tmp t => some t | _ => none
def guardOf (ops : Array Oper) (o : Oper) : List Nat := match o.guard with | some (j, _) => (gslot ops j).toList | none => []
def rst (rs : List Nat) (env : List (Nat × AV)) : List (Nat × AV) := rs.map fun u => (u, look env u)

theorem look_rst (env : List (Nat × AV)) (t : Nat) : ∀ rs : List Nat, look (rst rs env) t = look env t ∧ t ∈ rs ∨ look (rst rs env) t = .top
  | [] => .inr rfl
  | u :: rs => by
    unfold rst
    simp only [List.map_cons, look_cons, look_nil]
    by_cases ht : t = u
    · subst ht; simp
    · have : (t == u) = false := by simpa using ht
      simp only [this, Bool.false_eq_true, if_false]
      rcases look_rst env t rs with ⟨h, hm⟩ | h
      · exact .inl ⟨h, List.mem_cons_of_mem _ hm⟩
      · exact .inr h

def clGet : List Ent → Nat → Option Nat
  | [], _ => none
  | t :: log, i => if t.i == i then some t.cl else clGet log i
def clOf (log : List Ent) : List Edge → Option Nat
  | [] => some 0
  | e :: es =>
    if Region.binds .any e then
      match clGet log e.on, clOf log es with
      | some m, some r => some (2 ^ e.on ||| m ||| r)
      | _, _ => none
    else clOf log es

theorem clGet_some {log : List Ent} {i m : Nat} (h : clGet log i = some m) : ∃ t ∈ log, t.i = i ∧ t.cl = m := by
  induction log with
  | nil => cases h
  | cons t log ih =>
    simp only [clGet] at h
    split at h
    · rename_i ht; injection h with h; exact ⟨t, List.mem_cons_self, by simpa using ht, h⟩
    · obtain ⟨s, hs, h1⟩ := ih h; exact ⟨s, List.mem_cons_of_mem _ hs, h1⟩

theorem clOf_some {log : List Ent} : ∀ {es : List Edge} {m : Nat}, clOf log es = some m →
    (∀ e ∈ es, Region.binds .any e = true → ∃ t ∈ log, t.i = e.on) ∧ ∀ w, m.testBit w = true → ∃ e ∈ es, Region.binds .any e = true ∧ (w = e.on ∨ ∃ t ∈ log, t.i = e.on ∧ t.cl.testBit w = true)
  | [], m, h => by
    simp only [clOf, Option.some.injEq] at h
    subst h
    exact ⟨fun e he => by simp at he, fun w hw => by simp at hw⟩
  | e :: es, m, h => by
    simp only [clOf] at h
    split at h
    · rename_i hb
      split at h
      · rename_i a r ha hr
        injection h with h
        subst h
        obtain ⟨t, ht, hti, htc⟩ := clGet_some ha
        obtain ⟨h1, h2⟩ := clOf_some hr
        refine ⟨fun e' he' hb' => ?_, fun w hw => ?_⟩
        · rcases List.mem_cons.1 he' with rfl | he'
          · exact ⟨t, ht, hti⟩
          · exact h1 e' he' hb'
        · rw [Nat.testBit_or, Nat.testBit_or, Bool.or_eq_true, Bool.or_eq_true] at hw
          rcases hw with (hw | hw) | hw
          · rw [Nat.testBit_two_pow] at hw
            exact ⟨e, List.mem_cons_self, hb, .inl (by simpa using Eq.symm (by simpa using hw))⟩
          · exact ⟨e, List.mem_cons_self, hb, .inr ⟨t, ht, hti, by rw [htc]; exact hw⟩⟩
          · obtain ⟨e', he', hh⟩ := h2 w hw
            exact ⟨e', List.mem_cons_of_mem _ he', hh⟩
      · cases h
    · rename_i hb
      obtain ⟨h1, h2⟩ := clOf_some h
      refine ⟨fun e' he' hb' => ?_, fun w hw => ?_⟩
      · rcases List.mem_cons.1 he' with rfl | he'
        · exact absurd hb' hb
        · exact h1 e' he' hb'
      · obtain ⟨e', he', hh⟩ := h2 w hw
        exact ⟨e', List.mem_cons_of_mem _ he', hh⟩

def hits (o : Option Nat) (l : List Nat) : Bool := match o with | some d => l.contains d | none => false

theorem hits_not {o : Option Nat} {l : List Nat} (h : (!hits o l) = true) : ∀ d, o = some d → d ∉ l := by
  intro d hd hm
  subst hd
  simp [hits, hm] at h

/-- The same value (as far as it is looked at). -/
def sameL {α : Type} (f : α → α → Bool) : List α → List α → Bool
  | [], [] => true
  | x :: xs, y :: ys => f x y && sameL f xs ys
  | _, _ => false
theorem sameL_eq {α : Type} {f : α → α → Bool} (hf : ∀ x y, f x y = true → x = y) : ∀ {xs ys : List α}, sameL f xs ys = true → xs = ys
  | [], [], _ => rfl
  | [], _ :: _, h => by simp [sameL] at h
  | _ :: _, [], h => by simp [sameL] at h
  | x :: xs, y :: ys, h => by
    simp only [sameL, Bool.and_eq_true] at h
    rw [hf x y h.1, sameL_eq hf h.2]
def same0 : AV → AV → Bool
  | .int k a, .int k' b => k == k' && a == b
  | .bool a, .bool b => a == b
  | .nilp, .nilp => true
  | .ptr a i o, .ptr b j p => Nat.beq a b && Nat.beq i j && Nat.beq o p
  | .own a, .own b => Nat.beq a b
  | .nilsl, .nilsl => true
  | .nilfn, .nilfn => true
  | .yld a, .yld b => Nat.beq a b
  | .mp a, .mp b => Nat.beq a b
  | .nilmp, .nilmp => true
  | .vsl a n, .vsl b m => Nat.beq a b && Nat.beq n m
  | .str a, .str b => decide (a = b)
  | _, _ => false
theorem same0_eq (x y : AV) (h : same0 x y = true) : x = y := by
  cases x <;> cases y <;> simp_all [same0]
def same1 : AV → AV → Bool
  | .agg xs, .agg ys => sameL same0 xs ys
  | .clos f [] xs, .clos g [] ys => Nat.beq f g && sameL same0 xs ys
  | x, y => same0 x y
theorem same1_eq (x y : AV) (h : same1 x y = true) : x = y := by
  unfold same1 at h
  split at h
  · rw [sameL_eq same0_eq h]
  · rw [Bool.and_eq_true] at h
    rw [sameL_eq same0_eq h.2, Nat.eq_of_beq_eq_true h.1]
  · exact same0_eq _ _ h
def sameE (x y : AV × AV) : Bool := same0 x.1 y.1 && same1 x.2 y.2
theorem sameE_eq (x y : AV × AV) (h : sameE x y = true) : x = y := by
  obtain ⟨a, b⟩ := x; obtain ⟨c, d⟩ := y
  simp only [sameE, Bool.and_eq_true] at h
  rw [same0_eq _ _ h.1, same1_eq _ _ h.2]
def sameB : Blk → Blk → Bool
  | .var ks cs, .var ks' cs' => ks == ks' && sameL same1 cs cs'
  | .row t xs, .row t' xs' => t == t' && sameL (sameL same1) xs xs'
  | .map k ag ks es, .map k' ag' ks' es' => k == k' && ag == ag' && ks == ks' && sameL sameE es es'
  | .dead, .dead => true
  | _, _ => false
theorem sameB_eq (x y : Blk) (h : sameB x y = true) : x = y := by
  unfold sameB at h
  split at h
  · simp only [Bool.and_eq_true, beq_iff_eq] at h
    rw [h.1, sameL_eq same1_eq h.2]
  · simp only [Bool.and_eq_true, beq_iff_eq] at h
    rw [h.1, sameL_eq (fun _ _ h => sameL_eq same1_eq h) h.2]
  · simp only [Bool.and_eq_true, beq_iff_eq] at h
    rw [h.1.1.1, h.1.1.2, h.1.2, sameL_eq sameE_eq h.2]
  · rfl
  · cases h
/-- The operation leaves this block alone: it is none that it may write, or it was not written. -/
def Ent.same (s : Ent) (id : Nat) : Bool := match s.M'[id]?, s.M[id]? with | some a, some b => sameB a b | _, _ => false
def Ent.keeps (s : Ent) (id : Nat) : Bool := (!s.ids.contains id && Nat.blt id s.M.length) || s.same id
def Ent.Keeps (s : Ent) (id : Nat) : Prop := (id ∉ s.ids ∧ id < s.M.length) ∨ s.M'[id]? = s.M[id]?
theorem Ent.keeps_spec {s : Ent} {id : Nat} (h : s.keeps id = true) : s.Keeps id := by
  unfold Ent.keeps at h
  rw [Bool.or_eq_true] at h
  rcases h with h | h
  · exact .inl (by simpa using h)
  · refine .inr ?_
    unfold Ent.same at h
    split at h
    · rename_i a b ha hb
      rw [ha, hb, sameB_eq _ _ h]
    · cases h
theorem Ent.Keeps.at {s : Ent} {id : Nat} (h : s.Keeps id) (ha : Agree s.ids s.M s.M') : s.M'[id]? = s.M[id]? := by
  rcases h with ⟨h1, h2⟩ | h
  · exact ha.2 id h2 h1
  · exact h

/-- t stands behind s in the order that is followed: may they be taken the other way round? -/
def okPair (ops : Array Oper) (t s : Ent) : Bool :=
  !(t.i == s.i) && !(t.o.dst.isSome && t.o.dst == s.o.dst) &&
  (t.cl.testBit s.i ||
    (!hits s.o.dst (readsOf t.o ++ guardOf ops t.o) && !hits t.o.dst (readsOf s.o ++ guardOf ops s.o) &&
      match t.q, s.q with
      | true, true => true
      | false, false => false
      | true, false => t.ids.all fun id => s.keeps id
      | false, true => s.ids.all fun id => t.keeps id))

theorem okPair_spec {ops : Array Oper} {t s : Ent} (h : okPair ops t s = true) : t.i ≠ s.i ∧ (∀ d, t.o.dst = some d → s.o.dst ≠ some d) ∧
    (t.cl.testBit s.i = true ∨ ((∀ d, s.o.dst = some d → d ∉ readsOf t.o ++ guardOf ops t.o) ∧ (∀ d, t.o.dst = some d → d ∉ readsOf s.o ++ guardOf ops s.o) ∧ (t.q = true ∨ s.q = true) ∧
      (t.q = true → s.q = false → ∀ id ∈ t.ids, s.Keeps id) ∧ (t.q = false → s.q = true → ∀ id ∈ s.ids, t.Keeps id))) := by
  unfold okPair at h
  rw [Bool.and_eq_true, Bool.and_eq_true, Bool.or_eq_true] at h
  obtain ⟨⟨h1, h2⟩, h3⟩ := h
  refine ⟨by simpa using h1, fun d hd hs => by simp [hd, hs] at h2, ?_⟩
  rcases h3 with h3 | h3
  · exact .inl h3
  · refine .inr ?_
    rw [Bool.and_eq_true, Bool.and_eq_true] at h3
    obtain ⟨⟨h4, h5⟩, h6⟩ := h3
    refine ⟨hits_not h4, hits_not h5, ?_, ?_, ?_⟩
    · revert h6; cases t.q <;> cases s.q <;> simp
    · intro ht hs id hid
      rw [ht, hs] at h6
      exact Ent.keeps_spec (List.all_eq_true.1 h6 id hid)
    · intro ht hs id hid
      rw [ht, hs] at h6
      exact Ent.keeps_spec (List.all_eq_true.1 h6 id hid)

/-- The operation may be taken wherever its operands are what they were, and so is the memory that it looks at. -/
def Ent.Runs (X : Cx) (nt : Nt) (ops : Array Oper) (t : Ent) : Prop :=
  ∀ {M0 : List Blk}, (t.q = true → ∀ id ∈ t.ids, M0[id]? = t.M[id]?) → (t.q = false → M0 = t.M) →
    ∀ {rdc : Cy} {n : Nat} {w0 : World} {S : Sc} {F : Addr → Prop} {ρ : List Hd} {a : Act} {w : World} {Q : Exit → Act → World → Prop} {K : Act → World → Prop}, Inv X w0 S F ρ M0 w → a.tmps.size = nt.n →
      (∀ u ∈ readsOf t.o ++ guardOf ops t.o, Rep X.K ρ F w (look t.env u) (a.tmps.getD u undef)) →
      (∀ v w' F' ρ', Inv X w0 S F' ρ' (if t.q then M0 else t.M') w' → Rep X.K ρ' F' w' t.x v → Grow F F' ρ ρ' w w' → K (a.put t.o.dst v) w') → wpOpIn (fen rdc.r) n X.P ops Q t.i K a w

/-- The log, the last entry first, from what is known before to what is known behind. -/
def Log (X : Cx) (D : Nat → Bool) (nt : Nt) (ops : Array Oper) (env0 : List (Nat × AV)) (M0 : List Blk) : List Ent → List (Nat × AV) → List Blk → Prop
  | [], env, M => (∀ u, look env u = look env0 u) ∧ M = M0
  | t :: log, env, M => ∃ env1 M1, Log X D nt ops env0 M0 log env1 M1 ∧ (∀ u, look t.env u = look env1 u) ∧ t.M = M1 ∧ (t.q = true → t.M' = t.M) ∧ (t.q = false → Agree t.ids t.M t.M') ∧ (D t.i = false → t.Runs X nt ops) ∧
      ops[t.i]? = some t.o ∧ (∀ d, t.o.dst = some d → d < nt.n ∧ nt.mask.testBit d = true) ∧ (∀ s ∈ log, okPair ops t s = true) ∧
      (∀ e ∈ t.o.after, Region.binds .any e = true → ∃ s ∈ log, s.i = e.on) ∧ (∀ w, t.cl.testBit w = true → ∃ e ∈ t.o.after, Region.binds .any e = true ∧ (w = e.on ∨ ∃ s ∈ log, s.i = e.on ∧ s.cl.testBit w = true)) ∧
      (∀ u, look env u = (if t.o.dst = some u then t.x else look env1 u)) ∧ M = t.M'

section
variable {D : Nat → Bool} {nt : Nt} {ops : Array Oper} {env0 : List (Nat × AV)} {M0 : List Blk}

theorem Log.suffix {l1 : List Ent} : ∀ {l2 : List Ent} {env : List (Nat × AV)} {M : List Blk}, Log X D nt ops env0 M0 (l2 ++ l1) env M → ∃ env' M', Log X D nt ops env0 M0 l1 env' M'
  | [], _, _, h => ⟨_, _, h⟩
  | _ :: l2, _, _, ⟨_, _, h, _⟩ => Log.suffix (l2 := l2) h

/-- Variables. -/
theorem Log.look : ∀ {log : List Ent} {env : List (Nat × AV)} {M : List Blk}, Log X D nt ops env0 M0 log env M → ∀ u, (∃ s ∈ log, s.o.dst = some u ∧ look env u = s.x) ∨ ((∀ s ∈ log, s.o.dst ≠ some u) ∧ look env u = look env0 u)
  | [], _, _, ⟨h, _⟩, u => .inr ⟨fun s hs => by simp at hs, h u⟩
  | t :: log, env, M, ⟨env1, M1, hl, _, _, _, _, _, _, _, _, _, _, he, _⟩, u => by
    rw [he u]
    split
    · rename_i hd; exact .inl ⟨t, List.mem_cons_self, hd, rfl⟩
    · rename_i hd
      rcases Log.look hl u with ⟨s, hs, h⟩ | ⟨h1, h2⟩
      · exact .inl ⟨s, List.mem_cons_of_mem _ hs, h⟩
      · refine .inr ⟨fun s hs => ?_, h2⟩
        rcases List.mem_cons.1 hs with rfl | hs
        · exact hd
        · exact h1 s hs

abbrev isIn (L : Array Bool) (i : Nat) : Prop := L.getD i false = true

/-- What is taken is closed downwards. -/
def Closed (L : Array Bool) (log : List Ent) : Prop := ∀ t ∈ log, isIn L t.i → ∀ e ∈ t.o.after, Region.binds .any e = true → isIn L e.on

theorem Log.closed {L : Array Bool} : ∀ {log : List Ent} {env : List (Nat × AV)} {M : List Blk}, Log X D nt ops env0 M0 log env M → Closed L log → ∀ t ∈ log, (∀ e ∈ t.o.after, Region.binds .any e = true → isIn L e.on) → ∀ w, t.cl.testBit w = true → isIn L w
  | [], _, _, _, _, t, ht, _, _, _ => by simp at ht
  | t :: log, _, _, ⟨env1, M1, hl, _, _, _, _, _, _, _, _, _, hc, _, _⟩, hcl, s, hs, hp, w, hw => by
    have ih := Log.closed hl (fun a ha => hcl a (List.mem_cons_of_mem _ ha))
    rcases List.mem_cons.1 hs with rfl | hs
    · obtain ⟨e, he, hb, rfl | ⟨u, hu, hui, hut⟩⟩ := hc w hw
      · exact hp e he hb
      · exact ih u hu (hcl u (List.mem_cons_of_mem _ hu) (by rw [hui]; exact hp e he hb)) w hut
    · exact ih s hs hp w hw

/-- The memory behind what is taken. -/
def memS (M0 : List Blk) (L : Array Bool) : List Ent → List Blk
  | [] => M0
  | t :: log => if t.q = false ∧ isIn L t.i then t.M' else memS M0 L log

theorem memS_skip {L : Array Bool} : ∀ {l2 l1 : List Ent}, (∀ s ∈ l2, s.q = false → ¬ isIn L s.i) → memS M0 L (l2 ++ l1) = memS M0 L l1
  | [], _, _ => rfl
  | s :: l2, l1, h => by
    simp only [List.cons_append, memS]
    rw [if_neg (fun hh => h s List.mem_cons_self hh.1 hh.2)]
    exact memS_skip fun a ha => h a (List.mem_cons_of_mem _ ha)

theorem Log.mem_all {L : Array Bool} : ∀ {log : List Ent} {env : List (Nat × AV)} {M : List Blk}, Log X D nt ops env0 M0 log env M → (∀ s ∈ log, s.q = false → isIn L s.i) → memS M0 L log = M
  | [], _, _, ⟨_, h⟩, _ => h.symm
  | t :: log, _, _, ⟨env1, M1, hl, _, h2, h3, _, _, _, _, _, _, _, _, h4⟩, h => by
    simp only [memS]
    cases hq : t.q with
    | false => rw [if_pos ⟨rfl, h t List.mem_cons_self hq⟩]; exact h4.symm
    | true =>
      rw [if_neg (by simp), Log.mem_all hl (fun s hs => h s (List.mem_cons_of_mem _ hs)), h4, h3 hq, h2]

theorem Log.mem_id {L : Array Bool} {id : Nat} : ∀ {log : List Ent} {env : List (Nat × AV)} {M : List Blk}, Log X D nt ops env0 M0 log env M → (∀ s ∈ log, s.q = false → isIn L s.i ∨ s.Keeps id) → (memS M0 L log)[id]? = M[id]?
  | [], _, _, ⟨_, h⟩, _ => by rw [h]; rfl
  | t :: log, _, _, ⟨env1, M1, hl, _, h2, h3, h3', _, _, _, _, _, _, _, h4⟩, h => by
    have ih := Log.mem_id hl (fun s hs => h s (List.mem_cons_of_mem _ hs))
    simp only [memS]
    cases hq : t.q with
    | false =>
      rcases h t List.mem_cons_self hq with hh | hh1
      · rw [if_pos ⟨rfl, hh⟩, h4]
      · by_cases hin : isIn L t.i
        · rw [if_pos ⟨rfl, hin⟩, h4]
        · rw [if_neg (fun hh => hin hh.2), ih, h4, hh1.at (h3' hq), h2]
    | true => rw [if_neg (by simp), ih, h4, h3 hq, h2]

/-- The memory that an operation looks at, when it is taken. -/
theorem Log.mem_quiet {L : Array Bool} {t : Ent} {l1 : List Ent} {env : List (Nat × AV)} {M : List Blk} {id : Nat} (hnot : ¬ isIn L t.i) (hq : t.q = true) (hid : id ∈ t.ids) :
    ∀ {l2 : List Ent} {env' : List (Nat × AV)} {M' : List Blk}, Log X D nt ops env0 M0 (l2 ++ t :: l1) env' M' → Log X D nt ops env0 M0 l1 env M → Closed L (l2 ++ t :: l1) → (∀ e ∈ t.o.after, Region.binds .any e = true → isIn L e.on) →
      (memS M0 L (l2 ++ t :: l1))[id]? = M[id]?
  | [], env', M', hL@⟨env1, M1, hl, _, h2, h3, _, _, _, _, hp, _, hc, _, h4⟩, hl1, hcl, hpre => by
    simp only [List.nil_append, memS]
    rw [if_neg (by simp [hq])]
    refine Log.mem_id hl1 fun s hs hsq => ?_
    have hcl' := Log.closed (L := L) hL hcl t List.mem_cons_self hpre
    obtain ⟨_, _, h | ⟨_, _, _, h, _⟩⟩ := okPair_spec (hp s hs)
    · exact .inl (hcl' _ h)
    · exact .inr (h hq hsq id hid)
  | s :: l2, env', M', hL@⟨env1, M1, hl, _, h2, h3, h3', _, _, _, hp, _, hc, _, h4⟩, hl1, hcl, hpre => by
    have ih := Log.mem_quiet hnot hq hid hl hl1 (fun a ha => hcl a (List.mem_cons_of_mem _ ha)) hpre
    simp only [List.cons_append, memS]
    by_cases hs : s.q = false ∧ isIn L s.i
    · rw [if_pos hs]
      obtain ⟨hsq, hsi⟩ := hs
      have hcs := Log.closed (L := L) hL hcl s List.mem_cons_self (hcl s List.mem_cons_self hsi)
      have hap := okPair_spec (hp t (List.mem_append_right _ List.mem_cons_self))
      obtain ⟨_, _, h | ⟨_, _, _, _, h⟩⟩ := hap
      · exact absurd (hcs _ h) hnot
      · rw [(h hsq hq id hid).at (h3' hsq), h2, ← ih]
        symm
        -- the effects in between are all taken
        refine Log.mem_id hl fun u hu huq => ?_
        rcases List.mem_append.1 hu with hu' | hu'
        · obtain ⟨_, _, h | ⟨_, _, h, _⟩⟩ := okPair_spec (hp u hu)
          · exact .inl (hcs _ h)
          · rw [hsq, huq] at h; simp at h
        · obtain ⟨_, _, h | ⟨_, _, h, _⟩⟩ := okPair_spec (hp u hu)
          · exact .inl (hcs _ h)
          · rw [hsq, huq] at h; simp at h
    · rw [if_neg hs]; exact ih
end

end
end Go.Eng

namespace Go.Eng
open Go
noncomputable section

variable {X : Cx} {R : Type}

section
variable {D : Nat → Bool} {nt : Nt} {ops : Array Oper} {env0 : List (Nat × AV)} {M0 : List Blk}

theorem Log.mem_eff {L : Array Bool} {t : Ent} {l1 : List Ent} {env : List (Nat × AV)} {M : List Blk} (hnot : ¬ isIn L t.i) (hq : t.q = false) :
    ∀ {l2 : List Ent} {env' : List (Nat × AV)} {M' : List Blk}, Log X D nt ops env0 M0 (l2 ++ t :: l1) env' M' → Log X D nt ops env0 M0 l1 env M → Closed L (l2 ++ t :: l1) → (∀ e ∈ t.o.after, Region.binds .any e = true → isIn L e.on) →
      memS M0 L (l2 ++ t :: l1) = M
  | [], env', M', hL@⟨env1, M1, hl, _, h2, h3, _, _, _, _, hp, _, hc, _, h4⟩, hl1, hcl, hpre => by
    simp only [List.nil_append, memS]
    rw [if_neg (fun hh => hnot hh.2)]
    refine Log.mem_all hl1 fun s hs hsq => ?_
    have hcl' := Log.closed (L := L) hL hcl t List.mem_cons_self hpre
    obtain ⟨_, _, h | ⟨_, _, h, _⟩⟩ := okPair_spec (hp s hs)
    · exact hcl' _ h
    · rw [hq, hsq] at h; simp at h
  | s :: l2, env', M', hL@⟨env1, M1, hl, _, h2, h3, h3', _, _, _, hp, _, hc, _, h4⟩, hl1, hcl, hpre => by
    have ih := Log.mem_eff hnot hq hl hl1 (fun a ha => hcl a (List.mem_cons_of_mem _ ha)) hpre
    simp only [List.cons_append, memS]
    rw [if_neg]
    · exact ih
    · rintro ⟨hsq, hsi⟩
      have hcs := Log.closed (L := L) hL hcl s List.mem_cons_self (hcl s List.mem_cons_self hsi)
      obtain ⟨_, _, h | ⟨_, _, h, _⟩⟩ := okPair_spec (hp t (List.mem_append_right _ List.mem_cons_self))
      · exact hnot (hcs _ h)
      · rw [hsq, hq] at h; simp at h

/-- What an entry's operands are, when it is taken. -/
theorem Log.reads {L : Array Bool} {t : Ent} {l1 : List Ent} (hnot : ¬ isIn L t.i) {u : Nat} (hu : u ∈ readsOf t.o ++ guardOf ops t.o) {P : AV → Prop} :
    ∀ {l2 : List Ent} {env' : List (Nat × AV)} {M' : List Blk}, Log X D nt ops env0 M0 (l2 ++ t :: l1) env' M' → Closed L (l2 ++ t :: l1) → (∀ e ∈ t.o.after, Region.binds .any e = true → isIn L e.on) →
      (∀ s ∈ l1, isIn L s.i → s.o.dst = some u → P s.x) → ((∀ s ∈ l2 ++ t :: l1, isIn L s.i → s.o.dst ≠ some u) → P (Eng.look env0 u)) → P (Eng.look t.env u)
  | [], env', M', hL@⟨env1, M1, hl, h1, _, _, _, _, _, _, hp, _, hc, _, h4⟩, hcl, hpre, hw, h0 => by
    have hcl' := Log.closed (L := L) hL hcl t List.mem_cons_self hpre
    rw [h1 u]
    rcases Log.look hl u with ⟨s, hs, hd, he⟩ | ⟨hn, he⟩
    · rw [he]
      refine hw s hs ?_ hd
      obtain ⟨_, _, h | ⟨h, _⟩⟩ := okPair_spec (hp s hs)
      · exact hcl' _ h
      · exact absurd hu (h u hd)
    · rw [he]
      refine h0 fun s hs hsi hd => ?_
      rcases List.mem_cons.1 hs with rfl | hs
      · exact hnot hsi
      · exact hn s hs hd
  | s :: l2, env', M', hL@⟨env1, M1, hl, _, h2, h3, h3', _, _, _, hp, _, hc, _, h4⟩, hcl, hpre, hw, h0 => by
    refine Log.reads hnot hu hl (fun a ha => hcl a (List.mem_cons_of_mem _ ha)) hpre hw fun hn => h0 fun r hr hri hd => ?_
    rcases List.mem_cons.1 hr with rfl | hr
    · have hcs := Log.closed (L := L) hL hcl r List.mem_cons_self (hcl r List.mem_cons_self hri)
      obtain ⟨_, _, h | ⟨_, h, _⟩⟩ := okPair_spec (hp t (List.mem_append_right _ List.mem_cons_self))
      · exact hnot (hcs _ h)
      · exact h u hd hu
    · exact hn r hr hri hd

theorem Log.entry {t : Ent} {l1 : List Ent} : ∀ {l2 : List Ent} {env' : List (Nat × AV)} {M' : List Blk}, Log X D nt ops env0 M0 (l2 ++ t :: l1) env' M' → ∃ env M, Log X D nt ops env0 M0 (t :: l1) env M
  | [], _, _, h => ⟨_, _, h⟩
  | _ :: _, _, _, ⟨_, _, h, _⟩ => Log.entry h

theorem Log.distinct {log : List Ent} : ∀ {env : List (Nat × AV)} {M : List Blk}, Log X D nt ops env0 M0 log env M → ∀ s ∈ log, ∀ t ∈ log, s.i = t.i → s = t := by
  induction log with
  | nil => intro _ _ _ s hs; simp at hs
  | cons a log ih =>
    intro env M ⟨env1, M1, hl, _, _, _, _, _, _, _, hp, _⟩ s hs t ht e
    rcases List.mem_cons.1 hs with rfl | hs' <;> rcases List.mem_cons.1 ht with rfl | ht'
    · rfl
    · exact absurd e (okPair_spec (hp t ht')).1
    · exact absurd e.symm (okPair_spec (hp s hs')).1
    · exact ih hl s hs' t ht' e

theorem Log.dst {log : List Ent} : ∀ {env : List (Nat × AV)} {M : List Blk}, Log X D nt ops env0 M0 log env M → ∀ s ∈ log, ∀ t ∈ log, ∀ d, s.o.dst = some d → t.o.dst = some d → s = t := by
  induction log with
  | nil => intro _ _ _ s hs; simp at hs
  | cons a log ih =>
    intro env M ⟨env1, M1, hl, _, _, _, _, _, _, _, hp, _⟩ s hs t ht d hd hd'
    rcases List.mem_cons.1 hs with rfl | hs' <;> rcases List.mem_cons.1 ht with rfl | ht'
    · rfl
    · exact absurd hd' ((okPair_spec (hp t ht')).2.1 d hd)
    · exact absurd hd ((okPair_spec (hp s hs')).2.1 d hd')
    · exact ih hl s hs' t ht' d hd hd'

theorem memS_congr {L L' : Array Bool} : ∀ {log : List Ent}, (∀ s ∈ log, s.q = false → (isIn L s.i ↔ isIn L' s.i)) → memS M0 L log = memS M0 L' log
  | [], _ => rfl
  | t :: log, h => by
    have ih := memS_congr (L := L) (L' := L') (log := log) fun s hs => h s (List.mem_cons_of_mem _ hs)
    simp only [memS]
    by_cases hq : t.q = false
    · have := h t List.mem_cons_self hq
      by_cases hin : isIn L t.i
      · rw [if_pos ⟨hq, hin⟩, if_pos ⟨hq, this.1 hin⟩]
      · rw [if_neg (fun hh => hin hh.2), if_neg (fun hh => hin (this.2 hh.2)), ih]
    · rw [if_neg (fun hh => hq hh.1), if_neg (fun hh => hq hh.1), ih]

theorem countP_lt {α : Type} {p q : α → Bool} : ∀ {l : List α}, (∀ x ∈ l, q x = true → p x = true) → (∃ x ∈ l, p x = true ∧ q x = false) → l.countP q < l.countP p
  | [], _, ⟨x, hx, _⟩ => by simp at hx
  | a :: l, h, ⟨x, hx, hp, hq⟩ => by
    have hmono : l.countP q ≤ l.countP p := List.countP_mono_left fun y hy => h y (List.mem_cons_of_mem _ hy)
    rcases List.mem_cons.1 hx with rfl | hx
    · rw [List.countP_cons_of_pos hp, List.countP_cons_of_neg (by simp [hq])]; omega
    · have ih := countP_lt (fun y hy => h y (List.mem_cons_of_mem _ hy)) ⟨x, hx, hp, hq⟩
      by_cases hqa : q a = true
      · rw [List.countP_cons_of_pos hqa, List.countP_cons_of_pos (h a List.mem_cons_self hqa)]; omega
      · rw [List.countP_cons_of_neg hqa]
        by_cases hpa : p a = true
        · rw [List.countP_cons_of_pos hpa]; omega
        · rw [List.countP_cons_of_neg hpa]; omega

/-- What holds between the operations of a region that draws. -/
structure Mid (X : Cx) (nt : Nt) (env0 : List (Nat × AV)) (M0 : List Blk) (w0 : World) (S : Sc) (F0 : Addr → Prop) (ρ0 : List Hd) (wb : World) (ds : List Deferred) (tv : Nat → Value) (log : List Ent) (L : Array Bool) (F : Addr → Prop) (ρ : List Hd) (a : Act) (w : World) : Prop where
  inv : Inv X w0 S F ρ (memS M0 L log) w
  grow : Grow F0 F ρ0 ρ wb w
  size : a.tmps.size = nt.n
  defs : a.defers = ds
  kept : ∀ t, nt.mask.testBit t = false → a.tmps.getD t undef = tv t
  wrote : ∀ s ∈ log, isIn L s.i → ∀ d, s.o.dst = some d → Rep X.K ρ F w s.x (a.tmps.getD d undef)
  old : ∀ u, (∀ s ∈ log, isIn L s.i → s.o.dst ≠ some u) → Rep X.K ρ F w (Eng.look env0 u) (a.tmps.getD u undef)

theorem any_runs {rdc : Cy} {n : Nat} {w0 wb : World} {S : Sc} {F0 : Addr → Prop} {ρ0 : List Hd} {ds : List Deferred} {tv : Nat → Value} {Q : Exit → Act → World → Prop} {log : List Ent} {env : List (Nat × AV)} {M : List Blk} (hL : Log X D nt ops env0 M0 log env M)
    (hall : ∀ i, i < ops.size → ∃ t ∈ log, t.i = i)
    (hQ : ∀ a' w' F' ρ', Inv X w0 S F' ρ' M w' → EnvRep X ρ' F' w' env a'.tmps → a'.tmps.size = nt.n → a'.defers = ds → (∀ t, nt.mask.testBit t = false → a'.tmps.getD t undef = tv t) → Grow F0 F' ρ0 ρ' wb w' → Q .normal a' w') :
    ∀ (fuel : Nat) (L : Array Bool) (F : Addr → Prop) (ρ : List Hd) (a : Act) (w : World), L.size = ops.size → log.countP (fun t => !(L.getD t.i false)) ≤ fuel → Closed L log → (∀ t ∈ log, D t.i = true → isIn L t.i) →
      Mid X nt env0 M0 w0 S F0 ρ0 wb ds tv log L F ρ a w → wpAnyIn (fen rdc.r) n X.P .any ops Q fuel L a w := by
  have done : ∀ (L : Array Bool) (F : Addr → Prop) (ρ : List Hd) (a : Act) (w : World), (∀ t ∈ log, isIn L t.i) → Mid X nt env0 M0 w0 S F0 ρ0 wb ds tv log L F ρ a w → Q .normal a w := by
    intro L F ρ a w hin hm
    refine hQ a w F ρ ?_ (fun u => ?_) hm.size hm.defs hm.kept hm.grow
    · have := Log.mem_all hL (L := L) (fun s hs _ => hin s hs)
      rw [← this]
      exact hm.inv
    · rcases Log.look hL u with ⟨s, hs, hd, he⟩ | ⟨hn, he⟩
      · rw [he]; exact hm.wrote s hs (hin s hs) u hd
      · rw [he]; exact hm.old u fun s hs _ => hn s hs
  -- none is ready: all are taken
  have none_ready : ∀ (L : Array Bool), L.size = ops.size → Region.ready .any ops L = [] → ∀ t ∈ log, isIn L t.i := by
    intro L hsz hr
    have key : ∀ (l1 : List Ent) (l2 : List Ent) (env' : List (Nat × AV)) (M' : List Blk), Log X D nt ops env0 M0 l1 env' M' → l2 ++ l1 = log → ∀ t ∈ l1, isIn L t.i := by
      intro l1
      induction l1 with
      | nil => intro _ _ _ _ _ t ht; simp at ht
      | cons s l1 ih =>
        intro l2 env' M' hl he t ht
        obtain ⟨env1, M1, hl1, _, _, _, _, _, ho, _, _, hpre, _⟩ := hl
        have ih' := ih (l2 ++ [s]) env1 M1 hl1 (by simpa using he)
        rcases List.mem_cons.1 ht with rfl | ht
        · by_cases hin : isIn L t.i
          · exact hin
          · exfalso
            have hmem : t.i ∈ Region.ready .any ops L := by
              rw [mem_ready]
              have hlt : t.i < ops.size := (Array.getElem?_eq_some_iff.1 ho).1
              refine ⟨?_, t.o, ho, fun e hee hb => ?_⟩
              · have : t.i < L.size := by omega
                simp only [isIn, Array.getD_eq_getD_getElem?, Array.getElem?_eq_getElem this, Option.getD_some] at hin ⊢
                simpa using hin
              · obtain ⟨r, hr', hri⟩ := hpre e hee hb
                rw [← hri]; exact ih' r hr'
            rw [hr] at hmem
            simp at hmem
        · exact ih' t ht
    exact fun t ht => key log [] env M hL rfl t ht
  intro fuel
  induction fuel with
  | zero =>
    intro L F ρ a w hsz hcnt hcl hD hm
    have hin : ∀ t ∈ log, isIn L t.i := by
      intro t ht
      have h0 : log.countP (fun t => !(L.getD t.i false)) = 0 := by omega
      have := List.countP_eq_zero.1 h0 t ht
      cases hb : L.getD t.i false with
      | true => exact hb
      | false => exact absurd (by simp only [hb, Bool.not_false]) this
    refine ⟨?_, done L F ρ a w hin hm⟩
    cases hr : Region.ready .any ops L with
    | nil => rfl
    | cons i is =>
      exfalso
      have hmem : i ∈ Region.ready .any ops L := by rw [hr]; exact List.mem_cons_self
      rw [mem_ready] at hmem
      obtain ⟨hf, o, ho, _⟩ := hmem
      have hlt : i < ops.size := (Array.getElem?_eq_some_iff.1 ho).1
      obtain ⟨t, ht, rfl⟩ := hall i hlt
      have h1 := hin t ht
      have : t.i < L.size := by omega
      simp only [isIn, Array.getD_eq_getD_getElem?, Array.getElem?_eq_getElem this, Option.getD_some] at h1 hf
      rw [h1] at hf; cases hf
  | succ fuel ih =>
    intro L F ρ a w hsz hcnt hcl hD hm
    refine ⟨fun hr => done L F ρ a w (none_ready L hsz hr) hm, fun i hi => ?_⟩
    rw [mem_ready] at hi
    obtain ⟨hf, o, ho, hpre⟩ := hi
    have hlt : i < ops.size := (Array.getElem?_eq_some_iff.1 ho).1
    obtain ⟨t, ht, rfl⟩ := hall i hlt
    have hltL : t.i < L.size := by omega
    have hnot : ¬ isIn L t.i := by
      simp only [isIn, Array.getD_eq_getD_getElem?, Array.getElem?_eq_getElem hltL, Option.getD_some] at hf ⊢
      rw [hf]; simp
    obtain ⟨l2, l1, rfl⟩ := List.append_of_mem ht
    obtain ⟨envE, ME, hE⟩ := Log.entry hL
    obtain ⟨env1, M1, hl1, hte, htM, htq, hta, hrun, hto, hdlt, hp, hpre', hclo, _, _⟩ := hE
    have hoo : t.o = o := by rw [ho] at hto; injection hto with hto; exact hto.symm
    subst hoo
    have hin' : ∀ j, isIn (L.setIfInBounds t.i true) j ↔ j = t.i ∨ isIn L j := by
      intro j
      by_cases hj : j = t.i
      · subst hj; simp [isIn, Array.getD_eq_getD_getElem?, hltL]
      · simp only [isIn]; rw [getD_set_ne false (Ne.symm hj)]; simp [hj]
    have hDf : D t.i = false := by
      cases hd : D t.i with
      | false => rfl
      | true => exact absurd (hD t ht hd) hnot
    refine hrun hDf (M0 := memS M0 L (l2 ++ t :: l1)) (fun hq id hid => by rw [htM]; exact Log.mem_quiet hnot hq hid hL hl1 hcl hpre) (fun hq => by rw [htM]; exact Log.mem_eff hnot hq hL hl1 hcl hpre)
      hm.inv hm.size (fun u hu => Log.reads (P := fun x => Rep X.K ρ F w x (a.tmps.getD u undef)) hnot hu hL hcl hpre (fun s hs hsi hd => hm.wrote s (List.mem_append_right _ (List.mem_cons_of_mem _ hs)) hsi u hd) (hm.old u)) ?_
    intro v w' F' ρ' hI' hx hg
    have hmem' : memS M0 (L.setIfInBounds t.i true) (l2 ++ t :: l1) = if t.q then memS M0 L (l2 ++ t :: l1) else t.M' := by
      cases hq : t.q with
      | true =>
        rw [if_pos rfl]
        refine memS_congr fun s hs hsq => ?_
        rw [hin']
        constructor
        · rintro (h | h)
          · have := Log.distinct hL s hs t ht h
            subst this
            rw [hq] at hsq; cases hsq
          · exact h
        · exact .inr
      | false =>
        rw [if_neg (by simp), memS_skip]
        · simp only [memS]
          rw [if_pos ⟨hq, (hin' _).2 (.inl rfl)⟩]
        · intro s hs hsq hsi
          rw [hin'] at hsi
          have hs' : s ∈ l2 ++ t :: l1 := List.mem_append_left _ hs
          -- an effect behind t is not taken before t
          obtain ⟨m2, m1, rfl⟩ := List.append_of_mem hs
          have hL2 : Log X D nt ops env0 M0 (m2 ++ s :: (m1 ++ t :: l1)) env M := by simpa using hL
          obtain ⟨envS, MS, hS⟩ := Log.entry hL2
          have hS' := hS
          obtain ⟨_, _, _, _, _, _, _, _, _, _, hps, _⟩ := hS'
          have hok := okPair_spec (hps t (List.mem_append_right _ List.mem_cons_self))
          rcases hsi with h | h
          · exact hok.1 h
          · have hclS : Closed L (s :: (m1 ++ t :: l1)) := fun r hr => hcl r (by
              rcases List.mem_cons.1 hr with rfl | hr
              · simp
              · simp only [List.append_assoc, List.cons_append, List.mem_append, List.mem_cons] at hr ⊢
                rcases hr with hr | hr | hr
                · exact .inr (.inr (.inl hr))
                · exact .inr (.inr (.inr (.inl hr)))
                · exact .inr (.inr (.inr (.inr hr))))
            have hcs := Log.closed (L := L) hS hclS s List.mem_cons_self (hclS s List.mem_cons_self h)
            obtain ⟨_, _, h2 | ⟨_, _, h2, _⟩⟩ := hok
            · exact hnot (hcs _ h2)
            · rw [hsq, hq] at h2; simp at h2
    refine ih (L.setIfInBounds t.i true) F' ρ' _ w' (by simpa using hsz) ?_ ?_ (fun s hs hd => (hin' _).2 (.inr (hD s hs hd))) ⟨hmem' ▸ hI', hm.grow.trans hg, by simp only [Act.put]; split <;> simp [hm.size], by simp only [Act.put]; split <;> exact hm.defs, ?_, ?_, ?_⟩
    · have := countP_lt (l := l2 ++ t :: l1) (p := fun t => !(L.getD t.i false)) (q := fun s => !((L.setIfInBounds t.i true).getD s.i false)) (fun s hs h => by
        have h' : ¬ isIn (L.setIfInBounds t.i true) s.i := by simpa [isIn] using h
        rw [hin'] at h'
        have : ¬ isIn L s.i := fun hh => h' (.inr hh)
        simpa [isIn] using this) ⟨t, ht, by simpa [isIn] using hnot, by have := (hin' t.i).2 (.inl rfl); simpa [isIn] using this⟩
      omega
    · intro s hs hsi e he hb
      rw [hin'] at hsi ⊢
      rcases hsi with h | h
      · have := Log.distinct hL s hs t ht h
        subst this
        exact .inr (hpre e he hb)
      · exact .inr (hcl s hs h e he hb)
    · cases htd : t.o.dst with
      | none => exact hm.kept
      | some d => exact kept_put (hdlt d htd).2 hm.kept
    · intro s hs hsi d hd
      rw [hin'] at hsi
      by_cases hst : s = t
      · subst hst
        have hlt' := (hdlt d hd).1
        have : (a.put s.o.dst v).tmps.getD d undef = v := by
          simp [Act.put, hd, Array.getD_eq_getD_getElem?, hm.size, hlt']
        rw [this]
        exact hx
      · have hsi' : isIn L s.i := by
          rcases hsi with h | h
          · exact absurd (Log.distinct hL s hs t ht h) hst
          · exact h
        have : (a.put t.o.dst v).tmps.getD d undef = a.tmps.getD d undef := by
          cases htd : t.o.dst with
          | none => rfl
          | some d' =>
            have hne : d' ≠ d := fun e => hst (Log.dst hL s hs t ht d hd (e ▸ htd))
            simp [Act.put, Array.getD_eq_getD_getElem?, Array.getElem?_setIfInBounds_ne hne]
        rw [this]
        exact (hm.wrote s hs hsi' d hd).grow hg
    · intro u hu
      have htu : t.o.dst ≠ some u := hu t ht ((hin' _).2 (.inl rfl))
      have : (a.put t.o.dst v).tmps.getD u undef = a.tmps.getD u undef := by
        cases htd : t.o.dst with
        | none => rfl
        | some d' =>
          have hne : d' ≠ u := fun e => htu (e ▸ htd)
          simp [Act.put, Array.getD_eq_getD_getElem?, Array.getElem?_setIfInBounds_ne hne]
      rw [this]
      exact (hm.old u fun s hs hsi => hu s hs ((hin' _).2 (.inr hsi))).grow hg
end

end
end Go.Eng

namespace Go.Eng
open Go
noncomputable section

variable {X : Cx} {R : Type}

def idlt (n : Nat) (i : Nat) : Option Nat := match Nat.blt i n with | true => some i | false => none
theorem idlt_some {n i j : Nat} (h : idlt n i = some j) : i < n ∧ j = i := by
  unfold idlt at h
  split at h
  · rename_i hb
    injection h with h
    exact ⟨by simpa using hb, h.symm⟩
  · cases h
theorem ren_idlt {n : Nat} {ρ0 hs hs' : List Hd} (hl : ρ0.length = n) : Ren (idlt n) (ρ0 ++ hs) (ρ0 ++ hs') := by
  intro id j hd h hh
  obtain ⟨h1, rfl⟩ := idlt_some h
  rw [List.getElem?_append_left (by omega)] at hh ⊢
  exact hh

section
variable {w0 w : World} {S : Sc} {F : Addr → Prop}

/-- The new blocks in another order. -/
theorem Inv.retail (hX : X.Ok) {ρ0 hs hs' : List Hd} {M0 vs vs' : List Blk} (hI : Inv X w0 S F (ρ0 ++ hs) (M0 ++ vs) w) (hl : ρ0.length = M0.length) (hlen : hs'.length = vs'.length) (pos : Nat → Nat)
    (hpos : ∀ j b h, vs'[j]? = some b → hs'[j]? = some h → vs[pos j]? = some b ∧ hs[pos j]? = some h) (hinj : ∀ j j', j < vs'.length → j' < vs'.length → pos j = pos j' → j = j')
    (hM0 : M0.all (renOk (idlt M0.length)) = true) (hvs : ∀ b ∈ vs', ∀ (ρ ρ' : List Hd) hd, BRep X ρ F w hd b → BRep X ρ' F w hd b) :
    Inv X w0 S F (ρ0 ++ hs') (M0.map (renB (idlt M0.length)) ++ vs') w := by
  have hren : Ren (idlt M0.length) (ρ0 ++ hs) (ρ0 ++ hs') := ren_idlt hl
  let old : Nat → Nat := fun id => if id < M0.length then id else M0.length + pos (id - M0.length)
  have key : ∀ (id : Nat) c h, (M0.map (renB (idlt M0.length)) ++ vs')[id]? = some c → (ρ0 ++ hs')[id]? = some h →
      ∃ b, (M0 ++ vs)[old id]? = some b ∧ (ρ0 ++ hs)[old id]? = some h ∧ c.isDead = b.isDead ∧ BRep X (ρ0 ++ hs') F w h c := by
    intro id c h hc hh
    by_cases hid : id < M0.length
    · have e : old id = id := if_pos hid
      rw [e]
      rw [List.getElem?_append_left (by simpa using hid), List.getElem?_map] at hc
      rw [List.getElem?_append_left (by omega)] at hh
      cases hb : M0[id]? with
      | none => rw [hb] at hc; cases hc
      | some b =>
        rw [hb] at hc
        simp only [Option.map_some, Option.some.injEq] at hc
        subst hc
        have hb' : (M0 ++ vs)[id]? = some b := by rw [List.getElem?_append_left hid]; exact hb
        have hh' : (ρ0 ++ hs)[id]? = some h := by rw [List.getElem?_append_left (by omega)]; exact hh
        exact ⟨b, hb', hh', renB_dead _ _, (hI.rep id b h hb' hh').ren hX hren (List.all_eq_true.1 hM0 b (List.mem_of_getElem? hb))⟩
    · have e : old id = M0.length + pos (id - M0.length) := if_neg hid
      rw [e]
      rw [List.getElem?_append_right (by simpa using Nat.le_of_not_lt hid)] at hc
      rw [List.getElem?_append_right (by omega)] at hh
      simp only [List.length_map] at hc
      rw [hl] at hh
      obtain ⟨h1, h2⟩ := hpos _ _ _ hc hh
      have hb' : (M0 ++ vs)[M0.length + pos (id - M0.length)]? = some c := by rw [List.getElem?_append_right (by omega), Nat.add_sub_cancel_left]; exact h1
      have hh' : (ρ0 ++ hs)[M0.length + pos (id - M0.length)]? = some h := by rw [List.getElem?_append_right (by omega), hl, Nat.add_sub_cancel_left]; exact h2
      exact ⟨c, hb', hh', rfl, hvs c (List.mem_of_getElem? hc) _ _ _ (hI.rep _ c h hb' hh')⟩
  have inj : ∀ id id', id < M0.length + vs'.length → id' < M0.length + vs'.length → old id = old id' → id = id' := by
    intro id id' h1 h2 h
    simp only [old] at h
    split at h <;> split at h
    · exact h
    · omega
    · omega
    · have := hinj (id - M0.length) (id' - M0.length) (by omega) (by omega) (by omega)
      omega
  have lt : ∀ {id : Nat} {c : Blk}, (M0.map (renB (idlt M0.length)) ++ vs')[id]? = some c → id < M0.length + vs'.length := fun {id c} hc => by
    have := (List.getElem?_eq_some_iff.1 hc).1
    simpa using this
  refine ⟨hI.os, hI.tape, hI.output, hI.size, hI.frame, by simp [hl, hlen], fun id c h hc hh => (key id c h hc hh).choose_spec.2.2.2, ?_, ?_, hI.fz, fun g => (hI.glob g).top_pure hX.kinds (hX.glob g), ?_, hI.old, hI.fin⟩
  · intro id c h g hc hd hh hg
    obtain ⟨b, h1, h2, h3, _⟩ := key id c h hc hh
    exact hI.sep _ b h g h1 (by rw [← h3]; exact hd) h2 hg
  · intro id id' c c' h h' g hne hc hc' hd hd' hh hh' hg
    obtain ⟨b, h1, h2, h3, _⟩ := key id c h hc hh
    obtain ⟨b', h1', h2', h3', _⟩ := key id' c' h' hc' hh'
    exact hI.disj (old id) (old id') b b' h h' g (fun e => hne (inj id id' (lt hc) (lt hc') e)) h1 h1' (by rw [← h3]; exact hd) (by rw [← h3']; exact hd') h2 h2' hg
  · intro id h hh
    by_cases hid : id < M0.length
    · rw [List.getElem?_append_left (by omega)] at hh
      exact hI.one id h (by rw [List.getElem?_append_left (by omega)]; exact hh)
    · rw [List.getElem?_append_right (by omega)] at hh
      have hj := (List.getElem?_eq_some_iff.1 hh).1
      have hc : vs'[id - ρ0.length]? = some (vs'[id - ρ0.length]'(by omega)) := List.getElem?_eq_getElem (by omega)
      obtain ⟨_, h2⟩ := hpos _ _ _ hc hh
      exact hI.one (ρ0.length + pos (id - ρ0.length)) h (by rw [List.getElem?_append_right (by omega), Nat.add_sub_cancel_left]; exact h2)
end

theorem rho_same {ρ ρ' : List Hd} (h1 : ρ'.length = ρ.length) (h2 : ∀ (id : Nat) hd, ρ[id]? = some hd → ρ'[id]? = some hd) : ρ' = ρ := by
  apply List.ext_getElem?
  intro j
  by_cases hj : j < ρ.length
  · rw [List.getElem?_eq_getElem hj]; exact h2 j _ (List.getElem?_eq_getElem hj)
  · rw [List.getElem?_eq_none (by omega), List.getElem?_eq_none (by omega)]
theorem rho_push {ρ ρ' : List Hd} (h1 : ρ'.length = ρ.length + 1) (h2 : ∀ (id : Nat) hd, ρ[id]? = some hd → ρ'[id]? = some hd) : ∃ hd, ρ' = ρ ++ [hd] := by
  refine ⟨ρ'[ρ.length], List.ext_getElem? fun j => ?_⟩
  by_cases hj : j < ρ.length
  · rw [List.getElem?_append_left hj, List.getElem?_eq_getElem hj]
    exact h2 j _ (List.getElem?_eq_getElem hj)
  · by_cases hj2 : j = ρ.length
    · subst hj2
      rw [List.getElem?_append_right (Nat.le_refl _), Nat.sub_self, List.getElem?_eq_getElem (by omega)]
      rfl
    · rw [List.getElem?_eq_none (by omega), List.getElem?_eq_none (by simp; omega)]

/-- The type of a new variable. -/
def alT (o : Oper) : Option TypeId := match o.op with | .alloc t => some t | _ => none
def isAlc (ops : Array Oper) (i : Nat) : Bool := match ops[i]? with | some o => (alT o).isSome | none => false
def alOk (X : Cx) (o : Oper) : Bool := match alT o with | some t => (X.ti t).ok && koks (vks X t) (X.ti t).zero && (X.ti t).zero.all (fun x => x.pure) && o.guard.isNone | none => false
def vz (X : Cx) (s : Ent) : Blk := match alT s.o with | some t => .var (vks X t) (X.ti t).zero | none => .dead

theorem alT_some {o : Oper} {t : TypeId} (h : alT o = some t) : o.op = .alloc t := by
  unfold alT at h
  split at h
  · rename_i ho; injection h with h; subst h; exact ho
  · cases h

theorem alloc_runs (hX : X.Okb) {o : Oper} {t : TypeId} (ho : alT o = some t) (hok : alOk X o = true) {e : Operand → AV} {M : List Blk} : OpRuns X o e M (.ptr M.length 0 0) (M ++ [.var (vks X t) (X.ti t).zero]) := by
  have ho' := alT_some ho
  unfold alOk at hok
  rw [ho] at hok
  simp only [Bool.and_eq_true] at hok
  have h : evop0 X (tab0 (AV × List Blk)) e o M (fun x M => some (x, M)) = some (.ptr M.length 0 0, M ++ [.var (vks X t) (X.ti t).zero]) := by
    unfold evop0
    simp only [ho', evAlloc, hok.1.1.1, hok.1.1.2, Bool.and_self, tst]
  obtain ⟨x, M', hrun, he, _⟩ := evop0_sound hX (tab0_ok X _) h
  injection he with he
  injection he with e1 e2
  subst e1; subst e2
  exact @hrun
theorem alOk_guard {o : Oper} (h : alOk X o = true) : o.guard = none := by
  unfold alOk at h
  split at h
  · simp only [Bool.and_eq_true] at h
    simpa using h.2
  · cases h

section
variable {D : Nat → Bool} {nt : Nt} {ops : Array Oper} {env0 : List (Nat × AV)} {M0 : List Blk}

structure Mid1 (X : Cx) (nt : Nt) (ops : Array Oper) (env0 : List (Nat × AV)) (M0 : List Blk) (w0 : World) (S : Sc) (F0 : Addr → Prop) (ρ0 : List Hd) (wb : World) (ds : List Deferred) (tv : Nat → Value) (log : List Ent) (L : Array Bool) (pend : List Ent) (hs : List Hd) (F : Addr → Prop) (a : Act) (w : World) : Prop where
  inv : Inv X w0 S F (ρ0 ++ hs) (M0 ++ pend.map (vz X)) w
  len : hs.length = pend.length
  grow : Grow F0 F ρ0 (ρ0 ++ hs) wb w
  size : a.tmps.size = nt.n
  defs : a.defers = ds
  kept : ∀ t, nt.mask.testBit t = false → a.tmps.getD t undef = tv t
  wrote : ∀ s ∈ log, isIn L s.i → ∀ d, s.o.dst = some d → Rep X.K (ρ0 ++ hs) F w s.x (a.tmps.getD d undef)
  old : ∀ u, (∀ s ∈ log, isIn L s.i → s.o.dst ≠ some u) → Rep X.K (ρ0 ++ hs) F w (Eng.look env0 u) (a.tmps.getD u undef)
  ptr : ∀ (i : Nat) s, pend[i]? = some s → ∀ d, s.o.dst = some d → Rep X.K (ρ0 ++ hs) F w (.ptr (M0.length + i) 0 0) (a.tmps.getD d undef)
  all : ∀ s, s ∈ pend ↔ (s ∈ log ∧ isAlc ops s.i = true ∧ isIn L s.i)
  nodup : pend.Nodup

theorem any_runs1 (hX : X.Okb) {rdc : Cy} {n m : Nat} {w0 wb : World} {S : Sc} {F0 : Addr → Prop} {ρ0 : List Hd} {ds : List Deferred} {tv : Nat → Value} {Q : Exit → Act → World → Prop} {log : List Ent} {env : List (Nat × AV)} {M : List Blk} (hl0 : ρ0.length = M0.length)
    (hL : Log X (isAlc ops) nt ops env0 M0 log env M) (hq : ∀ t ∈ log, t.q = true) (hids : ∀ t ∈ log, ∀ id ∈ t.ids, id < M0.length) (hal : ∀ t ∈ log, isAlc ops t.i = true → alOk X t.o = true ∧ t.x = .top)
    (hready : ∀ (L : Array Bool), L.size = ops.size → Closed L log → (∀ i, isIn L i → ∃ t ∈ log, t.i = i) → (∃ t ∈ log, ¬ isIn L t.i) → ∀ i ∈ Region.ready .any ops L, ∃ t ∈ log, t.i = i)
    (hEnd : ∀ (fuel : Nat) (L : Array Bool) (F : Addr → Prop) (pend : List Ent) (hs : List Hd) (a : Act) (w : World), L.size = ops.size → m ≤ fuel → (∀ t ∈ log, isIn L t.i) → (∀ i, isIn L i → ∃ t ∈ log, t.i = i) →
      Mid1 X nt ops env0 M0 w0 S F0 ρ0 wb ds tv log L pend hs F a w → wpAnyIn (fen rdc.r) n X.P .any ops Q fuel L a w) :
    ∀ (fuel : Nat) (L : Array Bool) (F : Addr → Prop) (pend : List Ent) (hs : List Hd) (a : Act) (w : World), L.size = ops.size → log.countP (fun t => !(L.getD t.i false)) + m ≤ fuel → Closed L log → (∀ i, isIn L i → ∃ t ∈ log, t.i = i) →
      Mid1 X nt ops env0 M0 w0 S F0 ρ0 wb ds tv log L pend hs F a w → wpAnyIn (fen rdc.r) n X.P .any ops Q fuel L a w := by
  -- all are quiet: the memory stays
  have hM : ∀ {l1 : List Ent} {l2 : List Ent} {e' : List (Nat × AV)} {M' : List Blk}, Log X (isAlc ops) nt ops env0 M0 l1 e' M' → l2 ++ l1 = log → M' = M0 := by
    intro l1
    induction l1 with
    | nil => intro _ _ _ h _; exact h.2
    | cons s l1 ih =>
      intro l2 e' M' h he
      obtain ⟨env1, M1, hl1, _, h2, h3, _, _, _, _, _, _, _, _, h4⟩ := h
      have hs : s ∈ log := by rw [← he]; exact List.mem_append_right _ List.mem_cons_self
      rw [h4, h3 (hq s hs), h2]
      exact ih (l2 := l2 ++ [s]) hl1 (by simpa using he)
  -- some entry that is not taken is ready
  have none_ready : ∀ (L : Array Bool), L.size = ops.size → Region.ready .any ops L = [] → ∀ t ∈ log, isIn L t.i := by
    intro L hsz hr
    have key : ∀ (l1 : List Ent) (l2 : List Ent) (env' : List (Nat × AV)) (M' : List Blk), Log X (isAlc ops) nt ops env0 M0 l1 env' M' → l2 ++ l1 = log → ∀ t ∈ l1, isIn L t.i := by
      intro l1
      induction l1 with
      | nil => intro _ _ _ _ _ t ht; simp at ht
      | cons s l1 ih =>
        intro l2 env' M' hl he t ht
        obtain ⟨env1, M1, hl1, _, _, _, _, _, ho, _, _, hpre, _⟩ := hl
        have ih' := ih (l2 ++ [s]) env1 M1 hl1 (by simpa using he)
        rcases List.mem_cons.1 ht with rfl | ht
        · by_cases hin : isIn L t.i
          · exact hin
          · exfalso
            have hmem : t.i ∈ Region.ready .any ops L := by
              rw [mem_ready]
              have hlt : t.i < ops.size := (Array.getElem?_eq_some_iff.1 ho).1
              refine ⟨?_, t.o, ho, fun e hee hb => ?_⟩
              · have : t.i < L.size := by omega
                simp only [isIn, Array.getD_eq_getD_getElem?, Array.getElem?_eq_getElem this, Option.getD_some] at hin ⊢
                simpa using hin
              · obtain ⟨r, hr', hri⟩ := hpre e hee hb
                rw [← hri]; exact ih' r hr'
            rw [hr] at hmem
            simp at hmem
        · exact ih' t ht
    exact fun t ht => key log [] env M hL rfl t ht
  intro fuel
  induction fuel with
  | zero =>
    intro L F pend hs a w hsz hcnt hcl hsub hm
    have hin : ∀ t ∈ log, isIn L t.i := by
      intro t ht
      have h0 : log.countP (fun t => !(L.getD t.i false)) = 0 := by omega
      have := List.countP_eq_zero.1 h0 t ht
      cases hb : L.getD t.i false with
      | true => exact hb
      | false => exact absurd (by simp only [hb, Bool.not_false]) this
    exact hEnd 0 L F pend hs a w hsz (by omega) hin hsub hm
  | succ fuel ih =>
    intro L F pend hs a w hsz hcnt hcl hsub hm
    by_cases hall : ∀ t ∈ log, isIn L t.i
    · have h0 : log.countP (fun t => !(L.getD t.i false)) = 0 := by
        rw [List.countP_eq_zero]
        intro t ht h
        have := hall t ht
        simp only [isIn] at this
        rw [this] at h
        cases h
      exact hEnd (fuel + 1) L F pend hs a w hsz (by omega) hall hsub hm
    have hex : ∃ t ∈ log, ¬ isIn L t.i := by
      refine Classical.byContradiction fun h => hall fun t ht => Classical.byContradiction fun h2 => h ⟨t, ht, h2⟩
    refine ⟨fun hr => absurd (none_ready L hsz hr) hall, fun i hi => ?_⟩
    obtain ⟨t, ht, rfl⟩ := hready L hsz hcl hsub hex i hi
    rw [mem_ready] at hi
    obtain ⟨hf, o, ho, hpre⟩ := hi
    have hlt : t.i < ops.size := (Array.getElem?_eq_some_iff.1 ho).1
    have hltL : t.i < L.size := by omega
    have hnot : ¬ isIn L t.i := by
      simp only [isIn, Array.getD_eq_getD_getElem?, Array.getElem?_eq_getElem hltL, Option.getD_some] at hf ⊢
      rw [hf]; simp
    obtain ⟨l2, l1, hlog⟩ := List.append_of_mem ht
    have hLL := hL
    rw [hlog] at hLL
    obtain ⟨envE, ME, hE⟩ := Log.entry hLL
    obtain ⟨env1, M1, hl1, hte, htM, htq, hta, hrun, hto, hdlt, hp, hpre', hclo, _, _⟩ := hE
    have hoo : t.o = o := by rw [ho] at hto; injection hto with hto; exact hto.symm
    subst hoo
    have hin' : ∀ j, isIn (L.setIfInBounds t.i true) j ↔ j = t.i ∨ isIn L j := by
      intro j
      by_cases hj : j = t.i
      · subst hj; simp [isIn, Array.getD_eq_getD_getElem?, hltL]
      · simp only [isIn]; rw [getD_set_ne false (Ne.symm hj)]; simp [hj]
    have hcnt' : log.countP (fun s => !((L.setIfInBounds t.i true).getD s.i false)) + m ≤ fuel := by
      have := countP_lt (l := log) (p := fun t => !(L.getD t.i false)) (q := fun s => !((L.setIfInBounds t.i true).getD s.i false)) (fun s hs h => by
        have h' : ¬ isIn (L.setIfInBounds t.i true) s.i := by simpa [isIn] using h
        rw [hin'] at h'
        have : ¬ isIn L s.i := fun hh => h' (.inr hh)
        simpa [isIn] using this) ⟨t, ht, by simpa [isIn] using hnot, by have := (hin' t.i).2 (.inl rfl); simpa [isIn] using this⟩
      omega
    have hcl' : Closed (L.setIfInBounds t.i true) log := by
      intro s hs hsi e he hb
      rw [hin'] at hsi ⊢
      rcases hsi with h | h
      · have := Log.distinct hL s hs t ht h
        subst this
        exact .inr (hpre e he hb)
      · exact .inr (hcl s hs h e he hb)
    have hsub' : ∀ i, isIn (L.setIfInBounds t.i true) i → ∃ t ∈ log, t.i = i := by
      intro i hi
      rw [hin'] at hi
      rcases hi with rfl | hi
      · exact ⟨t, ht, rfl⟩
      · exact hsub i hi
    -- what the other temporaries hold
    have step : ∀ (v : Value) (w' : World) (F' : Addr → Prop) (hs' : List Hd) (pend' : List Ent), Inv X w0 S F' (ρ0 ++ hs') (M0 ++ pend'.map (vz X)) w' → hs'.length = pend'.length → Grow F F' (ρ0 ++ hs) (ρ0 ++ hs') w w' → Rep X.K (ρ0 ++ hs') F' w' t.x v →
        (∀ (i : Nat) s, pend'[i]? = some s → ∀ d, s.o.dst = some d → Rep X.K (ρ0 ++ hs') F' w' (.ptr (M0.length + i) 0 0) ((a.put t.o.dst v).tmps.getD d undef)) →
        (∀ s, s ∈ pend' ↔ (s ∈ log ∧ isAlc ops s.i = true ∧ isIn (L.setIfInBounds t.i true) s.i)) → pend'.Nodup →
        Mid1 X nt ops env0 M0 w0 S F0 ρ0 wb ds tv log (L.setIfInBounds t.i true) pend' hs' F' (a.put t.o.dst v) w' := by
      intro v w' F' hs' pend' hI' hlen' hg hx hptr hall' hnd
      refine ⟨hI', hlen', hm.grow.trans hg, by simp only [Act.put]; split <;> simp [hm.size], by simp only [Act.put]; split <;> exact hm.defs, ?_, ?_, ?_, hptr, hall', hnd⟩
      · cases htd : t.o.dst with
        | none => exact hm.kept
        | some d => exact kept_put (hdlt d htd).2 hm.kept
      · intro s hs hsi d hd
        rw [hin'] at hsi
        by_cases hst : s = t
        · subst hst
          have hlt' := (hdlt d hd).1
          have : (a.put s.o.dst v).tmps.getD d undef = v := by
            simp [Act.put, hd, Array.getD_eq_getD_getElem?, hm.size, hlt']
          rw [this]
          exact hx
        · have hsi' : isIn L s.i := by
            rcases hsi with h | h
            · exact absurd (Log.distinct hL s hs t ht h) hst
            · exact h
          have : (a.put t.o.dst v).tmps.getD d undef = a.tmps.getD d undef := by
            cases htd : t.o.dst with
            | none => rfl
            | some d' =>
              have hne : d' ≠ d := fun e => hst (Log.dst hL s hs t ht d hd (e ▸ htd))
              simp [Act.put, Array.getD_eq_getD_getElem?, Array.getElem?_setIfInBounds_ne hne]
          rw [this]
          exact (hm.wrote s hs hsi' d hd).grow hg
      · intro u hu
        have htu : t.o.dst ≠ some u := hu t ht ((hin' _).2 (.inl rfl))
        have : (a.put t.o.dst v).tmps.getD u undef = a.tmps.getD u undef := by
          cases htd : t.o.dst with
          | none => rfl
          | some d' =>
            have hne : d' ≠ u := fun e => htu (e ▸ htd)
            simp [Act.put, Array.getD_eq_getD_getElem?, Array.getElem?_setIfInBounds_ne hne]
        rw [this]
        exact (hm.old u fun s hs hsi => hu s hs ((hin' _).2 (.inr hsi))).grow hg
    -- a pending variable's pointer stays
    have ptrs : ∀ (v : Value) (w' : World) (F' : Addr → Prop) (hs' : List Hd), Grow F F' (ρ0 ++ hs) (ρ0 ++ hs') w w' → ∀ (i : Nat) s, pend[i]? = some s → ∀ d, s.o.dst = some d → Rep X.K (ρ0 ++ hs') F' w' (.ptr (M0.length + i) 0 0) ((a.put t.o.dst v).tmps.getD d undef) := by
      intro v w' F' hs' hg i s hi d hd
      have hsp := (hm.all s).1 (List.mem_of_getElem? hi)
      have hst : s ≠ t := fun e => hnot (by rw [← e]; exact hsp.2.2)
      have : (a.put t.o.dst v).tmps.getD d undef = a.tmps.getD d undef := by
        cases htd : t.o.dst with
        | none => rfl
        | some d' =>
          have hne : d' ≠ d := fun e => hst (Log.dst hL s hsp.1 t ht d hd (e ▸ htd))
          simp [Act.put, Array.getD_eq_getD_getElem?, Array.getElem?_setIfInBounds_ne hne]
      rw [this]
      exact (hm.ptr i s hi d hd).grow hg
    cases hD : isAlc ops t.i with
    | false =>
      have hagree : ∀ id ∈ t.ids, (M0 ++ pend.map (vz X))[id]? = t.M[id]? := by
        intro id hid
        rw [htM, hM (l2 := l2 ++ [t]) hl1 (by rw [hlog]; simp), List.getElem?_append_left (hids t ht id hid)]
      refine hrun hD (M0 := M0 ++ pend.map (vz X)) (fun _ => hagree) (fun h => by rw [hq t ht] at h; cases h) hm.inv hm.size
        (fun u hu => Log.reads (P := fun x => Rep X.K (ρ0 ++ hs) F w x (a.tmps.getD u undef)) hnot hu hLL (by rw [← hlog]; exact hcl) hpre (fun s hs hsi hd => hm.wrote s (by rw [hlog]; exact List.mem_append_right _ (List.mem_cons_of_mem _ hs)) hsi u hd) (by rw [← hlog]; exact hm.old u)) ?_
      intro v w' F' ρ' hI' hx hg
      rw [hq t ht, if_pos rfl] at hI'
      have hr : ρ' = ρ0 ++ hs := rho_same (by rw [hI'.len, hm.inv.len]) hg.hρ
      subst hr
      refine ih (L.setIfInBounds t.i true) F' pend hs _ w' (by simpa using hsz) hcnt' hcl' hsub' (step v w' F' hs pend hI' hm.len hg hx (ptrs v w' F' hs hg) (fun s => ?_) hm.nodup)
      rw [hm.all s]
      constructor
      · rintro ⟨h1, h2, h3⟩; exact ⟨h1, h2, (hin' _).2 (.inr h3)⟩
      · rintro ⟨h1, h2, h3⟩
        rcases (hin' _).1 h3 with h | h
        · rw [h, hD] at h2; cases h2
        · exact ⟨h1, h2, h⟩
    | true =>
      obtain ⟨hok, hxt⟩ := hal t ht hD
      have hsome : ∃ ty, alT t.o = some ty := by
        unfold isAlc at hD
        rw [ho] at hD
        exact Option.isSome_iff_exists.1 hD
      obtain ⟨ty, hty⟩ := hsome
      unfold wpOpIn
      simp only [ho, wanted_none (alOk_guard hok), if_true]
      refine alloc_runs hX hty hok (e := fun _ => .top) (M := M0 ++ pend.map (vz X)) hm.inv (fun _ => .top _) ?_
      intro v w' ρ' F' hI' hg hx
      obtain ⟨hd, hr⟩ := rho_push (ρ := ρ0 ++ hs) (ρ' := ρ') (by rw [hI'.len, hm.inv.len]; simp; omega) hg.hρ
      have hr' : ρ' = ρ0 ++ (hs ++ [hd]) := by rw [hr, List.append_assoc]
      subst hr'
      have hvz : vz X t = .var (vks X ty) (X.ti ty).zero := by unfold vz; rw [hty]
      have hmem : M0 ++ pend.map (vz X) ++ [.var (vks X ty) (X.ti ty).zero] = M0 ++ (pend ++ [t]).map (vz X) := by simp [hvz]
      rw [hmem] at hI'
      have htp : t ∉ pend := fun h => hnot ((hm.all t).1 h).2.2
      refine ih (L.setIfInBounds t.i true) F' (pend ++ [t]) (hs ++ [hd]) _ w' (by simpa using hsz) hcnt' hcl' hsub' (step v w' F' (hs ++ [hd]) (pend ++ [t]) hI' (by simp [hm.len]) hg (by rw [hxt]; exact .top _) (fun i s hi d hd' => ?_) (fun s => ?_) ?_)
      · by_cases hil : i < pend.length
        · rw [List.getElem?_append_left hil] at hi
          exact ptrs v w' F' (hs ++ [hd]) hg i s hi d hd'
        · rw [List.getElem?_append_right (by omega)] at hi
          have : i - pend.length = 0 := by
            have := (List.getElem?_eq_some_iff.1 hi).1
            simp at this; omega
          rw [this] at hi
          simp at hi
          subst hi
          have hlt' := (hdlt d hd').1
          have e1 : (a.put t.o.dst v).tmps.getD d undef = v := by
            simp [Act.put, hd', Array.getD_eq_getD_getElem?, hm.size, hlt']
          rw [e1, show M0.length + i = (M0 ++ pend.map (vz X)).length by simp; omega]
          exact hx
      · rw [List.mem_append, List.mem_singleton, hm.all s]
        constructor
        · rintro (⟨h1, h2, h3⟩ | rfl)
          · exact ⟨h1, h2, (hin' _).2 (.inr h3)⟩
          · exact ⟨ht, hD, (hin' _).2 (.inl rfl)⟩
        · rintro ⟨h1, h2, h3⟩
          rcases (hin' _).1 h3 with h | h
          · exact .inr (Log.distinct hL s h1 t ht h)
          · exact .inl ⟨h1, h2, h⟩
      · rw [List.nodup_append]
        refine ⟨hm.nodup, by simp, fun x hx y hy => ?_⟩
        rw [List.mem_singleton] at hy
        subst hy
        exact fun e => htp (e ▸ hx)
end

theorem vz_free (hX : X.Ok) {s : Ent} (hok : alOk X s.o = true) {F : Addr → Prop} {w : World} (ρ ρ' : List Hd) (hd : Hd) (h : BRep X ρ F w hd (vz X s)) : BRep X ρ' F w hd (vz X s) := by
  unfold vz at h ⊢
  unfold alOk at hok
  cases ht : alT s.o with
  | none => trivial
  | some t =>
    rw [ht] at h hok
    simp only [Bool.and_eq_true] at hok
    obtain ⟨h1, h2, g, cur, e, hv, hh, hr⟩ := h
    exact ⟨h1, h2, g, cur, e, hv, hh, hr.1, fun j x v hx hv => (hr.2 j x v hx hv).pure hX.kinds (List.all_eq_true.1 hok.1.2 x (List.mem_of_getElem? hx))⟩

theorem Log.get {D : Nat → Bool} {nt : Nt} {ops : Array Oper} {env0 : List (Nat × AV)} {M0 : List Blk} : ∀ {log : List Ent} {env : List (Nat × AV)} {M : List Blk}, Log X D nt ops env0 M0 log env M → ∀ t ∈ log, ops[t.i]? = some t.o
  | [], _, _, _, t, ht => by simp at ht
  | s :: log, _, _, ⟨_, _, hl, _, _, _, _, _, ho, _⟩, t, ht => by
    rcases List.mem_cons.1 ht with rfl | ht
    · exact ho
    · exact Log.get hl t ht
theorem Log.nodup {D : Nat → Bool} {nt : Nt} {ops : Array Oper} {env0 : List (Nat × AV)} {M0 : List Blk} : ∀ {log : List Ent} {env : List (Nat × AV)} {M : List Blk}, Log X D nt ops env0 M0 log env M → log.Nodup
  | [], _, _, _ => List.nodup_nil
  | s :: log, _, _, ⟨_, _, hl, _, _, _, _, _, _, _, hp, _⟩ => by
    rw [List.nodup_cons]
    exact ⟨fun hm => (okPair_spec (hp s hm)).1 rfl, Log.nodup hl⟩

end
end Go.Eng

namespace Go.Eng
open Go
noncomputable section

variable {X : Cx} {R : Type}

def pushE (T : Tab R) (ops : Array Oper) (t : Ent) (st : St) (log : List Ent) (k : List Ent → St → Option R) : Option R :=
  tst (log.all (okPair ops t)) (putD T.nt st t.o.dst t.x t.M' fun st' => k (t :: log) st')

def evd1 (X : Cx) (T : Tab R) (ops : Array Oper) (i : Nat) (o : Oper) (cl : Nat) (st : St) (log : List Ent) (k : List Ent → St → Option R) : Option R :=
  match quietIds (evv X (rst (readsOf o) st.env)) o with
  | some ids => evop X T (evv X (rst (readsOf o) st.env)) o st.mem fun x _ => pushE T ops ⟨i, o, true, x, ids, cl, st.env, st.mem, st.mem⟩ st log k
  | none =>
    match lstOf X ops (evv X (rst (readsOf o) st.env)) o with
    | some (t, n, ps) => evBuildList X t n (ps.toList.map fun p => (p.1, evv X (rst (readsOf o) st.env) p.2)) fun x => pushE T ops ⟨i, o, true, x, [], cl, st.env, st.mem, st.mem⟩ st log k
    | none =>
      match callQ X (evv X (rst (readsOf o) st.env)) o with
      | some (g, args) => T.call g args [] fun x M' => tst (M'.isEmpty && aggQ x) (pushE T ops ⟨i, o, true, x, [], cl, st.env, st.mem, st.mem⟩ st log k)
      | none =>
        match wrIds T (evv X (rst (readsOf o) st.env)) o st.mem with
        | some ids => evop X T (evv X (rst (readsOf o) st.env)) o st.mem fun x M' => pushE T ops ⟨i, o, false, x, ids, cl, st.env, st.mem, M'⟩ st log k
        | none => none

def evd0 (T : Tab R) (ops : Array Oper) (i : Nat) (o : Oper) (cl : Nat) (st : St) (log : List Ent) (k : List Ent → St → Option R) : Option R :=
  pushE T ops ⟨i, o, true, .tup [], [], cl, st.env, st.mem, st.mem⟩ st log k

def evdg (X : Cx) (T : Tab R) (ops : Array Oper) (i : Nat) (o : Oper) (cl : Nat) (st : St) (log : List Ent) (k : List Ent → St → Option R) : Option R :=
  match o.guard with
  | none => evd1 X T ops i o cl st log k
  | some (j, want) =>
    match gslot ops j with
    | none => none
    | some d =>
      match look st.env d with
      | .bool b =>
        match b with
        | true => match want with
          | true => evd1 X T ops i o cl { st with env := (d, .bool true) :: st.env } log k
          | false => evd0 T ops i o cl { st with env := (d, .bool true) :: st.env } log k
        | false => match want with
          | false => evd1 X T ops i o cl { st with env := (d, .bool false) :: st.env } log k
          | true => evd0 T ops i o cl { st with env := (d, .bool false) :: st.env } log k
      | .tup [] => evd0 T ops i o cl st log k
      | _ => none

def evdr (X : Cx) (T : Tab R) (ops : Array Oper) : List Nat → List Ent → St → (List Ent → St → Option R) → Option R
  | [], log, st, k => k log st
  | i :: rest, log, st, k =>
    match ops.toList[i]? with
    | none => none
    | some o =>
      match clOf log o.after.toList with
      | none => none
      | some cl => evdg X T ops i o cl st log fun log' st' => evdr X T ops rest log' st' k

def backOk : Nat → List Oper → Bool
  | _, [] => true
  | i, o :: os => (o.after.toList.all fun e => !Region.binds .any e || Nat.blt e.on i) && backOk (i + 1) os
def topoNext (done : List Nat) : Nat → List Oper → Option Nat
  | _, [] => none
  | i, o :: os => if !done.contains i && (o.after.toList.all fun e => !Region.binds .any e || done.contains e.on) then some i else topoNext done (i + 1) os
def topo (ops : List Oper) : Nat → List Nat → List Nat
  | 0, done => done.reverse
  | n + 1, done => match topoNext done 0 ops with | some i => topo ops n (i :: done) | none => done.reverse
def ordOf (ops : List Oper) : List Nat := if backOk 0 ops then List.range ops.length else topo ops ops.length []

def evreg0 (X : Cx) (T : Tab R) (ops : Array Oper) (draw : Bool) (st : St) (k : St → Option R) : Option R :=
  match draw with
  | false => evops X T ops ops.toList st k
  | true => evdr X T ops (ordOf ops.toList) [] st fun log st' => tst (Nat.ble log.length ops.size && (List.range ops.size).all fun i => log.any fun t => t.i == i) (k st')

theorem envRep_rst {ρ : List Hd} {F : Addr → Prop} {w : World} {env : List (Nat × AV)} {tmps : Array Value} {rs : List Nat} (h : ∀ u ∈ rs, Rep X.K ρ F w (look env u) (tmps.getD u undef)) : EnvRep X ρ F w (rst rs env) tmps := by
  intro t
  rcases look_rst env t rs with ⟨he, hm⟩ | he
  · rw [he]; exact h t hm
  · rw [he]; exact .top _

theorem look_refine {env : List (Nat × AV)} {d : Nat} {x : AV} (h : look env d = x) (u : Nat) : look ((d, x) :: env) u = look env u := by
  simp only [look_cons, look_nil]
  by_cases hu : u = d
  · subst hu; simp [h]
  · have : (u == d) = false := by simpa using hu
    simp [this]

/-- The guard lets it run. -/
def Wants (X : Cx) (ops : Array Oper) (o : Oper) (env : List (Nat × AV)) (b : Bool) : Prop :=
  ∀ {ρ : List Hd} {F : Addr → Prop} {w : World} {tmps : Array Value}, (∀ u ∈ readsOf o ++ guardOf ops o, Rep X.K ρ F w (look env u) (tmps.getD u undef)) → Region.wanted o (yielded ops tmps) = b

variable {D : Nat → Bool} {nt : Nt} {ops : Array Oper} {env0 env1 : List (Nat × AV)} {M0 M1 : List Blk}

theorem pushE_some {T : Tab R} {t : Ent} {st : St} {log : List Ent} {k : List Ent → St → Option R} {r : R} (h : pushE T ops t st log k = some r) :
    ∃ st', k (t :: log) st' = some r ∧ (∀ s ∈ log, okPair ops t s = true) ∧ (∀ d, t.o.dst = some d → d < T.nt.n ∧ T.nt.mask.testBit d = true) ∧ (∀ u, look st'.env u = (if t.o.dst = some u then t.x else look st.env u)) ∧ st'.mem = t.M' ∧ st'.dfs = st.dfs ∧ st'.rd = st.rd := by
  unfold pushE at h
  replace h := tst_some h
  obtain ⟨hp, h⟩ := h
  unfold putD at h
  have hp' : ∀ s ∈ log, okPair ops t s = true := fun s hs => List.all_eq_true.1 hp s hs
  cases hd : t.o.dst with
  | none =>
    rw [hd] at h
    exact ⟨_, h, hp', fun d e => by simp at e, fun u => by simp, rfl, rfl, rfl⟩
  | some d =>
    rw [hd] at h
    replace h := tst_some h
    obtain ⟨hlt, h⟩ := h
    refine ⟨_, h, hp', fun d' e => by injection e with e; subst e; simp only [Bool.and_eq_true] at hlt; exact ⟨by simpa using hlt.1, hlt.2⟩, fun u => ?_, rfl, rfl, rfl⟩
    simp only [look_cons, look_nil]
    by_cases hu : u = d
    · subst hu; simp
    · have : (u == d) = false := by simpa using hu
      have h2 : ¬ d = u := fun e => hu e.symm
      simp [this, h2]

theorem log_cons {log : List Ent} (hl : Log X D nt ops env0 M0 log env1 M1) {t : Ent} (h1 : ∀ u, look t.env u = look env1 u) (h2 : t.M = M1) (h3 : t.q = true → t.M' = t.M) (h4 : t.q = false → Agree t.ids t.M t.M') (h5 : D t.i = false → t.Runs X nt ops) (h6 : ops[t.i]? = some t.o)
    (h7 : ∀ d, t.o.dst = some d → d < nt.n ∧ nt.mask.testBit d = true) (h8 : ∀ s ∈ log, okPair ops t s = true) (h9 : clOf log t.o.after.toList = some t.cl) {env : List (Nat × AV)} {M : List Blk} (h10 : ∀ u, look env u = (if t.o.dst = some u then t.x else look t.env u)) (h11 : M = t.M') :
    Log X D nt ops env0 M0 (t :: log) env M := by
  obtain ⟨c1, c2⟩ := clOf_some h9
  refine ⟨env1, M1, hl, h1, h2, h3, h4, h5, h6, h7, h8, fun e he hb => c1 e (by simpa using he) hb, fun w hw => ?_, fun u => by rw [h10 u, h1 u], h11⟩
  obtain ⟨e, he, hb, hh⟩ := c2 w hw
  exact ⟨e, by simpa using he, hb, hh⟩

theorem evd0_sound {T : Tab R} {i : Nat} {o : Oper} {cl : Nat} {st : St} {log : List Ent} {k : List Ent → St → Option R} {r : R} (hl : Log X D T.nt ops env0 M0 log env1 M1) (hi : ops[i]? = some o) (hc : clOf log o.after.toList = some cl)
    (he : ∀ u, look st.env u = look env1 u) (hm : st.mem = M1) (hw : Wants X ops o st.env false) (h : evd0 T ops i o cl st log k = some r) :
    ∃ t st', k (t :: log) st' = some r ∧ Log X D T.nt ops env0 M0 (t :: log) st'.env st'.mem ∧ st'.dfs = st.dfs ∧ st'.rd = st.rd := by
  unfold evd0 at h
  obtain ⟨st', h, hp, hd, hlk, hmm, h1, h2⟩ := pushE_some h
  refine ⟨_, st', h, log_cons hl he hm (fun _ => rfl) (fun hq => by cases hq) ?_ hi hd hp hc hlk hmm, h1, h2⟩
  intro _ Mx _ _ rdc n w0 S F ρ a w Q K hI hsz hr hk
  unfold wpOpIn
  simp only [hi, hw hr, Bool.false_eq_true, if_false]
  exact ⟨fun _ _ => trivial, hk _ w F ρ hI rep_undef (Grow.refl _ _ _)⟩

theorem evd1_sound (hX : X.Okb) {T : Tab R} (hT : T.CallOk X) {i : Nat} {o : Oper} {cl : Nat} {st : St} {log : List Ent} {k : List Ent → St → Option R} {r : R} (hl : Log X D T.nt ops env0 M0 log env1 M1) (hi : ops[i]? = some o) (hc : clOf log o.after.toList = some cl)
    (he : ∀ u, look st.env u = look env1 u) (hm : st.mem = M1) (hw : Wants X ops o st.env true) (h : evd1 X T ops i o cl st log k = some r) :
    ∃ t st', k (t :: log) st' = some r ∧ Log X D T.nt ops env0 M0 (t :: log) st'.env st'.mem ∧ st'.dfs = st.dfs ∧ st'.rd = st.rd := by
  unfold evd1 at h
  split at h
  · rename_i ids hq
    obtain ⟨y, h, hrun⟩ := quiet_runs hX hq h
    obtain ⟨st', h, hp, hd, hlk, hmm, h1, h2⟩ := pushE_some h
    refine ⟨_, st', h, log_cons hl he hm (fun _ => rfl) (fun hq => by cases hq) ?_ hi hd hp hc hlk hmm, h1, h2⟩
    intro _ Mx hM _ rdc n w0 S F ρ a w Q K hI hsz hr hk
    unfold wpOpIn
    simp only [hi, hw hr, if_true]
    exact hrun Mx (hM rfl) hI (fun z => evv_rep hI (envRep_rst fun u hu => hr u (List.mem_append_left _ hu)) z) (fun v w' ρ' F' hI' hg hx => hk v w' F' ρ' hI' hx hg)
  · rename_i hq
    split at h
    · rename_i t n ps hlst
      obtain ⟨y, h, hrun⟩ := list_runs hX (lstOf_some hlst) h
      obtain ⟨st', h, hp, hd, hlk, hmm, h1, h2⟩ := pushE_some h
      refine ⟨_, st', h, log_cons hl he hm (fun _ => rfl) (fun hq => by cases hq) ?_ hi hd hp hc hlk hmm, h1, h2⟩
      intro _ Mx hM _ rdc n w0 S F ρ a w Q K hI hsz hr hk
      unfold wpOpIn
      simp only [hi, hw hr, if_true]
      exact hrun Mx hI (fun z => evv_rep hI (envRep_rst fun u hu => hr u (List.mem_append_left _ hu)) z) (fun v w' ρ' F' hI' hg hx => hk v w' F' ρ' hI' hx hg)
    · split at h
      · rename_i g args hcq
        obtain ⟨y, h, hrun⟩ := callQ_runs hX hT hcq (k := fun y => pushE T ops ⟨i, o, true, y, [], cl, st.env, st.mem, st.mem⟩ st log k) h
        obtain ⟨st', h, hp, hd, hlk, hmm, h1, h2⟩ := pushE_some h
        refine ⟨_, st', h, log_cons hl he hm (fun _ => rfl) (fun hq => by cases hq) ?_ hi hd hp hc hlk hmm, h1, h2⟩
        intro _ Mx hM _ rdc n w0 S F ρ a w Q K hI hsz hr hk
        unfold wpOpIn
        simp only [hi, hw hr, if_true]
        exact hrun Mx hI (fun z => evv_rep hI (envRep_rst fun u hu => hr u (List.mem_append_left _ hu)) z) (fun v w' ρ' F' hI' hg hx => hk v w' F' ρ' hI' hx hg)
      · split at h
        · rename_i ids hwr
          obtain ⟨x, M', hrun, h, hag⟩ := evop_sound hX hT h
          obtain ⟨st', h, hp, hd, hlk, hmm, h1, h2⟩ := pushE_some h
          refine ⟨_, st', h, log_cons hl he hm (fun hq => by cases hq) (fun _ => hag ids hwr) ?_ hi hd hp hc hlk hmm, h1, h2⟩
          intro _ Mx _ hM rdc n w0 S F ρ a w Q K hI hsz hr hk
          unfold wpOpIn
          simp only [hi, hw hr, if_true]
          have hM' := hM rfl
          subst hM'
          exact hrun hI (fun z => evv_rep hI (envRep_rst fun u hu => hr u (List.mem_append_left _ hu)) z) (fun v w' ρ' F' hI' hg hx => hk v w' F' ρ' hI' hx hg)
        · cases h

theorem evdg_sound (hX : X.Okb) {T : Tab R} (hT : T.CallOk X) {i : Nat} {o : Oper} {cl : Nat} {st : St} {log : List Ent} {k : List Ent → St → Option R} {r : R} (hl : Log X D T.nt ops env0 M0 log st.env st.mem) (hi : ops[i]? = some o) (hc : clOf log o.after.toList = some cl)
    (h : evdg X T ops i o cl st log k = some r) :
    ∃ t st', k (t :: log) st' = some r ∧ Log X D T.nt ops env0 M0 (t :: log) st'.env st'.mem ∧ st'.dfs = st.dfs ∧ st'.rd = st.rd := by
  unfold evdg at h
  split at h
  · rename_i hg
    exact evd1_sound hX hT hl hi hc (fun _ => rfl) rfl (fun {ρ F w tmps} _ => wanted_none hg _) h
  · rename_i j want hg
    split at h
    · cases h
    · rename_i d hd
      have hmem : d ∈ readsOf o ++ guardOf ops o := List.mem_append_right _ (by simp [guardOf, hg, hd])
      have wants : ∀ (b : Bool) (env : List (Nat × AV)), look env d = .bool b → Wants X ops o env (b == want) := by
        intro b env hb ρ F w tmps hr
        have := hr d hmem
        rw [hb] at this
        generalize hv : tmps.getD d undef = v at this
        cases this
        rw [wanted_some hg, yielded_of hd hv]
        cases b <;> cases want <;> rfl
      split at h
      · rename_i b hb
        split at h
        · split at h
          · exact evd1_sound hX hT (st := { st with env := (d, .bool true) :: st.env }) hl hi hc (fun u => look_refine hb u) rfl (wants true _ (by simp [look_cons, look_nil])) h
          · exact evd0_sound (st := { st with env := (d, .bool true) :: st.env }) hl hi hc (fun u => look_refine hb u) rfl (wants true _ (by simp [look_cons, look_nil])) h
        · split at h
          · exact evd1_sound hX hT (st := { st with env := (d, .bool false) :: st.env }) hl hi hc (fun u => look_refine hb u) rfl (wants false _ (by simp [look_cons, look_nil])) h
          · exact evd0_sound (st := { st with env := (d, .bool false) :: st.env }) hl hi hc (fun u => look_refine hb u) rfl (wants false _ (by simp [look_cons, look_nil])) h
      · rename_i hb
        refine evd0_sound hl hi hc (fun _ => rfl) rfl (fun {ρ F w tmps} hr => ?_) h
        have := hr d hmem
        rw [hb] at this
        generalize hv : tmps.getD d undef = v at this
        cases this with
        | tup cs vs hl2 _ =>
          have : vs = [] := by simpa using hl2
          subst this
          rw [wanted_some hg, yielded_undef hd hv]
          rfl
      · cases h

theorem evdr_sound (hX : X.Okb) {T : Tab R} (hT : T.CallOk X) {k : List Ent → St → Option R} {r : R} : ∀ (ord : List Nat) {log : List Ent} {st : St}, Log X D T.nt ops env0 M0 log st.env st.mem → evdr X T ops ord log st k = some r →
    ∃ log' st', k log' st' = some r ∧ Log X D T.nt ops env0 M0 log' st'.env st'.mem ∧ st'.dfs = st.dfs ∧ st'.rd = st.rd ∧ ∃ l, log' = l ++ log
  | [], log, st, hl, h => ⟨log, st, h, hl, rfl, rfl, [], rfl⟩
  | i :: rest, log, st, hl, h => by
    simp only [evdr] at h
    split at h
    · cases h
    · rename_i o ho
      split at h
      · cases h
      · rename_i cl hc
        obtain ⟨t, st1, h, hl1, e1, e2⟩ := evdg_sound hX hT hl (by simpa using ho) hc h
        obtain ⟨log', st', h, hl', e3, e4, l, e5⟩ := evdr_sound hX hT rest hl1 h
        exact ⟨log', st', h, hl', e3.trans e1, e4.trans e2, l ++ [t], by rw [e5]; simp⟩

theorem World.grownBy_drawn (w : World) : w.grownBy { w with drawn := w.drawn + 1 } none := ⟨rfl, rfl, rfl, Nat.le_refl _, fun _ _ _ => rfl⟩

theorem evreg0_sound (hX : X.Okb) {T : Tab R} (hT : T.CallOk X) {id : Nat} {draw : Bool} {st : St} {k : St → Option R} {r : R} (h : evreg0 X T ops draw st k = some r) :
    ∃ st', k st' = some r ∧ CodeRuns X T.nt (.region id ops draw) st .normal st' := by
  unfold evreg0 at h
  split at h
  · obtain ⟨st', h, hr⟩ := evops_sound hX hT ops.toList 0 (fun i => by simp) h
    refine ⟨st', h, fun {rdc n w0 S F ρ a w Q} hI hs hq => wpIn_region ?_⟩
    have := hr (n := n) hI hs hq
    simpa using this
  · obtain ⟨log, st', h, hl, e1, e2, _⟩ := evdr_sound hX hT (ops := ops) (env0 := st.env) (M0 := st.mem) _ (log := []) (st := st) (show Log X (fun _ => false) T.nt ops st.env st.mem [] st.env st.mem from ⟨fun _ => rfl, rfl⟩) h
    replace h := tst_some h
    obtain ⟨hall, h⟩ := h
    rw [Bool.and_eq_true] at hall
    obtain ⟨hlen, hall⟩ := hall
    refine ⟨st', h, fun {rdc n w0 S F ρ a w Q} hI hs hq => wpIn_region_any hX.mixed ?_⟩
    have hg := World.grownBy_drawn w
    have hI' := hI.grown hg
    have hgr : Grow F F ρ ρ w { w with drawn := w.drawn + 1 } := ⟨fun _ h => h, fun _ _ h => h, hI.blks hg (by simp)⟩
    have hs' := hs.grow hgr
    refine any_runs (ds := a.defers) (tv := rdc.tv) (wb := w) (S := S) (w0 := w0) (F0 := F) (ρ0 := ρ) hl (fun i hi => ?_) (fun a' w' F' ρ' hI2 hE hsz hdf hkp hg2 => ?_) ops.size _ F ρ a _ (by simp) ?_ ?_ (fun _ _ h => by cases h) ?_
    · have := List.all_eq_true.1 hall i (List.mem_range.2 hi)
      obtain ⟨t, ht, hti⟩ := List.any_eq_true.1 this
      exact ⟨t, ht, by simpa using hti⟩
    · refine hq a' w' F' ρ' hI2 ⟨hE, hsz, ?_, ?_, hkp⟩ hg2
      · rw [e1, hdf]; exact hs.defs.mono hg2.hF hg2.hb
      · exact hs.rd.mono hg2.hF hg2.hb
    · exact Nat.le_trans List.countP_le_length (Nat.le_of_ble_eq_true hlen)
    · intro t ht hin
      exfalso
      simp only [isIn, Array.getD_eq_getD_getElem?, Array.getElem?_replicate] at hin
      split at hin <;> simp at hin
    · have hno : ∀ i, ¬ isIn (Array.replicate ops.size false) i := by
        intro i hin
        simp only [isIn, Array.getD_eq_getD_getElem?, Array.getElem?_replicate] at hin
        split at hin <;> simp at hin
      refine ⟨?_, hgr, hs.size, rfl, hs.kept, fun s _ hin => absurd hin (hno _), fun u _ => hs'.env u⟩
      have : memS st.mem (Array.replicate ops.size false) log = st.mem := by
        have := memS_skip (M0 := st.mem) (L := Array.replicate ops.size false) (l2 := log) (l1 := []) fun s _ _ => hno _
        simpa [memS] using this
      rw [this]
      exact hI'

end
end Go.Eng

namespace Go.Eng
open Go
noncomputable section

variable {X : Cx} {R : Type}

def preOp (o : Oper) : Bool := match o.op with | .store _ _ _ => false | _ => true
def countA : List Oper → Nat
  | [] => 0
  | o :: os => match (alT o).isSome && o.guard.isNone && o.after.toList.isEmpty with | true => countA os + 1 | false => countA os
/-- Two new variables, of which none is ordered behind anything. -/
def multiA (ops : Array Oper) : Bool := Nat.blt 1 (countA ops.toList)
def splitA (ops : Array Oper) : List Nat → List Nat × List Nat
  | [] => ([], [])
  | i :: r =>
    match ops.toList[i]? with
    | some o => match preOp o with | true => (i :: (splitA ops r).1, (splitA ops r).2) | false => ([], i :: r)
    | none => ([], i :: r)

def evA (X : Cx) (T : Tab R) (ops : Array Oper) : List Nat → List Ent → St → (List Ent → St → Option R) → Option R
  | [], log, st, k => k log st
  | i :: rest, log, st, k =>
    match ops.toList[i]? with
    | none => none
    | some o =>
      match clOf log o.after.toList with
      | none => none
      | some cl =>
        match (alT o).isSome with
        | true => tst (alOk X o) (pushE T ops ⟨i, o, true, .top, [], cl, st.env, st.mem, st.mem⟩ st log fun log' st' => evA X T ops rest log' st' k)
        | false => evdg X T ops i o cl st log fun log' st' => evA X T ops rest log' st' k

def evN (T : Tab R) (ops : Array Oper) : List Nat → List Ent → St → (List Ent → St → Option R) → Option R
  | [], log, st, k => k log st
  | i :: rest, log, st, k =>
    match ops.toList[i]? with
    | none => none
    | some o =>
      match clOf log o.after.toList with
      | none => none
      | some cl => pushE T ops ⟨i, o, true, (match o.dst with | some d => look st.env d | none => .tup []), [], cl, st.env, st.mem, st.mem⟩ st log fun log' st' => evN T ops rest log' st' k

def isTop : AV → Bool | .top => true | _ => false
def rgA (X : Cx) (A : List Nat) (n : Nat) (log : List Ent) : Bool :=
  (log.all fun t => t.q && (t.ids.all fun id => Nat.blt id n) && A.contains t.i && (match (alT t.o).isSome with | true => alOk X t.o && isTop t.x | false => true)) && A.all fun i => log.any fun t => t.i == i
def rgB (A : List Nat) (size k : Nat) (log : List Ent) : Bool :=
  Nat.ble (k + log.countP fun t => !A.contains t.i) size && ((List.range size).all fun i => log.any fun t => t.i == i) && log.all fun t => A.contains t.i || A.all fun a => t.cl.testBit a
def allocsOf (log : List Ent) : List Ent := log.reverse.filter fun s => (alT s.o).isSome
def ptrEnv : Nat → List Ent → List (Nat × AV)
  | _, [] => []
  | n, s :: r => match s.o.dst with | some d => (d, .ptr n 0 0) :: ptrEnv (n + 1) r | none => ptrEnv (n + 1) r

def evregA (X : Cx) (T : Tab R) (ops : Array Oper) (st : St) (k : St → Option R) : Option R :=
  evA X T ops (splitA ops (ordOf ops.toList)).1 [] st fun log1 st' =>
    tst (rgA X (splitA ops (ordOf ops.toList)).1 st.mem.length log1 && st.mem.all (renOk (idlt st.mem.length)))
      (evN T ops (splitA ops (ordOf ops.toList)).1 [] { st' with env := ptrEnv st.mem.length (allocsOf log1) ++ renE (idlt st.mem.length) 4 st'.env, mem := st.mem.map (renB (idlt st.mem.length)) ++ (allocsOf log1).map (vz X) } fun logN stN =>
        evdr X T ops (splitA ops (ordOf ops.toList)).2 logN stN fun log2 st2 =>
          tst (rgB (splitA ops (ordOf ops.toList)).1 ops.size log1.length log2) (k st2))

def evregR (X : Cx) (T : Tab R) (ops : Array Oper) (draw : Bool) (st : St) (k : St → Option R) : Option R :=
  match draw && multiA ops && X.pk with
  | true => evregA X T ops st k
  | false => evreg0 X T ops draw st k

variable {D : Nat → Bool} {nt : Nt} {ops : Array Oper} {env0 : List (Nat × AV)} {M0 : List Blk}

theorem evA_sound (hX : X.Okb) {T : Tab R} (hT : T.CallOk X) {k : List Ent → St → Option R} {r : R} : ∀ (ord : List Nat) {log : List Ent} {st : St}, Log X (isAlc ops) T.nt ops env0 M0 log st.env st.mem → evA X T ops ord log st k = some r →
    ∃ log' st', k log' st' = some r ∧ Log X (isAlc ops) T.nt ops env0 M0 log' st'.env st'.mem ∧ st'.dfs = st.dfs ∧ st'.rd = st.rd
  | [], log, st, hl, h => ⟨log, st, h, hl, rfl, rfl⟩
  | i :: rest, log, st, hl, h => by
    simp only [evA] at h
    split at h
    · cases h
    · rename_i o ho
      have ho' : ops[i]? = some o := by simpa using ho
      split at h
      · cases h
      · rename_i cl hc
        split at h
        · rename_i ha
          replace h := tst_some h
          obtain ⟨_, h⟩ := h
          obtain ⟨st1, h, hp, hd, hlk, hmm, h1, h2⟩ := pushE_some h
          have hlog := log_cons (t := ⟨i, o, true, .top, [], cl, st.env, st.mem, st.mem⟩) hl (fun _ => rfl) rfl (fun _ => rfl) (fun hq => by cases hq) (fun hD => by
            exfalso
            simp only [isAlc, ho', ha] at hD
            cases hD) ho' hd hp hc hlk hmm
          obtain ⟨log', st', h, hl', e3, e4⟩ := evA_sound hX hT rest hlog h
          exact ⟨log', st', h, hl', e3.trans h1, e4.trans h2⟩
        · obtain ⟨t, st1, h, hl1, e1, e2⟩ := evdg_sound hX hT hl ho' hc h
          obtain ⟨log', st', h, hl', e3, e4⟩ := evA_sound hX hT rest hl1 h
          exact ⟨log', st', h, hl', e3.trans e1, e4.trans e2⟩

theorem evN_sound {T : Tab R} {k : List Ent → St → Option R} {r : R} : ∀ (ord : List Nat) {log : List Ent} {st : St}, (∀ i ∈ ord, D i = true) → Log X D T.nt ops env0 M0 log st.env st.mem → (∀ u, look st.env u = look env0 u) →
    (∀ s ∈ log, s.q = true ∧ ∀ d, s.o.dst = some d → s.x = look env0 d) → evN T ops ord log st k = some r →
    ∃ log' st', k log' st' = some r ∧ Log X D T.nt ops env0 M0 log' st'.env st'.mem ∧ st'.dfs = st.dfs ∧ st'.rd = st.rd ∧ (∀ u, look st'.env u = look env0 u) ∧ (∀ s ∈ log', s.q = true ∧ ∀ d, s.o.dst = some d → s.x = look env0 d) ∧ (∀ s ∈ log, s ∈ log') ∧ ∀ i ∈ ord, ∃ s ∈ log', s.i = i
  | [], log, st, _, hl, he, hx, h => ⟨log, st, h, hl, rfl, rfl, he, hx, fun _ h => h, fun i hi => by simp at hi⟩
  | i :: rest, log, st, hD, hl, he, hx, h => by
    simp only [evN] at h
    split at h
    · cases h
    · rename_i o ho
      have ho' : ops[i]? = some o := by simpa using ho
      split at h
      · cases h
      · rename_i cl hc
        obtain ⟨st1, h, hp, hd, hlk, hmm, h1, h2⟩ := pushE_some h
        have hDi := hD i List.mem_cons_self
        have hlog := log_cons (t := ⟨i, o, true, (match o.dst with | some d => look st.env d | none => .tup []), [], cl, st.env, st.mem, st.mem⟩) hl (fun _ => rfl) rfl (fun _ => rfl) (fun hq => by cases hq) (fun h0 => by
          exfalso
          simp only at h0
          rw [hDi] at h0
          cases h0) ho' hd hp hc hlk hmm
        have he1 : ∀ u, look st1.env u = look env0 u := by
          intro u
          have e := hlk u
          simp only at e
          rw [e]
          by_cases hdu : o.dst = some u
          · rw [if_pos hdu]
            simp only [hdu]
            exact he u
          · rw [if_neg hdu]
            exact he u
        obtain ⟨log', st', h, hl', e3, e4, e5, e6, e7, e8⟩ := evN_sound rest (fun j hj => hD j (List.mem_cons_of_mem _ hj)) hlog he1 (fun s hs => by
          rcases List.mem_cons.1 hs with rfl | hs
          · refine ⟨rfl, fun d hdd => ?_⟩
            simp only at hdd ⊢
            rw [hdd]
            exact he d
          · exact hx s hs) h
        refine ⟨log', st', h, hl', e3.trans h1, e4.trans h2, e5, e6, fun s hs => e7 s (List.mem_cons_of_mem _ hs), fun j hj => ?_⟩
        rcases List.mem_cons.1 hj with rfl | hj
        · exact ⟨_, e7 _ List.mem_cons_self, rfl⟩
        · exact e8 j hj

theorem look_app : ∀ (A B : List (Nat × AV)) (t : Nat), look (A ++ B) t = look A t ∨ look (A ++ B) t = look B t
  | [], B, t => .inr rfl
  | (u, x) :: A, B, t => by
    simp only [List.cons_append, look_cons, look_nil]
    cases t == u with
    | true => exact .inl rfl
    | false => exact look_app A B t
theorem look_ptrEnv : ∀ (n : Nat) (l : List Ent) (u : Nat), look (ptrEnv n l) u = .top ∨ ∃ (j : Nat) (s : Ent), l[j]? = some s ∧ s.o.dst = some u ∧ look (ptrEnv n l) u = .ptr (n + j) 0 0
  | _, [], _ => .inl rfl
  | n, s :: r, u => by
    have ih := look_ptrEnv (n + 1) r u
    have ih' : look (ptrEnv (n + 1) r) u = .top ∨ ∃ (j : Nat) (t : Ent), (s :: r)[j]? = some t ∧ t.o.dst = some u ∧ look (ptrEnv (n + 1) r) u = .ptr (n + j) 0 0 := by
      rcases ih with h | ⟨j, t, h1, h2, h3⟩
      · exact .inl h
      · exact .inr ⟨j + 1, t, by simpa using h1, h2, by rw [h3]; congr 1; omega⟩
    simp only [ptrEnv]
    split
    · rename_i d hd
      simp only [look_cons, look_nil]
      by_cases hu : u = d
      · subst hu
        right
        exact ⟨0, s, rfl, hd, by simp⟩
      · have : (u == d) = false := by simpa using hu
        simp only [this]
        exact ih'
    · exact ih'

theorem evregA_sound (hX : X.Ok) {T : Tab R} (hT : T.CallOk X) {id : Nat} {st : St} {k : St → Option R} {r : R} (h : evregA X T ops st k = some r) :
    ∃ st', k st' = some r ∧ CodeRuns X T.nt (.region id ops true) st .normal st' := by
  unfold evregA at h
  generalize hA : (splitA ops (ordOf ops.toList)).1 = A at h
  generalize (splitA ops (ordOf ops.toList)).2 = B at h
  obtain ⟨log1, stA, h, hl1, da, ra⟩ := evA_sound hX hT A (log := []) (st := st) (env0 := st.env) (M0 := st.mem) ⟨fun _ => rfl, rfl⟩ h
  replace h := tst_some h
  obtain ⟨hc1, h⟩ := h
  rw [Bool.and_eq_true] at hc1
  obtain ⟨hc1, hM0⟩ := hc1
  unfold rgA at hc1
  rw [Bool.and_eq_true] at hc1
  obtain ⟨hc1, hcA⟩ := hc1
  have hent : ∀ t ∈ log1, t.q = true ∧ (∀ id ∈ t.ids, id < st.mem.length) ∧ A.contains t.i = true ∧ ((alT t.o).isSome = true → alOk X t.o = true ∧ t.x = .top) := by
    intro t ht
    have := List.all_eq_true.1 hc1 t ht
    simp only [Bool.and_eq_true] at this
    obtain ⟨⟨⟨b1, b2⟩, b3⟩, b4⟩ := this
    refine ⟨b1, fun id hid => by simpa using List.all_eq_true.1 b2 id hid, b3, fun hs => ?_⟩
    rw [hs] at b4
    simp only [Bool.and_eq_true] at b4
    refine ⟨b4.1, ?_⟩
    have := b4.2
    unfold isTop at this
    split at this
    · assumption
    · cases this
  have hcov : ∀ i ∈ A, ∃ t ∈ log1, t.i = i := by
    intro i hi
    obtain ⟨t, ht, hti⟩ := List.any_eq_true.1 (List.all_eq_true.1 hcA i hi)
    exact ⟨t, ht, by simpa using hti⟩
  have hAc : ∀ i, A.contains i = true ↔ i ∈ A := fun i => by simp
  have halc : ∀ t ∈ log1, isAlc ops t.i = (alT t.o).isSome := by
    intro t ht
    unfold isAlc
    rw [Log.get hl1 t ht]
  -- phase two
  obtain ⟨logN, stN, h, hlN, n1, n2, n3, n4, _, n6⟩ := evN_sound (X := X) (D := fun i => A.contains i) (ops := ops) A (log := []) (env0 := ptrEnv st.mem.length (allocsOf log1) ++ renE (idlt st.mem.length) 4 stA.env) (M0 := st.mem.map (renB (idlt st.mem.length)) ++ (allocsOf log1).map (vz X))
    (fun i hi => (hAc i).2 hi) ⟨fun _ => rfl, rfl⟩ (fun _ => rfl) (fun s hs => by simp at hs) h
  obtain ⟨log2, st2, h, hl2, d1, d2, lB, hlB⟩ := evdr_sound hX hT B hlN h
  replace h := tst_some h
  obtain ⟨hc2, h⟩ := h
  unfold rgB at hc2
  simp only [Bool.and_eq_true] at hc2
  obtain ⟨⟨hlen, hall2⟩, hclo2⟩ := hc2
  have hall : ∀ i, i < ops.size → ∃ t ∈ log2, t.i = i := by
    intro i hi
    obtain ⟨t, ht, hti⟩ := List.any_eq_true.1 (List.all_eq_true.1 hall2 i (List.mem_range.2 hi))
    exact ⟨t, ht, by simpa using hti⟩
  have hsubN : ∀ s ∈ logN, s ∈ log2 := fun s hs => by rw [hlB]; exact List.mem_append_right _ hs
  have hinN : ∀ s ∈ log2, s.i ∈ A → s ∈ logN := by
    intro s hs hi
    obtain ⟨s', hs', e⟩ := n6 s.i hi
    have := Log.distinct hl2 s hs s' (hsubN s' hs') e.symm
    rw [this]; exact hs'
  have hsameO : ∀ s ∈ log2, ∀ t ∈ log1, s.i = t.i → s.o = t.o := by
    intro s hs t ht e
    have e1 := Log.get hl2 s hs
    have e2 := Log.get hl1 t ht
    rw [e, e2] at e1
    injection e1 with e1
    exact e1.symm
  refine ⟨st2, h, fun {rdc n w0 S F ρ a w Q} hI hs hq => wpIn_region_any hX.mixed ?_⟩
  have hg := World.grownBy_drawn w
  have hI' := hI.grown hg
  have hgr : Grow F F ρ ρ w { w with drawn := w.drawn + 1 } := ⟨fun _ h => h, fun _ _ h => h, hI.blks hg (by simp)⟩
  have hs' := hs.grow hgr
  have hno : ∀ i, ¬ isIn (Array.replicate ops.size false) i := by
    intro i hin
    simp only [isIn, Array.getD_eq_getD_getElem?, Array.getElem?_replicate] at hin
    split at hin <;> simp at hin
  refine any_runs1 hX (m := log2.countP fun t => !A.contains t.i) (ds := a.defers) (tv := rdc.tv) (wb := w) (S := S) (w0 := w0) (F0 := F) (ρ0 := ρ) hI.len hl1 (fun t ht => (hent t ht).1) (fun t ht => (hent t ht).2.1) (fun t ht hal => (hent t ht).2.2.2 (by rw [← halc t ht]; exact hal))
    ?_ ?_ ops.size _ F [] [] a _ (by simp) ?_ ?_ ?_ ?_
  · -- only those of the first part are ready
    intro L hsz hcl hsub hex i hi
    rw [mem_ready] at hi
    obtain ⟨hf, o, ho, hpre⟩ := hi
    have hlt : i < ops.size := (Array.getElem?_eq_some_iff.1 ho).1
    obtain ⟨t, ht, rfl⟩ := hall i hlt
    by_cases hiA : t.i ∈ A
    · exact hcov _ hiA
    · exfalso
      have hb := List.all_eq_true.1 hclo2 t ht
      have hnc : A.contains t.i = false := by
        cases hcc : A.contains t.i with
        | false => rfl
        | true => exact absurd ((hAc _).1 hcc) hiA
      rw [hnc, Bool.false_or] at hb
      have hcl2 : Closed L log2 := by
        intro s hs2 hsi e he hb2
        obtain ⟨u, hu, hui⟩ := hsub s.i hsi
        rw [hsameO s hs2 u hu hui.symm] at he
        exact hcl u hu (by rw [hui]; exact hsi) e he hb2
      have hto : t.o = o := by
        have := Log.get hl2 t ht
        rw [ho] at this
        injection this with this
        exact this.symm
      have hclosed := Log.closed hl2 hcl2 t ht (fun e he hb2 => hpre e (by rw [← hto]; exact he) hb2)
      obtain ⟨u, hu, hun⟩ := hex
      exact hun (hclosed u.i (List.all_eq_true.1 hb u.i ((hAc _).1 (hent u hu).2.2.1)))
  · -- the first part is over
    intro fuel L F1 pend hs1 a1 w1 hsz hm hallL hsub hmid
    let As := allocsOf log1
    have hAs : ∀ s, s ∈ As ↔ (s ∈ log1 ∧ (alT s.o).isSome = true) := by
      intro s
      simp only [As, allocsOf, List.mem_filter, List.mem_reverse]
    have hAnd : As.Nodup := (List.pairwise_reverse.2 ((Log.nodup hl1).imp fun h => Ne.symm h)).filter _
    have hpend : ∀ s ∈ As, ∃ i : Nat, pend[i]? = some s := by
      intro s hsA
      obtain ⟨h1, h2⟩ := (hAs s).1 hsA
      exact List.getElem?_of_mem ((hmid.all s).2 ⟨h1, by rw [halc s h1]; exact h2, hallL s h1⟩)
    let pos : Nat → Nat := fun j => Classical.epsilon fun i : Nat => ∃ s, As[j]? = some s ∧ pend[i]? = some s
    have hpos : ∀ (j : Nat) s, As[j]? = some s → pend[pos j]? = some s := by
      intro j s hj
      obtain ⟨i, hi⟩ := hpend s (List.mem_of_getElem? hj)
      have hex : ∃ i : Nat, ∃ s, As[j]? = some s ∧ pend[i]? = some s := ⟨i, s, hj, hi⟩
      obtain ⟨s', h1, h2⟩ := Classical.epsilon_spec hex
      rw [hj] at h1
      injection h1 with h1
      subst h1
      exact h2
    have hposlt : ∀ (j : Nat), j < As.length → pos j < hs1.length := by
      intro j hj
      have := hpos j _ (List.getElem?_eq_getElem hj)
      rw [hmid.len]
      exact (List.getElem?_eq_some_iff.1 this).1
    let hs' : List Hd := (List.range As.length).map fun j => hs1.getD (pos j) ⟨.nilFunc, 0⟩
    have hs'get : ∀ (j : Nat), j < As.length → hs'[j]? = hs1[pos j]? := by
      intro j hj
      simp only [hs', List.getElem?_map, List.getElem?_range hj, Option.map_some, List.getD_eq_getElem?_getD, List.getElem?_eq_getElem (hposlt j hj), Option.getD_some]
    have hI1 : Inv X w0 S F1 (ρ ++ hs') (st.mem.map (renB (idlt st.mem.length)) ++ As.map (vz X)) w1 := by
      refine Inv.retail hX hmid.inv hI.len (by simp [hs']) pos ?_ ?_ hM0 ?_
      · intro j b hd hb hh
        have hj : j < As.length := by
          have := (List.getElem?_eq_some_iff.1 hb).1
          simpa using this
        rw [List.getElem?_map, List.getElem?_eq_getElem hj] at hb
        rw [hs'get j hj] at hh
        rw [List.getElem?_map, hpos j _ (List.getElem?_eq_getElem hj)]
        exact ⟨hb, hh⟩
      · intro j j' hj hj' e
        simp only [List.length_map] at hj hj'
        have p1 := hpos j _ (List.getElem?_eq_getElem hj)
        have p2 := hpos j' _ (List.getElem?_eq_getElem hj')
        rw [e, p2] at p1
        injection p1 with p1
        exact (List.getElem?_inj hj hAnd).1 (by rw [List.getElem?_eq_getElem hj, List.getElem?_eq_getElem hj', p1])
      · intro b hb ρa ρb hd hB
        obtain ⟨s, hsA, rfl⟩ := List.mem_map.1 hb
        obtain ⟨g1, g2⟩ := (hAs s).1 hsA
        exact vz_free hX ((hent s g1).2.2.2 g2).1 _ _ _ hB
    have henv : EnvRep X (ρ ++ hs1) F1 w1 stA.env a1.tmps := by
      intro u
      rcases Log.look hl1 u with ⟨s, hsl, hd, he⟩ | ⟨hn, he⟩
      · rw [he]; exact hmid.wrote s hsl (hallL s hsl) u hd
      · rw [he]; exact hmid.old u fun s hsl _ => hn s hsl
    have hE1 : EnvRep X (ρ ++ hs') F1 w1 (ptrEnv st.mem.length As ++ renE (idlt st.mem.length) 4 stA.env) a1.tmps := by
      intro u
      rcases look_app (ptrEnv st.mem.length As) (renE (idlt st.mem.length) 4 stA.env) u with e | e
      · rw [e]
        rcases look_ptrEnv st.mem.length As u with e2 | ⟨j, s, h1, h2, e2⟩
        · rw [e2]; exact .top _
        · rw [e2]
          have hp := hmid.ptr (pos j) s (hpos j s h1) u h2
          have hj : j < As.length := (List.getElem?_eq_some_iff.1 h1).1
          have hf : Ren (fun i => if i = st.mem.length + pos j then some (st.mem.length + j) else none) (ρ ++ hs1) (ρ ++ hs') := by
            intro i i' hd hi hh
            simp only at hi
            split at hi
            · rename_i hie
              injection hi with hi
              subst hi; subst hie
              rw [List.getElem?_append_right (by rw [hI.len]; omega), hI.len, Nat.add_sub_cancel_left] at hh
              rw [List.getElem?_append_right (by rw [hI.len]; omega), hI.len, Nat.add_sub_cancel_left, hs'get j hj]
              exact hh
            · cases hi
          have := hp.ren hX.kinds hf 4
          simpa [Eng.ren] using this
      · rw [e]
        exact henv.ren hX (ren_idlt hI.len) 4 u
    have hLA : ∀ i, isIn L i ↔ i ∈ A := by
      intro i
      constructor
      · intro hi
        obtain ⟨t, ht, rfl⟩ := hsub i hi
        exact (hAc _).1 (hent t ht).2.2.1
      · intro hi
        obtain ⟨t, ht, rfl⟩ := hcov i hi
        exact hallL t ht
    refine any_runs (ds := a.defers) (tv := rdc.tv) (wb := w) (S := S) (w0 := w0) (F0 := F) (ρ0 := ρ) hl2 hall (fun a' w' F' ρ' hI2 hE hsz2 hdf hkp hg2 => ?_) fuel L F1 (ρ ++ hs') a1 w1 hsz ?_ ?_ ?_ ?_
    · refine hq a' w' F' ρ' hI2 ⟨hE, hsz2, ?_, ?_, hkp⟩ hg2
      · have e : st2.dfs = st.dfs := by rw [d1, n1]; exact da
        rw [e, hdf]; exact hs.defs.mono hg2.hF hg2.hb
      · exact hs.rd.mono hg2.hF hg2.hb
    · refine Nat.le_trans (List.countP_mono_left fun t ht hn => ?_) hm
      have hni : ¬ isIn L t.i := by simpa [isIn] using hn
      rw [hLA] at hni
      cases hcc : A.contains t.i with
      | false => rfl
      | true => exact absurd ((hAc _).1 hcc) hni
    · intro s hs2 hsi e he hb2
      obtain ⟨u, hu, hui⟩ := hsub s.i hsi
      rw [hsameO s hs2 u hu hui.symm] at he
      obtain ⟨v, hv, hvi⟩ : ∃ v ∈ log1, v.i = e.on := by
        obtain ⟨l2, l1, hlog⟩ := List.append_of_mem hu
        have hLL := hl1
        rw [hlog] at hLL
        obtain ⟨envE, ME, hE⟩ := Log.entry hLL
        obtain ⟨env1, M1, hl1', _, _, _, _, _, _, _, _, hpre', _⟩ := hE
        obtain ⟨v, hv, hvi⟩ := hpre' e he hb2
        exact ⟨v, by rw [hlog]; exact List.mem_append_right _ (List.mem_cons_of_mem _ hv), hvi⟩
      rw [← hvi]; exact hallL v hv
    · intro t ht hD
      exact (hLA _).2 ((hAc _).1 hD)
    · refine ⟨?_, ⟨hmid.grow.hF, fun i hd hh => ?_, hmid.grow.hb⟩, hmid.size, hmid.defs, hmid.kept, fun s hs2 hsi d hd => ?_, fun u _ => hE1 u⟩
      · have : memS (st.mem.map (renB (idlt st.mem.length)) ++ (allocsOf log1).map (vz X)) L log2 = st.mem.map (renB (idlt st.mem.length)) ++ (allocsOf log1).map (vz X) := by
          have := memS_skip (M0 := st.mem.map (renB (idlt st.mem.length)) ++ (allocsOf log1).map (vz X)) (L := L) (l2 := log2) (l1 := []) fun s hs2 hsq hin => by
            have := (n4 s (hinN s hs2 ((hLA _).1 hin))).1
            rw [hsq] at this
            cases this
          simpa [memS] using this
        rw [this]
        exact hI1
      · rw [List.getElem?_append_left (List.getElem?_eq_some_iff.1 hh).1]; exact hh
      · rw [(n4 s (hinN s hs2 ((hLA _).1 hsi))).2 d hd]
        exact hE1 d
  · refine Nat.le_trans (Nat.add_le_add_right List.countP_le_length _) (Nat.le_of_ble_eq_true hlen)
  · intro t ht hin
    exact absurd hin (hno _)
  · intro i hin
    exact absurd hin (hno _)
  · refine ⟨by simpa using hI', rfl, by simpa using hgr, hs.size, rfl, hs.kept, fun s _ hin => absurd hin (hno _), fun u _ => by simpa using hs'.env u, fun i s hi => by simp at hi, fun s => ?_, List.nodup_nil⟩
    constructor
    · intro hh; simp at hh
    · rintro ⟨_, _, h3⟩; exact absurd h3 (hno _)

theorem evregR_sound (hX : X.Okb) {T : Tab R} (hT : T.CallOk X) {id : Nat} {draw : Bool} {st : St} {k : St → Option R} {r : R} (h : evregR X T ops draw st k = some r) :
    ∃ st', k st' = some r ∧ CodeRuns X T.nt (.region id ops draw) st .normal st' := by
  unfold evregR at h
  split at h
  · rename_i hb
    rw [Bool.and_eq_true, Bool.and_eq_true] at hb
    rw [hb.1.1]
    exact evregA_sound (hX.ok hb.2) hT h
  · exact evreg0_sound hX hT h

end
end Go.Eng

namespace Go.Eng
open Go
noncomputable section

variable {X : Cx} {R : Type}

theorem bit_eq (seen t : Nat) : Nat.beq (Nat.land (Nat.shiftRight seen t) 1) 1 = seen.testBit t := by
  unfold Nat.testBit
  have h1 : Nat.land (Nat.shiftRight seen t) 1 = (seen >>> t) % 2 := by
    show (seen >>> t) &&& 1 = _
    exact Nat.and_one_is_mod _
  have h2 : 1 &&& (seen >>> t) = (seen >>> t) % 2 := by rw [Nat.and_comm]; exact Nat.and_one_is_mod _
  rw [h1, h2]
  have : (seen >>> t) % 2 < 2 := Nat.mod_lt _ (by omega)
  rcases Nat.lt_or_ge ((seen >>> t) % 2) 1 with h | h
  · have e : (seen >>> t) % 2 = 0 := by omega
    rw [e]; rfl
  · have e : (seen >>> t) % 2 = 1 := by omega
    rw [e]; rfl

/-- An operation of a region: its number, what it is, what it waits for. -/
abbrev SE := Nat × Oper × Nat
def cgS : List SE → Nat → Option Nat
  | [], _ => none
  | t :: l, i => if t.1 == i then some t.2.2 else cgS l i
def clS (l : List SE) : List Edge → Option Nat
  | [] => some 0
  | e :: es =>
    if Region.binds .any e then
      match cgS l e.on, clS l es with
      | some m, some r => some (2 ^ e.on ||| m ||| r)
      | _, _ => none
    else clS l es
def Ent.st (t : Ent) : SE := (t.i, t.o, t.cl)
theorem cgS_eq : ∀ (log : List Ent) (i : Nat), cgS (log.map Ent.st) i = clGet log i
  | [], _ => rfl
  | t :: log, i => by simp only [List.map_cons, cgS, clGet, Ent.st]; rw [← cgS_eq log i]
theorem clS_eq (log : List Ent) : ∀ es : List Edge, clS (log.map Ent.st) es = clOf log es
  | [] => rfl
  | e :: es => by simp only [clS, clOf]; rw [cgS_eq, clS_eq log es]; try rfl
def ordS (ops : Array Oper) : List Nat → List SE → Option (List SE)
  | [], _ => some []
  | i :: rest, acc =>
    match ops.toList[i]? with
    | none => none
    | some o => match clS acc o.after.toList with
      | none => none
      | some cl => match ordS ops rest ((i, o, cl) :: acc) with
        | none => none
        | some l => some ((i, o, cl) :: l)
/-- May the two be taken the other way round, as far as variables go? -/
def pairS (ops : Array Oper) (t s : SE) : Bool :=
  !(t.1 == s.1) && !(t.2.1.dst.isSome && t.2.1.dst == s.2.1.dst) &&
  (t.2.2.testBit s.1 || (!hits s.2.1.dst (readsOf t.2.1 ++ guardOf ops t.2.1) && !hits t.2.1.dst (readsOf s.2.1 ++ guardOf ops s.2.1)))
def pairsS (ops : Array Oper) : List SE → List SE → Bool
  | _, [] => true
  | acc, t :: l => acc.all (pairS ops t) && pairsS ops (t :: acc) l
def fzS (p : SE) (k : SE → Option R) : Option R := fzN p.1 fun i => fzN p.2.2 fun cl => k (i, p.2.1, cl)
theorem fzS_eq (p : SE) (k : SE → Option R) : fzS p k = k p := by unfold fzS; rw [fzN_eq, fzN_eq]
/-- What does not hang on the values. -/
def regS (ops : Array Oper) : Option (List SE) :=
  match ordS ops (ordOf ops.toList) [] with
  | none => none
  | some l => tst (pairsS ops [] l && Nat.ble l.length ops.size && (List.range ops.size).all fun i => l.any fun t => t.1 == i) (fzL fzS l some)

inductive ChS (ops : Array Oper) : List SE → List SE → Prop
  | nil (acc : List SE) : ChS ops acc []
  | cons (acc : List SE) (i : Nat) (o : Oper) (cl : Nat) (l : List SE) (ho : ops[i]? = some o) (hc : clS acc o.after.toList = some cl) (h : ChS ops ((i, o, cl) :: acc) l) : ChS ops acc ((i, o, cl) :: l)
theorem ordS_ok {ops : Array Oper} : ∀ (ord : List Nat) {acc l : List SE}, ordS ops ord acc = some l → ChS ops acc l
  | [], acc, l, h => by
    simp only [ordS, Option.some.injEq] at h
    subst h; exact .nil _
  | i :: rest, acc, l, h => by
    simp only [ordS] at h
    split at h
    · cases h
    · rename_i o ho
      split at h
      · cases h
      · rename_i cl hc
        split at h
        · cases h
        · rename_i l' hl
          injection h with h
          subst h
          exact .cons _ _ _ _ _ (by simpa using ho) hc (ordS_ok rest hl)

def memOk (t s : Ent) : Bool :=
  match t.q, s.q with
  | true, true => true
  | false, false => false
  | true, false => t.ids.all fun id => s.keeps id
  | false, true => s.ids.all fun id => t.keeps id
def chk (t : Ent) (dl : List Ent) : Bool := dl.all fun s => Nat.beq (Nat.land (Nat.shiftRight t.cl s.i) 1) 1 || memOk t s

def fzP (p : Nat × AV) (k : Nat × AV → Option R) : Option R := fz1 p.2 fun x => k (p.1, x)
theorem fzP_eq (p : Nat × AV) (k : Nat × AV → Option R) : fzP p k = k p := by unfold fzP; rw [fz1_eq]
/-- One operation; the list keeps what looks at the memory or writes it. -/
def evc1 (X : Cx) (T : Tab R) (i : Nat) (o : Oper) (cl : Nat) (st : St) (dl : List Ent) (k : List Ent → St → Option R) : Option R :=
  fzL fzP (rst (readsOf o) st.env) fun renv =>
  match quietIds (evv X renv) o with
  | some ids =>
    evop X T (evv X renv) o st.mem fun x _ =>
      match ids with
      | [] => putD T.nt st o.dst x st.mem (k dl)
      | _ => tst (chk ⟨i, o, true, x, ids, cl, st.env, st.mem, st.mem⟩ dl) (putD T.nt st o.dst x st.mem (k (⟨i, o, true, x, ids, cl, st.env, st.mem, st.mem⟩ :: dl)))
  | none =>
    match wrIds T (evv X renv) o st.mem with
    | some ids => evop X T (evv X renv) o st.mem fun x M' => tst (chk ⟨i, o, false, x, ids, cl, st.env, st.mem, M'⟩ dl) (putD T.nt st o.dst x M' (k (⟨i, o, false, x, ids, cl, st.env, st.mem, M'⟩ :: dl)))
    | none => none
def evcg (X : Cx) (T : Tab R) (ops : Array Oper) (i : Nat) (o : Oper) (cl : Nat) (st : St) (dl : List Ent) (k : List Ent → St → Option R) : Option R :=
  match o.guard with
  | none => evc1 X T i o cl st dl k
  | some (j, want) =>
    match gslot ops j with
    | none => none
    | some d =>
      match look st.env d with
      | .bool b =>
        match b with
        | true => match want with
          | true => evc1 X T i o cl { st with env := (d, .bool true) :: st.env } dl k
          | false => putD T.nt { st with env := (d, .bool true) :: st.env } o.dst (.tup []) st.mem (k dl)
        | false => match want with
          | false => evc1 X T i o cl { st with env := (d, .bool false) :: st.env } dl k
          | true => putD T.nt { st with env := (d, .bool false) :: st.env } o.dst (.tup []) st.mem (k dl)
      | .tup [] => putD T.nt st o.dst (.tup []) st.mem (k dl)
      | _ => none
def evcs (X : Cx) (T : Tab R) (ops : Array Oper) : List SE → List Ent → St → (St → Option R) → Option R
  | [], _, st, k => k st
  | t :: l, dl, st, k => evcg X T ops t.1 t.2.1 t.2.2 st dl fun dl' st' => evcs X T ops l dl' st' k
def evregC (X : Cx) (T : Tab R) (ops : Array Oper) (st : St) (k : St → Option R) : Option R :=
  match regS ops with
  | some l => evcs X T ops l [] st k
  | none => none

variable {D : Nat → Bool} {nt : Nt} {ops : Array Oper} {env0 env1 : List (Nat × AV)} {M0 M1 : List Blk}

/-- What the list must keep of the log. -/
def Kept (log dl : List Ent) : Prop := ∀ s ∈ log, (s.q = true ∧ s.ids = []) ∨ s ∈ dl

theorem okPair_of {t s : Ent} (hs : pairS ops t.st s.st = true) (h : t.cl.testBit s.i = true ∨ memOk t s = true) : okPair ops t s = true := by
  unfold pairS at hs
  simp only [Ent.st, Bool.and_eq_true, Bool.or_eq_true] at hs
  unfold okPair
  simp only [Bool.and_eq_true, Bool.or_eq_true]
  refine ⟨hs.1, ?_⟩
  rcases hs.2 with h2 | h2
  · exact .inl h2
  · rcases h with h | h
    · exact .inl h
    · exact .inr ⟨h2, h⟩

theorem pairs_of {t : Ent} {log dl : List Ent} (hall : ∀ s ∈ log, pairS ops t.st s.st = true) (hk : Kept log dl) (h : chk t dl = true ∨ (t.q = true ∧ t.ids = [])) : ∀ s ∈ log, okPair ops t s = true := by
  intro s hs
  refine okPair_of (hall s hs) ?_
  rcases h with h | ⟨hq, hi⟩
  · rcases hk s hs with ⟨hsq, hsi⟩ | hd
    · refine .inr ?_
      unfold memOk
      rw [hsq, hsi]
      cases t.q <;> rfl
    · have := List.all_eq_true.1 h s hd
      rw [Bool.or_eq_true, bit_eq] at this
      exact this
  · refine .inr ?_
    unfold memOk
    rw [hq, hi]
    cases s.q <;> rfl

theorem putD_log {T : Tab R} {t : Ent} {st : St} {log : List Ent} (hl : Log X D T.nt ops env0 M0 log env1 M1) (h1 : ∀ u, look t.env u = look env1 u) (h2 : t.M = M1) (h3 : t.q = true → t.M' = t.M) (h4 : t.q = false → Agree t.ids t.M t.M') (h5 : D t.i = false → t.Runs X T.nt ops) (h6 : ops[t.i]? = some t.o)
    (h8 : ∀ s ∈ log, okPair ops t s = true) (h9 : clOf log t.o.after.toList = some t.cl) (he : ∀ u, look st.env u = look t.env u) {k : St → Option R} {r : R} (h : putD T.nt st t.o.dst t.x t.M' k = some r) :
    ∃ st', k st' = some r ∧ Log X D T.nt ops env0 M0 (t :: log) st'.env st'.mem ∧ st'.dfs = st.dfs ∧ st'.rd = st.rd := by
  have hp : pushE T ops t st [] (fun _ st' => k st') = some r := by
    unfold pushE
    simp only [List.all_nil, tst]
    exact h
  obtain ⟨st', h, _, hd, hlk, hmm, e1, e2⟩ := pushE_some hp
  exact ⟨st', h, log_cons hl h1 h2 h3 h4 h5 h6 hd h8 h9 (fun u => by rw [hlk u, he u]) hmm, e1, e2⟩

theorem evc1_sound (hX : X.Okb) {T : Tab R} (hT : T.CallOk X) {i : Nat} {o : Oper} {cl : Nat} {st : St} {log dl : List Ent} {k : List Ent → St → Option R} {r : R} (hl : Log X D T.nt ops env0 M0 log env1 M1) (hk : Kept log dl) (hps : ∀ s ∈ log, pairS ops (i, o, cl) s.st = true) (hi : ops[i]? = some o) (hc : clOf log o.after.toList = some cl)
    (he : ∀ u, look st.env u = look env1 u) (hm : st.mem = M1) (hw : Wants X ops o st.env true) (h : evc1 X T i o cl st dl k = some r) :
    ∃ t dl' st', k dl' st' = some r ∧ Log X D T.nt ops env0 M0 (t :: log) st'.env st'.mem ∧ Kept (t :: log) dl' ∧ t.st = (i, o, cl) ∧ st'.dfs = st.dfs ∧ st'.rd = st.rd := by
  unfold evc1 at h
  rw [fzL_eq fzP_eq] at h
  split at h
  · rename_i ids hq
    obtain ⟨y, h, hrun⟩ := quiet_runs hX hq h
    have hrun' : ∀ Mx : List Blk, (∀ id ∈ ids, Mx[id]? = st.mem[id]?) → _ := hrun
    have runs : (⟨i, o, true, y, ids, cl, st.env, st.mem, st.mem⟩ : Ent).Runs X T.nt ops := by
      intro Mx hM _ rdc n w0 S F ρ a w Q K hI hsz hr hk
      unfold wpOpIn
      simp only [hi, hw hr, if_true]
      exact hrun Mx (hM rfl) hI (fun z => evv_rep hI (envRep_rst fun u hu => hr u (List.mem_append_left _ hu)) z) (fun v w' ρ' F' hI' hg hx => hk v w' F' ρ' hI' hx hg)
    split at h
    · obtain ⟨st', h, hl', e1, e2⟩ := putD_log (t := ⟨i, o, true, y, [], cl, st.env, st.mem, st.mem⟩) hl he hm (fun _ => rfl) (fun hq => by cases hq) (fun _ => runs) hi (pairs_of hps hk (.inr ⟨rfl, rfl⟩)) hc (fun _ => rfl) h
      exact ⟨_, dl, st', h, hl', fun s hs => by
        rcases List.mem_cons.1 hs with rfl | hs
        · exact .inl ⟨rfl, rfl⟩
        · exact hk s hs, rfl, e1, e2⟩
    · replace h := tst_some h
      obtain ⟨hchk, h⟩ := h
      obtain ⟨st', h, hl', e1, e2⟩ := putD_log (t := ⟨i, o, true, y, ids, cl, st.env, st.mem, st.mem⟩) hl he hm (fun _ => rfl) (fun hq => by cases hq) (fun _ => runs) hi (pairs_of hps hk (.inl hchk)) hc (fun _ => rfl) h
      exact ⟨_, _, st', h, hl', fun s hs => by
        rcases List.mem_cons.1 hs with rfl | hs
        · exact .inr List.mem_cons_self
        · exact (hk s hs).imp id (List.mem_cons_of_mem _), rfl, e1, e2⟩
  · split at h
    · rename_i ids hwr
      obtain ⟨x, M', hrun, h, hag⟩ := evop_sound hX hT h
      replace h := tst_some h
      obtain ⟨hchk, h⟩ := h
      have runs : (⟨i, o, false, x, ids, cl, st.env, st.mem, M'⟩ : Ent).Runs X T.nt ops := by
        intro Mx _ hM rdc n w0 S F ρ a w Q K hI hsz hr hk
        unfold wpOpIn
        simp only [hi, hw hr, if_true]
        have hM' := hM rfl
        subst hM'
        exact hrun hI (fun z => evv_rep hI (envRep_rst fun u hu => hr u (List.mem_append_left _ hu)) z) (fun v w' ρ' F' hI' hg hx => hk v w' F' ρ' hI' hx hg)
      obtain ⟨st', h, hl', e1, e2⟩ := putD_log (t := ⟨i, o, false, x, ids, cl, st.env, st.mem, M'⟩) hl he hm (fun hq => by cases hq) (fun _ => hag ids hwr) (fun _ => runs) hi (pairs_of hps hk (.inl hchk)) hc (fun _ => rfl) h
      exact ⟨_, _, st', h, hl', fun s hs => by
        rcases List.mem_cons.1 hs with rfl | hs
        · exact .inr List.mem_cons_self
        · exact (hk s hs).imp id (List.mem_cons_of_mem _), rfl, e1, e2⟩
    · cases h

theorem evc0_sound {T : Tab R} {i : Nat} {o : Oper} {cl : Nat} {st : St} {log dl : List Ent} {k : List Ent → St → Option R} {r : R} (hl : Log X D T.nt ops env0 M0 log env1 M1) (hk : Kept log dl) (hps : ∀ s ∈ log, pairS ops (i, o, cl) s.st = true) (hi : ops[i]? = some o) (hc : clOf log o.after.toList = some cl)
    (he : ∀ u, look st.env u = look env1 u) (hm : st.mem = M1) (hw : Wants X ops o st.env false) (h : putD T.nt st o.dst (.tup []) st.mem (k dl) = some r) :
    ∃ t dl' st', k dl' st' = some r ∧ Log X D T.nt ops env0 M0 (t :: log) st'.env st'.mem ∧ Kept (t :: log) dl' ∧ t.st = (i, o, cl) ∧ st'.dfs = st.dfs ∧ st'.rd = st.rd := by
  obtain ⟨st', h, hl', e1, e2⟩ := putD_log (t := ⟨i, o, true, .tup [], [], cl, st.env, st.mem, st.mem⟩) hl he hm (fun _ => rfl) (fun hq => by cases hq) (fun _ => by
    intro Mx _ _ rdc n w0 S F ρ a w Q K hI hsz hr hk
    unfold wpOpIn
    simp only [hi, hw hr, Bool.false_eq_true, if_false]
    exact ⟨fun _ _ => trivial, hk _ w F ρ hI rep_undef (Grow.refl _ _ _)⟩) hi (pairs_of hps hk (.inr ⟨rfl, rfl⟩)) hc (fun _ => rfl) h
  exact ⟨_, dl, st', h, hl', fun s hs => by
    rcases List.mem_cons.1 hs with rfl | hs
    · exact .inl ⟨rfl, rfl⟩
    · exact hk s hs, rfl, e1, e2⟩

theorem evcg_sound (hX : X.Okb) {T : Tab R} (hT : T.CallOk X) {i : Nat} {o : Oper} {cl : Nat} {st : St} {log dl : List Ent} {k : List Ent → St → Option R} {r : R} (hl : Log X D T.nt ops env0 M0 log st.env st.mem) (hk : Kept log dl) (hps : ∀ s ∈ log, pairS ops (i, o, cl) s.st = true) (hi : ops[i]? = some o) (hc : clOf log o.after.toList = some cl)
    (h : evcg X T ops i o cl st dl k = some r) :
    ∃ t dl' st', k dl' st' = some r ∧ Log X D T.nt ops env0 M0 (t :: log) st'.env st'.mem ∧ Kept (t :: log) dl' ∧ t.st = (i, o, cl) ∧ st'.dfs = st.dfs ∧ st'.rd = st.rd := by
  unfold evcg at h
  split at h
  · rename_i hg
    exact evc1_sound hX hT hl hk hps hi hc (fun _ => rfl) rfl (fun {ρ F w tmps} _ => wanted_none hg _) h
  · rename_i j want hg
    split at h
    · cases h
    · rename_i d hd
      have hmem : d ∈ readsOf o ++ guardOf ops o := List.mem_append_right _ (by simp [guardOf, hg, hd])
      have wants : ∀ (b : Bool) (env : List (Nat × AV)), look env d = .bool b → Wants X ops o env (b == want) := by
        intro b env hb ρ F w tmps hr
        have := hr d hmem
        rw [hb] at this
        generalize hv : tmps.getD d undef = v at this
        cases this
        rw [wanted_some hg, yielded_of hd hv]
        cases b <;> cases want <;> rfl
      split at h
      · rename_i b hb
        split at h
        · split at h
          · exact evc1_sound hX hT (st := { st with env := (d, .bool true) :: st.env }) hl hk hps hi hc (fun u => look_refine hb u) rfl (wants true _ (by simp [look_cons, look_nil])) h
          · exact evc0_sound (st := { st with env := (d, .bool true) :: st.env }) hl hk hps hi hc (fun u => look_refine hb u) rfl (wants true _ (by simp [look_cons, look_nil])) h
        · split at h
          · exact evc1_sound hX hT (st := { st with env := (d, .bool false) :: st.env }) hl hk hps hi hc (fun u => look_refine hb u) rfl (wants false _ (by simp [look_cons, look_nil])) h
          · exact evc0_sound (st := { st with env := (d, .bool false) :: st.env }) hl hk hps hi hc (fun u => look_refine hb u) rfl (wants false _ (by simp [look_cons, look_nil])) h
      · rename_i hb
        refine evc0_sound hl hk hps hi hc (fun _ => rfl) rfl (fun {ρ F w tmps} hr => ?_) h
        have := hr d hmem
        rw [hb] at this
        generalize hv : tmps.getD d undef = v at this
        cases this with
        | tup cs vs hl2 _ =>
          have : vs = [] := by simpa using hl2
          subst this
          rw [wanted_some hg, yielded_undef hd hv]
          rfl
      · cases h

theorem evcs_sound (hX : X.Okb) {T : Tab R} (hT : T.CallOk X) {k : St → Option R} {r : R} : ∀ (l : List SE) {log dl : List Ent} {st : St}, ChS ops (log.map Ent.st) l → pairsS ops (log.map Ent.st) l = true → Log X D T.nt ops env0 M0 log st.env st.mem → Kept log dl → evcs X T ops l dl st k = some r →
    ∃ log' st', k st' = some r ∧ Log X D T.nt ops env0 M0 log' st'.env st'.mem ∧ st'.dfs = st.dfs ∧ st'.rd = st.rd ∧ log'.map Ent.st = l.reverse ++ log.map Ent.st
  | [], log, dl, st, _, _, hl, _, h => ⟨log, st, h, hl, rfl, rfl, by simp⟩
  | t :: l, log, dl, st, hch, hps, hl, hk, h => by
    cases hch with
    | cons acc i o cl l' ho hc hch =>
      simp only [pairsS, Bool.and_eq_true] at hps
      simp only [evcs] at h
      rw [clS_eq] at hc
      obtain ⟨u, dl', st1, h, hl1, hk1, hst, e1, e2⟩ := evcg_sound hX hT hl hk (fun s hs => List.all_eq_true.1 hps.1 _ (List.mem_map_of_mem hs)) ho hc h
      rw [← hst] at hch hps
      obtain ⟨log', st', h, hl', e3, e4, e5⟩ := evcs_sound hX hT l (log := u :: log) hch hps.2 hl1 hk1 h
      refine ⟨log', st', h, hl', e3.trans e1, e4.trans e2, ?_⟩
      rw [e5, List.map_cons, hst]
      simp

theorem evregC_sound (hX : X.Okb) {T : Tab R} (hT : T.CallOk X) {id : Nat} {st : St} {k : St → Option R} {r : R} (h : evregC X T ops st k = some r) :
    ∃ st', k st' = some r ∧ CodeRuns X T.nt (.region id ops true) st .normal st' := by
  unfold evregC at h
  split at h
  · rename_i l hr
    unfold regS at hr
    split at hr
    · cases hr
    · rename_i l0 hord
      replace hr := tst_some hr
      obtain ⟨hb, hr⟩ := hr
      rw [fzL_eq fzS_eq] at hr
      injection hr with hr
      subst hr
      rw [Bool.and_eq_true, Bool.and_eq_true] at hb
      obtain ⟨⟨hps, hlen⟩, hall⟩ := hb
      obtain ⟨log, st', h, hl, e1, e2, e3⟩ := evcs_sound hX hT (ops := ops) (env0 := st.env) (M0 := st.mem) _ (log := []) (dl := []) (st := st) (ordS_ok _ hord) hps (show Log X (fun _ => false) T.nt ops st.env st.mem [] st.env st.mem from ⟨fun _ => rfl, rfl⟩) (fun s hs => by cases hs) h
      have e3' : log.map Ent.st = l0.reverse := by simpa using e3
      refine ⟨st', h, fun {rdc n w0 S F ρ a w Q} hI hs hq => wpIn_region_any hX.mixed ?_⟩
      have hg := World.grownBy_drawn w
      have hI' := hI.grown hg
      have hgr : Grow F F ρ ρ w { w with drawn := w.drawn + 1 } := ⟨fun _ h => h, fun _ _ h => h, hI.blks hg (by simp)⟩
      have hs' := hs.grow hgr
      refine any_runs (ds := a.defers) (tv := rdc.tv) (wb := w) (S := S) (w0 := w0) (F0 := F) (ρ0 := ρ) hl (fun i hi => ?_) (fun a' w' F' ρ' hI2 hE hsz hdf hkp hg2 => ?_) ops.size _ F ρ a _ (by simp) ?_ ?_ (fun _ _ h => by cases h) ?_
      · have := List.all_eq_true.1 hall i (List.mem_range.2 hi)
        obtain ⟨t, ht, hti⟩ := List.any_eq_true.1 this
        have : t ∈ log.map Ent.st := by rw [e3']; exact List.mem_reverse.2 ht
        obtain ⟨u, hu, rfl⟩ := List.mem_map.1 this
        exact ⟨u, hu, by simpa [Ent.st] using hti⟩
      · refine hq a' w' F' ρ' hI2 ⟨hE, hsz, ?_, ?_, hkp⟩ hg2
        · rw [e1, hdf]; exact hs.defs.mono hg2.hF hg2.hb
        · exact hs.rd.mono hg2.hF hg2.hb
      · have hll : log.length = l0.length := by
          have := congrArg List.length e3'
          simpa using this
        exact Nat.le_trans List.countP_le_length (hll ▸ Nat.le_of_ble_eq_true hlen)
      · intro t ht hin
        exfalso
        simp only [isIn, Array.getD_eq_getD_getElem?, Array.getElem?_replicate] at hin
        split at hin <;> simp at hin
      · have hno : ∀ i, ¬ isIn (Array.replicate ops.size false) i := by
          intro i hin
          simp only [isIn, Array.getD_eq_getD_getElem?, Array.getElem?_replicate] at hin
          split at hin <;> simp at hin
        refine ⟨?_, hgr, hs.size, rfl, hs.kept, fun s _ hin => absurd hin (hno _), fun u _ => hs'.env u⟩
        have : memS st.mem (Array.replicate ops.size false) log = st.mem := by
          have := memS_skip (M0 := st.mem) (L := Array.replicate ops.size false) (l2 := log) (l1 := []) fun s _ _ => hno _
          simpa [memS] using this
        rw [this]
        exact hI'
  · cases h

def evreg (X : Cx) (T : Tab R) (ops : Array Oper) (draw : Bool) (st : St) (k : St → Option R) : Option R :=
  match draw && !X.pk with
  | true => evregC X T ops st k
  | false => evregR X T ops draw st k
theorem evreg_sound (hX : X.Okb) {T : Tab R} (hT : T.CallOk X) {id : Nat} {draw : Bool} {st : St} {k : St → Option R} {r : R} (h : evreg X T ops draw st k = some r) :
    ∃ st', k st' = some r ∧ CodeRuns X T.nt (.region id ops draw) st .normal st' := by
  unfold evreg at h
  split at h
  · rename_i hb
    rw [Bool.and_eq_true] at hb
    rw [hb.1]
    exact evregC_sound hX hT h
  · exact evregR_sound hX hT h

end
end Go.Eng

namespace Go.Eng
open Go
noncomputable section

variable {X : Cx} {R : Type}

/-- The part of the code at a path, the last turn first. -/
def codeAt (root : Code) : List Bool → Option Code
  | [] => some root
  | b :: p =>
    match codeAt root p with
    | some (.seq x y) => some (bif b then y else x)
    | some (.cond _ x y) => some (bif b then y else x)
    | some (.block _ x) => bif b then none else some x
    | some (.loop x) => bif b then none else some x
    | some (.scope x) => bif b then none else some x
    | some (.rangeFunc _ _ x y) => some (bif b then y else x)
    | _ => none
def enc : List Bool → Nat
  | [] => 1
  | b :: p => 2 * enc p + (bif b then 1 else 0)
theorem enc_pos : ∀ p, 1 ≤ enc p
  | [] => Nat.le_refl _
  | b :: p => by have := enc_pos p; simp only [enc]; omega
theorem enc_inj : ∀ {p q : List Bool}, enc p = enc q → p = q
  | [], [], _ => rfl
  | [], b :: q, h => by
    have := enc_pos q; simp only [enc] at h; cases b <;> simp at h <;> omega
  | b :: p, [], h => by
    have := enc_pos p; simp only [enc] at h; cases b <;> simp at h <;> omega
  | b :: p, c :: q, h => by
    simp only [enc] at h
    have h2 : enc p = enc q ∧ b = c := by cases b <;> cases c <;> simp at h ⊢ <;> omega
    rw [enc_inj h2.1, h2.2]

/-- At place p of the root stands the code c. -/
def At (root : Code) (p : Nat) (c : Code) : Prop := ∃ l, enc l = p ∧ codeAt root l = some c
theorem At.root (c : Code) : At c 1 c := ⟨[], rfl, rfl⟩
theorem At.det {root c : Code} {p : Nat} (h : At root p c) (l : List Bool) (hl : enc l = p) : codeAt root l = some c := by
  obtain ⟨l', h1, h2⟩ := h
  rw [enc_inj (hl.trans h1.symm)]
  exact h2
theorem At.down {root c d : Code} {p : Nat} (h : At root p c) (b : Bool) (hd : ∀ l, codeAt root l = some c → codeAt root (b :: l) = some d) : At root (2 * p + (bif b then 1 else 0)) d := by
  obtain ⟨l, h1, h2⟩ := h
  exact ⟨b :: l, by simp only [enc, h1], hd l h2⟩

def Ex.exit' : Ex → Exit
  | .normal => .normal
  | .exit i => .exit i
  | .ret => .ret

structure LTab (R : Type) where
  tab : Tab R
  loop : Nat → St → (Ex → St → Option R) → Option R
  range : Nat → St → (Ex → St → Option R) → Option R
  cut : Nat → Option (St → (Ex → St → Option R) → Option R)

structure LTab.Ok (X : Cx) (root : Code) (L : LTab R) : Prop where
  tab : L.tab.CallOk X
  loop : ∀ {p c st k r}, At root p (.loop c) → L.loop p st k = some r → ∃ e st', CodeRuns X L.tab.nt (.loop c) st (Ex.exit' e) st' ∧ k e st' = some r
  range : ∀ {p g ps x y st k r}, At root p (.rangeFunc g ps x y) → L.range p st k = some r → ∃ e st', CodeRuns X L.tab.nt (.rangeFunc g ps x y) st (Ex.exit' e) st' ∧ k e st' = some r
  cut : ∀ {p c f st k r}, At root p c → L.cut p = some f → f st k = some r → ∃ e st', CodeRuns X L.tab.nt c st (Ex.exit' e) st' ∧ k e st' = some r

def cutOr (o : Option (St → (Ex → St → Option R) → Option R)) (other : (Ex → St → Option R) → Option R) (st : St) (k : Ex → St → Option R) : Option R :=
  match o with
  | some f => f st k
  | none => other k

def refineC (c : Operand) (b : Bool) (st : St) : St := match c with | .tmp t => { st with env := (t, .bool b) :: st.env } | _ => st

def evk (X : Cx) (L : LTab R) : Code → Nat → St → (Ex → St → Option R) → Option R
  | .skip, _, st, k => k .normal st
  | .label _, _, st, k => k .normal st
  | .region _ ops draw, _, st, k => evreg X L.tab ops draw st fun st' => k .normal st'
  | .seq a b, p, st, k => cutOr (L.cut (2 * p)) (fun k' => evk X L a (2 * p) st k') st fun e st' => match e with | .normal => evk X L b (2 * p + 1) st' k | .exit i => k (.exit i) st' | .ret => k .ret st'
  | .cond c a b, p, st, k =>
    match evv X st.env c with
    | .bool t => (match t with | true => evk X L a (2 * p) (refineC c true st) k | false => evk X L b (2 * p + 1) (refineC c false st) k)
    | _ => none
  | .block i a, p, st, k => evk X L a (2 * p) st fun e st' => match e with | .normal => k .normal st' | .exit j => (match Nat.beq j i with | true => k .normal st' | false => k (.exit j) st') | .ret => k .ret st'
  | .scope a, p, st, k => evk X L a (2 * p) st k
  | .loop _, p, st, k => L.loop p st k
  | .rangeFunc _ _ _ _, p, st, k => L.range p st k
  | .exit i, _, st, k => k (.exit i) st
  | .ret, _, st, k => k .ret st
  | _, _, _, _ => none

section
variable {F : Fence} {n : Nat} {P : Program} {b : Frame} {a : Act} {k : List Item} {cs : List Frame} {w : World} {Q : Exit → Act → World → Prop}
theorem stepR_scope' {c : Code} : step P (lone (b.atR a (.code (.scope c) :: k)) cs w) = .next (lone (b.atR a (.code c :: .inScope c :: k)) cs w) :=
  step_lone_go (by simp [stepG, stepG.exec, Frame.atR])
theorem stepR_inScope' {c : Code} : step P (lone (b.atR a (.inScope c :: k)) cs w) = .next (lone (b.atR a k) cs w) :=
  step_lone_go (by simp [stepG, stepG.exec, Frame.atR])
/-- A scope that no jump to a label leaves or enters. -/
theorem wpIn_scope' {c : Code} (h : c.wpIn F n P (fun e a w => (∀ l, e ≠ .goto l) ∧ Q e a w) a w) : (Code.scope c).wpIn F n P Q a w := by
  intro b k cs hro hb hr
  have h0 : (lone (b.atR a (.code (.scope c) :: k)) cs w).fenced P F := fenced_calm hb hr rfl
  obtain ⟨e, a₁, w₁, ⟨hg, hq⟩, harr⟩ := h b (.inScope c :: k) cs hro hb hr
  cases e with
  | normal => exact ⟨.normal, a₁, w₁, hq, .head h0 stepR_scope' (StepsIn.trans harr (.one (fenced_calm hb hr rfl) stepR_inScope'))⟩
  | exit id' =>
    have hx : exitTo id' (.inScope c :: k) = exitTo id' k := by simp [exitTo]
    exact ⟨.exit id', a₁, w₁, hq, fun k' hk => .head h0 stepR_scope' (harr.1 k' (by rw [hx]; exact hk)),
      fun hr' hk => let ⟨k₁, h1, h2⟩ := harr.2 hr' (by rw [hx]; exact hk); ⟨k₁, h1, .head h0 stepR_scope' h2⟩⟩
  | goto l => exact absurd rfl (hg l)
  | ret => exact ⟨_, a₁, w₁, hq, .of_steps (.one h0 stepR_scope') harr⟩
  | panic ch => exact ⟨_, a₁, w₁, hq, .of_steps (.one h0 stepR_scope') harr⟩
  | outgrown => exact ⟨_, a₁, w₁, hq, .of_steps (.one h0 stepR_scope') harr⟩
end

theorem refineC_sim {nt : Nt} {st : St} {rdc : Cy} {F : Addr → Prop} {ρ : List Hd} {a : Act} {w : World} {c : Operand} {b : Bool} (h : Sim X nt st rdc F ρ a w) (hc : evv X st.env c = .bool b) : Sim X nt (refineC c b st) rdc F ρ a w := by
  cases c with
  | tmp t => exact h.refine hc
  | _ => exact h
theorem refineC_mem (c : Operand) (b : Bool) (st : St) : (refineC c b st).mem = st.mem := by cases c <;> rfl

theorem evk_sound (hX : X.Okb) {root : Code} {L : LTab R} (hL : L.Ok X root) : ∀ (c : Code) {p : Nat} {st : St} {k : Ex → St → Option R} {r : R}, At root p c → evk X L c p st k = some r →
    ∃ e st', CodeRuns X L.tab.nt c st (Ex.exit' e) st' ∧ k e st' = some r
  | .skip, p, st, k, r, _, h => ⟨.normal, st, fun {rdc n w0 S F ρ a w Q} hI hs hq => wpIn_skip (hq a w F ρ hI hs (Grow.refl _ _ _)), h⟩
  | .label l, p, st, k, r, _, h => ⟨.normal, st, fun {rdc n w0 S F ρ a w Q} hI hs hq => wpIn_label (hq a w F ρ hI hs (Grow.refl _ _ _)), h⟩
  | .region id ops draw, p, st, k, r, _, h => by
    obtain ⟨st', h, hr⟩ := evreg_sound hX hL.tab (id := id) (k := fun st' => k .normal st') h
    exact ⟨.normal, st', hr, h⟩
  | .seq x y, p, st, k, r, hat, h => by
    simp only [evk] at h
    have hax : At root (2 * p) x := hat.down false fun l hl => by simp [codeAt, hl]
    have h' : ∃ e st1, CodeRuns X L.tab.nt x st (Ex.exit' e) st1 ∧ (match e with | .normal => evk X L y (2 * p + 1) st1 k | .exit i => k (.exit i) st1 | .ret => k .ret st1) = some r := by
      unfold cutOr at h
      split at h
      · rename_i f hf; exact hL.cut hax hf h
      · exact evk_sound hX hL x hax h
    obtain ⟨e, st1, h1, h⟩ := h'
    cases e with
    | normal =>
      obtain ⟨e, st2, h2, h⟩ := evk_sound hX hL y (hat.down true fun l hl => by simp [codeAt, hl]) h
      refine ⟨e, st2, fun {rdc n w0 S F ρ a w Q} hI hs hq => wpIn_seq (h1 hI hs fun a' w' F' ρ' hI' hs' hg => ?_), h⟩
      exact h2 hI' hs' fun a'' w'' F'' ρ'' hI'' hs'' hg' => hq a'' w'' F'' ρ'' hI'' hs'' (hg.trans hg')
    | exit i => exact ⟨.exit i, st1, fun {rdc n w0 S F ρ a w Q} hI hs hq => wpIn_seq (h1 hI hs fun a' w' F' ρ' hI' hs' hg => hq a' w' F' ρ' hI' hs' hg), h⟩
    | ret => exact ⟨.ret, st1, fun {rdc n w0 S F ρ a w Q} hI hs hq => wpIn_seq (h1 hI hs fun a' w' F' ρ' hI' hs' hg => hq a' w' F' ρ' hI' hs' hg), h⟩
  | .cond c x y, p, st, k, r, hat, h => by
    simp only [evk] at h
    split at h
    · rename_i t ht
      have hev : ∀ {w0 : World} {S : Sc} {F : Addr → Prop} {ρ : List Hd} {a : Act} {w : World} {rdc : Cy}, Inv X w0 S F ρ st.mem w → Sim X L.tab.nt st rdc F ρ a w → a.eval c = .bool t := by
        intro w0 S F ρ a w rdc hI hs
        have := evv_rep hI hs.env c
        rw [ht] at this
        generalize a.eval c = v at this
        cases this
        rfl
      split at h
      · obtain ⟨e, st1, h1, h⟩ := evk_sound hX hL x (hat.down false fun l hl => by simp [codeAt, hl]) h
        exact ⟨e, st1, fun {rdc n w0 S F ρ a w Q} hI hs hq => wpIn_cond_true (hev hI hs) (h1 (by rw [refineC_mem]; exact hI) (refineC_sim hs ht) hq), h⟩
      · obtain ⟨e, st1, h1, h⟩ := evk_sound hX hL y (hat.down true fun l hl => by simp [codeAt, hl]) h
        exact ⟨e, st1, fun {rdc n w0 S F ρ a w Q} hI hs hq => wpIn_cond_false (hev hI hs) (h1 (by rw [refineC_mem]; exact hI) (refineC_sim hs ht) hq), h⟩
    · cases h
  | .block i x, p, st, k, r, hat, h => by
    simp only [evk] at h
    obtain ⟨e, st1, h1, h⟩ := evk_sound hX hL x (hat.down false fun l hl => by simp [codeAt, hl]) h
    cases e with
    | normal => exact ⟨.normal, st1, fun {rdc n w0 S F ρ a w Q} hI hs hq => wpIn_block (h1 hI hs fun a' w' F' ρ' hI' hs' hg => hq a' w' F' ρ' hI' hs' hg), h⟩
    | exit j =>
      simp only at h
      split at h
      · rename_i hj
        have hj : j = i := Nat.eq_of_beq_eq_true hj
        refine ⟨.normal, st1, fun {rdc n w0 S F ρ a w Q} hI hs hq => wpIn_block (h1 hI hs fun a' w' F' ρ' hI' hs' hg => ?_), h⟩
        simp only [Ex.exit', Exit.inBlock, hj, if_true]
        exact hq a' w' F' ρ' hI' hs' hg
      · rename_i hj
        have hj : j ≠ i := fun e => by subst e; simp at hj
        refine ⟨.exit j, st1, fun {rdc n w0 S F ρ a w Q} hI hs hq => wpIn_block (h1 hI hs fun a' w' F' ρ' hI' hs' hg => ?_), h⟩
        simp only [Ex.exit', Exit.inBlock, if_neg hj]
        exact hq a' w' F' ρ' hI' hs' hg
    | ret => exact ⟨.ret, st1, fun {rdc n w0 S F ρ a w Q} hI hs hq => wpIn_block (h1 hI hs fun a' w' F' ρ' hI' hs' hg => hq a' w' F' ρ' hI' hs' hg), h⟩
  | .loop c, p, st, k, r, hat, h => hL.loop hat h
  | .rangeFunc g ps x y, p, st, k, r, hat, h => hL.range hat h
  | .exit i, p, st, k, r, _, h => ⟨.exit i, st, fun {rdc n w0 S F ρ a w Q} hI hs hq => wpIn_exit (hq a w F ρ hI hs (Grow.refl _ _ _)), h⟩
  | .ret, p, st, k, r, _, h => ⟨.ret, st, fun {rdc n w0 S F ρ a w Q} hI hs hq => wpIn_ret (hq a w F ρ hI hs (Grow.refl _ _ _)), h⟩
  | .scope x, p, st, k, r, hat, h => by
    simp only [evk] at h
    obtain ⟨e, st1, h1, h⟩ := evk_sound hX hL x (hat.down false fun l hl => by simp [codeAt, hl]) h
    exact ⟨e, st1, fun {rdc n w0 S F ρ a w Q} hI hs hq => wpIn_scope' (h1 hI hs fun a' w' F' ρ' hI' hs' hg => ⟨fun l => by cases e <;> simp [Ex.exit'], hq a' w' F' ρ' hI' hs' hg⟩), h⟩
  | .goto _, _, _, _, _, _, h => by simp [evk] at h
  | .refuse _, _, _, _, _, _, h => by simp [evk] at h

end
end Go.Eng

namespace Go.Eng
open Go
noncomputable section

variable {X : Cx} {R : Type}

def hd0 : Hd := ⟨.nilFunc, 0⟩

/-- A run on a part of the memory. -/
def framed (sel : List Nat) (args : List AV) (M : List Blk) (run : List AV → List Blk → (AV → List Blk → Option R) → Option R) (k : AV → List Blk → Option R) : Option R :=
  tst (subOk M sel) (run (args.map (ren (idx sel) 4)) (subM M sel) fun x Mc => tst (mergeOk sel.length M sel Mc) (k (ren (rno sel.length sel M.length) 4 x) (merge sel.length M sel Mc)))

theorem merge_agree {M Mc : List Blk} {sel : List Nat} {m : Nat} : Agree sel M (merge m M sel Mc) :=
  ⟨by rw [merge_length]; omega, fun id hid hn => by unfold merge; rw [List.getElem?_append_left (by rw [mset_length]; exact hid), mset_not sel _ M hn]⟩

theorem framed_sound (hX : X.Ok) {f : FuncId} {sel : List Nat} {args : List AV} {M : List Blk} {run : List AV → List Blk → (AV → List Blk → Option R) → Option R} {k : AV → List Blk → Option R} {r : R}
    (hrun : ∀ {args : List AV} {M : List Blk} {k : AV → List Blk → Option R}, run args M k = some r → ∃ x M', ACalls X f args M x M' ∧ k x M' = some r) (h : framed sel args M run k = some r) :
    ∃ x M', ACalls X f args M x M' ∧ k x M' = some r ∧ Agree sel M M' := by
  unfold framed at h
  replace h := tst_some h
  obtain ⟨hok, h⟩ := h
  obtain ⟨x, Mc, hc, h⟩ := hrun h
  replace h := tst_some h
  obtain ⟨hm, h⟩ := h
  refine ⟨_, _, ⟨hc.1, fun {w0 S F ρ w vs} hI hr => ?_⟩, h, merge_agree⟩
  have hs := sub_facts hok
  have hlt : ∀ i ∈ sel, i < ρ.length := fun i hi => by rw [hI.len]; exact hs.lt i hi
  refine (hc.2 (hI.sub hX hok hd0) (hr.ren hX.kinds (ren_idx hlt hd0) 4)).mono ?_
  rintro e w' ⟨v, ρ', F', rfl, hI', hg, hx⟩
  obtain ⟨h1, h2, h3⟩ := hI.merge hX hok hd0 hI' (hg.toF sel.length) hm
  exact ⟨v, _, F', rfl, h1, h2, hx.ren hX.kinds h3 4⟩

/-! ### A function -/

def argEnv : Nat → List AV → List (Nat × AV)
  | _, [] => []
  | i, x :: xs => (i, x) :: argEnv (i + 1) xs
theorem look_argEnv : ∀ (xs : List AV) (i t : Nat), look (argEnv i xs) t = if i ≤ t then (xs[t - i]?).getD .top else .top
  | [], i, t => by simp [argEnv, look_cons, look_nil]
  | x :: xs, i, t => by
    simp only [argEnv, look_cons, look_nil]
    by_cases ht : t = i
    · subst ht; simp
    · have : (t == i) = false := by simpa using ht
      simp only [this, Bool.false_eq_true, if_false]
      rw [look_argEnv xs (i + 1) t]
      by_cases h : i ≤ t
      · rw [if_pos (by omega), if_pos h, show t - i = (t - (i + 1)) + 1 by omega]; simp
      · rw [if_neg (by omega), if_neg h]

def evres1 (X : Cx) (rv : ResultVar) (st : St) (k : AV → Option R) : Option R :=
  match rv with
  | .tmp t => k (look st.env t)
  | .cell a t => evLoad X t (look st.env a) st.mem k
def evres (X : Cx) (rs : List ResultVar) (st : St) (k : AV → List Blk → Option R) : Option R :=
  match rs with
  | [] => k (.tup []) st.mem
  | [a] => evres1 X a st fun x => k x st.mem
  | [a, b] => evres1 X a st fun x => evres1 X b st fun y => k (.tup [x, y]) st.mem
  | [a, b, c] => evres1 X a st fun x => evres1 X b st fun y => evres1 X c st fun z => k (.tup [x, y, z]) st.mem
  | _ => none

def res1 (tmps : Array Value) : ResultVar → Sem Value
  | .tmp t => pure (tmps.getD t undef)
  | .cell a t => do loadVar t (← asAddr (tmps.getD a undef))

theorem evres1_sound (hX : X.Okb) {rv : ResultVar} {st : St} {k : AV → Option R} {r : R} (h : evres1 X rv st k = some r) :
    ∃ x, k x = some r ∧ ∀ {nt : Nt} {rdc : Cy} {w0 : World} {S : Sc} {F : Addr → Prop} {ρ : List Hd} {a : Act} {w : World}, Inv X w0 S F ρ st.mem w → Sim X nt st rdc F ρ a w → ∃ v, (res1 a.tmps rv).run X.P w = .ok v w ∧ Rep X.K ρ F w x v := by
  cases rv with
  | tmp t => exact ⟨_, h, fun {nt rdc w0 S F ρ a w} hI hs => ⟨_, rfl, hs.env t⟩⟩
  | cell a t =>
    obtain ⟨x, h, hd⟩ := evLoad_sound hX h
    refine ⟨x, h, fun {nt rdc w0 S F ρ act w} hI hs => ?_⟩
    obtain ⟨v, h1, h2⟩ := hd hI (hs.env a)
    refine ⟨v, ?_, h2⟩
    unfold Instr.loadAt at h1
    simp only [res1]
    generalize act.tmps.getD a undef = p at h1
    cases p with
    | pointer o =>
      cases o with
      | some ad => exact h1
      | none => simp [Instr.sureAddr, Sem.run_bind, stuck, Sem.run, Result.andThen] at h1
    | _ => simp [Instr.sureAddr, Sem.run_bind, stuck, Sem.run, Result.andThen] at h1

theorem evres_sound (hX : X.Okb) {fn : Func} {rs : List ResultVar} (hrs : fn.results.toList = rs) {st : St} {k : AV → List Blk → Option R} {r : R} (h : evres X rs st k = some r) :
    ∃ x, k x st.mem = some r ∧ ∀ {nt : Nt} {rdc : Cy} {w0 : World} {S : Sc} {F : Addr → Prop} {ρ : List Hd} {a : Act} {w : World}, Inv X w0 S F ρ st.mem w → Sim X nt st rdc F ρ a w → ∃ v, (results fn a.tmps).run X.P w = .ok v w ∧ Rep X.K ρ F w x v := by
  have hres : ∀ tmps, results fn tmps = (do let vs ← fn.results.mapM (res1 tmps); pure (if h : vs.size = 1 then vs[0] else .tuple vs)) := by
    intro tmps
    unfold results
    congr 1
  have hrs' : fn.results = rs.toArray := by rw [← hrs]
  unfold evres at h
  split at h
  · exact ⟨_, h, fun {nt rdc w0 S F ρ a w} hI hs => ⟨.tuple #[], by rw [hres, hrs']; simp [Sem.run_bind], .tup [] [] rfl (fun j x v h _ => by simp at h)⟩⟩
  · rename_i a
    obtain ⟨x, h, hd⟩ := evres1_sound hX h
    refine ⟨x, h, fun {nt rdc w0 S F ρ act w} hI hs => ?_⟩
    obtain ⟨v, h1, h2⟩ := hd hI hs
    exact ⟨v, by rw [hres, hrs']; simp [Sem.run_bind, h1], h2⟩
  · rename_i a b
    obtain ⟨x, h, hd⟩ := evres1_sound hX h
    obtain ⟨y, h, hd2⟩ := evres1_sound hX h
    refine ⟨_, h, fun {nt rdc w0 S F ρ act w} hI hs => ?_⟩
    obtain ⟨v, h1, h2⟩ := hd hI hs
    obtain ⟨v2, h3, h4⟩ := hd2 hI hs
    refine ⟨.tuple #[v, v2], by rw [hres, hrs']; simp [Sem.run_bind, h1, h3], .tup [x, y] [v, v2] rfl (fun j z u hz hu => ?_)⟩
    match j with
    | 0 => simp at hz hu; subst hz; subst hu; exact h2
    | 1 => simp at hz hu; subst hz; subst hu; exact h4
    | j + 2 => simp at hz
  · rename_i a b c
    obtain ⟨x, h, hd⟩ := evres1_sound hX h
    obtain ⟨y, h, hd2⟩ := evres1_sound hX h
    obtain ⟨z, h, hd3⟩ := evres1_sound hX h
    refine ⟨_, h, fun {nt rdc w0 S F ρ act w} hI hs => ?_⟩
    obtain ⟨v, h1, h2⟩ := hd hI hs
    obtain ⟨v2, h3, h4⟩ := hd2 hI hs
    obtain ⟨v3, h5, h6⟩ := hd3 hI hs
    refine ⟨.tuple #[v, v2, v3], by rw [hres, hrs']; simp [Sem.run_bind, h1, h3, h5], .tup [x, y, z] [v, v2, v3] rfl (fun j q u hz hu => ?_)⟩
    match j with
    | 0 => simp at hz hu; subst hz; subst hu; exact h2
    | 1 => simp at hz hu; subst hz; subst hu; exact h4
    | 2 => simp at hz hu; subst hz; subst hu; exact h6
    | j + 3 => simp at hz
  · cases h

/-- What is behind a function's code. -/
def evfin (X : Cx) (rs : List ResultVar) (k : AV → List Blk → Option R) (e : Ex) (st : St) : Option R :=
  match e with
  | .exit _ => none
  | _ => match st.dfs with | [] => evres X rs st k | _ => none

def evfn (X : Cx) (L : LTab R) (c : Code) (rs : List ResultVar) (args : List AV) (M : List Blk) (k : AV → List Blk → Option R) : Option R :=
  tst (Nat.ble args.length L.tab.nt.n) (evk X L c 1 ⟨argEnv 0 args, M, [], .out⟩ (evfin X rs k))

theorem Grow.less {F0 F : Addr → Prop} {ρ ρ' : List Hd} {wb w : World} (g : Grow F0 F ρ ρ' wb w) {D : Nat} (hD : ∀ a, F0 a → a.block ≠ D) (o : Obj) : Grow F0 (less F D) ρ ρ' wb (w.putObj D o) :=
  ⟨fun a ha => ⟨g.hF a ha, hD a ha⟩, g.hρ, fun a ha => by rw [World.putObj_heap_other (hD a ha)]; exact g.hb a ha⟩

/-- The marks on the way out. -/
theorem leaves_marks {fn : Func} {tmps : Array Value} {M : List Blk} {env : List (Nat × AV)} {w0 wb : World} {S : Sc} {F0 : Addr → Prop} {ρ ρ' : List Hd} {x : AV} (hf0 : ∀ a, S.F0 a → F0 a)
    (hres : ∀ {F : Addr → Prop} {w : World}, Inv X w0 S F ρ' M w → EnvRep X ρ' F w env tmps → ∃ v, (results fn tmps).run X.P w = .ok v w ∧ Rep X.K ρ' F w x v) :
    ∀ (ms : List Nat) {F : Addr → Prop} {w : World}, Inv X w0 S F ρ' M w → EnvRep X ρ' F w env tmps → ms.Nodup → (∀ D ∈ ms, (∀ a, F0 a → a.block ≠ D) ∧ F ⟨D, 0, none⟩ ∧ w.heap[D]? = some (.deferred (some []))) → Grow F0 F ρ ρ' wb w →
      LeavesInM Fence.wide 0 X.P fn tmps (fun e w' => ∃ v ρ' F', e = .returned v ∧ Inv X w0 S F' ρ' M w' ∧ Grow F0 F' ρ ρ' wb w' ∧ Rep X.K ρ' F' w' x v) (ms.map fun D => ({ target := .collected D, args := #[] } : Deferred)) .returning w
  | [], F, w, hI, hE, _, _, hg => by
    obtain ⟨v, h1, h2⟩ := hres hI hE
    exact ⟨v, h1, v, ρ', F, rfl, hI, hg, h2⟩
  | D :: ms, F, w, hI, hE, hnd, hms, hg => by
    obtain ⟨h1, h2, h3⟩ := hms D (by simp)
    have hc := cell_ne_of_deferred h3
    refine ⟨by simp, .inl ⟨D, _, rfl, run_takeDeferred h3, leaves_marks hf0 hres ms (hI.write_kept h2 hc (fun a ha => h1 a (hf0 a ha)) _) (hE.less hc _) (List.nodup_cons.1 hnd).2 (fun D' hD' => ?_) (hg.less h1 _)⟩⟩
    have hne : D' ≠ D := by rintro rfl; exact (List.nodup_cons.1 hnd).1 hD'
    obtain ⟨k1, k2, k3⟩ := hms D' (by simp [hD'])
    exact ⟨k1, ⟨k2, hne⟩, by rw [World.putObj_heap_other hne]; exact k3⟩

theorem evfn_sound (hX : X.Okb) {f : FuncId} {fn : Func} {c : Code} {L : LTab R} (hL : L.Ok X c) (hf : X.P.funcs[f]? = some fn) (hb : fn.body = some c) (hn : fn.ntmps = L.tab.nt.n)
    (hc : ∀ (vs : Array Value) (w : World), (callFunc f vs).run X.P w = .ok (.enter f vs) w) {rs : List ResultVar} (hrs : fn.results.toList = rs) {args : List AV} {M : List Blk} {k : AV → List Blk → Option R} {r : R} (h : evfn X L c rs args M k = some r) :
    ∃ x M', ACalls X f args M x M' ∧ k x M' = some r := by
  unfold evfn at h
  replace h := tst_some h
  obtain ⟨hle, h⟩ := h
  have hle : args.length ≤ L.tab.nt.n := Nat.le_of_ble_eq_true hle
  obtain ⟨e, st', hrun, h⟩ := evk_sound hX hL c (At.root c) h
  have he : e ≠ .normal → e = .ret := by
    intro hne
    cases e with
    | normal => exact absurd rfl hne
    | ret => rfl
    | exit i => simp [evfin] at h
  have hfin : (match st'.dfs with | [] => evres X rs st' k | _ => none) = some r := by
    cases e with
    | normal => exact h
    | ret => exact h
    | exit i => simp [evfin] at h
  split at hfin
  · rename_i hdfs
    obtain ⟨x, hk, hres⟩ := evres_sound hX hrs hfin
    refine ⟨x, st'.mem, ⟨hc, fun {w0 S F ρ w vs} hI hr => ?_⟩, hk⟩
    refine (callsIn_wide (n := 0)).1 (callsIn_of_wp_marks hf hb trivial ?_)
    have hlen := hr.1
    have := hrun (rdc := ⟨none, F, fun t => (vs.toArray ++ Array.replicate (fn.ntmps - vs.toArray.size) undef).getD t undef⟩) (n := 0) (Q := bodyPostM Fence.wide 0 X.P fn (fun e w' => ∃ v ρ' F', e = .returned v ∧ Inv X w0 S F' ρ' st'.mem w' ∧ Grow F F' ρ ρ' w w' ∧ Rep X.K ρ' F' w' x v))
      (a := { tmps := vs.toArray ++ Array.replicate (fn.ntmps - vs.toArray.size) undef, defers := [] }) hI ⟨fun t => ?_, ?_, Marks.nil _ _ (fun _ h => h), .inl rfl, fun t _ => rfl⟩ ?_
    · exact this
    · rw [look_argEnv, if_pos (Nat.zero_le _)]
      cases hx : args[t - 0]? with
      | none => exact .top _
      | some y =>
        have ht : t < vs.length := by have := (List.getElem?_eq_some_iff.1 hx).1; omega
        have hv : (vs.toArray ++ Array.replicate (fn.ntmps - vs.toArray.size) undef).getD t undef = vs[t] := by
          rw [Array.getD_eq_getD_getElem?, Array.getElem?_append_left (by simpa using ht)]
          simp [ht]
        rw [hv]
        exact hr.2 t y _ (by simpa using hx) (List.getElem?_eq_getElem ht)
    · simp only [Array.size_append, List.size_toArray, Array.size_replicate, hlen, hn]; omega
    · intro a' w' F' ρ' hI' hs' hg
      have hd : Marks F' w' F a'.defers := by have := hs'.defs; rw [hdfs] at this; exact this
      obtain ⟨_, ms, hms1, hms2, hms3⟩ := hd
      have hleave : LeavesInM Fence.wide 0 X.P fn a'.tmps (fun e w' => ∃ v ρ' F', e = .returned v ∧ Inv X w0 S F' ρ' st'.mem w' ∧ Grow F F' ρ ρ' w w' ∧ Rep X.K ρ' F' w' x v) a'.defers .returning w' := by
        rw [hms1]
        exact leaves_marks (env := st'.env) hI.fin (fun {F2 w2} i2 e2 => hres (rdc := ⟨none, fun _ => False, fun t => a'.tmps.getD t undef⟩) (a := { tmps := a'.tmps, defers := [] }) i2 ⟨e2, hs'.size, by rw [hdfs]; exact Marks.nil _ _ (fun _ h => h.elim), .inl rfl, fun t _ => rfl⟩) ms hI' hs'.env hms2 hms3 hg
      by_cases hne : e = .normal
      · subst hne; exact hleave
      · rw [he hne]; exact hleave
  · cases hfin

end
end Go.Eng
