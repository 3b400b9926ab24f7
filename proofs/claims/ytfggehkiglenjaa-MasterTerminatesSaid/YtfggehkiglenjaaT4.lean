/-
  The functions of the code as typed functions, and that the code runs so. Printed by gen2.py.
  The functions of the code as typed functions, and that the code runs so. Printed by gen2.py.
  The functions of the code as typed functions, and that the code runs so. Printed by gen2.py.
  The functions of the code as typed functions, and that the code runs so. Printed by gen2.py.
  The functions of the code as typed functions, and that the code runs so. Printed by gen2.py.
  The functions of the code as typed functions, and that the code runs so. Printed by gen2.py.
  The functions of the code as typed functions, and that the code runs so. Printed by gen2.py.
  Plain laws: when rows are those of tasks (both texts).
  Plain laws: which tasks depend on a task; lists of tasks.
  Plain law: MasterForest's typed function answers true.
  Plain laws: quiet tasks, tasks that can be terminated.
  Plain laws: what is aborted with tasks.
  Plain law: MasterAborts.
  Plain laws: what is aborted is closed.
  Plain law: MasterTerminates.
  What is proved: ceilinglaw33.MasterTerminates returns true for every input, and leaves its arguments as they were. No condition.
-/
import Derived.Test.YtfggehkiglenjaaT2
import Derived.KernelRfl
import Derived.Test.YtfggehkiglenjaaT3
import Derived.Test.YtfggehkiglenjaaRows
import Derived.WalkKit
import Derived.ProofKit
import Derived.OpenShut
set_option linter.all false
set_option linter.deprecated false
namespace Go.Proofs.Ytfggehkiglenjaa
open Go Go.Eng
set_option maxRecDepth 100000

/-! ### F27: ceiling/ceilingref33.is -/
inductive R27 where
  | r (x0 : Bool)
abbrev TF27 := List Row → Int → Option R27
def sgF27 : LSh := ⟨[(0, .one (.cell (.slice 30))), (1, .one (.cell (.int .i64)))], []⟩
def FFF27 (Fx : TF27) (s : St) : Option R27 := Fx ((Eng.look s.env 0).rows) ((Eng.look s.env 1).toI)
def valF27 (o : R27) : AV := match o with | .r x0 => .bool x0
def memF27 (o : R27) : List Blk := match o with | .r x0 => []
def elF27 {R : Type} (o : R27) (k : AV → List Blk → Option R) : Option R := match o with | .r x0 => k (.bool x0) []
def RecOkF27 (Fx : TF27) : Prop := ∀ lk M o, FFF27 Fx (canS sgF27 lk M) = some o → FCalls CX 27 0 (argsE 2 (canS sgF27 lk M).env) (canS sgF27 lk M).mem (valF27 o) (memF27 o)
noncomputable def csF27 (N : Nat) (R : Type) : List (CE R) := []
theorem hcsF27 (N : Nat) (R : Type) : AllE (CeOk CX) (csF27 N R) := trivial
noncomputable def T27ur1 (N : Nat) (R : Type) : LTab R := mkTab ⟨13, 8191⟩ (csF27 N R) (noY) [] [] []
theorem okT27ur1 (N : Nat) (R : Type) : (T27ur1 N R).Ok CX code27 := mkTab_ok (hcsF27 N R) (noY_ok) (trivial) (trivial) (trivial)
def rsF27 : List ResultVar := [.tmp 4]
def F27 : Nat → TF27
  | 0 => fun _ _ => none
  | N + 1 => fun x0 x1 =>
    match decide ((0 : Int) ≤ x1) with
    | true =>
      some (.r (decide (x1 < ((x0.length : Int)))))
    | false =>
      some (.r false)
def xRF27 : XSh R27 := ⟨[], ⟨[(0, .one (.cell (.bool)))], []⟩, fun _ => [], fun s => .r ((Eng.look s.env 0).toB)⟩
theorem fsF27 : ∀ (N : Nat) (lk : Nat → AV) (M : List Blk), FFF27 (F27 (N + 1)) (canS sgF27 lk M) = evfn CX (T27ur1 N R27) code27 rsF27 (argsE 2 (canS sgF27 lk M).env) (canS sgF27 lk M).mem (goR CX 0 (fun _ => some xRF27)) := by intro N lk M; kernel_rfl
theorem soundF27 : ∀ N, RecOkF27 (F27 N)
  | 0, lk, M, o, h => by cases h
  | N + 1, lk, M, o, h => fn_sound hX (okT27ur1 N R27) Try.func27 hb27 rfl en27 (by kernel_rfl) (ys := fun _ => some xRF27) (fun st y h => by injection h with h; subst h; exact fun lk M => ⟨rfl, rfl⟩) ((fsF27 N lk M).symm.trans h)
def cvce27n0 : List Cv := []
def selce27n0 : St → List Nat := fun _ => []
noncomputable def ce27n0 (Fx : TF27) (R : Type) (test : List AV → List Blk → Bool) : CE R := ⟨27, test, fun args M => some (selce27n0 ⟨argEnv 0 args, M, [], .unk⟩), fun args M k => tst (Nat.beq args.length 2) (callFn CX 0 cvce27n0 sgF27 selce27n0 (FFF27 Fx) elF27 args M k)⟩
theorem okce27n0 (Fx : TF27) (h : RecOkF27 Fx) (R : Type) (test : List AV → List Blk → Bool) : CeOk CX (ce27n0 Fx R test) := ce_ok hX (fun o k => by cases o; rfl) h en27 (fun args M ids h => by injection h with h; exact ⟨rfl, h.symm⟩)
end Go.Proofs.Ytfggehkiglenjaa

namespace Go.Proofs.Ytfggehkiglenjaa
open Go Go.Eng
set_option maxRecDepth 100000

/-! ### F28: ceiling/ceilingref33.mark -/
inductive R28 where
  | r (b0 : List Row)
abbrev TF28 := List Row → Int → List Row → Option R28
def sgF28 : LSh := ⟨[(0, .one (.cell (.slice 30))), (1, .one (.own 0)), (2, .one (.cell (.int .i64)))], [.row 4]⟩
def FFF28 (Fx : TF28) (s : St) : Option R28 := Fx ((Eng.look s.env 0).rows) ((Eng.look s.env 2).toI) ((s.mem.getD 0 .dead).rows)
def valF28 (o : R28) : AV := match o with | .r b0 => .tup []
def memF28 (o : R28) : List Blk := match o with | .r b0 => [.row 4 b0]
def elF28 {R : Type} (o : R28) (k : AV → List Blk → Option R) : Option R := match o with | .r b0 => k (.tup []) [.row 4 b0]
def RecOkF28 (Fx : TF28) : Prop := ∀ lk M o, FFF28 Fx (canS sgF28 lk M) = some o → FCalls CX 28 1 (argsE 3 (canS sgF28 lk M).env) (canS sgF28 lk M).mem (valF28 o) (memF28 o)
def cvce28n0 : List Cv := []
def selce28n0 : St → List Nat := fun st => [(Eng.look st.env 1).id]
noncomputable def ce28n0 (Fx : TF28) (R : Type) (test : List AV → List Blk → Bool) : CE R := ⟨28, test, fun args M => some (selce28n0 ⟨argEnv 0 args, M, [], .unk⟩), fun args M k => tst (Nat.beq args.length 3) (callFn CX 1 cvce28n0 sgF28 selce28n0 (FFF28 Fx) elF28 args M k)⟩
theorem okce28n0 (Fx : TF28) (h : RecOkF28 Fx) (R : Type) (test : List AV → List Blk → Bool) : CeOk CX (ce28n0 Fx R test) := ce_ok hX (fun o k => by cases o; rfl) h en28 (fun args M ids h => by injection h with h; exact ⟨rfl, h.symm⟩)
noncomputable def csF28 (rec : TF28) (N : Nat) (R : Type) : List (CE R) := [ce28n0 rec R (fun _ _ => true), ce30n0 (F30 N) R (fun _ _ => true)]
theorem hcsF28 (rec : TF28) (hrec : RecOkF28 rec) (N : Nat) (R : Type) : AllE (CeOk CX) (csF28 rec N R) := ⟨okce28n0 rec hrec R (fun _ _ => true), okce30n0 (F30 N) (soundF30 N) R (fun _ _ => true), trivial⟩
inductive OJ28a6 where
  | nx (b0 : List Row) (b1c0 : Bool) (b1c1 : Bool) (b1c2 : Bool) (b1c3 : Bool) (b1c4 : Bool) (b1c5 : Int) (b1c6 : Int) (b1c7 : Int)
  | ret (b0 : List Row) (b1c0 : Bool) (b1c1 : Bool) (b1c2 : Bool) (b1c3 : Bool) (b1c4 : Bool) (b1c5 : Int) (b1c6 : Int) (b1c7 : Int)
def J28a6 (rec : TF28) (N : Nat) : Int → List Row → Bool → Bool → Bool → Bool → Bool → Int → Int → Int → Option OJ28a6 := fun x2 b0 b1c0 b1c1 b1c2 b1c3 b1c4 b1c5 b1c6 b1c7 =>
    match F30 N b1c0 b1c1 b1c2 b1c3 b1c4 b1c5 b1c6 b1c7 with
    | none => none
    | some (.r rx0v1) =>
      match !rx0v1 with
      | true =>
        some (.ret b0 b1c0 b1c1 b1c2 b1c3 b1c4 b1c5 b1c6 b1c7)
      | false =>
        match b1c2 with
        | true =>
          some (.ret b0 b1c0 b1c1 b1c2 b1c3 b1c4 b1c5 b1c6 b1c7)
        | false =>
          tst (decide ((0 : Int) ≤ x2) && decide (x2 < ((b0.length : Int)))) <|
          tst (decide (x2.toNat < b0.length)) <|
          match (((b0.getD x2.toNat [])).getD 0 .top).toB with
          | true =>
            some (.ret b0 b1c0 b1c1 b1c2 b1c3 b1c4 b1c5 b1c6 b1c7)
          | false =>
            some (.nx b0 b1c0 b1c1 b1c2 b1c3 b1c4 b1c5 b1c6 b1c7)
def LFJ28a6 (rec : TF28) (N : Nat) (s : St) : Option OJ28a6 := J28a6 rec N ((Eng.look s.env 2).toI) ((s.mem.getD 0 .dead).rows) (((s.mem.getD 1 .dead).cells.getD 0 .top).toB) (((s.mem.getD 1 .dead).cells.getD 1 .top).toB) (((s.mem.getD 1 .dead).cells.getD 2 .top).toB) (((s.mem.getD 1 .dead).cells.getD 3 .top).toB) (((s.mem.getD 1 .dead).cells.getD 4 .top).toB) (((s.mem.getD 1 .dead).cells.getD 5 .top).toI) (((s.mem.getD 1 .dead).cells.getD 6 .top).toI) (((s.mem.getD 1 .dead).cells.getD 7 .top).toI)
def sgJ28a6 : LSh := ⟨[(1, .one (.own 0)), (2, .one (.cell (.int .i64))), (6, .one (.ptr 1 0 0))], [.row 4, .var [.bool, .bool, .bool, .bool, .bool, .int .i64, .int .i64, .int .i64] [.cell (.bool), .cell (.bool), .cell (.bool), .cell (.bool), .cell (.bool), .cell (.int .i64), .cell (.int .i64), .cell (.int .i64)]]⟩
def ceJ28a6 : List Cv := []
def seJ28a6 : St → List Nat := fun st => [(Eng.look st.env 1).id, (Eng.look st.env 6).id]
def xJ28a6wnx : XSh OJ28a6 := ⟨[], ⟨[], [.row 4, .var [.bool, .bool, .bool, .bool, .bool, .int .i64, .int .i64, .int .i64] [.cell (.bool), .cell (.bool), .cell (.bool), .cell (.bool), .cell (.bool), .cell (.int .i64), .cell (.int .i64), .cell (.int .i64)]]⟩, fun st => [0, 1], fun s => .nx ((s.mem.getD 0 .dead).rows) (((s.mem.getD 1 .dead).cells.getD 0 .top).toB) (((s.mem.getD 1 .dead).cells.getD 1 .top).toB) (((s.mem.getD 1 .dead).cells.getD 2 .top).toB) (((s.mem.getD 1 .dead).cells.getD 3 .top).toB) (((s.mem.getD 1 .dead).cells.getD 4 .top).toB) (((s.mem.getD 1 .dead).cells.getD 5 .top).toI) (((s.mem.getD 1 .dead).cells.getD 6 .top).toI) (((s.mem.getD 1 .dead).cells.getD 7 .top).toI)⟩
def xJ28a6wret : XSh OJ28a6 := ⟨[], ⟨[], [.row 4, .var [.bool, .bool, .bool, .bool, .bool, .int .i64, .int .i64, .int .i64] [.cell (.bool), .cell (.bool), .cell (.bool), .cell (.bool), .cell (.bool), .cell (.int .i64), .cell (.int .i64), .cell (.int .i64)]]⟩, fun st => [0, 1], fun s => .ret ((s.mem.getD 0 .dead).rows) (((s.mem.getD 1 .dead).cells.getD 0 .top).toB) (((s.mem.getD 1 .dead).cells.getD 1 .top).toB) (((s.mem.getD 1 .dead).cells.getD 2 .top).toB) (((s.mem.getD 1 .dead).cells.getD 3 .top).toB) (((s.mem.getD 1 .dead).cells.getD 4 .top).toB) (((s.mem.getD 1 .dead).cells.getD 5 .top).toI) (((s.mem.getD 1 .dead).cells.getD 6 .top).toI) (((s.mem.getD 1 .dead).cells.getD 7 .top).toI)⟩
def xsJ28a6 : Ex → St → Option (XSh OJ28a6) := fun e st => match e with
  | .normal => some xJ28a6wnx
  | .ret => some xJ28a6wret
  | _ => none
def exJ28a6 (o : OJ28a6) : Ex := match o with | .nx b0 b1c0 b1c1 b1c2 b1c3 b1c4 b1c5 b1c6 b1c7 => .normal | .ret b0 b1c0 b1c1 b1c2 b1c3 b1c4 b1c5 b1c6 b1c7 => .ret
def stJ28a6 (o : OJ28a6) : St := match o with | .nx b0 b1c0 b1c1 b1c2 b1c3 b1c4 b1c5 b1c6 b1c7 => ⟨[], [.row 4 b0, .var [.bool, .bool, .bool, .bool, .bool, .int .i64, .int .i64, .int .i64] [.bool b1c0, .bool b1c1, .bool b1c2, .bool b1c3, .bool b1c4, .int .i64 b1c5, .int .i64 b1c6, .int .i64 b1c7]], [], .unk⟩ | .ret b0 b1c0 b1c1 b1c2 b1c3 b1c4 b1c5 b1c6 b1c7 => ⟨[], [.row 4 b0, .var [.bool, .bool, .bool, .bool, .bool, .int .i64, .int .i64, .int .i64] [.bool b1c0, .bool b1c1, .bool b1c2, .bool b1c3, .bool b1c4, .int .i64 b1c5, .int .i64 b1c6, .int .i64 b1c7]], [], .unk⟩
def elJ28a6 {R : Type} (o : OJ28a6) (k : Ex → St → Option R) : Option R := match o with | .nx b0 b1c0 b1c1 b1c2 b1c3 b1c4 b1c5 b1c6 b1c7 => k .normal ⟨[], [.row 4 b0, .var [.bool, .bool, .bool, .bool, .bool, .int .i64, .int .i64, .int .i64] [.bool b1c0, .bool b1c1, .bool b1c2, .bool b1c3, .bool b1c4, .int .i64 b1c5, .int .i64 b1c6, .int .i64 b1c7]], [], .unk⟩ | .ret b0 b1c0 b1c1 b1c2 b1c3 b1c4 b1c5 b1c6 b1c7 => k .ret ⟨[], [.row 4 b0, .var [.bool, .bool, .bool, .bool, .bool, .int .i64, .int .i64, .int .i64] [.bool b1c0, .bool b1c1, .bool b1c2, .bool b1c3, .bool b1c4, .int .i64 b1c5, .int .i64 b1c6, .int .i64 b1c7]], [], .unk⟩
theorem heJ28a6 {R : Type} (o : OJ28a6) (k : Ex → St → Option R) : elJ28a6 o k = k (exJ28a6 o) (stJ28a6 o) := by cases o <;> rfl
theorem hxJ28a6 : ∀ e st x, xsJ28a6 e st = some x → outOk x e exJ28a6 stJ28a6 := by
  intro e st x h
  unfold xsJ28a6 at h
  repeat' split at h
  all_goals first
    | (injection h with h; subst h; exact fun lk M => ⟨rfl, rfl⟩)
    | cases h
noncomputable def T28uc6 (rec : TF28) (N : Nat) (R : Type) : LTab R := mkTab ⟨45, 33550336⟩ (csF28 rec N R) (noY) [] [] []
theorem okT28uc6 (rec : TF28) (hrec : RecOkF28 rec) (N : Nat) (R : Type) : (T28uc6 rec N R).Ok CX code28 := mkTab_ok (hcsF28 rec hrec N R) (noY_ok) (trivial) (trivial) (trivial)
noncomputable def bdJ28a6 : Code := (codeAt code28 [false, true]).getD .skip
theorem hsJ28a6 (rec : TF28) (N : Nat) : ∀ (lk : Nat → AV) (M : List Blk), LFJ28a6 rec N (canS sgJ28a6 lk M) = evk CX (T28uc6 rec N OJ28a6) bdJ28a6 6 (canS sgJ28a6 lk M) (kontX CX 2 xsJ28a6) := by intro lk M; kernel_rfl
inductive OL28a62 where
  | x0 (b0 : List Row)
def L28a62 (rec : TF28) (N : Nat) : Nat → List Row → Int → Int → List Row → Option OL28a62
  | 0 => fun _ _ _ _ => none
  | n + 1 => fun x0 x2 x7 b0 =>
    match decide (x7 < ((x0.length : Int))) with
    | true =>
      tst (decide ((0 : Int) ≤ x7) && decide (x7 < ((x0.length : Int)))) <|
      match ((((x0.getD x7.toNat [])).getD 5 .top).toI) == x2 with
      | true =>
        match rec x0 x7 b0 with
        | none => none
        | some (.r rb0v3) =>
          L28a62 rec N n x0 x2 (IntKind.wrap .i64 (x7 + (1 : Int))) rb0v3
      | false =>
        L28a62 rec N n x0 x2 (IntKind.wrap .i64 (x7 + (1 : Int))) b0
    | false =>
      some (.x0 b0)
def LFL28a62 (rec : TF28) (N : Nat) (n : Nat) (s : St) : Option OL28a62 := L28a62 rec N n ((Eng.look s.env 0).rows) ((Eng.look s.env 2).toI) ((Eng.look s.env 7).toI) ((s.mem.getD 0 .dead).rows)
def sgL28a62 : LSh := ⟨[(0, .one (.cell (.slice 30))), (1, .one (.own 0)), (2, .one (.cell (.int .i64))), (7, .one (.cell (.int .i64)))], [.row 4]⟩
def ceL28a62 : List Cv := []
def seL28a62 : St → List Nat := fun st => [(Eng.look st.env 1).id]
def xL28a62wx0 : XSh OL28a62 := ⟨[], ⟨[], [.row 4]⟩, fun st => [0], fun s => .x0 ((s.mem.getD 0 .dead).rows)⟩
def xsL28a62 : Ex → St → Option (XSh OL28a62) := fun e st => match e with
  | .exit 0 => some xL28a62wx0
  | _ => none
def exL28a62 (o : OL28a62) : Ex := match o with | .x0 b0 => (.exit 0)
def stL28a62 (o : OL28a62) : St := match o with | .x0 b0 => ⟨[], [.row 4 b0], [], .unk⟩
def elL28a62 {R : Type} (o : OL28a62) (k : Ex → St → Option R) : Option R := match o with | .x0 b0 => k (.exit 0) ⟨[], [.row 4 b0], [], .unk⟩
theorem heL28a62 {R : Type} (o : OL28a62) (k : Ex → St → Option R) : elL28a62 o k = k (exL28a62 o) (stL28a62 o) := by cases o <;> rfl
theorem hxL28a62 : ∀ e st x, xsL28a62 e st = some x → outOk x e exL28a62 stL28a62 := by
  intro e st x h
  unfold xsL28a62 at h
  repeat' split at h
  all_goals first
    | (injection h with h; subst h; exact fun lk M => ⟨rfl, rfl⟩)
    | cases h
noncomputable def T28ul62 (rec : TF28) (N : Nat) (R : Type) : LTab R := mkTab ⟨45, 35184103653504⟩ (csF28 rec N R) (noY) [] [] []
theorem okT28ul62 (rec : TF28) (hrec : RecOkF28 rec) (N : Nat) (R : Type) : (T28ul62 rec N R).Ok CX code28 := mkTab_ok (hcsF28 rec hrec N R) (noY_ok) (trivial) (trivial) (trivial)
noncomputable def bdL28a62 : Code := match codeAt code28 [false, true, true, true, true] with | some (.loop c) => c | _ => .skip
theorem hsL28a62 (rec : TF28) (N : Nat) : ∀ (n : Nat) (lk : Nat → AV) (M : List Blk), LFL28a62 rec N (n + 1) (canS sgL28a62 lk M) = evk CX (T28ul62 rec N OL28a62) bdL28a62 (2 * 62) (canS sgL28a62 lk M) (kont CX 1 [] sgL28a62 (fun st => [0]) xsL28a62 (LFL28a62 rec N n)) := by intro n lk M; kernel_rfl
noncomputable def T28ur1 (rec : TF28) (N : Nat) (R : Type) : LTab R := mkTab ⟨45, 35184372088831⟩ (csF28 rec N R) (noY) [(62, fun st k => callLoop CX 1 35184103653504 ceL28a62 sgL28a62 seL28a62 ⟨45, 35184372088831⟩ (LFL28a62 rec N N) elL28a62 st k)] [] [(6, fun st k => callLoop CX 2 33550336 ceJ28a6 sgJ28a6 seJ28a6 ⟨45, 35184372088831⟩ (LFJ28a6 rec N) elJ28a6 st k)]
theorem okT28ur1 (rec : TF28) (hrec : RecOkF28 rec) (N : Nat) (R : Type) : (T28ur1 rec N R).Ok CX code28 := mkTab_ok (hcsF28 rec hrec N R) (noY_ok) (⟨loop_ok hX (path := [false, true, true, true, true]) (by kernel_rfl) (by rfl) (okT28ul62 rec hrec N OL28a62) (fun _ _ => rfl) (hsL28a62 rec N) hxL28a62 rfl heL28a62, trivial⟩) (trivial) (⟨cut_ok hX (path := [false, true]) (by kernel_rfl) (by rfl) (okT28uc6 rec hrec N OJ28a6) (hsJ28a6 rec N) hxJ28a6 rfl heJ28a6, trivial⟩)
def rsF28 : List ResultVar := []
def F28 : Nat → TF28
  | 0 => fun _ _ _ => none
  | N + 1 => fun x0 x2 b0 =>
    tst (decide ((0 : Int) ≤ x2) && decide (x2 < ((x0.length : Int)))) <|
    match J28a6 (F28 N) N x2 b0 ((((x0.getD x2.toNat [])).getD 0 .top).toB) ((((x0.getD x2.toNat [])).getD 1 .top).toB) ((((x0.getD x2.toNat [])).getD 2 .top).toB) ((((x0.getD x2.toNat [])).getD 3 .top).toB) ((((x0.getD x2.toNat [])).getD 4 .top).toB) ((((x0.getD x2.toNat [])).getD 5 .top).toI) ((((x0.getD x2.toNat [])).getD 6 .top).toI) ((((x0.getD x2.toNat [])).getD 7 .top).toI) with
    | none => none
    | some (.nx b0v2 b1c0v2 b1c1v2 b1c2v2 b1c3v2 b1c4v2 b1c5v2 b1c6v2 b1c7v2) =>
      tst (decide ((0 : Int) ≤ x2) && decide (x2 < ((b0v2.length : Int)))) <|
      tst (decide (x2.toNat < b0v2.length)) <|
      match L28a62 (F28 N) N N x0 x2 0 (b0v2.set x2.toNat (Eng.setAt ((b0v2.getD x2.toNat [])) 0 [.bool true])) with
      | none => none
      | some (.x0 b0v4) =>
        some (.r b0v4)
    | some (.ret b0v5 b1c0v5 b1c1v5 b1c2v5 b1c3v5 b1c4v5 b1c5v5 b1c6v5 b1c7v5) =>
      some (.r b0v5)
def xRF28 : XSh R28 := ⟨[], ⟨[], [.row 4]⟩, fun st => [0], fun s => .r ((s.mem.getD 0 .dead).rows)⟩
theorem fsF28 : ∀ (N : Nat) (lk : Nat → AV) (M : List Blk), FFF28 (F28 (N + 1)) (canS sgF28 lk M) = evfn CX (T28ur1 (F28 N) N R28) code28 rsF28 (argsE 3 (canS sgF28 lk M).env) (canS sgF28 lk M).mem (goRt CX 1 0 (fun _ => some xRF28)) := by intro N lk M; kernel_rfl
theorem soundF28 : ∀ N, RecOkF28 (F28 N)
  | 0, lk, M, o, h => by cases h
  | N + 1, lk, M, o, h => fn_soundt hX (okT28ur1 (F28 N) (soundF28 N) N R28) Try.func28 hb28 rfl en28 (by kernel_rfl) (ys := fun _ => some xRF28) (fun st y h => by injection h with h; subst h; exact fun lk M => ⟨rfl, rfl⟩) ((fsF28 N lk M).symm.trans h)
end Go.Proofs.Ytfggehkiglenjaa

namespace Go.Proofs.Ytfggehkiglenjaa
open Go Go.Eng
set_option maxRecDepth 100000

/-! ### F12: ceiling/ceilingref33.Abort -/
inductive R12 where
  | r (b0 : List Row)
abbrev TF12 := List Row → List Row → Option R12
def sgF12 : LSh := ⟨[(0, .one (.cell (.slice 30))), (1, .one (.cell (.slice 3)))], []⟩
def FFF12 (Fx : TF12) (s : St) : Option R12 := Fx ((Eng.look s.env 0).rows) ((Eng.look s.env 1).rows)
def valF12 (o : R12) : AV := match o with | .r b0 => .own 0
def memF12 (o : R12) : List Blk := match o with | .r b0 => [.row 3 b0]
def elF12 {R : Type} (o : R12) (k : AV → List Blk → Option R) : Option R := match o with | .r b0 => k (.own 0) [.row 3 b0]
def RecOkF12 (Fx : TF12) : Prop := ∀ lk M o, FFF12 Fx (canS sgF12 lk M) = some o → FCalls CX 12 0 (argsE 2 (canS sgF12 lk M).env) (canS sgF12 lk M).mem (valF12 o) (memF12 o)
noncomputable def csF12 (N : Nat) (R : Type) : List (CE R) := [ce19n0 (F19 N) R (fun _ _ => true), ce27n0 (F27 N) R (fun _ _ => true), ce28n0 (F28 N) R (fun _ _ => true)]
theorem hcsF12 (N : Nat) (R : Type) : AllE (CeOk CX) (csF12 N R) := ⟨okce19n0 (F19 N) (soundF19 N) R (fun _ _ => true), okce27n0 (F27 N) (soundF27 N) R (fun _ _ => true), okce28n0 (F28 N) (soundF28 N) R (fun _ _ => true), trivial⟩
inductive OL12a122 where
  | x0 (b0 : List Row)
def L12a122 (N : Nat) : Nat → List Row → List Row → Int → List Row → Option OL12a122
  | 0 => fun _ _ _ _ => none
  | n + 1 => fun x0 x1 x6 b0 =>
    match decide (x6 < ((x1.length : Int))) with
    | true =>
      tst (decide ((0 : Int) ≤ x6) && decide (x6 < ((x1.length : Int)))) <|
      match F27 N x0 ((((x1.getD x6.toNat [])).getD 0 .top).toI) with
      | none => none
      | some (.r rx0v2) =>
        match rx0v2 with
        | true =>
          tst (decide ((0 : Int) ≤ x6) && decide (x6 < ((x1.length : Int)))) <|
          match F28 N x0 ((((x1.getD x6.toNat [])).getD 0 .top).toI) b0 with
          | none => none
          | some (.r rb0v3) =>
            L12a122 N n x0 x1 (IntKind.wrap .i64 (x6 + (1 : Int))) rb0v3
        | false =>
          L12a122 N n x0 x1 (IntKind.wrap .i64 (x6 + (1 : Int))) b0
    | false =>
      some (.x0 b0)
def LFL12a122 (N : Nat) (n : Nat) (s : St) : Option OL12a122 := L12a122 N n ((Eng.look s.env 0).rows) ((Eng.look s.env 1).rows) ((Eng.look s.env 6).toI) ((s.mem.getD 0 .dead).rows)
def sgL12a122 : LSh := ⟨[(0, .one (.cell (.slice 30))), (1, .one (.cell (.slice 3))), (5, .one (.own 0)), (6, .one (.cell (.int .i64)))], [.row 4]⟩
def ceL12a122 : List Cv := []
def seL12a122 : St → List Nat := fun st => [(Eng.look st.env 5).id]
def xL12a122wx0 : XSh OL12a122 := ⟨[], ⟨[], [.row 4]⟩, fun st => [0], fun s => .x0 ((s.mem.getD 0 .dead).rows)⟩
def xsL12a122 : Ex → St → Option (XSh OL12a122) := fun e st => match e with
  | .exit 0 => some xL12a122wx0
  | _ => none
def exL12a122 (o : OL12a122) : Ex := match o with | .x0 b0 => (.exit 0)
def stL12a122 (o : OL12a122) : St := match o with | .x0 b0 => ⟨[], [.row 4 b0], [], .unk⟩
def elL12a122 {R : Type} (o : OL12a122) (k : Ex → St → Option R) : Option R := match o with | .x0 b0 => k (.exit 0) ⟨[], [.row 4 b0], [], .unk⟩
theorem heL12a122 {R : Type} (o : OL12a122) (k : Ex → St → Option R) : elL12a122 o k = k (exL12a122 o) (stL12a122 o) := by cases o <;> rfl
theorem hxL12a122 : ∀ e st x, xsL12a122 e st = some x → outOk x e exL12a122 stL12a122 := by
  intro e st x h
  unfold xsL12a122 at h
  repeat' split at h
  all_goals first
    | (injection h with h; subst h; exact fun lk M => ⟨rfl, rfl⟩)
    | cases h
noncomputable def T12ul122 (N : Nat) (R : Type) : LTab R := mkTab ⟨49, 17179836480⟩ (csF12 N R) (noY) [] [] []
theorem okT12ul122 (N : Nat) (R : Type) : (T12ul122 N R).Ok CX code12 := mkTab_ok (hcsF12 N R) (noY_ok) (trivial) (trivial) (trivial)
noncomputable def bdL12a122 : Code := match codeAt code12 [false, true, false, true, true, true] with | some (.loop c) => c | _ => .skip
theorem hsL12a122 (N : Nat) : ∀ (n : Nat) (lk : Nat → AV) (M : List Blk), LFL12a122 N (n + 1) (canS sgL12a122 lk M) = evk CX (T12ul122 N OL12a122) bdL12a122 (2 * 122) (canS sgL12a122 lk M) (kont CX 1 [] sgL12a122 (fun st => [0]) xsL12a122 (LFL12a122 N n)) := by intro n lk M; kernel_rfl
inductive OL12a506 where
  | x2 (b0 : List Row) (b1 : List Row)
def L12a506 (N : Nat) : Nat → List Row → Int → List Row → List Row → Option OL12a506
  | 0 => fun _ _ _ _ => none
  | n + 1 => fun x0 x8 b0 b1 =>
    match decide (x8 < ((x0.length : Int))) with
    | true =>
      tst (decide ((0 : Int) ≤ x8) && decide (x8 < ((b0.length : Int)))) <|
      tst (decide (x8.toNat < b0.length)) <|
      match (((b0.getD x8.toNat [])).getD 0 .top).toB with
      | true =>
        tst (decide (((b1.length + 1) * 8) ≤ 140737488355328)) <|
        L12a506 N n x0 (IntKind.wrap .i64 (x8 + (1 : Int))) b0 (b1 ++ (([[.int .i64 x8]] : List Row)))
      | false =>
        L12a506 N n x0 (IntKind.wrap .i64 (x8 + (1 : Int))) b0 b1
    | false =>
      some (.x2 b0 b1)
def LFL12a506 (N : Nat) (n : Nat) (s : St) : Option OL12a506 := L12a506 N n ((Eng.look s.env 0).rows) ((Eng.look s.env 8).toI) ((s.mem.getD 0 .dead).rows) ((s.mem.getD 1 .dead).rows)
def sgL12a506 : LSh := ⟨[(0, .one (.cell (.slice 30))), (5, .one (.own 0)), (7, .one (.own 1)), (8, .one (.cell (.int .i64)))], [.row 4, .row 3]⟩
def ceL12a506 : List Cv := [.mk 7 3]
def seL12a506 : St → List Nat := fun st => [(Eng.look st.env 5).id, (Eng.look st.env 7).id]
def xL12a506wx2 : XSh OL12a506 := ⟨[], ⟨[(7, .one (.own 1))], [.row 4, .row 3]⟩, fun st => [0, (Eng.look st.env 7).id], fun s => .x2 ((s.mem.getD 0 .dead).rows) ((s.mem.getD 1 .dead).rows)⟩
def xsL12a506 : Ex → St → Option (XSh OL12a506) := fun e st => match e with
  | .exit 2 => some xL12a506wx2
  | _ => none
def exL12a506 (o : OL12a506) : Ex := match o with | .x2 b0 b1 => (.exit 2)
def stL12a506 (o : OL12a506) : St := match o with | .x2 b0 b1 => ⟨[(7, .own 1)], [.row 4 b0, .row 3 b1], [], .unk⟩
def elL12a506 {R : Type} (o : OL12a506) (k : Ex → St → Option R) : Option R := match o with | .x2 b0 b1 => k (.exit 2) ⟨[(7, .own 1)], [.row 4 b0, .row 3 b1], [], .unk⟩
theorem heL12a506 {R : Type} (o : OL12a506) (k : Ex → St → Option R) : elL12a506 o k = k (exL12a506 o) (stL12a506 o) := by cases o <;> rfl
theorem hxL12a506 : ∀ e st x, xsL12a506 e st = some x → outOk x e exL12a506 stL12a506 := by
  intro e st x h
  unfold xsL12a506 at h
  repeat' split at h
  all_goals first
    | (injection h with h; subst h; exact fun lk M => ⟨rfl, rfl⟩)
    | cases h
noncomputable def T12ul506 (N : Nat) (R : Type) : LTab R := mkTab ⟨49, 281457796841856⟩ (csF12 N R) (noY) [] [] []
theorem okT12ul506 (N : Nat) (R : Type) : (T12ul506 N R).Ok CX code12 := mkTab_ok (hcsF12 N R) (noY_ok) (trivial) (trivial) (trivial)
noncomputable def bdL12a506 : Code := match codeAt code12 [false, true, false, true, true, true, true, true] with | some (.loop c) => c | _ => .skip
theorem hsL12a506 (N : Nat) : ∀ (n : Nat) (lk : Nat → AV) (M : List Blk), LFL12a506 N (n + 1) (canS sgL12a506 lk M) = evk CX (T12ul506 N OL12a506) bdL12a506 (2 * 506) (canS sgL12a506 lk M) (kont CX 1 [] sgL12a506 (fun st => [0, (Eng.look st.env 7).id]) xsL12a506 (LFL12a506 N n)) := by intro n lk M; kernel_rfl
noncomputable def T12ur1 (N : Nat) (R : Type) : LTab R := mkTab ⟨49, 562949953421311⟩ (csF12 N R) (noY) [(122, fun st k => callLoop CX 1 17179836480 ceL12a122 sgL12a122 seL12a122 ⟨49, 562949953421311⟩ (LFL12a122 N N) elL12a122 st k), (506, fun st k => callLoop CX 1 281457796841856 ceL12a506 sgL12a506 seL12a506 ⟨49, 562949953421311⟩ (LFL12a506 N N) elL12a506 st k)] [] []
theorem okT12ur1 (N : Nat) (R : Type) : (T12ur1 N R).Ok CX code12 := mkTab_ok (hcsF12 N R) (noY_ok) (⟨loop_ok hX (path := [false, true, false, true, true, true]) (by kernel_rfl) (by rfl) (okT12ul122 N OL12a122) (fun _ _ => rfl) (hsL12a122 N) hxL12a122 rfl heL12a122, loop_ok hX (path := [false, true, false, true, true, true, true, true]) (by kernel_rfl) (by rfl) (okT12ul506 N OL12a506) (fun _ _ => rfl) (hsL12a506 N) hxL12a506 rfl heL12a506, trivial⟩) (trivial) (trivial)
def rsF12 : List ResultVar := [.tmp 4]
def F12 : Nat → TF12
  | 0 => fun _ _ => none
  | N + 1 => fun x0 x1 =>
    match F19 N x0 with
    | none => none
    | some (.r rx0v1) =>
      match !rx0v1 with
      | true =>
        some (.r (([] : List Row)))
      | false =>
        tst (decide ((0 : Int) ≤ ((x0.length : Int))) && decide ((x0.length : Int) ≤ ((x0.length : Int))) && decide (((x0.length : Int)) * 1 ≤ (140737488355328 : Int))) <|
        match L12a122 N N x0 x1 0 (List.replicate (((x0.length : Int)).toNat) [.bool false]) with
        | none => none
        | some (.x0 b0v4) =>
          match L12a506 N N x0 0 b0v4 (([] : List Row)) with
          | none => none
          | some (.x2 b0v5 b1v5) =>
            some (.r b1v5)
def xRF12 : XSh R12 := ⟨[.mk 0 3], ⟨[(0, .one (.own 0))], [.row 3]⟩, fun st => [(Eng.look st.env 0).id], fun s => .r ((s.mem.getD 0 .dead).rows)⟩
theorem fsF12 : ∀ (N : Nat) (lk : Nat → AV) (M : List Blk), FFF12 (F12 (N + 1)) (canS sgF12 lk M) = evfn CX (T12ur1 N R12) code12 rsF12 (argsE 2 (canS sgF12 lk M).env) (canS sgF12 lk M).mem (goR CX 0 (fun _ => some xRF12)) := by intro N lk M; kernel_rfl
theorem soundF12 : ∀ N, RecOkF12 (F12 N)
  | 0, lk, M, o, h => by cases h
  | N + 1, lk, M, o, h => fn_sound hX (okT12ur1 N R12) Try.func12 hb12 rfl en12 (by kernel_rfl) (ys := fun _ => some xRF12) (fun st y h => by injection h with h; subst h; exact fun lk M => ⟨rfl, rfl⟩) ((fsF12 N lk M).symm.trans h)
def cvce12n0 : List Cv := []
def selce12n0 : St → List Nat := fun _ => []
noncomputable def ce12n0 (Fx : TF12) (R : Type) (test : List AV → List Blk → Bool) : CE R := ⟨12, test, fun args M => some (selce12n0 ⟨argEnv 0 args, M, [], .unk⟩), fun args M k => tst (Nat.beq args.length 2) (callFn CX 0 cvce12n0 sgF12 selce12n0 (FFF12 Fx) elF12 args M k)⟩
theorem okce12n0 (Fx : TF12) (h : RecOkF12 Fx) (R : Type) (test : List AV → List Blk → Bool) : CeOk CX (ce12n0 Fx R test) := ce_ok hX (fun o k => by cases o; rfl) h en12 (fun args M ids h => by injection h with h; exact ⟨rfl, h.symm⟩)
end Go.Proofs.Ytfggehkiglenjaa

namespace Go.Proofs.Ytfggehkiglenjaa
open Go Go.Eng
set_option maxRecDepth 100000

/-! ### F3: ceiling/ceilinglaw33.MasterAborts -/
inductive R3 where
  | r (x0 : Bool)
abbrev TF3 := List Row → List Row → Option R3
def sgF3 : LSh := ⟨[(0, .one (.cell (.slice 30))), (1, .one (.cell (.slice 3)))], []⟩
def FFF3 (Fx : TF3) (s : St) : Option R3 := Fx ((Eng.look s.env 0).rows) ((Eng.look s.env 1).rows)
def valF3 (o : R3) : AV := match o with | .r x0 => .bool x0
def memF3 (o : R3) : List Blk := match o with | .r x0 => []
def elF3 {R : Type} (o : R3) (k : AV → List Blk → Option R) : Option R := match o with | .r x0 => k (.bool x0) []
def RecOkF3 (Fx : TF3) : Prop := ∀ lk M o, FFF3 Fx (canS sgF3 lk M) = some o → FCalls CX 3 0 (argsE 2 (canS sgF3 lk M).env) (canS sgF3 lk M).mem (valF3 o) (memF3 o)
noncomputable def csF3 (N : Nat) (R : Type) : List (CE R) := [ce8n0 (F8 N) R (fun _ _ => true), ce9n1 (F9 N) R (fun _ _ => true), ce10n0 (F10 N) R (fun _ _ => true), ce11n2 (F11 N) R (fun _ _ => true), ce12n0 (F12 N) R (fun _ _ => true), ce13n0 (F13 N) R (fun _ _ => true)]
theorem hcsF3 (N : Nat) (R : Type) : AllE (CeOk CX) (csF3 N R) := ⟨okce8n0 (F8 N) (soundF8 N) R (fun _ _ => true), okce9n1 (F9 N) (soundF9 N) R (fun _ _ => true), okce10n0 (F10 N) (soundF10 N) R (fun _ _ => true), okce11n2 (F11 N) (soundF11 N) R (fun _ _ => true), okce12n0 (F12 N) (soundF12 N) R (fun _ _ => true), okce13n0 (F13 N) (soundF13 N) R (fun _ _ => true), trivial⟩
noncomputable def T3ur1 (N : Nat) (R : Type) : LTab R := mkTab ⟨32, 4294967295⟩ (csF3 N R) (noY) [] [] []
theorem okT3ur1 (N : Nat) (R : Type) : (T3ur1 N R).Ok CX code3 := mkTab_ok (hcsF3 N R) (noY_ok) (trivial) (trivial) (trivial)
def rsF3 : List ResultVar := [.tmp 4]
def F3 : Nat → TF3
  | 0 => fun _ _ => none
  | N + 1 => fun x0 x1 =>
    tst (decide ((0 : Int) ≤ (Eng.imin ((x0.length : Int)) 40)) && decide ((Eng.imin ((x0.length : Int)) 40) ≤ ((x0.length : Int))) && decide ((x0.length : Int) ≤ ((x0.length : Int)))) <|
    tst (decide ((0 : Int) ≤ (Eng.imin ((x1.length : Int)) 40)) && decide ((Eng.imin ((x1.length : Int)) 40) ≤ ((x1.length : Int))) && decide ((x1.length : Int) ≤ ((x1.length : Int)))) <|
    match F9 N (x0.take ((Eng.imin ((x0.length : Int)) 40).toNat)) with
    | none => none
    | some (.r rb0v1) =>
      match F10 N (x0.take ((Eng.imin ((x0.length : Int)) 40).toNat)) with
      | none => none
      | some (.r rb0v2) =>
        match F8 N rb0v1 rb0v2 with
        | none => none
        | some (.r rx0v3) =>
          match rx0v3 with
          | true =>
            match F11 N (x0.take ((Eng.imin ((x0.length : Int)) 40).toNat)) (x1.take ((Eng.imin ((x1.length : Int)) 40).toNat)) with
            | none => none
            | some (.r rb0v4) =>
              match F12 N (x0.take ((Eng.imin ((x0.length : Int)) 40).toNat)) (x1.take ((Eng.imin ((x1.length : Int)) 40).toNat)) with
              | none => none
              | some (.r rb0v5) =>
                match F8 N rb0v4 rb0v5 with
                | none => none
                | some (.r rx0v6) =>
                  match rx0v6 with
                  | true =>
                    match F13 N  with
                    | none => none
                    | some (.r rx0v7) =>
                      some (.r rx0v7)
                  | false =>
                    some (.r false)
          | false =>
            some (.r false)
def xRF3 : XSh R3 := ⟨[], ⟨[(0, .one (.cell (.bool)))], []⟩, fun _ => [], fun s => .r ((Eng.look s.env 0).toB)⟩
theorem fsF3 : ∀ (N : Nat) (lk : Nat → AV) (M : List Blk), FFF3 (F3 (N + 1)) (canS sgF3 lk M) = evfn CX (T3ur1 N R3) code3 rsF3 (argsE 2 (canS sgF3 lk M).env) (canS sgF3 lk M).mem (goR CX 0 (fun _ => some xRF3)) := by intro N lk M; kernel_rfl
theorem soundF3 : ∀ N, RecOkF3 (F3 N)
  | 0, lk, M, o, h => by cases h
  | N + 1, lk, M, o, h => fn_sound hX (okT3ur1 N R3) Try.func3 hb3 rfl en3 (by kernel_rfl) (ys := fun _ => some xRF3) (fun st y h => by injection h with h; subst h; exact fun lk M => ⟨rfl, rfl⟩) ((fsF3 N lk M).symm.trans h)
end Go.Proofs.Ytfggehkiglenjaa

namespace Go.Proofs.Ytfggehkiglenjaa
open Go Go.Eng
set_option maxRecDepth 100000

/-! ### F18: ceiling/ceilingref33.In -/
inductive R18 where
  | r (x0 : Bool)
abbrev TF18 := List Row → Int → Option R18
def sgF18 : LSh := ⟨[(0, .one (.cell (.slice 3))), (1, .one (.cell (.int .i64)))], []⟩
def FFF18 (Fx : TF18) (s : St) : Option R18 := Fx ((Eng.look s.env 0).rows) ((Eng.look s.env 1).toI)
def valF18 (o : R18) : AV := match o with | .r x0 => .bool x0
def memF18 (o : R18) : List Blk := match o with | .r x0 => []
def elF18 {R : Type} (o : R18) (k : AV → List Blk → Option R) : Option R := match o with | .r x0 => k (.bool x0) []
def RecOkF18 (Fx : TF18) : Prop := ∀ lk M o, FFF18 Fx (canS sgF18 lk M) = some o → FCalls CX 18 0 (argsE 2 (canS sgF18 lk M).env) (canS sgF18 lk M).mem (valF18 o) (memF18 o)
noncomputable def csF18 (N : Nat) (R : Type) : List (CE R) := []
theorem hcsF18 (N : Nat) (R : Type) : AllE (CeOk CX) (csF18 N R) := trivial
inductive OL18a26 where
  | ret (x4 : Bool)
  | x0
def L18a26 (N : Nat) : Nat → List Row → Int → Int → Option OL18a26
  | 0 => fun _ _ _ => none
  | n + 1 => fun x0 x1 x5 =>
    match decide (x5 < ((x0.length : Int))) with
    | true =>
      tst (decide ((0 : Int) ≤ x5) && decide (x5 < ((x0.length : Int)))) <|
      match ((((x0.getD x5.toNat [])).getD 0 .top).toI) == x1 with
      | true =>
        some (.ret true)
      | false =>
        L18a26 N n x0 x1 (IntKind.wrap .i64 (x5 + (1 : Int)))
    | false =>
      some .x0
def LFL18a26 (N : Nat) (n : Nat) (s : St) : Option OL18a26 := L18a26 N n ((Eng.look s.env 0).rows) ((Eng.look s.env 1).toI) ((Eng.look s.env 5).toI)
def sgL18a26 : LSh := ⟨[(0, .one (.cell (.slice 3))), (1, .one (.cell (.int .i64))), (5, .one (.cell (.int .i64)))], []⟩
def ceL18a26 : List Cv := []
def seL18a26 : St → List Nat := fun _ => []
def xL18a26wret : XSh OL18a26 := ⟨[], ⟨[(4, .one (.cell (.bool)))], []⟩, fun _ => [], fun s => .ret ((Eng.look s.env 4).toB)⟩
def xL18a26wx0 : XSh OL18a26 := ⟨[], ⟨[], []⟩, fun _ => [], fun s => .x0 ⟩
def xsL18a26 : Ex → St → Option (XSh OL18a26) := fun e st => match e with
  | .ret => some xL18a26wret
  | .exit 0 => some xL18a26wx0
  | _ => none
def exL18a26 (o : OL18a26) : Ex := match o with | .ret x4 => .ret | .x0 => (.exit 0)
def stL18a26 (o : OL18a26) : St := match o with | .ret x4 => ⟨[(4, .bool x4)], [], [], .unk⟩ | .x0 => ⟨[], [], [], .unk⟩
def elL18a26 {R : Type} (o : OL18a26) (k : Ex → St → Option R) : Option R := match o with | .ret x4 => k .ret ⟨[(4, .bool x4)], [], [], .unk⟩ | .x0 => k (.exit 0) ⟨[], [], [], .unk⟩
theorem heL18a26 {R : Type} (o : OL18a26) (k : Ex → St → Option R) : elL18a26 o k = k (exL18a26 o) (stL18a26 o) := by cases o <;> rfl
theorem hxL18a26 : ∀ e st x, xsL18a26 e st = some x → outOk x e exL18a26 stL18a26 := by
  intro e st x h
  unfold xsL18a26 at h
  repeat' split at h
  all_goals first
    | (injection h with h; subst h; exact fun lk M => ⟨rfl, rfl⟩)
    | cases h
noncomputable def T18ul26 (N : Nat) (R : Type) : LTab R := mkTab ⟨18, 262128⟩ (csF18 N R) (noY) [] [] []
theorem okT18ul26 (N : Nat) (R : Type) : (T18ul26 N R).Ok CX code18 := mkTab_ok (hcsF18 N R) (noY_ok) (trivial) (trivial) (trivial)
noncomputable def bdL18a26 : Code := match codeAt code18 [false, true, false, true] with | some (.loop c) => c | _ => .skip
theorem hsL18a26 (N : Nat) : ∀ (n : Nat) (lk : Nat → AV) (M : List Blk), LFL18a26 N (n + 1) (canS sgL18a26 lk M) = evk CX (T18ul26 N OL18a26) bdL18a26 (2 * 26) (canS sgL18a26 lk M) (kont CX 0 [] sgL18a26 (fun _ => []) xsL18a26 (LFL18a26 N n)) := by intro n lk M; kernel_rfl
noncomputable def T18ur1 (N : Nat) (R : Type) : LTab R := mkTab ⟨18, 262143⟩ (csF18 N R) (noY) [(26, fun st k => callLoop CX 0 262128 ceL18a26 sgL18a26 seL18a26 ⟨18, 262143⟩ (LFL18a26 N N) elL18a26 st k)] [] []
theorem okT18ur1 (N : Nat) (R : Type) : (T18ur1 N R).Ok CX code18 := mkTab_ok (hcsF18 N R) (noY_ok) (⟨loop_ok hX (path := [false, true, false, true]) (by kernel_rfl) (by rfl) (okT18ul26 N OL18a26) (fun _ _ => rfl) (hsL18a26 N) hxL18a26 rfl heL18a26, trivial⟩) (trivial) (trivial)
def rsF18 : List ResultVar := [.tmp 4]
def F18 : Nat → TF18
  | 0 => fun _ _ => none
  | N + 1 => fun x0 x1 =>
    match L18a26 N N x0 x1 0 with
    | none => none
    | some (.ret x4v1) =>
      some (.r x4v1)
    | some (.x0) =>
      some (.r false)
def xRF18 : XSh R18 := ⟨[], ⟨[(0, .one (.cell (.bool)))], []⟩, fun _ => [], fun s => .r ((Eng.look s.env 0).toB)⟩
theorem fsF18 : ∀ (N : Nat) (lk : Nat → AV) (M : List Blk), FFF18 (F18 (N + 1)) (canS sgF18 lk M) = evfn CX (T18ur1 N R18) code18 rsF18 (argsE 2 (canS sgF18 lk M).env) (canS sgF18 lk M).mem (goR CX 0 (fun _ => some xRF18)) := by intro N lk M; kernel_rfl
theorem soundF18 : ∀ N, RecOkF18 (F18 N)
  | 0, lk, M, o, h => by cases h
  | N + 1, lk, M, o, h => fn_sound hX (okT18ur1 N R18) Try.func18 hb18 rfl en18 (by kernel_rfl) (ys := fun _ => some xRF18) (fun st y h => by injection h with h; subst h; exact fun lk M => ⟨rfl, rfl⟩) ((fsF18 N lk M).symm.trans h)
def cvce18n0 : List Cv := []
def selce18n0 : St → List Nat := fun _ => []
noncomputable def ce18n0 (Fx : TF18) (R : Type) (test : List AV → List Blk → Bool) : CE R := ⟨18, test, fun args M => some (selce18n0 ⟨argEnv 0 args, M, [], .unk⟩), fun args M k => tst (Nat.beq args.length 2) (callFn CX 0 cvce18n0 sgF18 selce18n0 (FFF18 Fx) elF18 args M k)⟩
theorem okce18n0 (Fx : TF18) (h : RecOkF18 Fx) (R : Type) (test : List AV → List Blk → Bool) : CeOk CX (ce18n0 Fx R test) := ce_ok hX (fun o k => by cases o; rfl) h en18 (fun args M ids h => by injection h with h; exact ⟨rfl, h.symm⟩)
def cvce18n1 : List Cv := [.frz 0 (.slice 3)]
def selce18n1 : St → List Nat := fun _ => []
noncomputable def ce18n1 (Fx : TF18) (R : Type) (test : List AV → List Blk → Bool) : CE R := ⟨18, test, fun _ _ => none, fun args M k => tst (Nat.beq args.length 2) (callFn CX 0 cvce18n1 sgF18 selce18n1 (FFF18 Fx) elF18 args M k)⟩
theorem okce18n1 (Fx : TF18) (h : RecOkF18 Fx) (R : Type) (test : List AV → List Blk → Bool) : CeOk CX (ce18n1 Fx R test) := ce_ok hX (fun o k => by cases o; rfl) h en18 (fun args M ids h => by cases h)
end Go.Proofs.Ytfggehkiglenjaa

namespace Go.Proofs.Ytfggehkiglenjaa
open Go Go.Eng
set_option maxRecDepth 100000

/-! ### F4: ceiling/ceilinglaw33.MasterTerminates -/
inductive R4 where
  | r (x0 : Bool)
abbrev TF4 := List Row → Option R4
def sgF4 : LSh := ⟨[(0, .one (.cell (.slice 30)))], []⟩
def FFF4 (Fx : TF4) (s : St) : Option R4 := Fx ((Eng.look s.env 0).rows)
def valF4 (o : R4) : AV := match o with | .r x0 => .bool x0
def memF4 (o : R4) : List Blk := match o with | .r x0 => []
def elF4 {R : Type} (o : R4) (k : AV → List Blk → Option R) : Option R := match o with | .r x0 => k (.bool x0) []
def RecOkF4 (Fx : TF4) : Prop := ∀ lk M o, FFF4 Fx (canS sgF4 lk M) = some o → FCalls CX 4 0 (argsE 1 (canS sgF4 lk M).env) (canS sgF4 lk M).mem (valF4 o) (memF4 o)
noncomputable def csF4 (N : Nat) (R : Type) : List (CE R) := [ce9n1 (F9 N) R (testV CX cvce9n1 sgF9 selce9n1), ce9n0 (F9 N) R (testV CX cvce9n0 sgF9 selce9n0), ce13n0 (F13 N) R (fun _ _ => true), ce14n0 (F14 N) R (fun _ _ => true), ce15n0 (F15 N) R (fun _ _ => true), ce16n1 (F16 N) R (fun _ _ => true), ce17n1 (F17 N) R (fun _ _ => true), ce18n0 (F18 N) R (fun _ _ => true)]
theorem hcsF4 (N : Nat) (R : Type) : AllE (CeOk CX) (csF4 N R) := ⟨okce9n1 (F9 N) (soundF9 N) R (testV CX cvce9n1 sgF9 selce9n1), okce9n0 (F9 N) (soundF9 N) R (testV CX cvce9n0 sgF9 selce9n0), okce13n0 (F13 N) (soundF13 N) R (fun _ _ => true), okce14n0 (F14 N) (soundF14 N) R (fun _ _ => true), okce15n0 (F15 N) (soundF15 N) R (fun _ _ => true), okce16n1 (F16 N) (soundF16 N) R (fun _ _ => true), okce17n1 (F17 N) (soundF17 N) R (fun _ _ => true), okce18n0 (F18 N) (soundF18 N) R (fun _ _ => true), trivial⟩
inductive OJ4a7474 where
  | nx
  | ret (x2 : Bool)
def J4a7474 (N : Nat) : List Row → Int → Option OJ4a7474 := fun x0 x4 =>
    match decide (x4 < (0 : Int)) with
    | true =>
      some (.ret false)
    | false =>
      match decide (((x0.length : Int)) ≤ x4) with
      | true =>
        some (.ret false)
      | false =>
        tst (decide ((0 : Int) ≤ x4) && decide (x4 < ((x0.length : Int)))) <|
        match decide (((((x0.getD x4.toNat [])).getD 5 .top).toI) < (0 : Int)) with
        | true =>
          some (.ret false)
        | false =>
          some .nx
def LFJ4a7474 (N : Nat) (s : St) : Option OJ4a7474 := J4a7474 N ((Eng.look s.env 0).rows) ((Eng.look s.env 4).toI)
def sgJ4a7474 : LSh := ⟨[(0, .one (.cell (.slice 30))), (4, .one (.cell (.int .i64)))], []⟩
def ceJ4a7474 : List Cv := []
def seJ4a7474 : St → List Nat := fun _ => []
def xJ4a7474wnx : XSh OJ4a7474 := ⟨[], ⟨[], []⟩, fun _ => [], fun s => .nx ⟩
def xJ4a7474wret : XSh OJ4a7474 := ⟨[], ⟨[(2, .one (.cell (.bool)))], []⟩, fun _ => [], fun s => .ret ((Eng.look s.env 2).toB)⟩
def xsJ4a7474 : Ex → St → Option (XSh OJ4a7474) := fun e st => match e with
  | .normal => some xJ4a7474wnx
  | .ret => some xJ4a7474wret
  | _ => none
def exJ4a7474 (o : OJ4a7474) : Ex := match o with | .nx => .normal | .ret x2 => .ret
def stJ4a7474 (o : OJ4a7474) : St := match o with | .nx => ⟨[], [], [], .unk⟩ | .ret x2 => ⟨[(2, .bool x2)], [], [], .unk⟩
def elJ4a7474 {R : Type} (o : OJ4a7474) (k : Ex → St → Option R) : Option R := match o with | .nx => k .normal ⟨[], [], [], .unk⟩ | .ret x2 => k .ret ⟨[(2, .bool x2)], [], [], .unk⟩
theorem heJ4a7474 {R : Type} (o : OJ4a7474) (k : Ex → St → Option R) : elJ4a7474 o k = k (exJ4a7474 o) (stJ4a7474 o) := by cases o <;> rfl
theorem hxJ4a7474 : ∀ e st x, xsJ4a7474 e st = some x → outOk x e exJ4a7474 stJ4a7474 := by
  intro e st x h
  unfold xsJ4a7474 at h
  repeat' split at h
  all_goals first
    | (injection h with h; subst h; exact fun lk M => ⟨rfl, rfl⟩)
    | cases h
noncomputable def T4uc7474 (N : Nat) (R : Type) : LTab R := mkTab ⟨179, 281470681743364⟩ (csF4 N R) (noY) [] [] []
theorem okT4uc7474 (N : Nat) (R : Type) : (T4uc7474 N R).Ok CX code4 := mkTab_ok (hcsF4 N R) (noY_ok) (trivial) (trivial) (trivial)
noncomputable def bdJ4a7474 : Code := (codeAt code4 [false, true, false, false, true, true, false, false, true, false, true, true]).getD .skip
theorem hsJ4a7474 (N : Nat) : ∀ (lk : Nat → AV) (M : List Blk), LFJ4a7474 N (canS sgJ4a7474 lk M) = evk CX (T4uc7474 N OJ4a7474) bdJ4a7474 7474 (canS sgJ4a7474 lk M) (kontX CX 0 xsJ4a7474) := by intro lk M; kernel_rfl
inductive OL4a15309414 where
  | ret (x2 : Bool) (b0 : List Row)
  | x4 (b0 : List Row)
def L4a15309414 (N : Nat) : Nat → List Row → Int → Int → List Row → Option OL4a15309414
  | 0 => fun _ _ _ _ => none
  | n + 1 => fun x0 x71 x72 b0 =>
    match decide (x72 < x71) with
    | true =>
      tst (decide ((0 : Int) ≤ x72) && decide (x72 < ((b0.length : Int)))) <|
      tst (decide (x72.toNat < b0.length)) <|
      tst (decide ((0 : Int) ≤ ((((b0.getD x72.toNat [])).getD 0 .top).toI)) && decide ((((b0.getD x72.toNat [])).getD 0 .top).toI < ((x0.length : Int)))) <|
      match (((x0.getD (((((b0.getD x72.toNat [])).getD 0 .top).toI).toNat) [])).getD 0 .top).toB with
      | true =>
        match !((((x0.getD (((((b0.getD x72.toNat [])).getD 0 .top).toI).toNat) [])).getD 1 .top).toB) with
        | true =>
          match !((((x0.getD (((((b0.getD x72.toNat [])).getD 0 .top).toI).toNat) [])).getD 3 .top).toB) with
          | true =>
            some (.ret false b0)
          | false =>
            match (((x0.getD (((((b0.getD x72.toNat [])).getD 0 .top).toI).toNat) [])).getD 2 .top).toB with
            | true =>
              some (.ret false b0)
            | false =>
              L4a15309414 N n x0 x71 (IntKind.wrap .i64 (x72 + (1 : Int))) b0
        | false =>
          L4a15309414 N n x0 x71 (IntKind.wrap .i64 (x72 + (1 : Int))) b0
      | false =>
        L4a15309414 N n x0 x71 (IntKind.wrap .i64 (x72 + (1 : Int))) b0
    | false =>
      some (.x4 b0)
def LFL4a15309414 (N : Nat) (n : Nat) (s : St) : Option OL4a15309414 := L4a15309414 N n ((Eng.look s.env 0).rows) ((Eng.look s.env 71).toI) ((Eng.look s.env 72).toI) ((s.mem.getD 0 .dead).rows)
def sgL4a15309414 : LSh := ⟨[(0, .one (.cell (.slice 30))), (70, .one (.own 0)), (71, .one (.cell (.int .i64))), (72, .one (.cell (.int .i64)))], [.row 3]⟩
def ceL4a15309414 : List Cv := []
def seL4a15309414 : St → List Nat := fun st => [(Eng.look st.env 70).id]
def xL4a15309414wret : XSh OL4a15309414 := ⟨[], ⟨[(2, .one (.cell (.bool)))], [.row 3]⟩, fun st => [0], fun s => .ret ((Eng.look s.env 2).toB) ((s.mem.getD 0 .dead).rows)⟩
def xL4a15309414wx4 : XSh OL4a15309414 := ⟨[], ⟨[], [.row 3]⟩, fun st => [0], fun s => .x4 ((s.mem.getD 0 .dead).rows)⟩
def xsL4a15309414 : Ex → St → Option (XSh OL4a15309414) := fun e st => match e with
  | .ret => some xL4a15309414wret
  | .exit 4 => some xL4a15309414wx4
  | _ => none
def exL4a15309414 (o : OL4a15309414) : Ex := match o with | .ret x2 b0 => .ret | .x4 b0 => (.exit 4)
def stL4a15309414 (o : OL4a15309414) : St := match o with | .ret x2 b0 => ⟨[(2, .bool x2)], [.row 3 b0], [], .unk⟩ | .x4 b0 => ⟨[], [.row 3 b0], [], .unk⟩
def elL4a15309414 {R : Type} (o : OL4a15309414) (k : Ex → St → Option R) : Option R := match o with | .ret x2 b0 => k .ret ⟨[(2, .bool x2)], [.row 3 b0], [], .unk⟩ | .x4 b0 => k (.exit 4) ⟨[], [.row 3 b0], [], .unk⟩
theorem heL4a15309414 {R : Type} (o : OL4a15309414) (k : Ex → St → Option R) : elL4a15309414 o k = k (exL4a15309414 o) (stL4a15309414 o) := by cases o <;> rfl
theorem hxL4a15309414 : ∀ e st x, xsL4a15309414 e st = some x → outOk x e exL4a15309414 stL4a15309414 := by
  intro e st x h
  unfold xsL4a15309414 at h
  repeat' split at h
  all_goals first
    | (injection h with h; subst h; exact fun lk M => ⟨rfl, rfl⟩)
    | cases h
noncomputable def T4ul15309414 (N : Nat) (R : Type) : LTab R := mkTab ⟨179, 158456320306162192317442687748⟩ (csF4 N R) (noY) [] [] []
theorem okT4ul15309414 (N : Nat) (R : Type) : (T4ul15309414 N R).Ok CX code4 := mkTab_ok (hcsF4 N R) (noY_ok) (trivial) (trivial) (trivial)
noncomputable def bdL4a15309414 : Code := match codeAt code4 [false, true, true, false, false, true, true, false, false, true, false, true, true, false, false, true, true, false, false, true, false, true, true] with | some (.loop c) => c | _ => .skip
theorem hsL4a15309414 (N : Nat) : ∀ (n : Nat) (lk : Nat → AV) (M : List Blk), LFL4a15309414 N (n + 1) (canS sgL4a15309414 lk M) = evk CX (T4ul15309414 N OL4a15309414) bdL4a15309414 (2 * 15309414) (canS sgL4a15309414 lk M) (kont CX 1 [] sgL4a15309414 (fun st => [0]) xsL4a15309414 (LFL4a15309414 N n)) := by intro n lk M; kernel_rfl
inductive OL4a59802 where
  | ret (x2 : Bool) (b0 : List Row)
  | x2 (b0 : List Row)
def L4a59802 (N : Nat) : Nat → List Row → Int → Int → List Row → Option OL4a59802
  | 0 => fun _ _ _ _ => none
  | n + 1 => fun x0 x60 x61 b0 =>
    match decide (x61 < x60) with
    | true =>
      tst (decide ((0 : Int) ≤ x61) && decide (x61 < ((b0.length : Int)))) <|
      tst (decide (x61.toNat < b0.length)) <|
      match F15 N x0 ((((b0.getD x61.toNat [])).getD 0 .top).toI) with
      | none => none
      | some (.r rb0v4) =>
        tst (decide (((rb0v4.length + 1) * 8) ≤ 140737488355328)) <|
        match L4a15309414 N N x0 (((rb0v4 ++ (([[.int .i64 ((((b0.getD x61.toNat [])).getD 0 .top).toI)]] : List Row))).length : Int)) 0 (rb0v4 ++ (([[.int .i64 ((((b0.getD x61.toNat [])).getD 0 .top).toI)]] : List Row))) with
        | none => none
        | some (.ret x2v5 b0v5) =>
          some (.ret x2v5 b0)
        | some (.x4 b0v6) =>
          L4a59802 N n x0 x60 (IntKind.wrap .i64 (x61 + (1 : Int))) b0
    | false =>
      some (.x2 b0)
def LFL4a59802 (N : Nat) (n : Nat) (s : St) : Option OL4a59802 := L4a59802 N n ((Eng.look s.env 0).rows) ((Eng.look s.env 60).toI) ((Eng.look s.env 61).toI) ((s.mem.getD 0 .dead).rows)
def sgL4a59802 : LSh := ⟨[(0, .one (.cell (.slice 30))), (59, .one (.own 0)), (60, .one (.cell (.int .i64))), (61, .one (.cell (.int .i64)))], [.row 3]⟩
def ceL4a59802 : List Cv := []
def seL4a59802 : St → List Nat := fun st => [(Eng.look st.env 59).id]
def xL4a59802wret : XSh OL4a59802 := ⟨[], ⟨[(2, .one (.cell (.bool)))], [.row 3]⟩, fun st => [0], fun s => .ret ((Eng.look s.env 2).toB) ((s.mem.getD 0 .dead).rows)⟩
def xL4a59802wx2 : XSh OL4a59802 := ⟨[], ⟨[], [.row 3]⟩, fun st => [0], fun s => .x2 ((s.mem.getD 0 .dead).rows)⟩
def xsL4a59802 : Ex → St → Option (XSh OL4a59802) := fun e st => match e with
  | .ret => some xL4a59802wret
  | .exit 2 => some xL4a59802wx2
  | _ => none
def exL4a59802 (o : OL4a59802) : Ex := match o with | .ret x2 b0 => .ret | .x2 b0 => (.exit 2)
def stL4a59802 (o : OL4a59802) : St := match o with | .ret x2 b0 => ⟨[(2, .bool x2)], [.row 3 b0], [], .unk⟩ | .x2 b0 => ⟨[], [.row 3 b0], [], .unk⟩
def elL4a59802 {R : Type} (o : OL4a59802) (k : Ex → St → Option R) : Option R := match o with | .ret x2 b0 => k .ret ⟨[(2, .bool x2)], [.row 3 b0], [], .unk⟩ | .x2 b0 => k (.exit 2) ⟨[], [.row 3 b0], [], .unk⟩
theorem heL4a59802 {R : Type} (o : OL4a59802) (k : Ex → St → Option R) : elL4a59802 o k = k (exL4a59802 o) (stL4a59802 o) := by cases o <;> rfl
theorem hxL4a59802 : ∀ e st x, xsL4a59802 e st = some x → outOk x e exL4a59802 stL4a59802 := by
  intro e st x h
  unfold xsL4a59802 at h
  repeat' split at h
  all_goals first
    | (injection h with h; subst h; exact fun lk M => ⟨rfl, rfl⟩)
    | cases h
noncomputable def T4ul59802 (N : Nat) (R : Type) : LTab R := mkTab ⟨179, 316912650054751507364962108228⟩ (csF4 N R) (noY) [(15309414, fun st k => callLoop CX 1 158456320306162192317442687748 ceL4a15309414 sgL4a15309414 seL4a15309414 ⟨179, 316912650054751507364962108228⟩ (LFL4a15309414 N N) elL4a15309414 st k)] [] []
theorem okT4ul59802 (N : Nat) (R : Type) : (T4ul59802 N R).Ok CX code4 := mkTab_ok (hcsF4 N R) (noY_ok) (⟨loop_ok hX (path := [false, true, true, false, false, true, true, false, false, true, false, true, true, false, false, true, true, false, false, true, false, true, true]) (by kernel_rfl) (by rfl) (okT4ul15309414 N OL4a15309414) (fun _ _ => rfl) (hsL4a15309414 N) hxL4a15309414 rfl heL4a15309414, trivial⟩) (trivial) (trivial)
noncomputable def bdL4a59802 : Code := match codeAt code4 [false, true, false, true, true, false, false, true, true, false, false, true, false, true, true] with | some (.loop c) => c | _ => .skip
theorem hsL4a59802 (N : Nat) : ∀ (n : Nat) (lk : Nat → AV) (M : List Blk), LFL4a59802 N (n + 1) (canS sgL4a59802 lk M) = evk CX (T4ul59802 N OL4a59802) bdL4a59802 (2 * 59802) (canS sgL4a59802 lk M) (kont CX 1 [] sgL4a59802 (fun st => [0]) xsL4a59802 (LFL4a59802 N n)) := by intro n lk M; kernel_rfl
inductive OJ4a14950 where
  | nx
  | ret (x2 : Bool)
def J4a14950 (N : Nat) : List Row → Int → Option OJ4a14950 := fun x0 x4 =>
    tst (decide ((0 : Int) ≤ x4) && decide (x4 < ((x0.length : Int)))) <|
    tst (decide ((0 : Int) ≤ x4) && decide (x4 < ((x0.length : Int)))) <|
    match F14 N x0 ((((x0.getD x4.toNat [])).getD 5 .top).toI) ((((x0.getD x4.toNat [])).getD 6 .top).toI) with
    | none => none
    | some (.r rb0v3) =>
      match L4a59802 N N x0 ((rb0v3.length : Int)) 0 rb0v3 with
      | none => none
      | some (.ret x2v7 b0v7) =>
        some (.ret x2v7)
      | some (.x2 b0v8) =>
        some .nx
def LFJ4a14950 (N : Nat) (s : St) : Option OJ4a14950 := J4a14950 N ((Eng.look s.env 0).rows) ((Eng.look s.env 4).toI)
def sgJ4a14950 : LSh := ⟨[(0, .one (.cell (.slice 30))), (4, .one (.cell (.int .i64)))], []⟩
def ceJ4a14950 : List Cv := []
def seJ4a14950 : St → List Nat := fun _ => []
def xJ4a14950wnx : XSh OJ4a14950 := ⟨[], ⟨[], []⟩, fun _ => [], fun s => .nx ⟩
def xJ4a14950wret : XSh OJ4a14950 := ⟨[], ⟨[(2, .one (.cell (.bool)))], []⟩, fun _ => [], fun s => .ret ((Eng.look s.env 2).toB)⟩
def xsJ4a14950 : Ex → St → Option (XSh OJ4a14950) := fun e st => match e with
  | .normal => some xJ4a14950wnx
  | .ret => some xJ4a14950wret
  | _ => none
def exJ4a14950 (o : OJ4a14950) : Ex := match o with | .nx => .normal | .ret x2 => .ret
def stJ4a14950 (o : OJ4a14950) : St := match o with | .nx => ⟨[], [], [], .unk⟩ | .ret x2 => ⟨[(2, .bool x2)], [], [], .unk⟩
def elJ4a14950 {R : Type} (o : OJ4a14950) (k : Ex → St → Option R) : Option R := match o with | .nx => k .normal ⟨[], [], [], .unk⟩ | .ret x2 => k .ret ⟨[(2, .bool x2)], [], [], .unk⟩
theorem heJ4a14950 {R : Type} (o : OJ4a14950) (k : Ex → St → Option R) : elJ4a14950 o k = k (exJ4a14950 o) (stJ4a14950 o) := by cases o <;> rfl
theorem hxJ4a14950 : ∀ e st x, xsJ4a14950 e st = some x → outOk x e exJ4a14950 stJ4a14950 := by
  intro e st x h
  unfold xsJ4a14950 at h
  repeat' split at h
  all_goals first
    | (injection h with h; subst h; exact fun lk M => ⟨rfl, rfl⟩)
    | cases h
noncomputable def T4uc14950 (N : Nat) (R : Type) : LTab R := mkTab ⟨179, 316912650057057068899199091524⟩ (csF4 N R) (noY) [(59802, fun st k => callLoop CX 1 316912650054751507364962108228 ceL4a59802 sgL4a59802 seL4a59802 ⟨179, 316912650057057068899199091524⟩ (LFL4a59802 N N) elL4a59802 st k)] [] []
theorem okT4uc14950 (N : Nat) (R : Type) : (T4uc14950 N R).Ok CX code4 := mkTab_ok (hcsF4 N R) (noY_ok) (⟨loop_ok hX (path := [false, true, false, true, true, false, false, true, true, false, false, true, false, true, true]) (by kernel_rfl) (by rfl) (okT4ul59802 N OL4a59802) (fun _ _ => rfl) (hsL4a59802 N) hxL4a59802 rfl heL4a59802, trivial⟩) (trivial) (trivial)
noncomputable def bdJ4a14950 : Code := (codeAt code4 [false, true, true, false, false, true, true, false, false, true, false, true, true]).getD .skip
theorem hsJ4a14950 (N : Nat) : ∀ (lk : Nat → AV) (M : List Blk), LFJ4a14950 N (canS sgJ4a14950 lk M) = evk CX (T4uc14950 N OJ4a14950) bdJ4a14950 14950 (canS sgJ4a14950 lk M) (kontX CX 0 xsJ4a14950) := by intro lk M; kernel_rfl
inductive OL4a239226 where
  | x6 (x10 : Bool) (b0 : List Row)
def L4a239226 (N : Nat) : Nat → List Row → Bool → Int → Int → List Row → Option OL4a239226
  | 0 => fun _ _ _ _ _ => none
  | n + 1 => fun x0 x10 x101 x102 b0 =>
    match decide (x102 < x101) with
    | true =>
      tst (decide ((0 : Int) ≤ x102) && decide (x102 < ((b0.length : Int)))) <|
      tst (decide (x102.toNat < b0.length)) <|
      match x10 with
      | true =>
        tst (decide ((0 : Int) ≤ ((((b0.getD x102.toNat [])).getD 0 .top).toI)) && decide ((((b0.getD x102.toNat [])).getD 0 .top).toI < ((x0.length : Int)))) <|
        match !((((x0.getD (((((b0.getD x102.toNat [])).getD 0 .top).toI).toNat) [])).getD 0 .top).toB) with
        | true =>
          L4a239226 N n x0 true x101 (IntKind.wrap .i64 (x102 + (1 : Int))) b0
        | false =>
          tst (decide ((0 : Int) ≤ ((((b0.getD x102.toNat [])).getD 0 .top).toI)) && decide ((((b0.getD x102.toNat [])).getD 0 .top).toI < ((x0.length : Int)))) <|
          L4a239226 N n x0 ((((x0.getD (((((b0.getD x102.toNat [])).getD 0 .top).toI).toNat) [])).getD 1 .top).toB) x101 (IntKind.wrap .i64 (x102 + (1 : Int))) b0
      | false =>
        L4a239226 N n x0 false x101 (IntKind.wrap .i64 (x102 + (1 : Int))) b0
    | false =>
      some (.x6 x10 b0)
def LFL4a239226 (N : Nat) (n : Nat) (s : St) : Option OL4a239226 := L4a239226 N n ((Eng.look s.env 0).rows) ((Eng.look s.env 10).toB) ((Eng.look s.env 101).toI) ((Eng.look s.env 102).toI) ((s.mem.getD 0 .dead).rows)
def sgL4a239226 : LSh := ⟨[(0, .one (.cell (.slice 30))), (10, .one (.cell (.bool))), (100, .one (.own 0)), (101, .one (.cell (.int .i64))), (102, .one (.cell (.int .i64)))], [.row 3]⟩
def ceL4a239226 : List Cv := []
def seL4a239226 : St → List Nat := fun st => [(Eng.look st.env 100).id]
def xL4a239226wx6 : XSh OL4a239226 := ⟨[], ⟨[(10, .one (.cell (.bool)))], [.row 3]⟩, fun st => [0], fun s => .x6 ((Eng.look s.env 10).toB) ((s.mem.getD 0 .dead).rows)⟩
def xsL4a239226 : Ex → St → Option (XSh OL4a239226) := fun e st => match e with
  | .exit 6 => some xL4a239226wx6
  | _ => none
def exL4a239226 (o : OL4a239226) : Ex := match o with | .x6 x10 b0 => (.exit 6)
def stL4a239226 (o : OL4a239226) : St := match o with | .x6 x10 b0 => ⟨[(10, .bool x10)], [.row 3 b0], [], .unk⟩
def elL4a239226 {R : Type} (o : OL4a239226) (k : Ex → St → Option R) : Option R := match o with | .x6 x10 b0 => k (.exit 6) ⟨[(10, .bool x10)], [.row 3 b0], [], .unk⟩
theorem heL4a239226 {R : Type} (o : OL4a239226) (k : Ex → St → Option R) : elL4a239226 o k = k (exL4a239226 o) (stL4a239226 o) := by cases o <;> rfl
theorem hxL4a239226 : ∀ e st x, xsL4a239226 e st = some x → outOk x e exL4a239226 stL4a239226 := by
  intro e st x h
  unfold xsL4a239226 at h
  repeat' split at h
  all_goals first
    | (injection h with h; subst h; exact fun lk M => ⟨rfl, rfl⟩)
    | cases h
noncomputable def T4ul239226 (N : Nat) (R : Type) : LTab R := mkTab ⟨179, 10633818895676926070312850495429940224⟩ (csF4 N R) (noY) [] [] []
theorem okT4ul239226 (N : Nat) (R : Type) : (T4ul239226 N R).Ok CX code4 := mkTab_ok (hcsF4 N R) (noY_ok) (trivial) (trivial) (trivial)
noncomputable def bdL4a239226 : Code := match codeAt code4 [false, true, false, true, true, true, true, false, false, true, true, false, false, true, false, true, true] with | some (.loop c) => c | _ => .skip
theorem hsL4a239226 (N : Nat) : ∀ (n : Nat) (lk : Nat → AV) (M : List Blk), LFL4a239226 N (n + 1) (canS sgL4a239226 lk M) = evk CX (T4ul239226 N OL4a239226) bdL4a239226 (2 * 239226) (canS sgL4a239226 lk M) (kont CX 1 [] sgL4a239226 (fun st => [0]) xsL4a239226 (LFL4a239226 N n)) := by intro n lk M; kernel_rfl
inductive OJ4a59806 where
  | nx (x10 : Bool)
def J4a59806 (N : Nat) : List Row → Int → Bool → Option OJ4a59806 := fun x0 x4 x10 =>
    match F15 N x0 x4 with
    | none => none
    | some (.r rb0v10) =>
      match L4a239226 N N x0 x10 ((rb0v10.length : Int)) 0 rb0v10 with
      | none => none
      | some (.x6 x10v11 b0v11) =>
        some (.nx x10v11)
def LFJ4a59806 (N : Nat) (s : St) : Option OJ4a59806 := J4a59806 N ((Eng.look s.env 0).rows) ((Eng.look s.env 4).toI) ((Eng.look s.env 10).toB)
def sgJ4a59806 : LSh := ⟨[(0, .one (.cell (.slice 30))), (4, .one (.cell (.int .i64))), (10, .one (.cell (.bool)))], []⟩
def ceJ4a59806 : List Cv := []
def seJ4a59806 : St → List Nat := fun _ => []
def xJ4a59806wnx : XSh OJ4a59806 := ⟨[], ⟨[(10, .one (.cell (.bool)))], []⟩, fun _ => [], fun s => .nx ((Eng.look s.env 10).toB)⟩
def xsJ4a59806 : Ex → St → Option (XSh OJ4a59806) := fun e st => match e with
  | .normal => some xJ4a59806wnx
  | _ => none
def exJ4a59806 (o : OJ4a59806) : Ex := match o with | .nx x10 => .normal
def stJ4a59806 (o : OJ4a59806) : St := match o with | .nx x10 => ⟨[(10, .bool x10)], [], [], .unk⟩
def elJ4a59806 {R : Type} (o : OJ4a59806) (k : Ex → St → Option R) : Option R := match o with | .nx x10 => k .normal ⟨[(10, .bool x10)], [], [], .unk⟩
theorem heJ4a59806 {R : Type} (o : OJ4a59806) (k : Ex → St → Option R) : elJ4a59806 o k = k (exJ4a59806 o) (stJ4a59806 o) := by cases o <;> rfl
theorem hxJ4a59806 : ∀ e st x, xsJ4a59806 e st = some x → outOk x e exJ4a59806 stJ4a59806 := by
  intro e st x h
  unfold xsJ4a59806 at h
  repeat' split at h
  all_goals first
    | (injection h with h; subst h; exact fun lk M => ⟨rfl, rfl⟩)
    | cases h
noncomputable def T4uc59806 (N : Nat) (R : Type) : LTab R := mkTab ⟨179, 10633823649366676926173106108066960384⟩ (csF4 N R) (noY) [(239226, fun st k => callLoop CX 1 10633818895676926070312850495429940224 ceL4a239226 sgL4a239226 seL4a239226 ⟨179, 10633823649366676926173106108066960384⟩ (LFL4a239226 N N) elL4a239226 st k)] [] []
theorem okT4uc59806 (N : Nat) (R : Type) : (T4uc59806 N R).Ok CX code4 := mkTab_ok (hcsF4 N R) (noY_ok) (⟨loop_ok hX (path := [false, true, false, true, true, true, true, false, false, true, true, false, false, true, false, true, true]) (by kernel_rfl) (by rfl) (okT4ul239226 N OL4a239226) (fun _ _ => rfl) (hsL4a239226 N) hxL4a239226 rfl heL4a239226, trivial⟩) (trivial) (trivial)
noncomputable def bdJ4a59806 : Code := (codeAt code4 [false, true, true, true, true, false, false, true, true, false, false, true, false, true, true]).getD .skip
theorem hsJ4a59806 (N : Nat) : ∀ (lk : Nat → AV) (M : List Blk), LFJ4a59806 N (canS sgJ4a59806 lk M) = evk CX (T4uc59806 N OJ4a59806) bdJ4a59806 59806 (canS sgJ4a59806 lk M) (kontX CX 0 xsJ4a59806) := by intro lk M; kernel_rfl
inductive OL4a7655418 where
  | ret (x2 : Bool)
  | x8
def L4a7655418 (N : Nat) : Nat → List Row → List Row → Int → Int → Option OL4a7655418
  | 0 => fun _ _ _ _ => none
  | n + 1 => fun x0 x13 x146 x147 =>
    match decide (x147 < x146) with
    | true =>
      match F17 N x0 x147 with
      | none => none
      | some (.r rx0v14) =>
        match rx0v14 with
        | true =>
          match F17 N x13 x147 with
          | none => none
          | some (.r rx0v15) =>
            match !rx0v15 with
            | true =>
              some (.ret false)
            | false =>
              L4a7655418 N n x0 x13 x146 (IntKind.wrap .i64 (x147 + (1 : Int)))
        | false =>
          L4a7655418 N n x0 x13 x146 (IntKind.wrap .i64 (x147 + (1 : Int)))
    | false =>
      some .x8
def LFL4a7655418 (N : Nat) (n : Nat) (s : St) : Option OL4a7655418 := L4a7655418 N n ((Eng.look s.env 0).rows) ((Eng.look s.env 13).rows) ((Eng.look s.env 146).toI) ((Eng.look s.env 147).toI)
def sgL4a7655418 : LSh := ⟨[(0, .one (.cell (.slice 30))), (13, .one (.cell (.slice 30))), (146, .one (.cell (.int .i64))), (147, .one (.cell (.int .i64)))], []⟩
def ceL4a7655418 : List Cv := [.frz 13 (.slice 30)]
def seL4a7655418 : St → List Nat := fun _ => []
def xL4a7655418wret : XSh OL4a7655418 := ⟨[], ⟨[(2, .one (.cell (.bool)))], []⟩, fun _ => [], fun s => .ret ((Eng.look s.env 2).toB)⟩
def xL4a7655418wx8 : XSh OL4a7655418 := ⟨[], ⟨[], []⟩, fun _ => [], fun s => .x8 ⟩
def xsL4a7655418 : Ex → St → Option (XSh OL4a7655418) := fun e st => match e with
  | .ret => some xL4a7655418wret
  | .exit 8 => some xL4a7655418wx8
  | _ => none
def exL4a7655418 (o : OL4a7655418) : Ex := match o with | .ret x2 => .ret | .x8 => (.exit 8)
def stL4a7655418 (o : OL4a7655418) : St := match o with | .ret x2 => ⟨[(2, .bool x2)], [], [], .unk⟩ | .x8 => ⟨[], [], [], .unk⟩
def elL4a7655418 {R : Type} (o : OL4a7655418) (k : Ex → St → Option R) : Option R := match o with | .ret x2 => k .ret ⟨[(2, .bool x2)], [], [], .unk⟩ | .x8 => k (.exit 8) ⟨[], [], [], .unk⟩
theorem heL4a7655418 {R : Type} (o : OL4a7655418) (k : Ex → St → Option R) : elL4a7655418 o k = k (exL4a7655418 o) (stL4a7655418 o) := by cases o <;> rfl
theorem hxL4a7655418 : ∀ e st x, xsL4a7655418 e st = some x → outOk x e exL4a7655418 stL4a7655418 := by
  intro e st x h
  unfold xsL4a7655418 at h
  repeat' split at h
  all_goals first
    | (injection h with h; subst h; exact fun lk M => ⟨rfl, rfl⟩)
    | cases h
noncomputable def T4ul7655418 (N : Nat) (R : Type) : LTab R := mkTab ⟨179, 1461323231369314673218552546970101832763884716036⟩ (csF4 N R) (noY) [] [] []
theorem okT4ul7655418 (N : Nat) (R : Type) : (T4ul7655418 N R).Ok CX code4 := mkTab_ok (hcsF4 N R) (noY_ok) (trivial) (trivial) (trivial)
noncomputable def bdL4a7655418 : Code := match codeAt code4 [false, true, false, true, true, true, true, true, true, true, true, true, false, false, true, true, false, false, true, false, true, true] with | some (.loop c) => c | _ => .skip
theorem hsL4a7655418 (N : Nat) : ∀ (n : Nat) (lk : Nat → AV) (M : List Blk), LFL4a7655418 N (n + 1) (canS sgL4a7655418 lk M) = evk CX (T4ul7655418 N OL4a7655418) bdL4a7655418 (2 * 7655418) (canS sgL4a7655418 lk M) (kont CX 0 [] sgL4a7655418 (fun _ => []) xsL4a7655418 (LFL4a7655418 N n)) := by intro n lk M; kernel_rfl
inductive OL4a15310846 where
  | ret (x2 : Bool) (b0 : List Row)
  | x10 (b0 : List Row)
def L4a15310846 (N : Nat) : Nat → Int → List Row → Int → Int → List Row → Option OL4a15310846
  | 0 => fun _ _ _ _ _ => none
  | n + 1 => fun x4 x15 x164 x165 b0 =>
    match decide (x165 < x164) with
    | true =>
      tst (decide ((0 : Int) ≤ x165) && decide (x165 < ((b0.length : Int)))) <|
      tst (decide (x165.toNat < b0.length)) <|
      match F18 N x15 ((((b0.getD x165.toNat [])).getD 0 .top).toI) with
      | none => none
      | some (.r rx0v20) =>
        match !((((((b0.getD x165.toNat [])).getD 0 .top).toI) != x4) == rx0v20) with
        | true =>
          some (.ret false b0)
        | false =>
          L4a15310846 N n x4 x15 x164 (IntKind.wrap .i64 (x165 + (1 : Int))) b0
    | false =>
      some (.x10 b0)
def LFL4a15310846 (N : Nat) (n : Nat) (s : St) : Option OL4a15310846 := L4a15310846 N n ((Eng.look s.env 4).toI) ((Eng.look s.env 15).rows) ((Eng.look s.env 164).toI) ((Eng.look s.env 165).toI) ((s.mem.getD 0 .dead).rows)
def sgL4a15310846 : LSh := ⟨[(4, .one (.cell (.int .i64))), (15, .one (.cell (.slice 3))), (163, .one (.own 0)), (164, .one (.cell (.int .i64))), (165, .one (.cell (.int .i64)))], [.row 3]⟩
def ceL4a15310846 : List Cv := [.frz 15 (.slice 3)]
def seL4a15310846 : St → List Nat := fun st => [(Eng.look st.env 163).id]
def xL4a15310846wret : XSh OL4a15310846 := ⟨[], ⟨[(2, .one (.cell (.bool)))], [.row 3]⟩, fun st => [0], fun s => .ret ((Eng.look s.env 2).toB) ((s.mem.getD 0 .dead).rows)⟩
def xL4a15310846wx10 : XSh OL4a15310846 := ⟨[], ⟨[], [.row 3]⟩, fun st => [0], fun s => .x10 ((s.mem.getD 0 .dead).rows)⟩
def xsL4a15310846 : Ex → St → Option (XSh OL4a15310846) := fun e st => match e with
  | .ret => some xL4a15310846wret
  | .exit 10 => some xL4a15310846wx10
  | _ => none
def exL4a15310846 (o : OL4a15310846) : Ex := match o with | .ret x2 b0 => .ret | .x10 b0 => (.exit 10)
def stL4a15310846 (o : OL4a15310846) : St := match o with | .ret x2 b0 => ⟨[(2, .bool x2)], [.row 3 b0], [], .unk⟩ | .x10 b0 => ⟨[], [.row 3 b0], [], .unk⟩
def elL4a15310846 {R : Type} (o : OL4a15310846) (k : Ex → St → Option R) : Option R := match o with | .ret x2 b0 => k .ret ⟨[(2, .bool x2)], [.row 3 b0], [], .unk⟩ | .x10 b0 => k (.exit 10) ⟨[], [.row 3 b0], [], .unk⟩
theorem heL4a15310846 {R : Type} (o : OL4a15310846) (k : Ex → St → Option R) : elL4a15310846 o k = k (exL4a15310846 o) (stL4a15310846 o) := by cases o <;> rfl
theorem hxL4a15310846 : ∀ e st x, xsL4a15310846 e st = some x → outOk x e exL4a15310846 stL4a15310846 := by
  intro e st x h
  unfold xsL4a15310846 at h
  repeat' split at h
  all_goals first
    | (injection h with h; subst h; exact fun lk M => ⟨rfl, rfl⟩)
    | cases h
noncomputable def T4ul15310846 (N : Nat) (R : Type) : LTab R := mkTab ⟨179, 191515174555841518401410860479141726895713400431706116⟩ (csF4 N R) (noY) [] [] []
theorem okT4ul15310846 (N : Nat) (R : Type) : (T4ul15310846 N R).Ok CX code4 := mkTab_ok (hcsF4 N R) (noY_ok) (trivial) (trivial) (trivial)
noncomputable def bdL4a15310846 : Code := match codeAt code4 [false, true, true, true, true, true, true, true, true, true, true, true, true, false, false, true, true, false, false, true, false, true, true] with | some (.loop c) => c | _ => .skip
theorem hsL4a15310846 (N : Nat) : ∀ (n : Nat) (lk : Nat → AV) (M : List Blk), LFL4a15310846 N (n + 1) (canS sgL4a15310846 lk M) = evk CX (T4ul15310846 N OL4a15310846) bdL4a15310846 (2 * 15310846) (canS sgL4a15310846 lk M) (kont CX 1 [] sgL4a15310846 (fun st => [0]) xsL4a15310846 (LFL4a15310846 N n)) := by intro n lk M; kernel_rfl
inductive OL4a58 where
  | ret (x2 : Bool) (b0 : List Row)
  | x0 (b0 : List Row)
def L4a58 (N : Nat) : Nat → List Row → Int → Int → List Row → Option OL4a58
  | 0 => fun _ _ _ _ => none
  | n + 1 => fun x0 x27 x28 b0 =>
    match decide (x28 < x27) with
    | true =>
      tst (decide ((0 : Int) ≤ x28) && decide (x28 < ((b0.length : Int)))) <|
      tst (decide (x28.toNat < b0.length)) <|
      match J4a7474 N x0 ((((b0.getD x28.toNat [])).getD 0 .top).toI) with
      | none => none
      | some (.nx) =>
        match J4a14950 N x0 ((((b0.getD x28.toNat [])).getD 0 .top).toI) with
        | none => none
        | some (.nx) =>
          match J4a59806 N x0 ((((b0.getD x28.toNat [])).getD 0 .top).toI) true with
          | none => none
          | some (.nx x10v12) =>
            match !x10v12 with
            | true =>
              L4a58 N n x0 x27 (IntKind.wrap .i64 (x28 + (1 : Int))) b0
            | false =>
              tst (decide (((0 + x0.length) * 32) ≤ 140737488355328)) <|
              tst (decide ((0 : Int) ≤ ((((b0.getD x28.toNat [])).getD 0 .top).toI)) && decide ((((b0.getD x28.toNat [])).getD 0 .top).toI < ((x0.length : Int)))) <|
              tst (decide ((0 : Int) ≤ ((((b0.getD x28.toNat [])).getD 0 .top).toI)) && decide ((((b0.getD x28.toNat [])).getD 0 .top).toI < ((x0.length : Int)))) <|
              tst (decide ((0 : Int) ≤ ((((b0.getD x28.toNat [])).getD 0 .top).toI)) && decide ((((b0.getD x28.toNat [])).getD 0 .top).toI < ((((([] : List Row)) ++ x0).length : Int)))) <|
              tst (decide ((((((b0.getD x28.toNat [])).getD 0 .top).toI).toNat) < (((([] : List Row)) ++ x0).length))) <|
              match F16 N (((([] : List Row)) ++ x0).set (((((b0.getD x28.toNat [])).getD 0 .top).toI).toNat) (Eng.setAt ((((([] : List Row)) ++ x0).getD (((((b0.getD x28.toNat [])).getD 0 .top).toI).toNat) [])) 0 [.bool true, .bool true, .bool false, .bool false, .bool false, .int .i64 ((((x0.getD (((((b0.getD x28.toNat [])).getD 0 .top).toI).toNat) [])).getD 5 .top).toI), .int .i64 ((((x0.getD (((((b0.getD x28.toNat [])).getD 0 .top).toI).toNat) [])).getD 6 .top).toI), .int .i64 ((-1))])) with
              | none => none
              | some (.r rx0v13) =>
                match !rx0v13 with
                | true =>
                  some (.ret false b0)
                | false =>
                  match L4a7655418 N N x0 (((([] : List Row)) ++ x0).set (((((b0.getD x28.toNat [])).getD 0 .top).toI).toNat) (Eng.setAt ((((([] : List Row)) ++ x0).getD (((((b0.getD x28.toNat [])).getD 0 .top).toI).toNat) [])) 0 [.bool true, .bool true, .bool false, .bool false, .bool false, .int .i64 ((((x0.getD (((((b0.getD x28.toNat [])).getD 0 .top).toI).toNat) [])).getD 5 .top).toI), .int .i64 ((((x0.getD (((((b0.getD x28.toNat [])).getD 0 .top).toI).toNat) [])).getD 6 .top).toI), .int .i64 ((-1))])) ((x0.length : Int)) 0 with
                  | none => none
                  | some (.ret x2v16) =>
                    some (.ret x2v16 b0)
                  | some (.x8) =>
                    match F9 N (((([] : List Row)) ++ x0).set (((((b0.getD x28.toNat [])).getD 0 .top).toI).toNat) (Eng.setAt ((((([] : List Row)) ++ x0).getD (((((b0.getD x28.toNat [])).getD 0 .top).toI).toNat) [])) 0 [.bool true, .bool true, .bool false, .bool false, .bool false, .int .i64 ((((x0.getD (((((b0.getD x28.toNat [])).getD 0 .top).toI).toNat) [])).getD 5 .top).toI), .int .i64 ((((x0.getD (((((b0.getD x28.toNat [])).getD 0 .top).toI).toNat) [])).getD 6 .top).toI), .int .i64 ((-1))])) with
                    | none => none
                    | some (.r rb0v18) =>
                      match F9 N x0 with
                      | none => none
                      | some (.r rb0v19) =>
                        match L4a15310846 N N ((((b0.getD x28.toNat [])).getD 0 .top).toI) rb0v18 ((rb0v19.length : Int)) 0 rb0v19 with
                        | none => none
                        | some (.ret x2v21 b0v21) =>
                          some (.ret x2v21 b0)
                        | some (.x10 b0v22) =>
                          L4a58 N n x0 x27 (IntKind.wrap .i64 (x28 + (1 : Int))) b0
        | some (.ret x2v23) =>
          some (.ret x2v23 b0)
      | some (.ret x2v24) =>
        some (.ret x2v24 b0)
    | false =>
      some (.x0 b0)
def LFL4a58 (N : Nat) (n : Nat) (s : St) : Option OL4a58 := L4a58 N n ((Eng.look s.env 0).rows) ((Eng.look s.env 27).toI) ((Eng.look s.env 28).toI) ((s.mem.getD 0 .dead).rows)
def sgL4a58 : LSh := ⟨[(0, .one (.cell (.slice 30))), (26, .one (.own 0)), (27, .one (.cell (.int .i64))), (28, .one (.cell (.int .i64)))], [.row 3]⟩
def ceL4a58 : List Cv := [.frz 0 (.slice 30)]
def seL4a58 : St → List Nat := fun st => [(Eng.look st.env 26).id]
def xL4a58wret : XSh OL4a58 := ⟨[], ⟨[(2, .one (.cell (.bool)))], [.row 3]⟩, fun st => [0], fun s => .ret ((Eng.look s.env 2).toB) ((s.mem.getD 0 .dead).rows)⟩
def xL4a58wx0 : XSh OL4a58 := ⟨[], ⟨[], [.row 3]⟩, fun st => [0], fun s => .x0 ((s.mem.getD 0 .dead).rows)⟩
def xsL4a58 : Ex → St → Option (XSh OL4a58) := fun e st => match e with
  | .ret => some xL4a58wret
  | .exit 0 => some xL4a58wx0
  | _ => none
def exL4a58 (o : OL4a58) : Ex := match o with | .ret x2 b0 => .ret | .x0 b0 => (.exit 0)
def stL4a58 (o : OL4a58) : St := match o with | .ret x2 b0 => ⟨[(2, .bool x2)], [.row 3 b0], [], .unk⟩ | .x0 b0 => ⟨[], [.row 3 b0], [], .unk⟩
def elL4a58 {R : Type} (o : OL4a58) (k : Ex → St → Option R) : Option R := match o with | .ret x2 b0 => k .ret ⟨[(2, .bool x2)], [.row 3 b0], [], .unk⟩ | .x0 b0 => k (.exit 0) ⟨[], [.row 3 b0], [], .unk⟩
theorem heL4a58 {R : Type} (o : OL4a58) (k : Ex → St → Option R) : elL4a58 o k = k (exL4a58 o) (stL4a58 o) := by cases o <;> rfl
theorem hxL4a58 : ∀ e st x, xsL4a58 e st = some x → outOk x e exL4a58 stL4a58 := by
  intro e st x h
  unfold xsL4a58 at h
  repeat' split at h
  all_goals first
    | (injection h with h; subst h; exact fun lk M => ⟨rfl, rfl⟩)
    | cases h
noncomputable def T4ul58 (N : Nat) (R : Type) : LTab R := mkTab ⟨179, 383123885216472214589586756787577295904684780277659476⟩ (csF4 N R) (noY) [(7655418, fun st k => callLoop CX 0 1461323231369314673218552546970101832763884716036 ceL4a7655418 sgL4a7655418 seL4a7655418 ⟨179, 383123885216472214589586756787577295904684780277659476⟩ (LFL4a7655418 N N) elL4a7655418 st k), (15310846, fun st k => callLoop CX 1 191515174555841518401410860479141726895713400431706116 ceL4a15310846 sgL4a15310846 seL4a15310846 ⟨179, 383123885216472214589586756787577295904684780277659476⟩ (LFL4a15310846 N N) elL4a15310846 st k)] [] [(7474, fun st k => callLoop CX 0 281470681743364 ceJ4a7474 sgJ4a7474 seJ4a7474 ⟨179, 383123885216472214589586756787577295904684780277659476⟩ (LFJ4a7474 N) elJ4a7474 st k), (14950, fun st k => callLoop CX 0 316912650057057068899199091524 ceJ4a14950 sgJ4a14950 seJ4a14950 ⟨179, 383123885216472214589586756787577295904684780277659476⟩ (LFJ4a14950 N) elJ4a14950 st k), (59806, fun st k => callLoop CX 0 10633823649366676926173106108066960384 ceJ4a59806 sgJ4a59806 seJ4a59806 ⟨179, 383123885216472214589586756787577295904684780277659476⟩ (LFJ4a59806 N) elJ4a59806 st k)]
theorem okT4ul58 (N : Nat) (R : Type) : (T4ul58 N R).Ok CX code4 := mkTab_ok (hcsF4 N R) (noY_ok) (⟨loop_ok hX (path := [false, true, false, true, true, true, true, true, true, true, true, true, false, false, true, true, false, false, true, false, true, true]) (by kernel_rfl) (by rfl) (okT4ul7655418 N OL4a7655418) (fun _ _ => rfl) (hsL4a7655418 N) hxL4a7655418 rfl heL4a7655418, loop_ok hX (path := [false, true, true, true, true, true, true, true, true, true, true, true, true, false, false, true, true, false, false, true, false, true, true]) (by kernel_rfl) (by rfl) (okT4ul15310846 N OL4a15310846) (fun _ _ => rfl) (hsL4a15310846 N) hxL4a15310846 rfl heL4a15310846, trivial⟩) (trivial) (⟨cut_ok hX (path := [false, true, false, false, true, true, false, false, true, false, true, true]) (by kernel_rfl) (by rfl) (okT4uc7474 N OJ4a7474) (hsJ4a7474 N) hxJ4a7474 rfl heJ4a7474, cut_ok hX (path := [false, true, true, false, false, true, true, false, false, true, false, true, true]) (by kernel_rfl) (by rfl) (okT4uc14950 N OJ4a14950) (hsJ4a14950 N) hxJ4a14950 rfl heJ4a14950, cut_ok hX (path := [false, true, true, true, true, false, false, true, true, false, false, true, false, true, true]) (by kernel_rfl) (by rfl) (okT4uc59806 N OJ4a59806) (hsJ4a59806 N) hxJ4a59806 rfl heJ4a59806, trivial⟩)
noncomputable def bdL4a58 : Code := match codeAt code4 [false, true, false, true, true] with | some (.loop c) => c | _ => .skip
theorem hsL4a58 (N : Nat) : ∀ (n : Nat) (lk : Nat → AV) (M : List Blk), LFL4a58 N (n + 1) (canS sgL4a58 lk M) = evk CX (T4ul58 N OL4a58) bdL4a58 (2 * 58) (canS sgL4a58 lk M) (kont CX 1 [] sgL4a58 (fun st => [0]) xsL4a58 (LFL4a58 N n)) := by intro n lk M; kernel_rfl
noncomputable def T4ur1 (N : Nat) (R : Type) : LTab R := mkTab ⟨179, 766247770432944429179173513575154591809369561091801087⟩ (csF4 N R) (noY) [(58, fun st k => callLoop CX 1 383123885216472214589586756787577295904684780277659476 ceL4a58 sgL4a58 seL4a58 ⟨179, 766247770432944429179173513575154591809369561091801087⟩ (LFL4a58 N N) elL4a58 st k)] [] []
theorem okT4ur1 (N : Nat) (R : Type) : (T4ur1 N R).Ok CX code4 := mkTab_ok (hcsF4 N R) (noY_ok) (⟨loop_ok hX (path := [false, true, false, true, true]) (by kernel_rfl) (by rfl) (okT4ul58 N OL4a58) (fun _ _ => rfl) (hsL4a58 N) hxL4a58 rfl heL4a58, trivial⟩) (trivial) (trivial)
def rsF4 : List ResultVar := [.tmp 2]
def F4 : Nat → TF4
  | 0 => fun _ => none
  | N + 1 => fun x0 =>
    tst (decide ((0 : Int) ≤ (Eng.imin ((x0.length : Int)) 40)) && decide ((Eng.imin ((x0.length : Int)) 40) ≤ ((x0.length : Int))) && decide ((x0.length : Int) ≤ ((x0.length : Int)))) <|
    tst (decide (((0 + (x0.take ((Eng.imin ((x0.length : Int)) 40).toNat)).length) * 32) ≤ 140737488355328)) <|
    match F9 N ((([] : List Row)) ++ (x0.take ((Eng.imin ((x0.length : Int)) 40).toNat))) with
    | none => none
    | some (.r rb0v1) =>
      match L4a58 N N ((([] : List Row)) ++ (x0.take ((Eng.imin ((x0.length : Int)) 40).toNat))) ((rb0v1.length : Int)) 0 rb0v1 with
      | none => none
      | some (.ret x2v25 b0v25) =>
        some (.r x2v25)
      | some (.x0 b0v26) =>
        match F13 N  with
        | none => none
        | some (.r rx0v27) =>
          some (.r rx0v27)
def xRF4 : XSh R4 := ⟨[], ⟨[(0, .one (.cell (.bool)))], []⟩, fun _ => [], fun s => .r ((Eng.look s.env 0).toB)⟩
theorem fsF4 : ∀ (N : Nat) (lk : Nat → AV) (M : List Blk), FFF4 (F4 (N + 1)) (canS sgF4 lk M) = evfn CX (T4ur1 N R4) code4 rsF4 (argsE 1 (canS sgF4 lk M).env) (canS sgF4 lk M).mem (goR CX 0 (fun _ => some xRF4)) := by intro N lk M; kernel_rfl
theorem soundF4 : ∀ N, RecOkF4 (F4 N)
  | 0, lk, M, o, h => by cases h
  | N + 1, lk, M, o, h => fn_sound hX (okT4ur1 N R4) Try.func4 hb4 rfl en4 (by kernel_rfl) (ys := fun _ => some xRF4) (fun st y h => by injection h with h; subst h; exact fun lk M => ⟨rfl, rfl⟩) ((fsF4 N lk M).symm.trans h)
end Go.Proofs.Ytfggehkiglenjaa

namespace Go.Proofs.Ytfggehkiglenjaa
open Go Go.Eng
set_option maxRecDepth 100000

/-! ### F6: ceiling/ceilinglaw33.MasterForest -/
inductive R6 where
  | r (x0 : Bool)
abbrev TF6 := List Row → Option R6
def sgF6 : LSh := ⟨[(0, .one (.cell (.slice 30)))], []⟩
def FFF6 (Fx : TF6) (s : St) : Option R6 := Fx ((Eng.look s.env 0).rows)
def valF6 (o : R6) : AV := match o with | .r x0 => .bool x0
def memF6 (o : R6) : List Blk := match o with | .r x0 => []
def elF6 {R : Type} (o : R6) (k : AV → List Blk → Option R) : Option R := match o with | .r x0 => k (.bool x0) []
def RecOkF6 (Fx : TF6) : Prop := ∀ lk M o, FFF6 Fx (canS sgF6 lk M) = some o → FCalls CX 6 0 (argsE 1 (canS sgF6 lk M).env) (canS sgF6 lk M).mem (valF6 o) (memF6 o)
noncomputable def csF6 (N : Nat) (R : Type) : List (CE R) := [ce13n0 (F13 N) R (fun _ _ => true), ce14n0 (F14 N) R (fun _ _ => true), ce15n0 (F15 N) R (fun _ _ => true), ce16n0 (F16 N) R (fun _ _ => true), ce18n0 (F18 N) R (testV CX cvce18n0 sgF18 selce18n0), ce18n1 (F18 N) R (testV CX cvce18n1 sgF18 selce18n1), ce19n0 (F19 N) R (fun _ _ => true)]
theorem hcsF6 (N : Nat) (R : Type) : AllE (CeOk CX) (csF6 N R) := ⟨okce13n0 (F13 N) (soundF13 N) R (fun _ _ => true), okce14n0 (F14 N) (soundF14 N) R (fun _ _ => true), okce15n0 (F15 N) (soundF15 N) R (fun _ _ => true), okce16n0 (F16 N) (soundF16 N) R (fun _ _ => true), okce18n0 (F18 N) (soundF18 N) R (testV CX cvce18n0 sgF18 selce18n0), okce18n1 (F18 N) (soundF18 N) R (testV CX cvce18n1 sgF18 selce18n1), okce19n0 (F19 N) (soundF19 N) R (fun _ _ => true), trivial⟩
inductive OJ6a16043314 where
  | nx
  | ret (x2 : Bool)
def J6a16043314 (N : Nat) : List Row → Int → List Row → Int → Option OJ6a16043314 := fun x0 x3 x4 x6 =>
    match decide (x6 ≤ x3) with
    | true =>
      some (.ret false)
    | false =>
      match decide (((x0.length : Int)) ≤ x6) with
      | true =>
        some (.ret false)
      | false =>
        tst (decide ((0 : Int) ≤ x6) && decide (x6 < ((x0.length : Int)))) <|
        match ((((x0.getD x6.toNat [])).getD 5 .top).toI) != x3 with
        | true =>
          tst (decide ((0 : Int) ≤ x6) && decide (x6 < ((x0.length : Int)))) <|
          match F18 N x4 ((((x0.getD x6.toNat [])).getD 5 .top).toI) with
          | none => none
          | some (.r rx0v6) =>
            match !rx0v6 with
            | true =>
              some (.ret false)
            | false =>
              some .nx
        | false =>
          some .nx
def LFJ6a16043314 (N : Nat) (s : St) : Option OJ6a16043314 := J6a16043314 N ((Eng.look s.env 0).rows) ((Eng.look s.env 3).toI) ((Eng.look s.env 4).rows) ((Eng.look s.env 6).toI)
def sgJ6a16043314 : LSh := ⟨[(0, .one (.cell (.slice 30))), (3, .one (.cell (.int .i64))), (4, .one (.cell (.slice 3))), (6, .one (.cell (.int .i64)))], []⟩
def ceJ6a16043314 : List Cv := []
def seJ6a16043314 : St → List Nat := fun _ => []
def xJ6a16043314wnx : XSh OJ6a16043314 := ⟨[], ⟨[], []⟩, fun _ => [], fun s => .nx ⟩
def xJ6a16043314wret : XSh OJ6a16043314 := ⟨[], ⟨[(2, .one (.cell (.bool)))], []⟩, fun _ => [], fun s => .ret ((Eng.look s.env 2).toB)⟩
def xsJ6a16043314 : Ex → St → Option (XSh OJ6a16043314) := fun e st => match e with
  | .normal => some xJ6a16043314wnx
  | .ret => some xJ6a16043314wret
  | _ => none
def exJ6a16043314 (o : OJ6a16043314) : Ex := match o with | .nx => .normal | .ret x2 => .ret
def stJ6a16043314 (o : OJ6a16043314) : St := match o with | .nx => ⟨[], [], [], .unk⟩ | .ret x2 => ⟨[(2, .bool x2)], [], [], .unk⟩
def elJ6a16043314 {R : Type} (o : OJ6a16043314) (k : Ex → St → Option R) : Option R := match o with | .nx => k .normal ⟨[], [], [], .unk⟩ | .ret x2 => k .ret ⟨[(2, .bool x2)], [], [], .unk⟩
theorem heJ6a16043314 {R : Type} (o : OJ6a16043314) (k : Ex → St → Option R) : elJ6a16043314 o k = k (exJ6a16043314 o) (stJ6a16043314 o) := by cases o <;> rfl
theorem hxJ6a16043314 : ∀ e st x, xsJ6a16043314 e st = some x → outOk x e exJ6a16043314 stJ6a16043314 := by
  intro e st x h
  unfold xsJ6a16043314 at h
  repeat' split at h
  all_goals first
    | (injection h with h; subst h; exact fun lk M => ⟨rfl, rfl⟩)
    | cases h
noncomputable def T6uc16043314 (N : Nat) (R : Type) : LTab R := mkTab ⟨117, 9444732930554918338564⟩ (csF6 N R) (noY) [] [] []
theorem okT6uc16043314 (N : Nat) (R : Type) : (T6uc16043314 N R).Ok CX code6 := mkTab_ok (hcsF6 N R) (noY_ok) (trivial) (trivial) (trivial)
noncomputable def bdJ6a16043314 : Code := (codeAt code6 [false, true, false, false, true, true, false, false, true, false, true, true, false, false, true, true, false, false, true, false, true, true, true]).getD .skip
theorem hsJ6a16043314 (N : Nat) : ∀ (lk : Nat → AV) (M : List Blk), LFJ6a16043314 N (canS sgJ6a16043314 lk M) = evk CX (T6uc16043314 N OJ6a16043314) bdJ6a16043314 16043314 (canS sgJ6a16043314 lk M) (kontX CX 0 xsJ6a16043314) := by intro lk M; kernel_rfl
inductive OL6a64173262 where
  | ret (x2 : Bool) (b0 : List Row)
  | x4 (b0 : List Row)
def L6a64173262 (N : Nat) : Nat → List Row → Int → Int → List Row → Option OL6a64173262
  | 0 => fun _ _ _ _ => none
  | n + 1 => fun x4 x76 x77 b0 =>
    match decide (x77 < x76) with
    | true =>
      tst (decide ((0 : Int) ≤ x77) && decide (x77 < ((b0.length : Int)))) <|
      tst (decide (x77.toNat < b0.length)) <|
      match F18 N x4 ((((b0.getD x77.toNat [])).getD 0 .top).toI) with
      | none => none
      | some (.r rx0v9) =>
        match !rx0v9 with
        | true =>
          some (.ret false b0)
        | false =>
          L6a64173262 N n x4 x76 (IntKind.wrap .i64 (x77 + (1 : Int))) b0
    | false =>
      some (.x4 b0)
def LFL6a64173262 (N : Nat) (n : Nat) (s : St) : Option OL6a64173262 := L6a64173262 N n ((Eng.look s.env 4).rows) ((Eng.look s.env 76).toI) ((Eng.look s.env 77).toI) ((s.mem.getD 0 .dead).rows)
def sgL6a64173262 : LSh := ⟨[(4, .one (.cell (.slice 3))), (75, .one (.own 0)), (76, .one (.cell (.int .i64))), (77, .one (.cell (.int .i64)))], [.row 3]⟩
def ceL6a64173262 : List Cv := []
def seL6a64173262 : St → List Nat := fun st => [(Eng.look st.env 75).id]
def xL6a64173262wret : XSh OL6a64173262 := ⟨[], ⟨[(2, .one (.cell (.bool)))], [.row 3]⟩, fun st => [0], fun s => .ret ((Eng.look s.env 2).toB) ((s.mem.getD 0 .dead).rows)⟩
def xL6a64173262wx4 : XSh OL6a64173262 := ⟨[], ⟨[], [.row 3]⟩, fun st => [0], fun s => .x4 ((s.mem.getD 0 .dead).rows)⟩
def xsL6a64173262 : Ex → St → Option (XSh OL6a64173262) := fun e st => match e with
  | .ret => some xL6a64173262wret
  | .exit 4 => some xL6a64173262wx4
  | _ => none
def exL6a64173262 (o : OL6a64173262) : Ex := match o with | .ret x2 b0 => .ret | .x4 b0 => (.exit 4)
def stL6a64173262 (o : OL6a64173262) : St := match o with | .ret x2 b0 => ⟨[(2, .bool x2)], [.row 3 b0], [], .unk⟩ | .x4 b0 => ⟨[], [.row 3 b0], [], .unk⟩
def elL6a64173262 {R : Type} (o : OL6a64173262) (k : Ex → St → Option R) : Option R := match o with | .ret x2 b0 => k .ret ⟨[(2, .bool x2)], [.row 3 b0], [], .unk⟩ | .x4 b0 => k (.exit 4) ⟨[], [.row 3 b0], [], .unk⟩
theorem heL6a64173262 {R : Type} (o : OL6a64173262) (k : Ex → St → Option R) : elL6a64173262 o k = k (exL6a64173262 o) (stL6a64173262 o) := by cases o <;> rfl
theorem hxL6a64173262 : ∀ e st x, xsL6a64173262 e st = some x → outOk x e exL6a64173262 stL6a64173262 := by
  intro e st x h
  unfold xsL6a64173262 at h
  repeat' split at h
  all_goals first
    | (injection h with h; subst h; exact fun lk M => ⟨rfl, rfl⟩)
    | cases h
noncomputable def T6ul64173262 (N : Nat) (R : Type) : LTab R := mkTab ⟨117, 77220136727884438534357252⟩ (csF6 N R) (noY) [] [] []
theorem okT6ul64173262 (N : Nat) (R : Type) : (T6ul64173262 N R).Ok CX code6 := mkTab_ok (hcsF6 N R) (noY_ok) (trivial) (trivial) (trivial)
noncomputable def bdL6a64173262 : Code := match codeAt code6 [false, true, true, true, false, false, true, true, false, false, true, false, true, true, false, false, true, true, false, false, true, false, true, true, true] with | some (.loop c) => c | _ => .skip
theorem hsL6a64173262 (N : Nat) : ∀ (n : Nat) (lk : Nat → AV) (M : List Blk), LFL6a64173262 N (n + 1) (canS sgL6a64173262 lk M) = evk CX (T6ul64173262 N OL6a64173262) bdL6a64173262 (2 * 64173262) (canS sgL6a64173262 lk M) (kont CX 1 [] sgL6a64173262 (fun st => [0]) xsL6a64173262 (LFL6a64173262 N n)) := by intro n lk M; kernel_rfl
inductive OL6a125338 where
  | ret (x2 : Bool)
  | x2
def L6a125338 (N : Nat) : Nat → List Row → Int → List Row → List Row → Int → Int → Option OL6a125338
  | 0 => fun _ _ _ _ _ _ => none
  | n + 1 => fun x0 x3 x4 x39 x40 x41 =>
    match decide (x41 < x40) with
    | true =>
      tst (decide ((0 : Int) ≤ x41) && decide (x41 < ((x39.length : Int)))) <|
      match J6a16043314 N x0 x3 x4 ((((x39.getD x41.toNat [])).getD 0 .top).toI) with
      | none => none
      | some (.nx) =>
        match F15 N x0 ((((x39.getD x41.toNat [])).getD 0 .top).toI) with
        | none => none
        | some (.r rb0v8) =>
          match L6a64173262 N N x4 ((rb0v8.length : Int)) 0 rb0v8 with
          | none => none
          | some (.ret x2v10 b0v10) =>
            some (.ret x2v10)
          | some (.x4 b0v11) =>
            L6a125338 N n x0 x3 x4 x39 x40 (IntKind.wrap .i64 (x41 + (1 : Int)))
      | some (.ret x2v12) =>
        some (.ret x2v12)
    | false =>
      some .x2
def LFL6a125338 (N : Nat) (n : Nat) (s : St) : Option OL6a125338 := L6a125338 N n ((Eng.look s.env 0).rows) ((Eng.look s.env 3).toI) ((Eng.look s.env 4).rows) ((Eng.look s.env 39).rows) ((Eng.look s.env 40).toI) ((Eng.look s.env 41).toI)
def sgL6a125338 : LSh := ⟨[(0, .one (.cell (.slice 30))), (3, .one (.cell (.int .i64))), (4, .one (.cell (.slice 3))), (39, .one (.cell (.slice 3))), (40, .one (.cell (.int .i64))), (41, .one (.cell (.int .i64)))], []⟩
def ceL6a125338 : List Cv := [.frz 4 (.slice 3), .frz 39 (.slice 3)]
def seL6a125338 : St → List Nat := fun _ => []
def xL6a125338wret : XSh OL6a125338 := ⟨[], ⟨[(2, .one (.cell (.bool)))], []⟩, fun _ => [], fun s => .ret ((Eng.look s.env 2).toB)⟩
def xL6a125338wx2 : XSh OL6a125338 := ⟨[], ⟨[], []⟩, fun _ => [], fun s => .x2 ⟩
def xsL6a125338 : Ex → St → Option (XSh OL6a125338) := fun e st => match e with
  | .ret => some xL6a125338wret
  | .exit 2 => some xL6a125338wx2
  | _ => none
def exL6a125338 (o : OL6a125338) : Ex := match o with | .ret x2 => .ret | .x2 => (.exit 2)
def stL6a125338 (o : OL6a125338) : St := match o with | .ret x2 => ⟨[(2, .bool x2)], [], [], .unk⟩ | .x2 => ⟨[], [], [], .unk⟩
def elL6a125338 {R : Type} (o : OL6a125338) (k : Ex → St → Option R) : Option R := match o with | .ret x2 => k .ret ⟨[(2, .bool x2)], [], [], .unk⟩ | .x2 => k (.exit 2) ⟨[], [], [], .unk⟩
theorem heL6a125338 {R : Type} (o : OL6a125338) (k : Ex → St → Option R) : elL6a125338 o k = k (exL6a125338 o) (stL6a125338 o) := by cases o <;> rfl
theorem hxL6a125338 : ∀ e st x, xsL6a125338 e st = some x → outOk x e exL6a125338 stL6a125338 := by
  intro e st x h
  unfold xsL6a125338 at h
  repeat' split at h
  all_goals first
    | (injection h with h; subst h; exact fun lk M => ⟨rfl, rfl⟩)
    | cases h
noncomputable def T6ul125338 (N : Nat) (R : Type) : LTab R := mkTab ⟨117, 154742504910670335339135300⟩ (csF6 N R) (noY) [(64173262, fun st k => callLoop CX 1 77220136727884438534357252 ceL6a64173262 sgL6a64173262 seL6a64173262 ⟨117, 154742504910670335339135300⟩ (LFL6a64173262 N N) elL6a64173262 st k)] [] [(16043314, fun st k => callLoop CX 0 9444732930554918338564 ceJ6a16043314 sgJ6a16043314 seJ6a16043314 ⟨117, 154742504910670335339135300⟩ (LFJ6a16043314 N) elJ6a16043314 st k)]
theorem okT6ul125338 (N : Nat) (R : Type) : (T6ul125338 N R).Ok CX code6 := mkTab_ok (hcsF6 N R) (noY_ok) (⟨loop_ok hX (path := [false, true, true, true, false, false, true, true, false, false, true, false, true, true, false, false, true, true, false, false, true, false, true, true, true]) (by kernel_rfl) (by rfl) (okT6ul64173262 N OL6a64173262) (fun _ _ => rfl) (hsL6a64173262 N) hxL6a64173262 rfl heL6a64173262, trivial⟩) (trivial) (⟨cut_ok hX (path := [false, true, false, false, true, true, false, false, true, false, true, true, false, false, true, true, false, false, true, false, true, true, true]) (by kernel_rfl) (by rfl) (okT6uc16043314 N OJ6a16043314) (hsJ6a16043314 N) hxJ6a16043314 rfl heJ6a16043314, trivial⟩)
noncomputable def bdL6a125338 : Code := match codeAt code6 [false, true, false, true, true, false, false, true, true, false, false, true, false, true, true, true] with | some (.loop c) => c | _ => .skip
theorem hsL6a125338 (N : Nat) : ∀ (n : Nat) (lk : Nat → AV) (M : List Blk), LFL6a125338 N (n + 1) (canS sgL6a125338 lk M) = evk CX (T6ul125338 N OL6a125338) bdL6a125338 (2 * 125338) (canS sgL6a125338 lk M) (kont CX 0 [] sgL6a125338 (fun _ => []) xsL6a125338 (LFL6a125338 N n)) := by intro n lk M; kernel_rfl
inductive OJ6a31334 where
  | nx (b0 : List Row)
  | ret (x2 : Bool) (b0 : List Row)
def J6a31334 (N : Nat) : List Row → Int → List Row → Option OJ6a31334 := fun x0 x3 b0 =>
    match L6a125338 N N x0 x3 b0 b0 ((b0.length : Int)) 0 with
    | none => none
    | some (.ret x2v13) =>
      some (.ret x2v13 b0)
    | some (.x2) =>
      some (.nx b0)
def LFJ6a31334 (N : Nat) (s : St) : Option OJ6a31334 := J6a31334 N ((Eng.look s.env 0).rows) ((Eng.look s.env 3).toI) ((s.mem.getD 0 .dead).rows)
def sgJ6a31334 : LSh := ⟨[(0, .one (.cell (.slice 30))), (3, .one (.cell (.int .i64))), (4, .one (.own 0))], [.row 3]⟩
def ceJ6a31334 : List Cv := []
def seJ6a31334 : St → List Nat := fun st => [(Eng.look st.env 4).id]
def xJ6a31334wnx : XSh OJ6a31334 := ⟨[], ⟨[], [.fro 3]⟩, fun st => [0], fun s => .nx ((s.mem.getD 0 .dead).rows)⟩
def xJ6a31334wret : XSh OJ6a31334 := ⟨[], ⟨[(2, .one (.cell (.bool)))], [.fro 3]⟩, fun st => [0], fun s => .ret ((Eng.look s.env 2).toB) ((s.mem.getD 0 .dead).rows)⟩
def xsJ6a31334 : Ex → St → Option (XSh OJ6a31334) := fun e st => match e with
  | .normal => some xJ6a31334wnx
  | .ret => some xJ6a31334wret
  | _ => none
def exJ6a31334 (o : OJ6a31334) : Ex := match o with | .nx b0 => .normal | .ret x2 b0 => .ret
def stJ6a31334 (o : OJ6a31334) : St := match o with | .nx b0 => ⟨[], [.fro 3 b0], [], .unk⟩ | .ret x2 b0 => ⟨[(2, .bool x2)], [.fro 3 b0], [], .unk⟩
def elJ6a31334 {R : Type} (o : OJ6a31334) (k : Ex → St → Option R) : Option R := match o with | .nx b0 => k .normal ⟨[], [.fro 3 b0], [], .unk⟩ | .ret x2 b0 => k .ret ⟨[(2, .bool x2)], [.fro 3 b0], [], .unk⟩
theorem heJ6a31334 {R : Type} (o : OJ6a31334) (k : Ex → St → Option R) : elJ6a31334 o k = k (exJ6a31334 o) (stJ6a31334 o) := by cases o <;> rfl
theorem hxJ6a31334 : ∀ e st x, xsJ6a31334 e st = some x → outOk x e exJ6a31334 stJ6a31334 := by
  intro e st x h
  unfold xsJ6a31334 at h
  repeat' split at h
  all_goals first
    | (injection h with h; subst h; exact fun lk M => ⟨rfl, rfl⟩)
    | cases h
noncomputable def T6uc31334 (N : Nat) (R : Type) : LTab R := mkTab ⟨117, 154742504910671984606576964⟩ (csF6 N R) (noY) [(125338, fun st k => callLoop CX 0 154742504910670335339135300 ceL6a125338 sgL6a125338 seL6a125338 ⟨117, 154742504910671984606576964⟩ (LFL6a125338 N N) elL6a125338 st k)] [] []
theorem okT6uc31334 (N : Nat) (R : Type) : (T6uc31334 N R).Ok CX code6 := mkTab_ok (hcsF6 N R) (noY_ok) (⟨loop_ok hX (path := [false, true, false, true, true, false, false, true, true, false, false, true, false, true, true, true]) (by kernel_rfl) (by rfl) (okT6ul125338 N OL6a125338) (fun _ _ => rfl) (hsL6a125338 N) hxL6a125338 rfl heL6a125338, trivial⟩) (trivial) (trivial)
noncomputable def bdJ6a31334 : Code := (codeAt code6 [false, true, true, false, false, true, true, false, false, true, false, true, true, true]).getD .skip
theorem hsJ6a31334 (N : Nat) : ∀ (lk : Nat → AV) (M : List Blk), LFJ6a31334 N (canS sgJ6a31334 lk M) = evk CX (T6uc31334 N OJ6a31334) bdJ6a31334 31334 (canS sgJ6a31334 lk M) (kontX CX 1 xsJ6a31334) := by intro lk M; kernel_rfl
inductive OL6a125342 where
  | ret (x2 : Bool)
  | x6
def L6a125342 (N : Nat) : Nat → List Row → Int → List Row → List Row → Int → Int → Option OL6a125342
  | 0 => fun _ _ _ _ _ _ => none
  | n + 1 => fun x0 x3 x4 x87 x88 x89 =>
    match decide (x89 < x88) with
    | true =>
      tst (decide ((0 : Int) ≤ x89) && decide (x89 < ((x87.length : Int)))) <|
      match ((((x87.getD x89.toNat [])).getD 5 .top).toI) == x3 with
      | true =>
        match F18 N x4 x89 with
        | none => none
        | some (.r rx0v16) =>
          match !rx0v16 with
          | true =>
            some (.ret false)
          | false =>
            match F14 N x0 x3 ((((x87.getD x89.toNat [])).getD 6 .top).toI) with
            | none => none
            | some (.r rb0v17) =>
              match F18 N rb0v17 x89 with
              | none => none
              | some (.r rx0v18) =>
                match !rx0v18 with
                | true =>
                  some (.ret false)
                | false =>
                  L6a125342 N n x0 x3 x4 x87 x88 (IntKind.wrap .i64 (x89 + (1 : Int)))
      | false =>
        L6a125342 N n x0 x3 x4 x87 x88 (IntKind.wrap .i64 (x89 + (1 : Int)))
    | false =>
      some .x6
def LFL6a125342 (N : Nat) (n : Nat) (s : St) : Option OL6a125342 := L6a125342 N n ((Eng.look s.env 0).rows) ((Eng.look s.env 3).toI) ((Eng.look s.env 4).rows) ((Eng.look s.env 87).rows) ((Eng.look s.env 88).toI) ((Eng.look s.env 89).toI)
def sgL6a125342 : LSh := ⟨[(0, .one (.cell (.slice 30))), (3, .one (.cell (.int .i64))), (4, .one (.cell (.slice 3))), (87, .one (.cell (.slice 30))), (88, .one (.cell (.int .i64))), (89, .one (.cell (.int .i64)))], []⟩
def ceL6a125342 : List Cv := [.frz 4 (.slice 3)]
def seL6a125342 : St → List Nat := fun _ => []
def xL6a125342wret : XSh OL6a125342 := ⟨[], ⟨[(2, .one (.cell (.bool)))], []⟩, fun _ => [], fun s => .ret ((Eng.look s.env 2).toB)⟩
def xL6a125342wx6 : XSh OL6a125342 := ⟨[], ⟨[], []⟩, fun _ => [], fun s => .x6 ⟩
def xsL6a125342 : Ex → St → Option (XSh OL6a125342) := fun e st => match e with
  | .ret => some xL6a125342wret
  | .exit 6 => some xL6a125342wx6
  | _ => none
def exL6a125342 (o : OL6a125342) : Ex := match o with | .ret x2 => .ret | .x6 => (.exit 6)
def stL6a125342 (o : OL6a125342) : St := match o with | .ret x2 => ⟨[(2, .bool x2)], [], [], .unk⟩ | .x6 => ⟨[], [], [], .unk⟩
def elL6a125342 {R : Type} (o : OL6a125342) (k : Ex → St → Option R) : Option R := match o with | .ret x2 => k .ret ⟨[(2, .bool x2)], [], [], .unk⟩ | .x6 => k (.exit 6) ⟨[], [], [], .unk⟩
theorem heL6a125342 {R : Type} (o : OL6a125342) (k : Ex → St → Option R) : elL6a125342 o k = k (exL6a125342 o) (stL6a125342 o) := by cases o <;> rfl
theorem hxL6a125342 : ∀ e st x, xsL6a125342 e st = some x → outOk x e exL6a125342 stL6a125342 := by
  intro e st x h
  unfold xsL6a125342 at h
  repeat' split at h
  all_goals first
    | (injection h with h; subst h; exact fun lk M => ⟨rfl, rfl⟩)
    | cases h
noncomputable def T6ul125342 (N : Nat) (R : Type) : LTab R := mkTab ⟨117, 41538374249308601385553833184200196⟩ (csF6 N R) (noY) [] [] []
theorem okT6ul125342 (N : Nat) (R : Type) : (T6ul125342 N R).Ok CX code6 := mkTab_ok (hcsF6 N R) (noY_ok) (trivial) (trivial) (trivial)
noncomputable def bdL6a125342 : Code := match codeAt code6 [false, true, true, true, true, false, false, true, true, false, false, true, false, true, true, true] with | some (.loop c) => c | _ => .skip
theorem hsL6a125342 (N : Nat) : ∀ (n : Nat) (lk : Nat → AV) (M : List Blk), LFL6a125342 N (n + 1) (canS sgL6a125342 lk M) = evk CX (T6ul125342 N OL6a125342) bdL6a125342 (2 * 125342) (canS sgL6a125342 lk M) (kont CX 0 [] sgL6a125342 (fun _ => []) xsL6a125342 (LFL6a125342 N n)) := by intro n lk M; kernel_rfl
inductive OL6a122 where
  | ret (x2 : Bool)
  | x0
def L6a122 (N : Nat) : Nat → List Row → Int → Int → Option OL6a122
  | 0 => fun _ _ _ => none
  | n + 1 => fun x0 x32 x33 =>
    match decide (x33 < x32) with
    | true =>
      match F15 N x0 x33 with
      | none => none
      | some (.r rb0v5) =>
        match J6a31334 N x0 x33 rb0v5 with
        | none => none
        | some (.nx b0v15) =>
          match L6a125342 N N x0 x33 b0v15 x0 ((x0.length : Int)) 0 with
          | none => none
          | some (.ret x2v19) =>
            some (.ret x2v19)
          | some (.x6) =>
            L6a122 N n x0 x32 (IntKind.wrap .i64 (x33 + (1 : Int)))
        | some (.ret x2v21 b0v21) =>
          some (.ret x2v21)
    | false =>
      some .x0
def LFL6a122 (N : Nat) (n : Nat) (s : St) : Option OL6a122 := L6a122 N n ((Eng.look s.env 0).rows) ((Eng.look s.env 32).toI) ((Eng.look s.env 33).toI)
def sgL6a122 : LSh := ⟨[(0, .one (.cell (.slice 30))), (32, .one (.cell (.int .i64))), (33, .one (.cell (.int .i64)))], []⟩
def ceL6a122 : List Cv := []
def seL6a122 : St → List Nat := fun _ => []
def xL6a122wret : XSh OL6a122 := ⟨[], ⟨[(2, .one (.cell (.bool)))], []⟩, fun _ => [], fun s => .ret ((Eng.look s.env 2).toB)⟩
def xL6a122wx0 : XSh OL6a122 := ⟨[], ⟨[], []⟩, fun _ => [], fun s => .x0 ⟩
def xsL6a122 : Ex → St → Option (XSh OL6a122) := fun e st => match e with
  | .ret => some xL6a122wret
  | .exit 0 => some xL6a122wx0
  | _ => none
def exL6a122 (o : OL6a122) : Ex := match o with | .ret x2 => .ret | .x0 => (.exit 0)
def stL6a122 (o : OL6a122) : St := match o with | .ret x2 => ⟨[(2, .bool x2)], [], [], .unk⟩ | .x0 => ⟨[], [], [], .unk⟩
def elL6a122 {R : Type} (o : OL6a122) (k : Ex → St → Option R) : Option R := match o with | .ret x2 => k .ret ⟨[(2, .bool x2)], [], [], .unk⟩ | .x0 => k (.exit 0) ⟨[], [], [], .unk⟩
theorem heL6a122 {R : Type} (o : OL6a122) (k : Ex → St → Option R) : elL6a122 o k = k (exL6a122 o) (stL6a122 o) := by cases o <;> rfl
theorem hxL6a122 : ∀ e st x, xsL6a122 e st = some x → outOk x e exL6a122 stL6a122 := by
  intro e st x h
  unfold xsL6a122 at h
  repeat' split at h
  all_goals first
    | (injection h with h; subst h; exact fun lk M => ⟨rfl, rfl⟩)
    | cases h
noncomputable def T6ul122 (N : Nat) (R : Type) : LTab R := mkTab ⟨117, 83076749736557242056487932677588828⟩ (csF6 N R) (noY) [(125342, fun st k => callLoop CX 0 41538374249308601385553833184200196 ceL6a125342 sgL6a125342 seL6a125342 ⟨117, 83076749736557242056487932677588828⟩ (LFL6a125342 N N) elL6a125342 st k)] [] [(31334, fun st k => callLoop CX 1 154742504910671984606576964 ceJ6a31334 sgJ6a31334 seJ6a31334 ⟨117, 83076749736557242056487932677588828⟩ (LFJ6a31334 N) elJ6a31334 st k)]
theorem okT6ul122 (N : Nat) (R : Type) : (T6ul122 N R).Ok CX code6 := mkTab_ok (hcsF6 N R) (noY_ok) (⟨loop_ok hX (path := [false, true, true, true, true, false, false, true, true, false, false, true, false, true, true, true]) (by kernel_rfl) (by rfl) (okT6ul125342 N OL6a125342) (fun _ _ => rfl) (hsL6a125342 N) hxL6a125342 rfl heL6a125342, trivial⟩) (trivial) (⟨cut_ok hX (path := [false, true, true, false, false, true, true, false, false, true, false, true, true, true]) (by kernel_rfl) (by rfl) (okT6uc31334 N OJ6a31334) (hsJ6a31334 N) hxJ6a31334 rfl heJ6a31334, trivial⟩)
noncomputable def bdL6a122 : Code := match codeAt code6 [false, true, false, true, true, true] with | some (.loop c) => c | _ => .skip
theorem hsL6a122 (N : Nat) : ∀ (n : Nat) (lk : Nat → AV) (M : List Blk), LFL6a122 N (n + 1) (canS sgL6a122 lk M) = evk CX (T6ul122 N OL6a122) bdL6a122 (2 * 122) (canS sgL6a122 lk M) (kont CX 0 [] sgL6a122 (fun _ => []) xsL6a122 (LFL6a122 N n)) := by intro n lk M; kernel_rfl
noncomputable def T6ur1 (N : Nat) (R : Type) : LTab R := mkTab ⟨117, 166153499473114484112975882535043071⟩ (csF6 N R) (noY) [(122, fun st k => callLoop CX 0 83076749736557242056487932677588828 ceL6a122 sgL6a122 seL6a122 ⟨117, 166153499473114484112975882535043071⟩ (LFL6a122 N N) elL6a122 st k)] [] []
theorem okT6ur1 (N : Nat) (R : Type) : (T6ur1 N R).Ok CX code6 := mkTab_ok (hcsF6 N R) (noY_ok) (⟨loop_ok hX (path := [false, true, false, true, true, true]) (by kernel_rfl) (by rfl) (okT6ul122 N OL6a122) (fun _ _ => rfl) (hsL6a122 N) hxL6a122 rfl heL6a122, trivial⟩) (trivial) (trivial)
def rsF6 : List ResultVar := [.tmp 2]
def F6 : Nat → TF6
  | 0 => fun _ => none
  | N + 1 => fun x0 =>
    tst (decide ((0 : Int) ≤ (Eng.imin ((x0.length : Int)) 32)) && decide ((Eng.imin ((x0.length : Int)) 32) ≤ ((x0.length : Int))) && decide ((x0.length : Int) ≤ ((x0.length : Int)))) <|
    match F19 N (x0.take ((Eng.imin ((x0.length : Int)) 32).toNat)) with
    | none => none
    | some (.r rx0v1) =>
      match !rx0v1 with
      | true =>
        match F16 N (x0.take ((Eng.imin ((x0.length : Int)) 32).toNat)) with
        | none => none
        | some (.r rx0v2) =>
          match !rx0v2 with
          | true =>
            match F15 N (x0.take ((Eng.imin ((x0.length : Int)) 32).toNat)) 0 with
            | none => none
            | some (.r rb0v3) =>
              match ((rb0v3.length : Int)) == (0 : Int) with
              | true =>
                match F13 N  with
                | none => none
                | some (.r rx0v4) =>
                  some (.r rx0v4)
              | false =>
                some (.r false)
          | false =>
            some (.r false)
      | false =>
        match L6a122 N N (x0.take ((Eng.imin ((x0.length : Int)) 32).toNat)) (((x0.take ((Eng.imin ((x0.length : Int)) 32).toNat)).length : Int)) 0 with
        | none => none
        | some (.ret x2v22) =>
          some (.r x2v22)
        | some (.x0) =>
          match F13 N  with
          | none => none
          | some (.r rx0v24) =>
            some (.r rx0v24)
def xRF6 : XSh R6 := ⟨[], ⟨[(0, .one (.cell (.bool)))], []⟩, fun _ => [], fun s => .r ((Eng.look s.env 0).toB)⟩
theorem fsF6 : ∀ (N : Nat) (lk : Nat → AV) (M : List Blk), FFF6 (F6 (N + 1)) (canS sgF6 lk M) = evfn CX (T6ur1 N R6) code6 rsF6 (argsE 1 (canS sgF6 lk M).env) (canS sgF6 lk M).mem (goR CX 0 (fun _ => some xRF6)) := by intro N lk M; kernel_rfl
theorem soundF6 : ∀ N, RecOkF6 (F6 N)
  | 0, lk, M, o, h => by cases h
  | N + 1, lk, M, o, h => fn_sound hX (okT6ur1 N R6) Try.func6 hb6 rfl en6 (by kernel_rfl) (ys := fun _ => some xRF6) (fun st y h => by injection h with h; subst h; exact fun lk M => ⟨rfl, rfl⟩) ((fsF6 N lk M).symm.trans h)
end Go.Proofs.Ytfggehkiglenjaa

namespace Go.Proofs.Ytfggehkiglenjaa
open Go Go.Eng

/-- Cell c of row i, as a truth value, as a number. -/
def cB (l : List Row) (i : Int) (c : Nat) : Bool := ((l.getD i.toNat []).getD c .top).toB
def cI (l : List Row) (i : Int) (c : Nat) : Int := ((l.getD i.toNat []).getD c .top).toI

theorem wrap_id {n : Int} (h0 : -9223372036854775808 ≤ n) (h1 : n ≤ 9223372036854775807) : IntKind.wrap .i64 n = n := by
  simp [IntKind.wrap, IntKind.bits, IntKind.signed]
  split <;> omega

def badA (i o s : Int) : Bool := (i == 0) && (o != -1 || s != -1)
def badB (i o s : Int) : Bool := decide (0 < i) && (decide (o < 0) || (decide (i ≤ o) || decide (s < 0)))
def badC (b0 b1 b2 b3 b4 : Bool) (a : Int) : Bool := !b0 && (b1 || b2) || (!(b0 && !b1) && (b3 || (b4 || a != -1)) || (decide (a < -1) || b3 && a != -1))
def lv (l : List Row) (i : Int) : Bool := cB l i 0 && !cB l i 1
/-- Row i is right. -/
def okAt (l : List Row) (i : Int) : Bool :=
  !badA i (cI l i 5) (cI l i 6) && (!badB i (cI l i 5) (cI l i 6) && (!badC (cB l i 0) (cB l i 1) (cB l i 2) (cB l i 3) (cB l i 4) (cI l i 7) && !(decide (0 < i) && (lv l i && !lv l (cI l i 5)))))

theorem J16a (N : Nat) (b0 b1 b2 b3 b4 : Bool) (o s a : Int) : J16a7474 N b0 b1 b2 b3 b4 o s a = some (.nx (b0 && !b1) b0 b1 b2 b3 b4 o s a) := by cases b0 <;> rfl
theorem J16b (N : Nat) (i : Int) (b0 b1 b2 b3 b4 : Bool) (o s a : Int) : J16a29900 N i b0 b1 b2 b3 b4 o s a = some (.nx (badA i o s) b0 b1 b2 b3 b4 o s a) := by
  unfold J16a29900 badA
  cases (i == 0) <;> cases (o != -1) <;> rfl
theorem J16c (N : Nat) (i : Int) (b0 b1 b2 b3 b4 : Bool) (o s a : Int) : J16a119606 N i b0 b1 b2 b3 b4 o s a = some (.nx (badB i o s) b0 b1 b2 b3 b4 o s a) := by
  unfold J16a119606 badB
  cases decide (0 < i) <;> cases decide (o < 0) <;> cases decide (i ≤ o) <;> rfl
theorem J16e (N : Nat) (b0 b1 b2 b3 b4 : Bool) (o s a : Int) : J16a956860 N b0 b1 b2 b3 b4 o s a = some (.nx (!b0 && (b1 || b2)) b0 b1 b2 b3 b4 o s a) := by cases b0 <;> cases b1 <;> rfl
theorem J16f (N : Nat) (x b0 b1 b2 b3 b4 : Bool) (o s a : Int) : J16a3827446 N x b0 b1 b2 b3 b4 o s a = some (.nx (!x && (b3 || (b4 || a != -1))) b0 b1 b2 b3 b4 o s a) := by cases x <;> cases b3 <;> cases b4 <;> rfl
theorem J16d (N : Nat) (b0 b1 b2 b3 b4 : Bool) (o s a : Int) : J16a478430 N (b0 && !b1) b0 b1 b2 b3 b4 o s a = some (.nx (badC b0 b1 b2 b3 b4 a) b0 b1 b2 b3 b4 o s a) := by
  unfold J16a478430 badC
  simp only [J16e, J16f]
  cases (!b0 && (b1 || b2)) with
  | true => rfl
  | false =>
    cases (!(b0 && !b1) && (b3 || (b4 || a != -1))) with
    | true => rfl
    | false => cases decide (a < -1) <;> cases b3 <;> rfl

theorem L16_step (N n : Nat) (l : List Row) (i : Int) (h0 : 0 ≤ i) (h1 : i < l.length) : L16a58 N (n + 1) l l l.length i = match okAt l i with | true => L16a58 N n l l l.length (IntKind.wrap .i64 (i + 1)) | false => some (.ret false) := by
  have e0 : decide (i < (l.length : Int)) = true := by simpa using h1
  have e1 : decide (0 ≤ i) = true := by simpa using h0
  show (match decide (i < (l.length : Int)) with | true => _ | false => _) = _
  simp only [e0, e1, J16a, J16b, J16c, J16d, Bool.and_self, tst]
  unfold okAt
  simp only [← cB.eq_1, ← cI.eq_1, ← lv.eq_1]
  cases hA : badA i (cI l i 5) (cI l i 6) with
  | true => rfl
  | false =>
    cases hB : badB i (cI l i 5) (cI l i 6) with
    | true => rfl
    | false =>
      cases hC : badC (cB l i 0) (cB l i 1) (cB l i 2) (cB l i 3) (cB l i 4) (cI l i 7) with
      | true => rfl
      | false =>
        cases hd : decide (0 < i) with
        | false => rfl
        | true =>
          cases hl : lv l i with
          | false => rfl
          | true =>
            unfold badB at hB
            rw [hd] at hB
            have hi : 0 < i := by simpa using hd
            simp only [Bool.true_and, Bool.or_eq_false_iff, decide_eq_false_iff_not] at hB
            have e2 : decide (0 ≤ cI l i 5) = true := by simp; omega
            have e3 : decide (cI l i 5 < (l.length : Int)) = true := by simp; omega
            simp only [e2, e3, Bool.and_self, lv]
            cases cB l (cI l i 5) 0 with
            | false => rfl
            | true => cases cB l (cI l i 5) 1 <;> rfl

def okFrom (l : List Row) (i : Nat) : Nat → Bool
  | 0 => true
  | k + 1 => okAt l i && okFrom l (i + 1) k
/-- The rows are those of tasks with their masters. -/
def may (l : List Row) : Bool := decide (l.length ≤ 32) && okFrom l 0 l.length

theorem wrap_succ {i : Nat} (h : i ≤ 1000000) : IntKind.wrap .i64 ((i : Int) + 1) = ((i + 1 : Nat) : Int) := by
  rw [wrap_id (by omega) (by omega)]; omega

theorem L16_all (N : Nat) (l : List Row) (hl : l.length ≤ 1000) : ∀ (k n i : Nat), i + k = l.length → k < n → L16a58 N n l l l.length i = match okFrom l i k with | true => some .x0 | false => some (.ret false)
  | 0, n + 1, i, h, _ => by
    have e : decide ((i : Int) < (l.length : Int)) = false := by simp; omega
    show (match decide ((i : Int) < (l.length : Int)) with | true => _ | false => _) = _
    rw [e]; rfl
  | k + 1, n + 1, i, h, hn => by
    rw [L16_step N n l i (by omega) (by omega)]
    cases ho : okAt l i with
    | false => simp only [okFrom, ho, Bool.false_and]
    | true =>
      simp only [okFrom, ho, Bool.true_and]
      rw [wrap_succ (by omega)]
      exact L16_all N l hl k n (i + 1) (by omega) (by omega)
  | _, 0, _, _, h => by omega

theorem F16_eq {N : Nat} (hN : 40 ≤ N) (l : List Row) : F16 N l = some (.r (may l)) := by
  obtain ⟨M, rfl⟩ : ∃ M, N = M + 1 := ⟨N - 1, by omega⟩
  show (match decide ((32 : Int) < (l.length : Int)) with | true => _ | false => _) = _
  unfold may
  by_cases h : l.length ≤ 32
  · have e : decide ((32 : Int) < (l.length : Int)) = false := by simp; omega
    rw [e]
    simp only
    have := L16_all M l (by omega) l.length M 0 (by omega) (by omega)
    rw [show (0 : Int) = ((0 : Nat) : Int) from rfl, this]
    simp only [h, decide_true, Bool.true_and]
    cases okFrom l 0 l.length <;> rfl
  · have e : decide ((32 : Int) < (l.length : Int)) = true := by simp; omega
    rw [e]
    simp [h]

theorem F30_eq (N : Nat) (b0 b1 b2 b3 b4 : Bool) (o s a : Int) : F30 (N + 1) b0 b1 b2 b3 b4 o s a = some (.r (b0 && !b1)) := by cases b0 <;> rfl
theorem J19a_eq (N : Nat) (i : Int) (b0 b1 b2 b3 b4 : Bool) (o s a : Int) : J19a3730 N i b0 b1 b2 b3 b4 o s a = match badA i o s || badB i o s with | true => some (.ret false b0 b1 b2 b3 b4 o s a) | false => some (.nx b0 b1 b2 b3 b4 o s a) := by
  unfold J19a3730 badA badB
  cases (i == 0) <;> cases (o != -1) <;> cases (s != -1) <;> cases decide (0 < i) <;> cases decide (o < 0) <;> cases decide (i ≤ o) <;> cases decide (s < 0) <;> rfl
theorem J19b_eq (N : Nat) (b0 b1 b2 b3 b4 : Bool) (o s a : Int) : J19a7462 (N + 1) b0 b1 b2 b3 b4 o s a = match badC b0 b1 b2 b3 b4 a with | true => some (.ret false b0 b1 b2 b3 b4 o s a) | false => some (.nx b0 b1 b2 b3 b4 o s a) := by
  unfold J19a7462 badC
  simp only [F30_eq]
  cases b0 <;> cases b1 <;> cases b2 <;> cases b3 <;> cases b4 <;> cases (a != -1) <;> cases decide (a < -1) <;> rfl

theorem L19_step (N n : Nat) (l : List Row) (i : Int) (h0 : 0 ≤ i) (h1 : i < l.length) : L19a58 (N + 1) (n + 1) l i = match okAt l i with | true => L19a58 (N + 1) n l (IntKind.wrap .i64 (i + 1)) | false => some (.ret false) := by
  have e0 : decide (i < (l.length : Int)) = true := by simpa using h1
  have e1 : decide (0 ≤ i) = true := by simpa using h0
  show (match decide (i < (l.length : Int)) with | true => _ | false => _) = _
  simp only [e0, e1, J19a_eq, Bool.and_self, tst]
  unfold okAt
  simp only [← cB.eq_1, ← cI.eq_1, ← lv.eq_1]
  cases hA : badA i (cI l i 5) (cI l i 6) with
  | true => rfl
  | false =>
    cases hB : badB i (cI l i 5) (cI l i 6) with
    | true => rfl
    | false =>
      simp only [Bool.or_self, J19b_eq]
      cases hC : badC (cB l i 0) (cB l i 1) (cB l i 2) (cB l i 3) (cB l i 4) (cI l i 7) with
      | true => rfl
      | false =>
        cases hd : decide (0 < i) with
        | false => rfl
        | true =>
          simp only [F30_eq, ← lv.eq_1]
          cases hl : lv l i with
          | false => rfl
          | true =>
            unfold badB at hB
            rw [hd] at hB
            have hi : 0 < i := by simpa using hd
            simp only [Bool.true_and, Bool.or_eq_false_iff, decide_eq_false_iff_not] at hB
            have e2 : decide (0 ≤ cI l i 5) = true := by simp; omega
            have e3 : decide (cI l i 5 < (l.length : Int)) = true := by simp; omega
            simp only [e2, e3, Bool.and_self]
            cases lv l (cI l i 5) <;> rfl

theorem L19_all (N : Nat) (l : List Row) (hl : l.length ≤ 1000) : ∀ (k n i : Nat), i + k = l.length → k < n → L19a58 (N + 1) n l i = match okFrom l i k with | true => some .x0 | false => some (.ret false)
  | 0, n + 1, i, h, _ => by
    have e : decide ((i : Int) < (l.length : Int)) = false := by simp; omega
    show (match decide ((i : Int) < (l.length : Int)) with | true => _ | false => _) = _
    rw [e]; rfl
  | k + 1, n + 1, i, h, hn => by
    rw [L19_step N n l i (by omega) (by omega)]
    cases ho : okAt l i with
    | false => simp only [okFrom, ho, Bool.false_and]
    | true =>
      simp only [okFrom, ho, Bool.true_and]
      rw [wrap_succ (by omega)]
      exact L19_all N l hl k n (i + 1) (by omega) (by omega)
  | _, 0, _, _, h => by omega

theorem F19_eq {N : Nat} (hN : 40 ≤ N) (l : List Row) : F19 N l = some (.r (may l)) := by
  obtain ⟨M, rfl⟩ : ∃ M, N = M + 2 := ⟨N - 2, by omega⟩
  show (match decide ((32 : Int) < (l.length : Int)) with | true => _ | false => _) = _
  unfold may
  by_cases h : l.length ≤ 32
  · have e : decide ((32 : Int) < (l.length : Int)) = false := by simp; omega
    rw [e]
    simp only
    have := L19_all M l (by omega) l.length (M + 1) 0 (by omega) (by omega)
    rw [show (0 : Int) = ((0 : Nat) : Int) from rfl, this]
    simp only [h, decide_true, Bool.true_and]
    cases okFrom l 0 l.length <;> rfl
  · have e : decide ((32 : Int) < (l.length : Int)) = true := by simp; omega
    rw [e]
    simp [h]

/-- What holds of right rows. -/
theorem okFrom_get {l : List Row} : ∀ {k i : Nat}, okFrom l i k = true → ∀ j, i ≤ j → j < i + k → okAt l j = true
  | 0, i, _, j, h1, h2 => by omega
  | k + 1, i, h, j, h1, h2 => by
    simp only [okFrom, Bool.and_eq_true] at h
    by_cases e : j = i
    · subst e; exact h.1
    · exact okFrom_get h.2 j (by omega) (by omega)
theorem may_ok {l : List Row} (h : may l = true) : l.length ≤ 32 ∧ ∀ j : Nat, j < l.length → okAt l j = true := by
  simp only [may, Bool.and_eq_true, decide_eq_true_eq] at h
  exact ⟨h.1, fun j hj => okFrom_get h.2 j (by omega) (by omega)⟩
theorem may_own {l : List Row} (h : may l = true) {j : Nat} (hj : j < l.length) : (j = 0 → cI l j 5 = -1 ∧ cI l j 6 = -1) ∧ (0 < j → 0 ≤ cI l j 5 ∧ cI l j 5 < j ∧ 0 ≤ cI l j 6) := by
  have := (may_ok h).2 j hj
  simp only [okAt, badA, badB, Bool.and_eq_true, Bool.not_eq_true'] at this
  refine ⟨fun e => ?_, fun e => ?_⟩
  · subst e; have h1 := this.1; simp at h1; exact h1
  · have h2 := this.2.1; simp at h2; omega

end Go.Proofs.Ytfggehkiglenjaa

namespace Go.Proofs.Ytfggehkiglenjaa
open Go Go.Eng

/-! ### Lists of numbers, arrays of truth values -/
def rowsN (xs : List Nat) : List Row := xs.map fun (i : Nat) => [AV.int .i64 (i : Int)]
theorem rowsN_length (xs : List Nat) : (rowsN xs).length = xs.length := by simp [rowsN]
theorem rowsN_append (xs : List Nat) (i : Nat) : rowsN xs ++ [[AV.int .i64 (i : Int)]] = rowsN (xs ++ [i]) := by simp [rowsN]
theorem rowsN_get {xs : List Nat} {i : Nat} (h : i < xs.length) : (((rowsN xs).getD i []).getD 0 .top).toI = (xs[i] : Int) := by
  simp [rowsN, List.getD, List.getElem?_map, List.getElem?_eq_getElem h, AV.toI]

def flt (m : Nat → Bool) : Nat → Nat → List Nat
  | _, 0 => []
  | i, k + 1 => match m i with | true => i :: flt m (i + 1) k | false => flt m (i + 1) k
theorem mem_flt {m : Nat → Bool} : ∀ {k i j : Nat}, j ∈ flt m i k ↔ i ≤ j ∧ j < i + k ∧ m j = true
  | 0, i, j => by simp [flt]; omega
  | k + 1, i, j => by
    simp only [flt]
    cases h : m i with
    | true =>
      simp only [List.mem_cons, mem_flt]
      constructor
      · rintro (rfl | ⟨h1, h2, h3⟩)
        · exact ⟨Nat.le_refl _, by omega, h⟩
        · exact ⟨by omega, by omega, h3⟩
      · rintro ⟨h1, h2, h3⟩
        by_cases e : j = i
        · exact .inl e
        · exact .inr ⟨by omega, by omega, h3⟩
    | false =>
      simp only [mem_flt]
      constructor
      · rintro ⟨h1, h2, h3⟩; exact ⟨by omega, by omega, h3⟩
      · rintro ⟨h1, h2, h3⟩
        refine ⟨?_, by omega, h3⟩
        by_cases e : j = i
        · subst e; rw [h] at h3; cases h3
        · omega
theorem flt_length (m : Nat → Bool) : ∀ (k i : Nat), (flt m i k).length ≤ k
  | 0, _ => by simp [flt]
  | k + 1, i => by
    simp only [flt]
    have := flt_length m k (i + 1)
    cases m i <;> simp <;> omega
theorem flt_congr {m m' : Nat → Bool} : ∀ {k i : Nat}, (∀ j, i ≤ j → j < i + k → m j = m' j) → flt m i k = flt m' i k
  | 0, _, _ => rfl
  | k + 1, i, h => by
    simp only [flt]
    rw [h i (Nat.le_refl _) (by omega), flt_congr (k := k) (i := i + 1) fun j h1 h2 => h j (by omega) (by omega)]

def arr (m : Nat → Bool) : List AV := [.bool (m 0), .bool (m 1), .bool (m 2), .bool (m 3), .bool (m 4), .bool (m 5), .bool (m 6), .bool (m 7), .bool (m 8), .bool (m 9), .bool (m 10), .bool (m 11), .bool (m 12), .bool (m 13), .bool (m 14), .bool (m 15), .bool (m 16), .bool (m 17), .bool (m 18), .bool (m 19), .bool (m 20), .bool (m 21), .bool (m 22), .bool (m 23), .bool (m 24), .bool (m 25), .bool (m 26), .bool (m 27), .bool (m 28), .bool (m 29), .bool (m 30), .bool (m 31)]
theorem arr_eq (m : Nat → Bool) : arr m = (List.range 32).map fun i => AV.bool (m i) := rfl
theorem arr_get (m : Nat → Bool) {i : Nat} (h : i < 32) : ((arr m).getD (0 + i * 1) .top).toB = m i := by
  rw [arr_eq, Nat.zero_add, Nat.mul_one]
  simp [List.getD, List.getElem?_map, List.getElem?_range h, AV.toB]
def upd (m : Nat → Bool) (i : Nat) (j : Nat) : Bool := m j || j == i
theorem arr_set (m : Nat → Bool) {i : Nat} (h : i < 32) : Eng.setAt (arr m) (0 + i * 1) [AV.bool true] = arr (upd m i) := by
  rw [arr_eq, arr_eq, Nat.zero_add, Nat.mul_one]
  simp only [Eng.setAt]
  apply List.ext_getElem (by simp)
  intro j h1 h2
  simp only [List.length_set, List.length_map, List.length_range] at h1
  simp only [List.getElem_set, List.getElem_map, List.getElem_range, upd]
  by_cases e : i = j
  · subst e; simp
  · have : (j == i) = false := by simp; omega
    simp [e, this]
theorem arr_congr {m m' : Nat → Bool} (h : ∀ j, m j = m' j) : arr m = arr m' := by rw [show m = m' from funext h]

/-! ### In -/
theorem L18_all (N : Nat) (xs : List Nat) (hx : xs.length ≤ 1000) (v : Int) : ∀ (k n i : Nat), i + k = xs.length → k < n → L18a26 N n (rowsN xs) v i = match (xs.drop i).any (fun x => (x : Int) == v) with | true => some (.ret true) | false => some .x0
  | 0, n + 1, i, h, _ => by
    have e : decide ((i : Int) < ((rowsN xs).length : Int)) = false := by rw [rowsN_length]; simp; omega
    show (match decide ((i : Int) < ((rowsN xs).length : Int)) with | true => _ | false => _) = _
    rw [e, List.drop_eq_nil_of_le (by omega)]; rfl
  | k + 1, n + 1, i, h, hn => by
    have hi : i < xs.length := by omega
    have e : decide ((i : Int) < ((rowsN xs).length : Int)) = true := by rw [rowsN_length]; simp; omega
    have e1 : decide ((0 : Int) ≤ (i : Int)) = true := by simp
    show (match decide ((i : Int) < ((rowsN xs).length : Int)) with | true => _ | false => _) = _
    simp only [e, e1, Bool.and_self, tst, Int.toNat_natCast, rowsN_get hi]
    rw [List.drop_eq_getElem_cons hi, List.any_cons]
    cases hq : ((xs[i] : Int) == v) with
    | true => rfl
    | false =>
      simp only [Bool.false_or]
      rw [wrap_succ (by omega)]
      exact L18_all N xs hx v k n (i + 1) (by omega) (by omega)
  | _, 0, _, _, h => by omega
theorem F18_eq {N : Nat} (hN : 50 ≤ N) {xs : List Nat} (hx : xs.length ≤ 45) (v : Int) : F18 N (rowsN xs) v = some (.r (xs.any fun x => (x : Int) == v)) := by
  obtain ⟨M, rfl⟩ : ∃ M, N = M + 1 := ⟨N - 1, by omega⟩
  show (match L18a26 M M (rowsN xs) v 0 with | none => (none : Option R18) | some (.ret x) => some (.r x) | some (.x0) => some (.r false)) = _
  rw [show (0 : Int) = ((0 : Nat) : Int) from rfl, L18_all M xs (by omega) v xs.length M 0 (by omega) (by omega), List.drop_zero]
  cases xs.any fun x => (x : Int) == v <;> rfl

/-! ### Of -/
def isOf (l : List Row) (t s : Int) (i : Nat) : Bool := decide (0 < i) && (cI l i 5 == t && cI l i 6 == s)
theorem L14_all (N : Nat) (l : List Row) (hl : l.length ≤ 32) (t s : Int) (hs : 0 ≤ s) : ∀ (k n i : Nat) (acc : List Nat), i + k = l.length → k < n → acc.length ≤ i → L14i58f31a6 N n l l.length i t s (rowsN acc) = some (.x0 t s (rowsN (acc ++ flt (isOf l t s) i k)))
  | 0, n + 1, i, acc, h, _, _ => by
    have e : decide ((i : Int) < (l.length : Int)) = false := by simp; omega
    show (match decide ((i : Int) < (l.length : Int)) with | true => _ | false => _) = _
    rw [e]; simp [flt]
  | k + 1, n + 1, i, acc, h, hn, ha => by
    have e : decide ((i : Int) < (l.length : Int)) = true := by simp; omega
    have e1 : decide ((0 : Int) ≤ (i : Int)) = true := by simp
    have e2 : decide (s < 0) = false := by simp; omega
    show (match decide ((i : Int) < (l.length : Int)) with | true => _ | false => _) = _
    simp only [e, e1, e2, Bool.and_self, tst, ← cI.eq_1]
    rw [wrap_succ (by omega)]
    have ih := L14_all N l hl t s hs k n (i + 1)
    have e4 : decide (((rowsN acc).length + 1) * 8 ≤ 140737488355328) = true := by rw [rowsN_length]; simp; omega
    have e5 : decide ((0 : Int) < (i : Int)) = decide (0 < i) := by simp
    rw [e5]
    unfold flt
    have hof : isOf l t s i = (decide (0 < i) && (cI l i 5 == t && cI l i 6 == s)) := rfl
    rw [hof]
    cases decide (0 < i) with
    | false => simp only [Bool.false_and]; exact ih acc (by omega) (by omega) (by omega)
    | true =>
      cases cI l i 5 == t with
      | false => simp only [Bool.false_and, Bool.and_false]; exact ih acc (by omega) (by omega) (by omega)
      | true =>
        cases cI l i 6 == s with
        | false => simp only [Bool.and_false]; exact ih acc (by omega) (by omega) (by omega)
        | true =>
          simp only [Bool.and_self, e4, rowsN_append]
          rw [ih (acc ++ [i]) (by omega) (by omega) (by simp; omega)]
          simp
  | _, 0, _, _, _, h, _ => by omega
theorem F14_eq {N : Nat} (hN : 50 ≤ N) {l : List Row} (h : may l = true) (t s : Int) (hs : 0 ≤ s) : F14 N l t s = some (.r (rowsN (flt (isOf l t s) 0 l.length))) := by
  obtain ⟨M, rfl⟩ : ∃ M, N = M + 1 := ⟨N - 1, by omega⟩
  have hl := (may_ok h).1
  obtain ⟨K, rfl⟩ : ∃ K, M = K + 1 := ⟨M - 1, by omega⟩
  have e2 : decide (s < 0) = false := by simp; omega
  show (match F16 (K + 1) l with | none => none | some (.r x) => _) = _
  rw [F16_eq (by omega), h]
  simp only [Bool.not_true, e2]
  show (match L14i58f31a6 (K + 1) (K + 1) l l.length 0 t s (rowsN []) with | none => (none : Option R14) | some (.x0 _ _ b) => some (.r b)) = _
  rw [show (0 : Int) = ((0 : Nat) : Int) from rfl, L14_all (K + 1) l hl t s hs l.length (K + 1) 0 [] (by omega) (by omega) (by simp)]
  simp

/-! ### Dependence -/
def depF (l : List Row) (t : Int) : Nat → Nat → Bool
  | 0, _ => false
  | k + 1, j => decide (0 < j) && (cI l j 5 == t || depF l t k (cI l j 5).toNat)
/-- Task j depends on task t. -/
def dep (l : List Row) (t : Int) (j : Nat) : Bool := depF l t (j + 1) j
theorem depF_more {l : List Row} (h : may l = true) (t : Int) : ∀ (k k' j : Nat), j < l.length → j < k → j < k' → depF l t k j = depF l t k' j
  | 0, _, j, _, h1, _ => by omega
  | k + 1, 0, j, _, _, h2 => by omega
  | k + 1, k' + 1, j, hj, h1, h2 => by
    simp only [depF]
    by_cases h0 : 0 < j
    · have := (may_own h hj).2 h0
      rw [depF_more h t k k' (cI l j 5).toNat (by omega) (by omega) (by omega)]
    · simp [h0]
theorem dep_eq {l : List Row} (h : may l = true) (t : Int) {j : Nat} (hj : j < l.length) : dep l t j = (decide (0 < j) && (cI l j 5 == t || dep l t (cI l j 5).toNat)) := by
  show depF l t (j + 1) j = _
  rw [depF]
  show _ = (decide (0 < j) && (cI l j 5 == t || depF l t ((cI l j 5).toNat + 1) (cI l j 5).toNat))
  by_cases h0 : 0 < j
  · have := (may_own h hj).2 h0
    rw [depF_more h t j ((cI l j 5).toNat + 1) (cI l j 5).toNat (by omega) (by omega) (by omega)]
  · simp [h0]
theorem dep_iff {l : List Row} (h : may l = true) (t : Int) {j : Nat} (hj : j < l.length) : dep l t j = true ↔ 0 < j ∧ (cI l j 5 = t ∨ dep l t (cI l j 5).toNat = true) := by
  rw [dep_eq h t hj]; simp
theorem dep_gt {l : List Row} (h : may l = true) (t : Int) : ∀ {j : Nat}, j < l.length → dep l t j = true → 0 ≤ t ∧ t < j := by
  intro j
  induction j using Nat.strongRecOn with
  | _ j ih =>
    intro hj hd
    obtain ⟨h0, h1⟩ := (dep_iff h t hj).1 hd
    have hw := (may_own h hj).2 h0
    rcases h1 with h1 | h1
    · omega
    · have := ih (cI l j 5).toNat (by omega) (by omega) h1
      omega
theorem dep_trans {l : List Row} (h : may l = true) (t : Int) (u : Nat) (hu : u < l.length) (hd : dep l t u = true) : ∀ {j : Nat}, j < l.length → dep l u j = true → dep l t j = true := by
  intro j
  induction j using Nat.strongRecOn with
  | _ j ih =>
    intro hj hj'
    obtain ⟨h0, h1⟩ := (dep_iff h _ hj).1 hj'
    have hw := (may_own h hj).2 h0
    refine (dep_iff h t hj).2 ⟨h0, .inr ?_⟩
    rcases h1 with h1 | h1
    · rw [h1]; simpa using hd
    · exact ih (cI l j 5).toNat (by omega) (by omega) h1
/-- The first step on the way down. -/
theorem dep_top {l : List Row} (h : may l = true) (t : Int) : ∀ {j : Nat}, j < l.length → (dep l t j = true ↔ ∃ c : Nat, 0 < c ∧ c < l.length ∧ cI l c 5 = t ∧ (j = c ∨ dep l c j = true)) := by
  intro j
  induction j using Nat.strongRecOn with
  | _ j ih =>
    intro hj
    rw [dep_iff h t hj]
    constructor
    · rintro ⟨h0, h1⟩
      have hw := (may_own h hj).2 h0
      rcases h1 with h1 | h1
      · exact ⟨j, h0, hj, h1, .inl rfl⟩
      · obtain ⟨c, c1, c2, c3, c4⟩ := (ih (cI l j 5).toNat (by omega) (by omega)).1 h1
        refine ⟨c, c1, c2, c3, .inr ((dep_iff h _ hj).2 ⟨h0, ?_⟩)⟩
        rcases c4 with c4 | c4
        · left; omega
        · exact .inr c4
    · rintro ⟨c, c1, c2, c3, c4⟩
      rcases c4 with rfl | c4
      · exact ⟨c1, .inl c3⟩
      · obtain ⟨h0, h1⟩ := (dep_iff h _ hj).1 c4
        have hw := (may_own h hj).2 h0
        refine ⟨h0, .inr ((ih (cI l j 5).toNat (by omega) (by omega)).2 ⟨c, c1, c2, c3, ?_⟩)⟩
        rcases h1 with h1 | h1
        · left; omega
        · exact .inr h1

def child (l : List Row) (t : Int) (i : Nat) : Bool := decide (0 < i) && cI l i 5 == t
def mk (l : List Row) (t : Int) : Nat → Nat → (Nat → Bool) → Nat → Bool
  | _, 0, m => m
  | i, k + 1, m => mk l t (i + 1) k (match child l t i with | true => fun j => upd m i j || (decide (j < l.length) && dep l i j) | false => m)
theorem mk_iff (l : List Row) (t : Int) (j : Nat) : ∀ (k i : Nat) (m : Nat → Bool), mk l t i k m j = true ↔ m j = true ∨ ∃ c, i ≤ c ∧ c < i + k ∧ child l t c = true ∧ (j = c ∨ j < l.length ∧ dep l c j = true)
  | 0, i, m => by simp only [mk]; constructor; exact .inl; rintro (h | ⟨c, h1, h2, _⟩); exact h; omega
  | k + 1, i, m => by
    simp only [mk]
    rw [mk_iff l t j k (i + 1)]
    cases hc : child l t i with
    | true =>
      simp only [upd, Bool.or_eq_true, Bool.and_eq_true, decide_eq_true_eq, beq_iff_eq]
      constructor
      · rintro (((h | h) | h) | ⟨c, h1, h2, h3⟩)
        · exact .inl h
        · exact .inr ⟨i, by omega, by omega, hc, .inl h⟩
        · exact .inr ⟨i, by omega, by omega, hc, .inr h⟩
        · exact .inr ⟨c, by omega, by omega, h3⟩
      · rintro (h | ⟨c, h1, h2, h3, h4⟩)
        · exact .inl (.inl (.inl h))
        · by_cases e : c = i
          · subst e
            rcases h4 with h4 | h4
            · exact .inl (.inl (.inr h4))
            · exact .inl (.inr h4)
          · exact .inr ⟨c, by omega, by omega, h3, h4⟩
    | false =>
      simp only
      constructor
      · rintro (h | ⟨c, h1, h2, h3⟩)
        · exact .inl h
        · exact .inr ⟨c, by omega, by omega, h3⟩
      · rintro (h | ⟨c, h1, h2, h3, h4⟩)
        · exact .inl h
        · by_cases e : c = i
          · subst e; rw [hc] at h3; cases h3
          · exact .inr ⟨c, by omega, by omega, h3, h4⟩
theorem mk_all {l : List Row} (h : may l = true) (t : Int) (m : Nat → Bool) (j : Nat) : mk l t 0 l.length m j = (m j || (decide (j < l.length) && dep l t j)) := by
  rw [Bool.eq_iff_iff, mk_iff]
  simp only [Bool.or_eq_true, Bool.and_eq_true, decide_eq_true_eq, child, beq_iff_eq]
  constructor
  · rintro (h1 | ⟨c, _, c2, ⟨c3, c4⟩, c5⟩)
    · exact .inl h1
    · right
      have hj : j < l.length := by rcases c5 with rfl | c5; omega; exact c5.1
      exact ⟨hj, (dep_top h t hj).2 ⟨c, c3, by omega, c4, c5.imp id (fun x => x.2)⟩⟩
  · rintro (h1 | ⟨hj, h1⟩)
    · exact .inl h1
    · obtain ⟨c, c1, c2, c3, c4⟩ := (dep_top h t hj).1 h1
      exact .inr ⟨c, by omega, by omega, ⟨c1, c3⟩, c4.imp id (fun x => ⟨hj, x⟩)⟩

theorem F23_eq (N : Nat) (l : List Row) (t s : Int) : F23 (N + 1) l t s = some (.r l t s) := rfl

theorem L29_all {l : List Row} (h : may l = true) (N : Nat) (t : Int) (rec : TF29) (hrec : ∀ (c : Nat) (m : Nat → Bool), c < l.length → child l t c = true → rec c l (arr m) = some (.r l (arr fun j => m j || (decide (j < l.length) && dep l c j)))) :
    ∀ (k n i : Nat) (m : Nat → Bool), i + k = l.length → k < n → L29i6f31a6 rec N n l l.length i t (-1) (arr m) l = some (.x0 t (-1) (arr (mk l t i k m)) l)
  | 0, n + 1, i, m, h1, _ => by
    have e : decide ((i : Int) < (l.length : Int)) = false := by simp; omega
    show (match decide ((i : Int) < (l.length : Int)) with | true => _ | false => _) = _
    rw [e]; rfl
  | k + 1, n + 1, i, m, h1, hn => by
    have hl := (may_ok h).1
    have e : decide ((i : Int) < (l.length : Int)) = true := by simp; omega
    have e1 : decide ((0 : Int) ≤ (i : Int)) = true := by simp
    have e2 : decide ((-1 : Int) < 0) = true := rfl
    have e3 : decide ((i : Int) < (32 : Int)) = true := by simp; omega
    have e4 : decide ((0 + i * 1) + 1 ≤ 32) = true := by simp; omega
    have e5 : decide ((0 : Int) < (i : Int)) = decide (0 < i) := by simp
    show (match decide ((i : Int) < (l.length : Int)) with | true => _ | false => _) = _
    simp only [e, e1, e2, e3, Bool.and_self, Bool.and_true, tst, ← cI.eq_1]
    simp only [Int.toNat_natCast, e4, e5]
    rw [wrap_succ (by omega), arr_set m (by omega)]
    have ih := L29_all h N t rec hrec k n (i + 1)
    unfold mk
    have hof : child l t i = (decide (0 < i) && cI l i 5 == t) := rfl
    cases hp : decide (0 < i) with
    | false => rw [hof, hp]; simp only [Bool.false_and]; exact ih m (by omega) (by omega)
    | true =>
      cases hq : cI l i 5 == t with
      | false => rw [hof, hp, hq]; simp only [Bool.and_false]; exact ih m (by omega) (by omega)
      | true =>
        have hc : child l t i = true := by rw [hof, hp, hq]; rfl
        rw [hc]
        simp only
        rw [hrec i (upd m i) (by omega) hc]
        simp only
        exact ih _ (by omega) (by omega)
  | _, 0, _, _, _, h => by omega

theorem F29_eq {l : List Row} (h : may l = true) : ∀ (d : Nat) (t : Int), (t < 0 ∨ (l.length : Int) ≤ t + d) → ∀ (N : Nat), 40 + d ≤ N → ∀ (m : Nat → Bool), F29 (N + 1) t l (arr m) = some (.r l (arr fun j => m j || (decide (j < l.length) && dep l t j))) := by
  intro d
  induction d with
  | zero =>
    intro t ht N hN m
    have hl := (may_ok h).1
    obtain ⟨M, rfl⟩ : ∃ M, N = M + 1 := ⟨N - 1, by omega⟩
    show (match L29i6f31a6 (F29 (M + 1)) (M + 1) (M + 1) l l.length 0 t (-1) (arr m) l with | none => (none : Option R29) | some (.x0 _ _ b3 b5) => some (.r b5 b3)) = _
    rw [show (0 : Int) = ((0 : Nat) : Int) from rfl, L29_all h (M + 1) t (F29 (M + 1)) (fun c m hc hch => ?_) l.length (M + 1) 0 m (by omega) (by omega)]
    · simp only; rw [arr_congr (mk_all h t m)]
    · simp only [child, Bool.and_eq_true, decide_eq_true_eq, beq_iff_eq] at hch
      have := (may_own h hc).2 hch.1
      omega
  | succ d ih =>
    intro t ht N hN m
    have hl := (may_ok h).1
    obtain ⟨M, rfl⟩ : ∃ M, N = M + 1 := ⟨N - 1, by omega⟩
    show (match L29i6f31a6 (F29 (M + 1)) (M + 1) (M + 1) l l.length 0 t (-1) (arr m) l with | none => (none : Option R29) | some (.x0 _ _ b3 b5) => some (.r b5 b3)) = _
    rw [show (0 : Int) = ((0 : Nat) : Int) from rfl, L29_all h (M + 1) t (F29 (M + 1)) (fun c m hc hch => ?_) l.length (M + 1) 0 m (by omega) (by omega)]
    · simp only; rw [arr_congr (mk_all h t m)]
    · simp only [child, Bool.and_eq_true, decide_eq_true_eq, beq_iff_eq] at hch
      have := (may_own h hc).2 hch.1
      exact ih c (by omega) M (by omega) m

/-! ### Depends -/
theorem L26_all (N : Nat) (m : Nat → Bool) (len : Nat) (hl : len ≤ 32) : ∀ (k n i : Nat) (acc : List Nat), i + k = len → k < n → acc.length ≤ i → L26a26 N n len i (arr m) (rowsN acc) = some (.x0 (arr m) (rowsN (acc ++ flt m i k)))
  | 0, n + 1, i, acc, h, _, _ => by
    have e : decide ((i : Int) < (len : Int)) = false := by simp; omega
    show (match decide ((i : Int) < (len : Int)) with | true => _ | false => _) = _
    rw [e]; simp [flt]
  | k + 1, n + 1, i, acc, h, hn, ha => by
    have e : decide ((i : Int) < (len : Int)) = true := by simp; omega
    have e1 : decide ((0 : Int) ≤ (i : Int)) = true := by simp
    have e3 : decide ((i : Int) < (32 : Int)) = true := by simp; omega
    have e6 : decide ((0 + i * 1) + 1 ≤ 32) = true := by simp; omega
    have e4 : decide (((rowsN acc).length + 1) * 8 ≤ 140737488355328) = true := by rw [rowsN_length]; simp; omega
    show (match decide ((i : Int) < (len : Int)) with | true => _ | false => _) = _
    simp only [e, e1, e3, Bool.and_self, tst, Int.toNat_natCast, e6, arr_get m (show i < 32 by omega), e4, rowsN_append]
    rw [wrap_succ (by omega)]
    have ih := L26_all N m len hl k n (i + 1)
    unfold flt
    cases m i with
    | false => exact ih acc (by omega) (by omega) (by omega)
    | true =>
      simp only
      rw [ih (acc ++ [i]) (by omega) (by omega) (by simp; omega)]
      simp
  | _, 0, _, _, _, h, _ => by omega
theorem F26_eq {N : Nat} (hN : 50 ≤ N) {l : List Row} (hl : l.length ≤ 32) (m : Nat → Bool) : F26 N l (m 0) (m 1) (m 2) (m 3) (m 4) (m 5) (m 6) (m 7) (m 8) (m 9) (m 10) (m 11) (m 12) (m 13) (m 14) (m 15) (m 16) (m 17) (m 18) (m 19) (m 20) (m 21) (m 22) (m 23) (m 24) (m 25) (m 26) (m 27) (m 28) (m 29) (m 30) (m 31) = some (.r (rowsN (flt m 0 l.length))) := by
  obtain ⟨M, rfl⟩ : ∃ M, N = M + 1 := ⟨N - 1, by omega⟩
  show (match L26a26 M M l.length 0 (arr m) (rowsN []) with | none => (none : Option R26) | some (.x0 _ b) => some (.r b)) = _
  rw [show (0 : Int) = ((0 : Nat) : Int) from rfl, L26_all M m l.length hl l.length M 0 [] (by omega) (by omega) (by simp)]
  simp

/-- The tasks that depend on a task. -/
def deps (l : List Row) (t : Int) : List Nat := flt (dep l t) 0 l.length
theorem F15_eq {N : Nat} (hN : 100 ≤ N) {l : List Row} (h : may l = true) (t : Int) : F15 N l t = some (.r (rowsN (deps l t))) := by
  obtain ⟨M, rfl⟩ : ∃ M, N = M + 1 := ⟨N - 1, by omega⟩
  obtain ⟨K, rfl⟩ : ∃ K, M = K + 1 := ⟨M - 1, by omega⟩
  have hl := (may_ok h).1
  show (match F16 (K + 1) l with | none => none | some (.r x) => _) = _
  rw [F16_eq (by omega), h]
  simp only [Bool.not_true]
  have h29 := F29_eq h 32 t (by omega) K (by omega) (fun _ => false)
  show (match F29 (K + 1) t l (arr fun _ => false) with | none => none | some (.r l' b) => _) = _
  rw [h29]
  simp only
  generalize hm : (fun j => (false || (decide (j < l.length) && dep l t j))) = m
  show (match F26 (K + 1) l (m 0) (m 1) (m 2) (m 3) (m 4) (m 5) (m 6) (m 7) (m 8) (m 9) (m 10) (m 11) (m 12) (m 13) (m 14) (m 15) (m 16) (m 17) (m 18) (m 19) (m 20) (m 21) (m 22) (m 23) (m 24) (m 25) (m 26) (m 27) (m 28) (m 29) (m 30) (m 31) with | none => (none : Option R15) | some (.r b) => some (.r b)) = _
  rw [F26_eq (by omega) hl m]
  simp only
  unfold deps
  rw [flt_congr (m := m) (m' := dep l t) fun j h1 h2 => ?_]
  subst hm
  have : decide (j < l.length) = true := by simp; omega
  simp [this]
theorem F15_not {N : Nat} (hN : 100 ≤ N) {l : List Row} (h : may l = false) (t : Int) : F15 N l t = some (.r []) := by
  obtain ⟨M, rfl⟩ : ∃ M, N = M + 1 := ⟨N - 1, by omega⟩
  show (match F16 M l with | none => none | some (.r x) => _) = _
  rw [F16_eq (by omega), h]
  rfl

end Go.Proofs.Ytfggehkiglenjaa

namespace Go.Proofs.Ytfggehkiglenjaa
open Go Go.Eng

theorem works_true : F13 199 = some (.r true) := by kernel_rfl

theorem mem_deps {l : List Row} {t : Int} {u : Nat} : u ∈ deps l t ↔ u < l.length ∧ dep l t u = true := by
  unfold deps; rw [mem_flt]; simp
theorem deps_len {l : List Row} (h : may l = true) (t : Int) : (deps l t).length ≤ 32 := Nat.le_trans (flt_length _ _ _) (may_ok h).1
theorem inn {xs : List Nat} {u : Nat} (h : u ∈ xs) : (xs.any fun x => (x : Int) == (u : Int)) = true := List.any_eq_true.2 ⟨u, h, by simp⟩

theorem Lv {l : List Row} (h : may l = true) (t : Int) {N : Nat} (hN : 50 ≤ N) {xs : List Nat} (hx : xs.length ≤ 45) (hall : ∀ v ∈ xs, v ∈ deps l t) :
    ∀ (k n i : Nat), i + k = xs.length → k < n → L6a64173262 N n (rowsN (deps l t)) xs.length i (rowsN xs) = some (.x4 (rowsN xs))
  | 0, n + 1, i, h1, _ => by
    have e : decide ((i : Int) < (xs.length : Int)) = false := by simp; omega
    show (match decide ((i : Int) < (xs.length : Int)) with | true => _ | false => _) = _
    rw [e]
  | k + 1, n + 1, i, h1, hn => by
    have hi : i < xs.length := by omega
    have e : decide ((i : Int) < (xs.length : Int)) = true := by simp; omega
    have e1 : decide ((0 : Int) ≤ (i : Int)) = true := by simp
    have e2 : decide ((i : Int) < ((rowsN xs).length : Int)) = true := by rw [rowsN_length]; exact e
    have e3 : decide (i < (rowsN xs).length) = true := by rw [rowsN_length]; simpa using hi
    show (match decide ((i : Int) < (xs.length : Int)) with | true => _ | false => _) = _
    simp only [e, e1, e2, Bool.and_self, tst, Int.toNat_natCast, e3, rowsN_get hi]
    rw [F18_eq hN (by have := deps_len h t; omega), inn (hall _ (List.getElem_mem hi))]
    simp only [Bool.not_true]
    rw [wrap_succ (by omega)]
    exact Lv h t hN hx hall k n (i + 1) (by omega) (by omega)
  | _, 0, _, _, h => by omega

theorem Ju {l : List Row} (h : may l = true) (t : Nat) {N : Nat} (hN : 50 ≤ N) {u : Nat} (hu : u ∈ deps l t) : J6a16043314 N l t (rowsN (deps l t)) u = some .nx := by
  obtain ⟨h1, h2⟩ := mem_deps.1 hu
  have hg := dep_gt h t h1 h2
  have e1 : decide ((u : Int) ≤ (t : Int)) = false := by simp; omega
  have e2 : decide ((l.length : Int) ≤ (u : Int)) = false := by simp; omega
  have e3 : decide ((0 : Int) ≤ (u : Int)) = true := by simp
  have e4 : decide ((u : Int) < (l.length : Int)) = true := by simp; omega
  unfold J6a16043314
  simp only [e1, e2, e3, e4, Bool.and_self, tst, ← cI.eq_1]
  cases hq : (cI l u 5 != (t : Int)) with
  | false => rfl
  | true =>
    obtain ⟨h3, h4⟩ := (dep_iff h t h1).1 h2
    have hw := (may_own h h1).2 h3
    have hne : cI l u 5 ≠ (t : Int) := by simpa using hq
    have h5 : dep l t (cI l u 5).toNat = true := by rcases h4 with h4 | h4; exact absurd h4 hne; exact h4
    have hm : (cI l u 5).toNat ∈ deps l t := mem_deps.2 ⟨by omega, h5⟩
    have hc : cI l u 5 = ((cI l u 5).toNat : Int) := by omega
    simp only
    rw [F18_eq hN (by have := deps_len h t; omega), hc, inn hm]
    rfl

theorem Lu {l : List Row} (h : may l = true) (t : Nat) {N : Nat} (hN : 150 ≤ N) : ∀ (k n i : Nat), i + k = (deps l t).length → k < n →
    L6a125338 N n l t (rowsN (deps l t)) (rowsN (deps l t)) ((rowsN (deps l t)).length : Int) i = some .x2
  | 0, n + 1, i, h1, _ => by
    have e : decide ((i : Int) < ((rowsN (deps l t)).length : Int)) = false := by rw [rowsN_length]; simp; omega
    show (match decide ((i : Int) < ((rowsN (deps l t)).length : Int)) with | true => _ | false => _) = _
    rw [e]
  | k + 1, n + 1, i, h1, hn => by
    have hi : i < (deps l t).length := by omega
    have hdl := deps_len h t
    have e : decide ((i : Int) < ((rowsN (deps l t)).length : Int)) = true := by rw [rowsN_length]; simp; omega
    have e1 : decide ((0 : Int) ≤ (i : Int)) = true := by simp
    show (match decide ((i : Int) < ((rowsN (deps l t)).length : Int)) with | true => _ | false => _) = _
    simp only [e, e1, Bool.and_self, tst, Int.toNat_natCast, rowsN_get hi]
    have hm : (deps l t)[i] ∈ deps l t := List.getElem_mem hi
    obtain ⟨m1, m2⟩ := mem_deps.1 hm
    rw [Ju h t (by omega) hm]
    simp only
    rw [F15_eq (by omega) h]
    simp only [rowsN_length]
    have hall : ∀ v ∈ deps l ((deps l t)[i] : Nat), v ∈ deps l t := fun v hv => by
      obtain ⟨v1, v2⟩ := mem_deps.1 hv
      exact mem_deps.2 ⟨v1, dep_trans h t _ m1 m2 v1 v2⟩
    have hvl := deps_len h (((deps l t)[i] : Nat) : Int)
    have := Lv h t (N := N) (by omega) (xs := deps l ((deps l t)[i] : Nat)) (by omega) hall (deps l ((deps l t)[i] : Nat)).length N 0 (by omega) (by omega)
    rw [show (0 : Int) = ((0 : Nat) : Int) from rfl, this]
    simp only
    rw [wrap_succ (by omega), ← rowsN_length]
    exact Lu h t hN k n (i + 1) (by omega) (by omega)
  | _, 0, _, _, h => by omega

theorem Lx {l : List Row} (h : may l = true) (t : Nat) {N : Nat} (hN : 150 ≤ N) : ∀ (k n i : Nat), i + k = l.length → k < n →
    L6a125342 N n l t (rowsN (deps l t)) l l.length i = some .x6
  | 0, n + 1, i, h1, _ => by
    have e : decide ((i : Int) < (l.length : Int)) = false := by simp; omega
    show (match decide ((i : Int) < (l.length : Int)) with | true => _ | false => _) = _
    rw [e]
  | k + 1, n + 1, i, h1, hn => by
    have hl := (may_ok h).1
    have hi : i < l.length := by omega
    have e : decide ((i : Int) < (l.length : Int)) = true := by simp; omega
    have e1 : decide ((0 : Int) ≤ (i : Int)) = true := by simp
    show (match decide ((i : Int) < (l.length : Int)) with | true => _ | false => _) = _
    simp only [e, e1, Bool.and_self, tst, ← cI.eq_1]
    have ih := Lx h t hN k n (i + 1) (by omega) (by omega)
    rw [wrap_succ (by omega)]
    cases hq : cI l i 5 == (t : Int) with
    | false => exact ih
    | true =>
      have hq' : cI l i 5 = (t : Int) := by simpa using hq
      have h0 : 0 < i := by
        by_cases e0 : i = 0
        · have := (may_own h hi).1 e0; omega
        · omega
      have hw := (may_own h hi).2 h0
      have hm : i ∈ deps l t := mem_deps.2 ⟨hi, (dep_iff h t hi).2 ⟨h0, .inl hq'⟩⟩
      have hm2 : i ∈ flt (isOf l t (cI l i 6)) 0 l.length := mem_flt.2 ⟨by omega, by omega, by simp [isOf, hq, h0]⟩
      simp only
      rw [F18_eq (by omega) (by have := deps_len h t; omega), inn hm]
      simp only [Bool.not_true]
      rw [F14_eq (by omega) h _ _ hw.2.2]
      simp only
      rw [F18_eq (by omega) (by have := flt_length (isOf l t (cI l i 6)) l.length 0; omega), inn hm2]
      exact ih
  | _, 0, _, _, h => by omega

theorem Lt {l : List Row} (h : may l = true) {N : Nat} (hN : 150 ≤ N) : ∀ (k n i : Nat), i + k = l.length → k < n → L6a122 N n l l.length i = some .x0
  | 0, n + 1, i, h1, _ => by
    have e : decide ((i : Int) < (l.length : Int)) = false := by simp; omega
    show (match decide ((i : Int) < (l.length : Int)) with | true => _ | false => _) = _
    rw [e]
  | k + 1, n + 1, i, h1, hn => by
    have hl := (may_ok h).1
    have e : decide ((i : Int) < (l.length : Int)) = true := by simp; omega
    have hdl := deps_len h (i : Int)
    show (match decide ((i : Int) < (l.length : Int)) with | true => _ | false => _) = _
    simp only [e]
    rw [F15_eq (by omega) h]
    simp only
    have hj : J6a31334 N l i (rowsN (deps l i)) = some (.nx (rowsN (deps l i))) := by
      unfold J6a31334
      rw [show (0 : Int) = ((0 : Nat) : Int) from rfl, Lu h i hN (deps l i).length N 0 (by omega) (by omega)]
    rw [hj]
    simp only
    rw [show (0 : Int) = ((0 : Nat) : Int) from rfl, Lx h i hN l.length N 0 (by omega) (by omega)]
    simp only
    rw [wrap_succ (by omega)]
    exact Lt h hN k n (i + 1) (by omega) (by omega)
  | _, 0, _, _, h => by omega

theorem forest (x : List Row) : F6 200 x = some (.r true) := by
  have himin : Eng.imin (x.length : Int) 32 = min (x.length : Int) 32 := by unfold Eng.imin; split <;> omega
  have e : (decide ((0 : Int) ≤ Eng.imin (x.length : Int) 32) && decide (Eng.imin (x.length : Int) 32 ≤ (x.length : Int)) && decide ((x.length : Int) ≤ (x.length : Int))) = true := by
    rw [himin]; simp; omega
  show tst (decide ((0 : Int) ≤ Eng.imin (x.length : Int) 32) && decide (Eng.imin (x.length : Int) 32 ≤ (x.length : Int)) && decide ((x.length : Int) ≤ (x.length : Int))) _ = _
  rw [e]
  simp only [tst]
  generalize x.take (Eng.imin (x.length : Int) 32).toNat = l
  rw [F19_eq (by omega)]
  simp only
  cases h : may l with
  | false =>
    simp only [Bool.not_false]
    rw [F16_eq (by omega), h]
    simp only [Bool.not_false]
    rw [F15_not (by omega) h]
    simp only [List.length_nil]
    rw [works_true]
    rfl
  | true =>
    have hl := (may_ok h).1
    simp only [Bool.not_true]
    rw [show (0 : Int) = ((0 : Nat) : Int) from rfl, Lt h (by omega) l.length 199 0 (by omega) (by omega)]
    simp only
    rw [works_true]

end Go.Proofs.Ytfggehkiglenjaa

namespace Go.Proofs.Ytfggehkiglenjaa
open Go Go.Eng

def allF (p : Nat → Bool) : Nat → Nat → Bool
  | _, 0 => true
  | i, k + 1 => p i && allF p (i + 1) k
theorem allF_iff {p : Nat → Bool} : ∀ {k i : Nat}, allF p i k = true ↔ ∀ j, i ≤ j → j < i + k → p j = true
  | 0, i => by simp only [allF, true_iff]; intro j h1 h2; omega
  | k + 1, i => by
    simp only [allF, Bool.and_eq_true, allF_iff (k := k) (i := i + 1)]
    constructor
    · rintro ⟨h1, h2⟩ j h3 h4
      by_cases e : j = i
      · subst e; exact h1
      · exact h2 j (by omega) (by omega)
    · intro h
      exact ⟨h i (Nat.le_refl _) (by omega), fun j h1 h2 => h j (by omega) (by omega)⟩
theorem allF_congr {p q : Nat → Bool} : ∀ {k i : Nat}, (∀ j, i ≤ j → j < i + k → p j = q j) → allF p i k = allF q i k
  | 0, _, _ => rfl
  | k + 1, i, h => by
    simp only [allF]
    rw [h i (Nat.le_refl _) (by omega), allF_congr (k := k) (i := i + 1) fun j h1 h2 => h j (by omega) (by omega)]

/-- A child that is born. -/
def kid (l : List Row) (t : Int) (c : Nat) : Bool := child l t c && cB l c 0
theorem kid_gt {l : List Row} (h : may l = true) {t : Int} {c : Nat} (hc : c < l.length) (hk : kid l t c = true) : 0 < c ∧ 0 ≤ t ∧ t < c := by
  simp only [kid, child, Bool.and_eq_true, decide_eq_true_eq, beq_iff_eq] at hk
  have := (may_own h hc).2 hk.1.1
  omega
def qF (l : List Row) : Nat → Nat → Bool
  | 0, _ => false
  | k + 1, t => cB l t 1 || (cB l t 3 && (!cB l t 2 && allF (fun c => !kid l t c || qF l k c) 0 l.length))
theorem qF_more {l : List Row} (h : may l = true) : ∀ (k k' t : Nat), t < l.length → l.length ≤ t + k → l.length ≤ t + k' → qF l k t = qF l k' t
  | 0, _, t, h0, h1, _ => by omega
  | k + 1, 0, t, h0, _, h2 => by omega
  | k + 1, k' + 1, t, h0, h1, h2 => by
    simp only [qF]
    rw [allF_congr fun c h3 h4 => ?_]
    cases hk : kid l t c with
    | false => rfl
    | true =>
      have := kid_gt h (by omega) hk
      rw [qF_more h k k' c (by omega) (by omega) (by omega)]
/-- Task t is quiet. -/
def quiet (l : List Row) (t : Nat) : Bool := qF l l.length t
theorem quiet_eq {l : List Row} (h : may l = true) {t : Nat} (ht : t < l.length) : quiet l t = (cB l t 1 || (cB l t 3 && (!cB l t 2 && allF (fun c => !kid l t c || quiet l c) 0 l.length))) := by
  unfold quiet
  rw [qF_more h l.length (l.length + 1) t ht (by omega) (by omega), qF]

theorem L22_all {l : List Row} (h : may l = true) (N : Nat) (t : Int) (rec : TF22) (b4 : Bool) (hrec : ∀ c : Nat, c < l.length → kid l t c = true → rec l c = some (.r (quiet l c))) :
    ∀ (k n i : Nat), i + k = l.length → k < n → L22i122f31a6 rec N n l l.length i t (-1) l b4 = match allF (fun c => !kid l t c || quiet l c) i k with | true => some (.x0 t (-1) l b4) | false => some (.ret t (-1) l false)
  | 0, n + 1, i, h1, _ => by
    have e : decide ((i : Int) < (l.length : Int)) = false := by simp; omega
    show (match decide ((i : Int) < (l.length : Int)) with | true => _ | false => _) = _
    rw [e]; rfl
  | k + 1, n + 1, i, h1, hn => by
    have hl := (may_ok h).1
    have e : decide ((i : Int) < (l.length : Int)) = true := by simp; omega
    have e1 : decide ((0 : Int) ≤ (i : Int)) = true := by simp
    have e2 : decide ((-1 : Int) < 0) = true := rfl
    have e5 : decide ((0 : Int) < (i : Int)) = decide (0 < i) := by simp
    show (match decide ((i : Int) < (l.length : Int)) with | true => _ | false => _) = _
    simp only [e, e1, e2, Bool.and_self, tst, ← cI.eq_1, ← cB.eq_1]
    rw [wrap_succ (by omega), e5]
    have ih := L22_all h N t rec b4 hrec k n (i + 1) (by omega) (by omega)
    unfold allF
    have hof : kid l t i = ((decide (0 < i) && cI l i 5 == t) && cB l i 0) := rfl
    cases hp : decide (0 < i) with
    | false => rw [hof, hp]; simp only [Bool.false_and, Bool.not_false, Bool.true_or, Bool.true_and]; exact ih
    | true =>
      cases hq : cI l i 5 == t with
      | false => rw [hof, hp, hq]; simp only [Bool.false_and, Bool.and_false, Bool.not_false, Bool.true_or, Bool.true_and]; exact ih
      | true =>
        cases hb : cB l i 0 with
        | false => rw [hof, hp, hq, hb]; simp only [Bool.and_false, Bool.not_false, Bool.true_or, Bool.true_and]; exact ih
        | true =>
          have hc : kid l t i = true := by rw [hof, hp, hq, hb]; rfl
          rw [hc]
          simp only
          rw [hrec i (by omega) hc]
          cases hr : quiet l i with
          | false => rfl
          | true => simp only [Bool.not_true, Bool.false_or, Bool.true_and]; exact ih
  | _, 0, _, _, h => by omega

theorem J22_eq (rec : TF22) (N : Nat) (b b0 b1 b2 b3 b4 : Bool) (o s a : Int) : J22a14 rec N b b0 b1 b2 b3 b4 o s a = match b1 || !(b3 && !b2) with | true => some (.ret b1 b0 b1 b2 b3 b4 o s a) | false => some (.nx b b0 b1 b2 b3 b4 o s a) := by
  unfold J22a14
  cases b1 <;> cases b2 <;> cases b3 <;> rfl

theorem F22_eq {l : List Row} (h : may l = true) : ∀ (d t : Nat), t < l.length → l.length ≤ t + d → ∀ (N : Nat), 40 + d ≤ N → F22 (N + 1) l t = some (.r (quiet l t)) := by
  intro d
  induction d with
  | zero => intro t h0 h1; omega
  | succ d ih =>
    intro t h0 h1 N hN
    have hl := (may_ok h).1
    obtain ⟨M, rfl⟩ : ∃ M, N = M + 1 := ⟨N - 1, by omega⟩
    have e : decide ((t : Int) < (l.length : Int)) = true := by simp; omega
    have e1 : decide ((0 : Int) ≤ (t : Int)) = true := by simp
    rw [quiet_eq h h0]
    show (tst (decide ((0 : Int) ≤ (t : Int)) && decide ((t : Int) < (l.length : Int))) <| _) = _
    simp only [e, e1, Bool.and_self, tst, J22_eq, ← cI.eq_1, ← cB.eq_1]
    cases hb1 : cB l t 1 with
    | true => rfl
    | false =>
      cases hb3 : cB l t 3 with
      | false => rfl
      | true =>
        cases hb2 : cB l t 2 with
        | true => rfl
        | false =>
          simp only [Bool.not_false, Bool.and_self, Bool.not_true, Bool.or_self, F23_eq, Bool.true_and, Bool.false_or]
          have hall := L22_all h (M + 1) t (F22 (M + 1)) false (fun c hc hk => ?_) l.length (M + 1) 0 (by omega) (by omega)
          · rw [show ((0 : Nat) : Int) = (0 : Int) from rfl] at hall
            rw [hall]
            cases allF (fun c => !kid l t c || quiet l c) 0 l.length <;> rfl
          · have := kid_gt h hc hk
            exact ih c (by omega) (by omega) M (by omega)

theorem L32_all {l : List Row} (h : may l = true) (N : Nat) (t : Nat) (rec : TF32) (hrec : ∀ c : Nat, c < l.length → kid l t c = true → rec l c = some (.r (quiet l c))) :
    ∀ (k n i : Nat), i + k = l.length → k < n → L32a122 rec N n l t i = match allF (fun c => !kid l t c || quiet l c) i k with | true => some .x0 | false => some (.ret false)
  | 0, n + 1, i, h1, _ => by
    have e : decide ((i : Int) < (l.length : Int)) = false := by simp; omega
    show (match decide ((i : Int) < (l.length : Int)) with | true => _ | false => _) = _
    rw [e]; rfl
  | k + 1, n + 1, i, h1, hn => by
    have hl := (may_ok h).1
    have e : decide ((i : Int) < (l.length : Int)) = true := by simp; omega
    have e1 : decide ((0 : Int) ≤ (i : Int)) = true := by simp
    show (match decide ((i : Int) < (l.length : Int)) with | true => _ | false => _) = _
    simp only [e, e1, Bool.and_self, tst, ← cI.eq_1, ← cB.eq_1]
    rw [wrap_succ (by omega)]
    have ih := L32_all h N t rec hrec k n (i + 1) (by omega) (by omega)
    unfold allF
    have hof : kid l t i = ((decide (0 < i) && cI l i 5 == t) && cB l i 0) := rfl
    cases hq : cI l i 5 == t with
    | false => rw [hof, hq]; simp only [Bool.false_and, Bool.and_false, Bool.not_false, Bool.true_or, Bool.true_and]; exact ih
    | true =>
      have hp : decide (0 < i) = true := by
        simp only [beq_iff_eq] at hq
        by_cases h0 : i = 0
        · have := (may_own h (show i < l.length by omega)).1 h0
          omega
        · simp; omega
      cases hb : cB l i 0 with
      | false => rw [hof, hp, hq, hb]; simp only [Bool.and_false, Bool.not_false, Bool.true_or, Bool.true_and]; exact ih
      | true =>
        have hc : kid l t i = true := by rw [hof, hp, hq, hb]; rfl
        rw [hc]
        simp only
        rw [hrec i (by omega) hc]
        cases hr : quiet l i with
        | false => rfl
        | true => simp only [Bool.not_true, Bool.false_or, Bool.true_and]; exact ih
  | _, 0, _, _, h => by omega

theorem F32_eq {l : List Row} (h : may l = true) : ∀ (d t : Nat), t < l.length → l.length ≤ t + d → ∀ (N : Nat), 40 + d ≤ N → F32 (N + 1) l t = some (.r (quiet l t)) := by
  intro d
  induction d with
  | zero => intro t h0 h1; omega
  | succ d ih =>
    intro t h0 h1 N hN
    have hl := (may_ok h).1
    obtain ⟨M, rfl⟩ : ∃ M, N = M + 1 := ⟨N - 1, by omega⟩
    have e : decide ((t : Int) < (l.length : Int)) = true := by simp; omega
    have e1 : decide ((0 : Int) ≤ (t : Int)) = true := by simp
    rw [quiet_eq h h0]
    show (tst (decide ((0 : Int) ≤ (t : Int)) && decide ((t : Int) < (l.length : Int))) <| _) = _
    simp only [e, e1, Bool.and_self, tst, J32a14, ← cI.eq_1, ← cB.eq_1]
    cases hb1 : cB l t 1 with
    | true => rfl
    | false =>
      cases hb3 : cB l t 3 with
      | false => rfl
      | true =>
        cases hb2 : cB l t 2 with
        | true => rfl
        | false =>
          simp only [Bool.not_false, Bool.not_true, Bool.true_and, Bool.false_or]
          have hall := L32_all h (M + 1) t (F32 (M + 1)) (fun c hc hk => ?_) l.length (M + 1) 0 (by omega) (by omega)
          · rw [show ((0 : Nat) : Int) = (0 : Int) from rfl] at hall
            rw [hall]
            cases allF (fun c => !kid l t c || quiet l c) 0 l.length <;> rfl
          · have := kid_gt h hc hk
            exact ih c (by omega) (by omega) M (by omega)

/-! ### Ready -/
/-- Task i can be terminated. -/
def canB (l : List Row) (i : Nat) : Bool :=
  cB l i 3 && (!cB l i 4 && (!decide (cI l i 5 < 0) && (!(cI l (cI l i 5) 7 != cI l i 6) && (quiet l i && allF (fun c => !(isOf l (cI l i 5) (cI l i 6) c && cB l c 0) || quiet l c) 0 l.length))))

theorem L9i_all {l : List Row} (h : may l = true) (N : Nat) (hN : 80 ≤ N) (t s : Int) (hs : 0 ≤ s) :
    ∀ (k n i : Nat), i + k = l.length → k < n → L9i223642f31a6 N n l l.length i t s l = match allF (fun c => !(isOf l t s c && cB l c 0) || quiet l c) i k with | true => some (.x0 t s l) | false => some (.ret t s l)
  | 0, n + 1, i, h1, _ => by
    have e : decide ((i : Int) < (l.length : Int)) = false := by simp; omega
    show (match decide ((i : Int) < (l.length : Int)) with | true => _ | false => _) = _
    rw [e]; rfl
  | k + 1, n + 1, i, h1, hn => by
    have hl := (may_ok h).1
    have e : decide ((i : Int) < (l.length : Int)) = true := by simp; omega
    have e1 : decide ((0 : Int) ≤ (i : Int)) = true := by simp
    have e2 : decide (s < 0) = false := by simp; omega
    have e5 : decide ((0 : Int) < (i : Int)) = decide (0 < i) := by simp
    show (match decide ((i : Int) < (l.length : Int)) with | true => _ | false => _) = _
    simp only [e, e1, e2, Bool.and_self, tst, ← cI.eq_1, ← cB.eq_1]
    rw [wrap_succ (by omega), e5]
    have ih := L9i_all h N hN t s hs k n (i + 1) (by omega) (by omega)
    unfold allF
    have hof : isOf l t s i = (decide (0 < i) && (cI l i 5 == t && cI l i 6 == s)) := rfl
    cases hp : decide (0 < i) with
    | false => rw [hof, hp]; simp only [Bool.false_and, Bool.not_false, Bool.true_or, Bool.true_and]; exact ih
    | true =>
      cases hq : cI l i 5 == t with
      | false => rw [hof, hp, hq]; simp only [Bool.false_and, Bool.and_false, Bool.not_false, Bool.true_or, Bool.true_and]; exact ih
      | true =>
        cases hq2 : cI l i 6 == s with
        | false => rw [hof, hp, hq, hq2]; simp only [Bool.false_and, Bool.and_false, Bool.not_false, Bool.true_or, Bool.true_and]; exact ih
        | true =>
          cases hb : cB l i 0 with
          | false => rw [hof, hp, hq, hq2]; simp only [Bool.and_false, Bool.not_false, Bool.true_or, Bool.true_and]; exact ih
          | true =>
            rw [hof, hp, hq, hq2]
            simp only
            obtain ⟨M, rfl⟩ : ∃ M, N = M + 1 := ⟨N - 1, by omega⟩
            rw [F22_eq h l.length i (by omega) (by omega) M (by omega)]
            cases hr : quiet l i with
            | false => rfl
            | true => simp only [Bool.and_self, Bool.not_true, Bool.false_or, Bool.true_and]; exact ih
  | _, 0, _, _, h => by omega

theorem J9_eq {l : List Row} (h : may l = true) (N : Nat) (hN : 80 ≤ N) (i : Nat) (hi : i < l.length) :
    J9a27954 N i l (cB l i 0) (cB l i 1) (cB l i 2) (cB l i 3) (cB l i 4) (cI l i 5) (cI l i 6) (cI l i 7) = match cB l i 3 && (!cB l i 4 && (!decide (cI l i 5 < 0) && (!(cI l (cI l i 5) 7 != cI l i 6) && quiet l i))) with
      | true => some (.nx l (cB l i 0) (cB l i 1) (cB l i 2) (cB l i 3) (cB l i 4) (cI l i 5) (cI l i 6) (cI l i 7))
      | false => some (.x1 l (cB l i 0) (cB l i 1) (cB l i 2) (cB l i 3) (cB l i 4) (cI l i 5) (cI l i 6) (cI l i 7)) := by
  have hl := (may_ok h).1
  unfold J9a27954
  cases h3 : cB l i 3 with
  | false => rfl
  | true =>
    cases h4 : cB l i 4 with
    | true => rfl
    | false =>
      cases h5 : decide (cI l i 5 < 0) with
      | true => rfl
      | false =>
        simp only [decide_eq_false_iff_not] at h5
        have e1 : decide ((0 : Int) ≤ cI l i 5) = true := by simp; omega
        have e2 : decide (cI l i 5 < (l.length : Int)) = true := by
          have := may_own h hi
          by_cases h0 : i = 0
          · have := this.1 h0; omega
          · have := this.2 (by omega); simp; omega
        simp only [e1, e2, Bool.and_self, tst, ← cI.eq_1, ← cB.eq_1]
        cases h7 : cI l (cI l i 5) 7 != cI l i 6 with
        | true => rfl
        | false =>
          obtain ⟨M, rfl⟩ : ∃ M, N = M + 1 := ⟨N - 1, by omega⟩
          simp only [F22_eq h l.length i (by omega) (by omega) M (by omega)]
          cases quiet l i <;> rfl

theorem L9_all {l : List Row} (h : may l = true) (N : Nat) (hN : 80 ≤ N) : ∀ (k n i : Nat) (acc : List Nat), i + k = l.length → k < n → acc.length ≤ i → L9a218 N n l l.length i l (rowsN acc) = some (.x0 l (rowsN (acc ++ flt (canB l) i k)))
  | 0, n + 1, i, acc, h1, _, _ => by
    have e : decide ((i : Int) < (l.length : Int)) = false := by simp; omega
    show (match decide ((i : Int) < (l.length : Int)) with | true => _ | false => _) = _
    rw [e]; simp [flt]
  | k + 1, n + 1, i, acc, h1, hn, ha => by
    have hl := (may_ok h).1
    have e : decide ((i : Int) < (l.length : Int)) = true := by simp; omega
    have e1 : decide ((0 : Int) ≤ (i : Int)) = true := by simp
    have e4 : decide (((rowsN acc).length + 1) * 8 ≤ 140737488355328) = true := by rw [rowsN_length]; simp; omega
    show (match decide ((i : Int) < (l.length : Int)) with | true => _ | false => _) = _
    simp only [e, e1, Bool.and_self, tst, ← cI.eq_1, ← cB.eq_1]
    rw [J9_eq h N hN i (by omega), wrap_succ (by omega)]
    have ih := L9_all h N hN k n (i + 1)
    have hcan : canB l i = ((cB l i 3 && (!cB l i 4 && (!decide (cI l i 5 < 0) && (!(cI l (cI l i 5) 7 != cI l i 6) && quiet l i)))) && allF (fun c => !(isOf l (cI l i 5) (cI l i 6) c && cB l c 0) || quiet l c) 0 l.length) := by
      unfold canB; simp only [Bool.and_assoc]
    unfold flt
    rw [hcan]
    cases hc : cB l i 3 && (!cB l i 4 && (!decide (cI l i 5 < 0) && (!(cI l (cI l i 5) 7 != cI l i 6) && quiet l i))) with
    | false => simp only [Bool.false_and]; exact ih acc (by omega) (by omega) (by omega)
    | true =>
      have h5 : 0 ≤ cI l i 5 := by
        simp only [Bool.and_eq_true, Bool.not_eq_true', decide_eq_false_iff_not] at hc
        omega
      have h6 : 0 ≤ cI l i 6 := by
        have := may_own h (show i < l.length by omega)
        by_cases h0 : i = 0
        · have := this.1 h0; omega
        · exact (this.2 (by omega)).2.2
      obtain ⟨M, rfl⟩ : ∃ M, N = M + 1 := ⟨N - 1, by omega⟩
      simp only [F23_eq]
      have hall := L9i_all h (M + 1) hN (cI l i 5) (cI l i 6) h6 l.length (M + 1) 0 (by omega) (by omega)
      rw [show ((0 : Nat) : Int) = (0 : Int) from rfl] at hall
      rw [hall]
      cases allF (fun c => !(isOf l (cI l i 5) (cI l i 6) c && cB l c 0) || quiet l c) 0 l.length with
      | false => simp only [Bool.and_false]; exact ih acc (by omega) (by omega) (by omega)
      | true =>
        simp only [Bool.and_self, e4, rowsN_append]
        rw [ih (acc ++ [i]) (by omega) (by omega) (by simp; omega)]
        simp
  | _, 0, _, _, _, h, _ => by omega

def ready (l : List Row) : List Nat := flt (canB l) 0 l.length
theorem F9_eq {N : Nat} (hN : 100 ≤ N) {l : List Row} (h : may l = true) : F9 N l = some (.r (rowsN (ready l))) := by
  obtain ⟨M, rfl⟩ : ∃ M, N = M + 1 := ⟨N - 1, by omega⟩
  have hl := (may_ok h).1
  show (match F16 M l with | none => none | some (.r x) => _) = _
  rw [F16_eq (by omega), h]
  simp only [Bool.not_true]
  show (match L9a218 M M l l.length 0 l (rowsN []) with | none => (none : Option R9) | some (.x0 _ b) => some (.r b)) = _
  rw [show (0 : Int) = ((0 : Nat) : Int) from rfl, L9_all h M (by omega) l.length M 0 [] (by omega) (by omega) (by simp)]
  simp [ready]
theorem F9_not {N : Nat} (hN : 100 ≤ N) {l : List Row} (h : may l = false) : F9 N l = some (.r []) := by
  obtain ⟨M, rfl⟩ : ∃ M, N = M + 1 := ⟨N - 1, by omega⟩
  show (match F16 M l with | none => none | some (.r x) => _) = _
  rw [F16_eq (by omega), h]
  rfl

/-! ### Ready, of the document -/
theorem J33_eq (N : Nat) (l : List Row) (t s : Int) (i : Nat) (hi : i < l.length) : J33a1864 N l t s i = some (.nx (isOf l t s i)) := by
  have e : decide ((i : Int) < (l.length : Int)) = true := by simp; omega
  have e1 : decide ((0 : Int) ≤ (i : Int)) = true := by simp
  unfold J33a1864
  simp only [e, e1, Bool.and_self, tst, ← cI.eq_1, isOf]
  have e5 : decide ((0 : Int) < (i : Int)) = decide (0 < i) := by simp
  rw [e5]
  cases cI l i 5 == t <;> cases cI l i 6 == s <;> simp
theorem L33_all {l : List Row} (hl : l.length ≤ 32) (N : Nat) (t s : Int) : ∀ (k n i : Nat) (acc : List Nat), i + k = l.length → k < n → acc.length ≤ i → L33a58 N n l t s i (rowsN acc) = some (.x0 (rowsN (acc ++ flt (isOf l t s) i k)))
  | 0, n + 1, i, acc, h1, _, _ => by
    have e : decide ((i : Int) < (l.length : Int)) = false := by simp; omega
    show (match decide ((i : Int) < (l.length : Int)) with | true => _ | false => _) = _
    rw [e]; simp [flt]
  | k + 1, n + 1, i, acc, h1, hn, ha => by
    have e : decide ((i : Int) < (l.length : Int)) = true := by simp; omega
    have e4 : decide (((rowsN acc).length + 1) * 8 ≤ 140737488355328) = true := by rw [rowsN_length]; simp; omega
    show (match decide ((i : Int) < (l.length : Int)) with | true => _ | false => _) = _
    simp only [e, tst]
    rw [J33_eq N l t s i (by omega), wrap_succ (by omega)]
    have ih := L33_all hl N t s k n (i + 1)
    unfold flt
    cases isOf l t s i with
    | false => exact ih acc (by omega) (by omega) (by omega)
    | true =>
      simp only [e4, rowsN_append]
      rw [ih (acc ++ [i]) (by omega) (by omega) (by simp; omega)]
      simp
  | _, 0, _, _, _, h, _ => by omega
theorem F33_eq {N : Nat} (hN : 50 ≤ N) {l : List Row} (hl : l.length ≤ 32) (t s : Int) : F33 N l t s = some (.r (rowsN (flt (isOf l t s) 0 l.length))) := by
  obtain ⟨M, rfl⟩ : ∃ M, N = M + 1 := ⟨N - 1, by omega⟩
  show (match L33a58 M M l t s 0 (rowsN []) with | none => (none : Option R33) | some (.x0 b) => some (.r b)) = _
  rw [show (0 : Int) = ((0 : Nat) : Int) from rfl, L33_all hl M t s l.length M 0 [] (by omega) (by omega) (by simp)]
  simp

theorem L24_all {l : List Row} (h : may l = true) (N : Nat) (hN : 80 ≤ N) (xs : List Nat) (hx : xs.length ≤ 1000) (hin : ∀ x ∈ xs, x < l.length) :
    ∀ (k n i : Nat), i + k = xs.length → k < n → L24a250 N n l i (rowsN xs) = match (xs.drop i).all (fun c => !cB l c 0 || quiet l c) with | true => some (.x0 (rowsN xs)) | false => some (.ret false (rowsN xs))
  | 0, n + 1, i, h1, _ => by
    have e : decide ((i : Int) < ((rowsN xs).length : Int)) = false := by rw [rowsN_length]; simp; omega
    show (match decide ((i : Int) < ((rowsN xs).length : Int)) with | true => _ | false => _) = _
    rw [e, List.drop_eq_nil_of_le (by omega)]; rfl
  | k + 1, n + 1, i, h1, hn => by
    have hi : i < xs.length := by omega
    have hm := hin _ (List.getElem_mem hi)
    have hl := (may_ok h).1
    have e : decide ((i : Int) < ((rowsN xs).length : Int)) = true := by rw [rowsN_length]; simp; omega
    have e1 : decide ((0 : Int) ≤ (i : Int)) = true := by simp
    have e2 : decide (i < (rowsN xs).length) = true := by rw [rowsN_length]; simp; omega
    have e3 : decide ((0 : Int) ≤ ((xs[i] : Nat) : Int)) = true := by simp
    have e4 : decide (((xs[i] : Nat) : Int) < (l.length : Int)) = true := by simp; omega
    show (match decide ((i : Int) < ((rowsN xs).length : Int)) with | true => _ | false => _) = _
    simp only [e, e1, Bool.and_self, tst, Int.toNat_natCast, e2, rowsN_get hi, e3, e4]
    rw [List.drop_eq_getElem_cons hi, List.all_cons]
    rw [wrap_succ (by omega)]
    have ih := L24_all h N hN xs hx hin k n (i + 1) (by omega) (by omega)
    have hcb : ((l.getD xs[i] []).getD 0 .top).toB = cB l (xs[i] : Nat) 0 := by simp [cB]
    rw [hcb]
    cases hb : cB l (xs[i] : Nat) 0 with
    | false => simp only [Bool.not_false, Bool.true_or, Bool.true_and]; exact ih
    | true =>
      obtain ⟨M, rfl⟩ : ∃ M, N = M + 1 := ⟨N - 1, by omega⟩
      simp only [F32_eq h l.length xs[i] (by omega) (by omega) M (by omega)]
      cases hq : quiet l xs[i] with
      | false => rfl
      | true => simp only [Bool.not_true, Bool.false_or, Bool.true_and]; exact ih
  | _, 0, _, _, h => by omega

theorem all_flt (m p : Nat → Bool) : ∀ (k i : Nat), (flt m i k).all p = allF (fun c => !m c || p c) i k
  | 0, _ => rfl
  | k + 1, i => by
    simp only [flt, allF]
    cases m i with
    | true => simp [List.all_cons, all_flt m p k]
    | false => simp [all_flt m p k]

theorem J24_eq {l : List Row} (h : may l = true) (N : Nat) (hN : 80 ≤ N) (i : Nat) (hi : i < l.length) :
    J24a14 N l i (cB l i 0) (cB l i 1) (cB l i 2) (cB l i 3) (cB l i 4) (cI l i 5) (cI l i 6) (cI l i 7) = match cB l i 3 && (!cB l i 4 && (!decide (cI l i 5 < 0) && (!(cI l (cI l i 5) 7 != cI l i 6) && quiet l i))) with
      | true => some (.nx (cB l i 0) (cB l i 1) (cB l i 2) (cB l i 3) (cB l i 4) (cI l i 5) (cI l i 6) (cI l i 7))
      | false => some (.ret false (cB l i 0) (cB l i 1) (cB l i 2) (cB l i 3) (cB l i 4) (cI l i 5) (cI l i 6) (cI l i 7)) := by
  have hl := (may_ok h).1
  unfold J24a14
  cases h3 : cB l i 3 with
  | false => rfl
  | true =>
    cases h4 : cB l i 4 with
    | true => rfl
    | false =>
      obtain ⟨M, rfl⟩ : ∃ M, N = M + 1 := ⟨N - 1, by omega⟩
      simp only [F32_eq h l.length i (by omega) (by omega) M (by omega), Bool.not_true, Bool.not_false, Bool.true_and]
      cases hq : quiet l i with
      | false => simp
      | true =>
        cases h5 : decide (cI l i 5 < 0) with
        | true => rfl
        | false =>
          simp only [decide_eq_false_iff_not] at h5
          have e1 : decide ((0 : Int) ≤ cI l i 5) = true := by simp; omega
          have e2 : decide (cI l i 5 < (l.length : Int)) = true := by
            have := may_own h hi
            by_cases h0 : i = 0
            · have := this.1 h0; omega
            · have := this.2 (by omega); simp; omega
          simp only [e1, e2, Bool.and_self, tst, ← cI.eq_1, ← cB.eq_1]
          cases h7 : cI l (cI l i 5) 7 != cI l i 6 <;> rfl

theorem F24_eq {l : List Row} (h : may l = true) (N : Nat) (hN : 100 ≤ N) (i : Nat) (hi : i < l.length) : F24 N l i = some (.r (canB l i)) := by
  obtain ⟨M, rfl⟩ : ∃ M, N = M + 1 := ⟨N - 1, by omega⟩
  have hl := (may_ok h).1
  have e : decide ((i : Int) < (l.length : Int)) = true := by simp; omega
  have e1 : decide ((0 : Int) ≤ (i : Int)) = true := by simp
  show (tst (decide ((0 : Int) ≤ (i : Int)) && decide ((i : Int) < (l.length : Int))) <| _) = _
  simp only [e, e1, Bool.and_self, tst, ← cI.eq_1, ← cB.eq_1]
  rw [J24_eq h M (by omega) i hi]
  have hcan : canB l i = ((cB l i 3 && (!cB l i 4 && (!decide (cI l i 5 < 0) && (!(cI l (cI l i 5) 7 != cI l i 6) && quiet l i)))) && allF (fun c => !(isOf l (cI l i 5) (cI l i 6) c && cB l c 0) || quiet l c) 0 l.length) := by
    unfold canB; simp only [Bool.and_assoc]
  rw [hcan]
  cases hc : cB l i 3 && (!cB l i 4 && (!decide (cI l i 5 < 0) && (!(cI l (cI l i 5) 7 != cI l i 6) && quiet l i))) with
  | false => rfl
  | true =>
    simp only [F33_eq (show 50 ≤ M by omega) hl, Bool.true_and]
    have hlen := flt_length (isOf l (cI l i 5) (cI l i 6)) l.length 0
    have hall := L24_all h M (by omega) (flt (isOf l (cI l i 5) (cI l i 6)) 0 l.length) (by omega) (fun x hx => by have := mem_flt.1 hx; omega) _ M 0 (Nat.zero_add _) (by omega)
    rw [show ((0 : Nat) : Int) = (0 : Int) from rfl] at hall
    rw [hall, List.drop_zero, all_flt]
    rw [allF_congr (q := fun c => !(isOf l (cI l i 5) (cI l i 6) c && cB l c 0) || quiet l c) fun j _ _ => by cases isOf l (cI l i 5) (cI l i 6) j <;> simp]
    cases allF (fun c => !(isOf l (cI l i 5) (cI l i 6) c && cB l c 0) || quiet l c) 0 l.length <;> rfl

theorem L10_all {l : List Row} (h : may l = true) (N : Nat) (hN : 100 ≤ N) : ∀ (k n i : Nat) (acc : List Nat), i + k = l.length → k < n → acc.length ≤ i → L10a122 N n l i (rowsN acc) = some (.x0 (rowsN (acc ++ flt (canB l) i k)))
  | 0, n + 1, i, acc, h1, _, _ => by
    have e : decide ((i : Int) < (l.length : Int)) = false := by simp; omega
    show (match decide ((i : Int) < (l.length : Int)) with | true => _ | false => _) = _
    rw [e]; simp [flt]
  | k + 1, n + 1, i, acc, h1, hn, ha => by
    have hl := (may_ok h).1
    have e : decide ((i : Int) < (l.length : Int)) = true := by simp; omega
    have e4 : decide (((rowsN acc).length + 1) * 8 ≤ 140737488355328) = true := by rw [rowsN_length]; simp; omega
    show (match decide ((i : Int) < (l.length : Int)) with | true => _ | false => _) = _
    simp only [e, tst]
    rw [F24_eq h N hN i (by omega), wrap_succ (by omega)]
    have ih := L10_all h N hN k n (i + 1)
    unfold flt
    cases canB l i with
    | false => exact ih acc (by omega) (by omega) (by omega)
    | true =>
      simp only [e4, rowsN_append]
      rw [ih (acc ++ [i]) (by omega) (by omega) (by simp; omega)]
      simp
  | _, 0, _, _, _, h, _ => by omega
theorem F10_eq {N : Nat} (hN : 110 ≤ N) {l : List Row} (h : may l = true) : F10 N l = some (.r (rowsN (ready l))) := by
  obtain ⟨M, rfl⟩ : ∃ M, N = M + 1 := ⟨N - 1, by omega⟩
  have hl := (may_ok h).1
  show (match F19 M l with | none => none | some (.r x) => _) = _
  rw [F19_eq (by omega), h]
  simp only [Bool.not_true]
  show (match L10a122 M M l 0 (rowsN []) with | none => (none : Option R10) | some (.x0 b) => some (.r b)) = _
  rw [show (0 : Int) = ((0 : Nat) : Int) from rfl, L10_all h M (by omega) l.length M 0 [] (by omega) (by omega) (by simp)]
  simp [ready]
theorem F10_not {N : Nat} (hN : 110 ≤ N) {l : List Row} (h : may l = false) : F10 N l = some (.r []) := by
  obtain ⟨M, rfl⟩ : ∃ M, N = M + 1 := ⟨N - 1, by omega⟩
  show (match F19 M l with | none => none | some (.r x) => _) = _
  rw [F19_eq (by omega), h]
  rfl

/-! ### Same -/
theorem L8_all (N : Nat) (xs : List Nat) (hx : xs.length ≤ 1000) : ∀ (k n i : Nat), i + k = xs.length → k < n → L8a58 N n (rowsN xs) (rowsN xs) i = some .x0
  | 0, n + 1, i, h1, _ => by
    have e : decide ((i : Int) < ((rowsN xs).length : Int)) = false := by rw [rowsN_length]; simp; omega
    show (match decide ((i : Int) < ((rowsN xs).length : Int)) with | true => _ | false => _) = _
    rw [e]
  | k + 1, n + 1, i, h1, hn => by
    have e : decide ((i : Int) < ((rowsN xs).length : Int)) = true := by rw [rowsN_length]; simp; omega
    have e1 : decide ((0 : Int) ≤ (i : Int)) = true := by simp
    show (match decide ((i : Int) < ((rowsN xs).length : Int)) with | true => _ | false => _) = _
    simp only [e, e1, Bool.and_self, tst, bne_self_eq_false]
    rw [wrap_succ (by omega)]
    exact L8_all N xs hx k n (i + 1) (by omega) (by omega)
  | _, 0, _, _, h => by omega
theorem F8_same {N : Nat} (hN : 50 ≤ N) {xs : List Nat} (hx : xs.length ≤ 45) : F8 N (rowsN xs) (rowsN xs) = some (.r true) := by
  obtain ⟨M, rfl⟩ : ∃ M, N = M + 1 := ⟨N - 1, by omega⟩
  show (match ((rowsN xs).length : Int) != ((rowsN xs).length : Int) with | true => _ | false => _) = _
  simp only [bne_self_eq_false]
  rw [show (0 : Int) = ((0 : Nat) : Int) from rfl, L8_all M xs (by omega) xs.length M 0 (by omega) (by omega)]

end Go.Proofs.Ytfggehkiglenjaa

namespace Go.Proofs.Ytfggehkiglenjaa
open Go Go.Eng

def goF (f : Nat → (Nat → Bool) → Nat → Bool) (p : Nat → Bool) : Nat → Nat → (Nat → Bool) → Nat → Bool
  | _, 0, m => m
  | i, k + 1, m => goF f p (i + 1) k (match p i with | true => f i m | false => m)
theorem goF_congr {f g : Nat → (Nat → Bool) → Nat → Bool} {p : Nat → Bool} : ∀ {k i : Nat} (m : Nat → Bool), (∀ c m, i ≤ c → c < i + k → p c = true → f c m = g c m) → goF f p i k m = goF g p i k m
  | 0, _, _, _ => rfl
  | k + 1, i, m, h => by
    simp only [goF]
    have : (match p i with | true => f i m | false => m) = (match p i with | true => g i m | false => m) := by
      cases hp : p i with
      | true => exact h i m (Nat.le_refl _) (by omega) hp
      | false => rfl
    rw [this]
    exact goF_congr _ fun c m h1 h2 h3 => h c m (by omega) (by omega) h3

/-- Born, not done, not aborted. -/
def okb (l : List Row) (t : Nat) : Bool := cB l t 0 && (!cB l t 1 && !cB l t 2)
def abF (l : List Row) : Nat → Nat → (Nat → Bool) → Nat → Bool
  | 0, _, m => m
  | k + 1, t, m => match m t || !okb l t with | true => m | false => goF (abF l k) (child l t) 0 l.length (upd m t)
theorem child_gt {l : List Row} (h : may l = true) {t : Int} {c : Nat} (hc : c < l.length) (hk : child l t c = true) : 0 < c ∧ 0 ≤ t ∧ t < c := by
  simp only [child, Bool.and_eq_true, decide_eq_true_eq, beq_iff_eq] at hk
  have := (may_own h hc).2 hk.1
  omega
theorem abF_more {l : List Row} (h : may l = true) : ∀ (k k' t : Nat) (m : Nat → Bool), t < l.length → l.length ≤ t + k → l.length ≤ t + k' → abF l k t m = abF l k' t m
  | 0, _, t, _, h0, h1, _ => by omega
  | k + 1, 0, t, _, h0, _, h2 => by omega
  | k + 1, k' + 1, t, m, h0, h1, h2 => by
    simp only [abF]
    rw [goF_congr (upd m t) fun c m' h3 h4 h5 => ?_]
    have := child_gt h (by omega) h5
    exact abF_more h k k' c m' (by omega) (by omega) (by omega)
/-- What is aborted when task t is, and m is already. -/
def ab (l : List Row) (t : Nat) (m : Nat → Bool) : Nat → Bool := abF l l.length t m
theorem ab_eq {l : List Row} (h : may l = true) {t : Nat} (ht : t < l.length) (m : Nat → Bool) : ab l t m = match m t || !okb l t with | true => m | false => goF (ab l) (child l t) 0 l.length (upd m t) := by
  unfold ab
  rw [abF_more h l.length (l.length + 1) t m ht (by omega) (by omega), abF]

theorem L25_all {l : List Row} (h : may l = true) (N : Nat) (t : Int) (rec : TF25) (hrec : ∀ (c : Nat) (m : Nat → Bool), c < l.length → child l t c = true → rec c l (arr m) = some (.r l (arr (ab l c m)))) :
    ∀ (k n i : Nat) (m : Nat → Bool), i + k = l.length → k < n → L25i30f31a6 rec N n l l.length i t (-1) l (arr m) = some (.x0 t (-1) l (arr (goF (ab l) (child l t) i k m)))
  | 0, n + 1, i, m, h1, _ => by
    have e : decide ((i : Int) < (l.length : Int)) = false := by simp; omega
    show (match decide ((i : Int) < (l.length : Int)) with | true => _ | false => _) = _
    rw [e]; rfl
  | k + 1, n + 1, i, m, h1, hn => by
    have hl := (may_ok h).1
    have e : decide ((i : Int) < (l.length : Int)) = true := by simp; omega
    have e1 : decide ((0 : Int) ≤ (i : Int)) = true := by simp
    have e2 : decide ((-1 : Int) < 0) = true := rfl
    have e5 : decide ((0 : Int) < (i : Int)) = decide (0 < i) := by simp
    show (match decide ((i : Int) < (l.length : Int)) with | true => _ | false => _) = _
    simp only [e, e1, e2, Bool.and_self, tst, ← cI.eq_1]
    rw [wrap_succ (by omega), e5]
    have ih := L25_all h N t rec hrec k n (i + 1)
    unfold goF
    have hof : child l t i = (decide (0 < i) && cI l i 5 == t) := rfl
    cases hp : decide (0 < i) with
    | false => rw [hof, hp]; simp only [Bool.false_and]; exact ih m (by omega) (by omega)
    | true =>
      cases hq : cI l i 5 == t with
      | false => rw [hof, hp, hq]; simp only [Bool.and_false]; exact ih m (by omega) (by omega)
      | true =>
        have hc : child l t i = true := by rw [hof, hp, hq]; rfl
        rw [hc]
        simp only
        rw [hrec i m (by omega) hc]
        simp only
        exact ih _ (by omega) (by omega)
  | _, 0, _, _, _, h => by omega

theorem J25_in (rec : TF25) (N : Nat) {l : List Row} (hl : l.length ≤ 32) (t : Nat) (ht : t < l.length) (m : Nat → Bool) : J25a2 rec N t l (arr m) = match m t || !okb l t with | true => some (.ret l (arr m)) | false => some (.nx l (arr m)) := by
  have e0 : decide ((t : Int) < 0) = false := decide_eq_false (by omega)
  have e : decide ((l.length : Int) ≤ (t : Int)) = false := by simp; omega
  have e1 : decide ((0 : Int) ≤ (t : Int)) = true := by simp
  have e2 : decide ((t : Int) < (32 : Int)) = true := by simp; omega
  have e3 : decide (0 + t * 1 + 1 ≤ 32) = true := decide_eq_true (by omega)
  have e4 : decide ((t : Int) < (l.length : Int)) = true := by simp; omega
  unfold J25a2
  simp only [e0, e, e1, e2, e4, Bool.and_self, tst, ← cB.eq_1]
  simp only [Int.toNat_natCast, e3, arr_get m (show t < 32 by omega), okb]
  cases m t <;> cases cB l t 0 <;> cases cB l t 1 <;> cases cB l t 2 <;> rfl
theorem J25_out (rec : TF25) (N : Nat) {l : List Row} (t : Int) (ht : t < 0 ∨ l.length ≤ t) (b : List AV) : J25a2 rec N t l b = some (.ret l b) := by
  unfold J25a2
  by_cases h : t < 0
  · have e0 : decide (t < 0) = true := by simpa using h
    simp only [e0]
  · have e0 : decide (t < 0) = false := by simpa using h
    have e : decide ((l.length : Int) ≤ t) = true := by simp; omega
    simp only [e0, e]

theorem F25_eq {l : List Row} (h : may l = true) : ∀ (d t : Nat), t < l.length → l.length ≤ t + d → ∀ (N : Nat), 40 + d ≤ N → ∀ (m : Nat → Bool), F25 (N + 1) t l (arr m) = some (.r l (arr (ab l t m))) := by
  intro d
  induction d with
  | zero => intro t h0 h1; omega
  | succ d ih =>
    intro t h0 h1 N hN m
    have hl := (may_ok h).1
    obtain ⟨M, rfl⟩ : ∃ M, N = M + 1 := ⟨N - 1, by omega⟩
    have e1 : decide ((0 : Int) ≤ (t : Int)) = true := by simp
    have e2 : decide ((t : Int) < (32 : Int)) = true := by simp; omega
    have e3 : decide (0 + t * 1 + 1 ≤ 32) = true := decide_eq_true (by omega)
    rw [ab_eq h h0]
    show (match J25a2 (F25 (M + 1)) (M + 1) t l (arr m) with | none => (none : Option R25) | some (.nx _ _) => _ | some (.ret b c) => some (.r b c)) = _
    rw [J25_in _ _ hl t h0]
    cases hm : m t || !okb l t with
    | true => rfl
    | false =>
      simp only [e1, e2, Bool.and_self, Bool.and_true, tst, F23_eq]
      simp only [Int.toNat_natCast, e3]
      rw [arr_set m (by omega), show (0 : Int) = ((0 : Nat) : Int) from rfl, L25_all h (M + 1) t (F25 (M + 1)) (fun c m hc hk => ?_) l.length (M + 1) 0 (upd m t) (by omega) (by omega)]
      have := child_gt h hc hk
      exact ih c (by omega) (by omega) M (by omega) m
theorem F25_out {N : Nat} {l : List Row} (t : Int) (ht : t < 0 ∨ l.length ≤ t) (b : List AV) : F25 (N + 1) t l b = some (.r l b) := by
  show (match J25a2 (F25 N) N t l b with | none => (none : Option R25) | some (.nx _ _) => _ | some (.ret b c) => some (.r b c)) = _
  rw [J25_out _ _ t ht]

/-- Task number i of a list. -/
def at1 (xs : List Row) (i : Nat) : Int := ((xs.getD i []).getD 0 .top).toI
/-- What is aborted with a list's tasks. -/
def abL (l xs : List Row) : Nat → Nat → (Nat → Bool) → Nat → Bool
  | _, 0, m => m
  | i, k + 1, m => abL l xs (i + 1) k (match decide (0 ≤ at1 xs i) && decide (at1 xs i < l.length) with | true => ab l (at1 xs i).toNat m | false => m)

theorem L11_all {l : List Row} (h : may l = true) (N : Nat) (hN : 80 ≤ N) (xs : List Row) (hx : xs.length ≤ 1000) : ∀ (k n i : Nat) (m : Nat → Bool), i + k = xs.length → k < n → L11a506 N n xs xs.length i l (arr m) = some (.x0 l (arr (abL l xs i k m)))
  | 0, n + 1, i, m, h1, _ => by
    have e : decide ((i : Int) < (xs.length : Int)) = false := by simp; omega
    show (match decide ((i : Int) < (xs.length : Int)) with | true => _ | false => _) = _
    rw [e]; rfl
  | k + 1, n + 1, i, m, h1, hn => by
    have hl := (may_ok h).1
    have e : decide ((i : Int) < (xs.length : Int)) = true := by simp; omega
    have e1 : decide ((0 : Int) ≤ (i : Int)) = true := by simp
    show (match decide ((i : Int) < (xs.length : Int)) with | true => _ | false => _) = _
    simp only [e, e1, Bool.and_self, tst, Int.toNat_natCast, ← at1.eq_1]
    rw [wrap_succ (by omega)]
    have ih := L11_all h N hN xs hx k n (i + 1)
    obtain ⟨M, rfl⟩ : ∃ M, N = M + 1 := ⟨N - 1, by omega⟩
    unfold abL
    generalize at1 xs i = t
    by_cases hin : 0 ≤ t ∧ t < l.length
    · obtain ⟨u, rfl⟩ : ∃ u : Nat, t = u := ⟨t.toNat, by omega⟩
      have e3 : decide ((0 : Int) ≤ (u : Int)) = true := by simp
      have e4 : decide ((u : Int) < (l.length : Int)) = true := by simp; omega
      rw [F25_eq h l.length u (by omega) (by omega) M (by omega) m]
      simp only [e3, e4, Bool.and_self, Int.toNat_natCast]
      exact ih _ (by omega) (by omega)
    · have e3 : (decide ((0 : Int) ≤ t) && decide (t < (l.length : Int))) = false := by
        simp; omega
      rw [F25_out t (by omega) (arr m), e3]
      simp only
      exact ih _ (by omega) (by omega)
  | _, 0, _, _, _, h => by omega

def aborts (l xs : List Row) : Nat → Bool := abL l xs 0 xs.length fun _ => false
theorem F11_eq {N : Nat} (hN : 100 ≤ N) {l : List Row} (h : may l = true) {xs : List Row} (hx : xs.length ≤ 90) : F11 N l xs = some (.r (rowsN (flt (aborts l xs) 0 l.length))) := by
  obtain ⟨M, rfl⟩ : ∃ M, N = M + 1 := ⟨N - 1, by omega⟩
  have hl := (may_ok h).1
  show (match F16 M l with | none => none | some (.r x) => _) = _
  rw [F16_eq (by omega), h]
  simp only [Bool.not_true]
  show (match L11a506 M M xs xs.length 0 l (arr fun _ => false) with | none => (none : Option R11) | some (.x0 _ _) => _) = _
  rw [show (0 : Int) = ((0 : Nat) : Int) from rfl, L11_all h M (by omega) xs (by omega) xs.length M 0 _ (by omega) (by omega)]
  show (match F26 M l (aborts l xs 0) (aborts l xs 1) (aborts l xs 2) (aborts l xs 3) (aborts l xs 4) (aborts l xs 5) (aborts l xs 6) (aborts l xs 7) (aborts l xs 8) (aborts l xs 9) (aborts l xs 10) (aborts l xs 11) (aborts l xs 12) (aborts l xs 13) (aborts l xs 14) (aborts l xs 15) (aborts l xs 16) (aborts l xs 17) (aborts l xs 18) (aborts l xs 19) (aborts l xs 20) (aborts l xs 21) (aborts l xs 22) (aborts l xs 23) (aborts l xs 24) (aborts l xs 25) (aborts l xs 26) (aborts l xs 27) (aborts l xs 28) (aborts l xs 29) (aborts l xs 30) (aborts l xs 31) with | none => (none : Option R11) | some (.r b) => some (.r b)) = _
  rw [F26_eq (by omega) hl]
theorem F11_not {N : Nat} (hN : 100 ≤ N) {l : List Row} (h : may l = false) (xs : List Row) : F11 N l xs = some (.r []) := by
  obtain ⟨M, rfl⟩ : ∃ M, N = M + 1 := ⟨N - 1, by omega⟩
  show (match F16 M l with | none => none | some (.r x) => _) = _
  rw [F16_eq (by omega), h]
  rfl

/-! ### Abort, of the document -/
def rowsB (k : Nat) (m : Nat → Bool) : List Row := (List.range k).map fun i => [AV.bool (m i)]
theorem rowsB_length (k : Nat) (m : Nat → Bool) : (rowsB k m).length = k := by simp [rowsB]
theorem rowsB_get {k : Nat} (m : Nat → Bool) {i : Nat} (h : i < k) : (((rowsB k m).getD i []).getD 0 .top).toB = m i := by
  simp [rowsB, List.getD, List.getElem?_map, List.getElem?_range h, AV.toB]
theorem rowsB_set {k : Nat} (m : Nat → Bool) {i : Nat} (h : i < k) : (rowsB k m).set i (Eng.setAt ((rowsB k m).getD i []) 0 [AV.bool true]) = rowsB k (upd m i) := by
  have e : Eng.setAt ((rowsB k m).getD i []) 0 [AV.bool true] = [AV.bool true] := by
    simp [rowsB, List.getD, List.getElem?_map, List.getElem?_range h, Eng.setAt]
  rw [e]
  apply List.ext_getElem (by simp [rowsB])
  intro j h1 h2
  simp only [List.length_set, rowsB_length] at h1
  simp only [List.getElem_set, rowsB, List.getElem_map, List.getElem_range, upd]
  by_cases e : i = j
  · subst e; simp
  · have : (j == i) = false := by simp; omega
    simp [e, this]
theorem rowsB_none (k : Nat) : List.replicate k [AV.bool false] = rowsB k fun _ => false := by
  apply List.ext_getElem (by simp [rowsB])
  intro j h1 h2
  simp [rowsB]

theorem L28_all {l : List Row} (h : may l = true) (N : Nat) (t : Nat) (rec : TF28) (hrec : ∀ (c : Nat) (m : Nat → Bool), c < l.length → child l t c = true → rec l c (rowsB l.length m) = some (.r (rowsB l.length (ab l c m)))) :
    ∀ (k n i : Nat) (m : Nat → Bool), i + k = l.length → k < n → L28a62 rec N n l t i (rowsB l.length m) = some (.x0 (rowsB l.length (goF (ab l) (child l t) i k m)))
  | 0, n + 1, i, m, h1, _ => by
    have e : decide ((i : Int) < (l.length : Int)) = false := by simp; omega
    show (match decide ((i : Int) < (l.length : Int)) with | true => _ | false => _) = _
    rw [e]; rfl
  | k + 1, n + 1, i, m, h1, hn => by
    have hl := (may_ok h).1
    have e : decide ((i : Int) < (l.length : Int)) = true := by simp; omega
    have e1 : decide ((0 : Int) ≤ (i : Int)) = true := by simp
    show (match decide ((i : Int) < (l.length : Int)) with | true => _ | false => _) = _
    simp only [e, e1, Bool.and_self, tst, ← cI.eq_1]
    rw [wrap_succ (by omega)]
    have ih := L28_all h N t rec hrec k n (i + 1)
    unfold goF
    have hof : child l t i = (decide (0 < i) && cI l i 5 == t) := rfl
    cases hq : cI l i 5 == t with
    | false => rw [hof, hq]; simp only [Bool.and_false]; exact ih m (by omega) (by omega)
    | true =>
      have hp : decide (0 < i) = true := by
        simp only [beq_iff_eq] at hq
        by_cases h0 : i = 0
        · have := (may_own h (show i < l.length by omega)).1 h0
          omega
        · simp; omega
      have hc : child l t i = true := by rw [hof, hp, hq]; rfl
      rw [hc]
      simp only
      rw [hrec i m (by omega) hc]
      simp only
      exact ih _ (by omega) (by omega)
  | _, 0, _, _, _, h => by omega

theorem J28_in (rec : TF28) (N : Nat) {l : List Row} (t : Nat) (ht : t < l.length) (m : Nat → Bool) (b3 b4 : Bool) (o s a : Int) : J28a6 rec (N + 1) t (rowsB l.length m) (cB l t 0) (cB l t 1) (cB l t 2) b3 b4 o s a = match m t || !okb l t with | true => some (.ret (rowsB l.length m) (cB l t 0) (cB l t 1) (cB l t 2) b3 b4 o s a) | false => some (.nx (rowsB l.length m) (cB l t 0) (cB l t 1) (cB l t 2) b3 b4 o s a) := by
  have e1 : decide ((0 : Int) ≤ (t : Int)) = true := by simp
  have e4 : decide ((t : Int) < ((rowsB l.length m).length : Int)) = true := by rw [rowsB_length]; simp; omega
  have e5 : decide (t < (rowsB l.length m).length) = true := by rw [rowsB_length]; simp; omega
  unfold J28a6
  simp only [F30_eq, e1, e4, Bool.and_self, tst, Int.toNat_natCast, e5, rowsB_get m ht, okb]
  cases m t <;> cases cB l t 0 <;> cases cB l t 1 <;> cases cB l t 2 <;> rfl

theorem F28_eq {l : List Row} (h : may l = true) : ∀ (d t : Nat), t < l.length → l.length ≤ t + d → ∀ (N : Nat), 40 + d ≤ N → ∀ (m : Nat → Bool), F28 (N + 1) l t (rowsB l.length m) = some (.r (rowsB l.length (ab l t m))) := by
  intro d
  induction d with
  | zero => intro t h0 h1; omega
  | succ d ih =>
    intro t h0 h1 N hN m
    have hl := (may_ok h).1
    obtain ⟨M, rfl⟩ : ∃ M, N = M + 1 := ⟨N - 1, by omega⟩
    have e1 : decide ((0 : Int) ≤ (t : Int)) = true := by simp
    have e2 : decide ((t : Int) < (l.length : Int)) = true := by simp; omega
    rw [ab_eq h h0]
    show (tst (decide ((0 : Int) ≤ (t : Int)) && decide ((t : Int) < (l.length : Int))) <| _) = _
    simp only [e1, e2, Bool.and_self, tst, ← cI.eq_1, ← cB.eq_1]
    rw [J28_in _ _ t h0]
    cases hm : m t || !okb l t with
    | true => rfl
    | false =>
      have e4 : decide ((t : Int) < ((rowsB l.length m).length : Int)) = true := by rw [rowsB_length]; simp; omega
      have e5 : decide (t < (rowsB l.length m).length) = true := by rw [rowsB_length]; simp; omega
      simp only [e1, e4, Bool.and_self, Int.toNat_natCast, e5, rowsB_set m h0]
      rw [show (0 : Int) = ((0 : Nat) : Int) from rfl, L28_all h (M + 1) t (F28 (M + 1)) (fun c m hc hk => ?_) l.length (M + 1) 0 (upd m t) (by omega) (by omega)]
      have := child_gt h hc hk
      exact ih c (by omega) (by omega) M (by omega) m

theorem F27_eq (N : Nat) (l : List Row) (t : Int) : F27 (N + 1) l t = some (.r (decide ((0 : Int) ≤ t) && decide (t < (l.length : Int)))) := by
  show (match decide ((0 : Int) ≤ t) with | true => _ | false => _) = _
  cases decide ((0 : Int) ≤ t) <;> rfl
theorem L12_all {l : List Row} (h : may l = true) (N : Nat) (hN : 80 ≤ N) (xs : List Row) (hx : xs.length ≤ 1000) : ∀ (k n i : Nat) (m : Nat → Bool), i + k = xs.length → k < n → L12a122 N n l xs i (rowsB l.length m) = some (.x0 (rowsB l.length (abL l xs i k m)))
  | 0, n + 1, i, m, h1, _ => by
    have e : decide ((i : Int) < (xs.length : Int)) = false := by simp; omega
    show (match decide ((i : Int) < (xs.length : Int)) with | true => _ | false => _) = _
    rw [e]; rfl
  | k + 1, n + 1, i, m, h1, hn => by
    have hl := (may_ok h).1
    have e : decide ((i : Int) < (xs.length : Int)) = true := by simp; omega
    have e1 : decide ((0 : Int) ≤ (i : Int)) = true := by simp
    obtain ⟨M, rfl⟩ : ∃ M, N = M + 1 := ⟨N - 1, by omega⟩
    show (match decide ((i : Int) < (xs.length : Int)) with | true => _ | false => _) = _
    simp only [e, e1, Bool.and_self, tst, Int.toNat_natCast, ← at1.eq_1, F27_eq]
    rw [wrap_succ (by omega)]
    have ih := L12_all h (M + 1) hN xs hx k n (i + 1)
    unfold abL
    generalize at1 xs i = t
    cases hd : decide ((0 : Int) ≤ t) && decide (t < (l.length : Int)) with
    | false => simp only; exact ih _ (by omega) (by omega)
    | true =>
      simp only [Bool.and_eq_true, decide_eq_true_eq] at hd
      obtain ⟨u, rfl⟩ : ∃ u : Nat, t = u := ⟨t.toNat, by omega⟩
      simp only
      rw [F28_eq h l.length u (by omega) (by omega) M (by omega) m]
      simp only [Int.toNat_natCast]
      exact ih _ (by omega) (by omega)
  | _, 0, _, _, _, h => by omega
theorem L12b_all (N : Nat) (l : List Row) (hl : l.length ≤ 32) (m : Nat → Bool) : ∀ (k n i : Nat) (acc : List Nat), i + k = l.length → k < n → acc.length ≤ i → L12a506 N n l i (rowsB l.length m) (rowsN acc) = some (.x2 (rowsB l.length m) (rowsN (acc ++ flt m i k)))
  | 0, n + 1, i, acc, h, _, _ => by
    have e : decide ((i : Int) < (l.length : Int)) = false := by simp; omega
    show (match decide ((i : Int) < (l.length : Int)) with | true => _ | false => _) = _
    rw [e]; simp [flt]
  | k + 1, n + 1, i, acc, h, hn, ha => by
    have e : decide ((i : Int) < (l.length : Int)) = true := by simp; omega
    have e1 : decide ((0 : Int) ≤ (i : Int)) = true := by simp
    have e3 : decide ((i : Int) < ((rowsB l.length m).length : Int)) = true := by rw [rowsB_length]; simp; omega
    have e6 : decide (i < (rowsB l.length m).length) = true := by rw [rowsB_length]; simp; omega
    have e4 : decide (((rowsN acc).length + 1) * 8 ≤ 140737488355328) = true := by rw [rowsN_length]; simp; omega
    show (match decide ((i : Int) < (l.length : Int)) with | true => _ | false => _) = _
    simp only [e, e1, e3, Bool.and_self, tst, Int.toNat_natCast, e6, rowsB_get m (show i < l.length by omega), e4, rowsN_append]
    rw [wrap_succ (by omega)]
    have ih := L12b_all N l hl m k n (i + 1)
    unfold flt
    cases m i with
    | false => exact ih acc (by omega) (by omega) (by omega)
    | true =>
      simp only
      rw [ih (acc ++ [i]) (by omega) (by omega) (by simp; omega)]
      simp
  | _, 0, _, _, _, h, _ => by omega
theorem F12_eq {N : Nat} (hN : 100 ≤ N) {l : List Row} (h : may l = true) {xs : List Row} (hx : xs.length ≤ 45) : F12 N l xs = some (.r (rowsN (flt (aborts l xs) 0 l.length))) := by
  obtain ⟨M, rfl⟩ : ∃ M, N = M + 1 := ⟨N - 1, by omega⟩
  have hl := (may_ok h).1
  show (match F19 M l with | none => none | some (.r x) => _) = _
  rw [F19_eq (by omega), h]
  have e1 : decide ((0 : Int) ≤ (l.length : Int)) = true := by simp
  have e2 : decide ((l.length : Int) ≤ (l.length : Int)) = true := by simp
  have e3 : decide ((l.length : Int) * 1 ≤ 140737488355328) = true := by simp; omega
  simp only [Bool.not_true, e1, e2, e3, Bool.and_self, tst, Int.toNat_natCast, rowsB_none]
  rw [show (0 : Int) = ((0 : Nat) : Int) from rfl, L12_all h M (by omega) xs (by omega) xs.length M 0 _ (by omega) (by omega)]
  show (match L12a506 M M l ((0 : Nat) : Int) (rowsB l.length (aborts l xs)) (rowsN []) with | none => (none : Option R12) | some (.x2 _ b) => some (.r b)) = _
  rw [L12b_all M l hl _ l.length M 0 [] (by omega) (by omega) (by simp)]
  simp
theorem F12_not {N : Nat} (hN : 100 ≤ N) {l : List Row} (h : may l = false) (xs : List Row) : F12 N l xs = some (.r []) := by
  obtain ⟨M, rfl⟩ : ∃ M, N = M + 1 := ⟨N - 1, by omega⟩
  show (match F19 M l with | none => none | some (.r x) => _) = _
  rw [F19_eq (by omega), h]
  rfl

end Go.Proofs.Ytfggehkiglenjaa

namespace Go.Proofs.Ytfggehkiglenjaa
open Go Go.Eng
theorem take_le (x : List Row) : (x.take (Eng.imin (x.length : Int) 40).toNat).length ≤ 40 := by
  rw [List.length_take]; unfold Eng.imin; split <;> omega
theorem imin_bounds (n : Nat) : (decide ((0 : Int) ≤ (Eng.imin (n : Int) 40)) && decide ((Eng.imin (n : Int) 40) ≤ (n : Int)) && decide ((n : Int) ≤ (n : Int))) = true := by
  unfold Eng.imin; split <;> simp <;> omega
theorem aborts_true (x y : List Row) : F3 200 x y = some (.r true) := by
  show (tst (decide ((0 : Int) ≤ (Eng.imin (x.length : Int) 40)) && decide ((Eng.imin (x.length : Int) 40) ≤ (x.length : Int)) && decide ((x.length : Int) ≤ (x.length : Int))) <|
    tst (decide ((0 : Int) ≤ (Eng.imin (y.length : Int) 40)) && decide ((Eng.imin (y.length : Int) 40) ≤ (y.length : Int)) && decide ((y.length : Int) ≤ (y.length : Int))) <| _) = _
  simp only [imin_bounds, tst]
  have hy := take_le y
  generalize x.take (Eng.imin (x.length : Int) 40).toNat = l at *
  generalize y.take (Eng.imin (y.length : Int) 40).toNat = xs at *
  cases h : may l with
  | true =>
    have hl := (may_ok h).1
    have h1 := flt_length (canB l) l.length 0
    have h2 := flt_length (aborts l xs) l.length 0
    rw [F9_eq (by omega) h, F10_eq (by omega) h]
    simp only
    rw [F8_same (by omega) (by unfold ready; omega)]
    simp only
    rw [F11_eq (by omega) h (by omega), F12_eq (by omega) h (by omega)]
    simp only
    rw [F8_same (by omega) (by omega)]
    simp only [works_true]
  | false =>
    rw [F9_not (by omega) h, F10_not (by omega) h]
    simp only
    rw [show ([] : List Row) = rowsN [] from rfl, F8_same (by omega) (by simp)]
    simp only
    rw [F11_not (by omega) h, F12_not (by omega) h]
    simp only
    rw [show ([] : List Row) = rowsN [] from rfl, F8_same (by omega) (by simp)]
    simp only [works_true]
end Go.Proofs.Ytfggehkiglenjaa

namespace Go.Proofs.Ytfggehkiglenjaa
open Go Go.Eng

theorem upd_iff {m : Nat → Bool} {i j : Nat} : upd m i j = true ↔ m j = true ∨ j = i := by simp [upd]
theorem goF_ind {P : (Nat → Bool) → Prop} {f : Nat → (Nat → Bool) → Nat → Bool} {p : Nat → Bool} : ∀ {k i : Nat} {m : Nat → Bool}, (∀ c m, i ≤ c → c < i + k → p c = true → P m → P (f c m)) → P m → P (goF f p i k m)
  | 0, _, _, _, h => h
  | k + 1, i, m, hs, h => by
    simp only [goF]
    refine goF_ind (fun c m h1 h2 h3 => hs c m (by omega) (by omega) h3) ?_
    cases hp : p i with
    | true => exact hs i m (Nat.le_refl _) (by omega) hp h
    | false => exact h
theorem ab_mono {l : List Row} (h : may l = true) (j : Nat) : ∀ (d t : Nat), t < l.length → l.length ≤ t + d → ∀ (m : Nat → Bool), m j = true → ab l t m j = true := by
  intro d
  induction d with
  | zero => intro t h0 h1; omega
  | succ d ih =>
    intro t h0 h1 m hm
    rw [ab_eq h h0]
    cases hc : m t || !okb l t with
    | true => exact hm
    | false =>
      refine goF_ind (P := fun m => m j = true) (fun c m' h2 h3 h4 h5 => ?_) (upd_iff.2 (.inl hm))
      have := child_gt h (by omega) h4
      exact ih c (by omega) (by omega) m' h5
theorem ab_mono' {l : List Row} (h : may l = true) {t : Nat} (ht : t < l.length) {m : Nat → Bool} {j : Nat} (hm : m j = true) : ab l t m j = true := ab_mono h j l.length t ht (by omega) m hm
theorem ab_self {l : List Row} (h : may l = true) {t : Nat} (ht : t < l.length) (ho : okb l t = true) (m : Nat → Bool) : ab l t m t = true := by
  rw [ab_eq h ht]
  cases hm : m t with
  | true => simpa using hm
  | false =>
    rw [ho]
    refine goF_ind (P := fun m => m t = true) (fun c m' h2 h3 h4 h5 => ab_mono' h (by omega) h5) (upd_iff.2 (.inr rfl))
theorem ab_id {l : List Row} (h : may l = true) {t : Nat} (ht : t < l.length) {m : Nat → Bool} (hm : m t = true ∨ okb l t = false) : ab l t m = m := by
  rw [ab_eq h ht]
  have : (m t || !okb l t) = true := by rcases hm with hm | hm <;> simp [hm]
  rw [this]

structure Good (l : List Row) (G : Nat → Prop) (m : Nat → Bool) : Prop where
  ok : ∀ j, m j = true → j < l.length ∧ okb l j = true
  why : ∀ j, m j = true → G j ∨ (0 < j ∧ ∃ p : Nat, cI l j 5 = p ∧ m p = true)
theorem ab_good {l : List Row} (h : may l = true) {G : Nat → Prop} : ∀ (d t : Nat), t < l.length → l.length ≤ t + d → ∀ (m : Nat → Bool), (G t ∨ (0 < t ∧ ∃ p : Nat, cI l t 5 = p ∧ m p = true)) → Good l G m → Good l G (ab l t m) := by
  intro d
  induction d with
  | zero => intro t h0 h1; omega
  | succ d ih =>
    intro t h0 h1 m hw hg
    rw [ab_eq h h0]
    cases hc : m t || !okb l t with
    | true => exact hg
    | false =>
      simp only [Bool.or_eq_false_iff, Bool.not_eq_false'] at hc
      refine (goF_ind (P := fun m => Good l G m ∧ m t = true) (fun c m' h2 h3 h4 h5 => ?_) ⟨⟨fun j hj => ?_, fun j hj => ?_⟩, upd_iff.2 (.inr rfl)⟩).1
      · have hgt := child_gt h (by omega) h4
        have ho : cI l c 5 = (t : Int) := by
          simp only [child, Bool.and_eq_true, decide_eq_true_eq, beq_iff_eq] at h4
          exact h4.2
        exact ⟨ih c (by omega) (by omega) m' (.inr ⟨hgt.1, t, ho, h5.2⟩) h5.1, ab_mono' h (by omega) h5.2⟩
      · rcases upd_iff.1 hj with hj | hj
        · exact hg.ok j hj
        · subst hj; exact ⟨h0, hc.2⟩
      · rcases upd_iff.1 hj with hj | hj
        · exact (hg.why j hj).imp id fun ⟨h1, p, h2, h3⟩ => ⟨h1, p, h2, upd_iff.2 (.inl h3)⟩
        · subst hj
          exact hw.imp id fun ⟨h1, p, h2, h3⟩ => ⟨h1, p, h2, upd_iff.2 (.inl h3)⟩

def Cl (l : List Row) (P : Nat → Prop) (m : Nat → Bool) : Prop := ∀ j, j < l.length → 0 < j → okb l j = true → ∀ p : Nat, cI l j 5 = p → m p = true → P p ∨ m j = true
theorem goF_marks {l : List Row} (h : may l = true) (p : Nat → Bool) {c : Nat} (hp : p c = true) (ho : okb l c = true) : ∀ {k i : Nat} (m : Nat → Bool), i + k ≤ l.length → i ≤ c → c < i + k → goF (ab l) p i k m c = true
  | 0, i, m, _, h1, h2 => by omega
  | k + 1, i, m, hk, h1, h2 => by
    simp only [goF]
    by_cases e : c = i
    · subst e
      rw [hp]
      exact goF_ind (P := fun m => m c = true) (fun c' m' h3 h4 h5 h6 => ab_mono' h (by omega) h6) (ab_self h (by omega) ho m)
    · exact goF_marks h p hp ho _ (by omega) (by omega) (by omega)
theorem ab_cl {l : List Row} (h : may l = true) : ∀ (d t : Nat), t < l.length → l.length ≤ t + d → ∀ (P : Nat → Prop) (m : Nat → Bool), Cl l P m → Cl l P (ab l t m) := by
  intro d
  induction d with
  | zero => intro t h0 h1; omega
  | succ d ih =>
    intro t h0 h1 P m hcl
    rw [ab_eq h h0]
    cases hc : m t || !okb l t with
    | true => exact hcl
    | false =>
      have hloop : Cl l (fun p => P p ∨ p = t) (goF (ab l) (child l t) 0 l.length (upd m t)) := by
        refine goF_ind (P := Cl l (fun p => P p ∨ p = t)) (fun c m' h2 h3 h4 h5 => ?_) (fun j hj h2 h3 p h4 h5 => ?_)
        · have := child_gt h (by omega) h4
          exact ih c (by omega) (by omega) _ m' h5
        · rcases upd_iff.1 h5 with h5 | h5
          · rcases hcl j hj h2 h3 p h4 h5 with h6 | h6
            · exact .inl (.inl h6)
            · exact .inr (upd_iff.2 (.inl h6))
          · exact .inl (.inr h5)
      intro j hj h2 h3 p h4 h5
      rcases hloop j hj h2 h3 p h4 h5 with (h6 | h6) | h6
      · exact .inl h6
      · subst h6
        right
        refine goF_marks h (child l p) ?_ h3 _ (by omega) (by omega) (by omega)
        simp only [child, Bool.and_eq_true, decide_eq_true_eq, beq_iff_eq]
        exact ⟨h2, h4⟩
      · exact .inr h6

theorem abL_ind {P : (Nat → Bool) → Prop} {l xs : List Row} : ∀ {k i : Nat} {m : Nat → Bool}, (∀ c (t : Nat) m, i ≤ c → c < i + k → at1 xs c = t → t < l.length → P m → P (ab l t m)) → P m → P (abL l xs i k m)
  | 0, _, _, _, h => h
  | k + 1, i, m, hs, h => by
    simp only [abL]
    refine abL_ind (fun c t m h1 h2 h3 => hs c t m (by omega) (by omega) h3) ?_
    cases hp : decide (0 ≤ at1 xs i) && decide (at1 xs i < l.length) with
    | true =>
      simp only [Bool.and_eq_true, decide_eq_true_eq] at hp
      exact hs i (at1 xs i).toNat m (Nat.le_refl _) (by omega) (by omega) (by omega) h
    | false => exact h
theorem aborts_good {l : List Row} (h : may l = true) (xs : List Row) : Good l (fun j => ∃ i, i < xs.length ∧ at1 xs i = j) (aborts l xs) :=
  abL_ind (P := Good l fun j => ∃ i, i < xs.length ∧ at1 xs i = j) (fun c t m h1 h2 h3 h4 h5 => ab_good h l.length t h4 (by omega) m (.inl ⟨c, by omega, h3⟩) h5) ⟨fun j hj => (by cases hj), fun j hj => (by cases hj)⟩
theorem aborts_cl {l : List Row} (h : may l = true) (xs : List Row) : Cl l (fun _ => False) (aborts l xs) :=
  abL_ind (P := Cl l fun _ => False) (fun c t m h1 h2 h3 h4 h5 => ab_cl h l.length t h4 (by omega) _ m h5) (fun j hj h2 h3 p h4 h5 => by cases h5)
theorem abL_marks {l xs : List Row} (h : may l = true) {c t : Nat} (ht : t < l.length) (hc : at1 xs c = t) (ho : okb l t = true) : ∀ {k i : Nat} (m : Nat → Bool), i ≤ c → c < i + k → abL l xs i k m t = true
  | 0, i, m, h1, h2 => by omega
  | k + 1, i, m, h1, h2 => by
    simp only [abL]
    by_cases e : c = i
    · subst e
      have e1 : (decide ((0 : Int) ≤ (t : Int)) && decide ((t : Int) < l.length)) = true := by simp; omega
      rw [hc, e1]
      refine abL_ind (P := fun m => m t = true) (fun c' t' m' _ _ _ h4 h5 => ab_mono' h h4 h5) ?_
      exact ab_self h ht ho m
    · exact abL_marks h ht hc ho _ (by omega) (by omega)
theorem aborts_marks {l xs : List Row} (h : may l = true) {c t : Nat} (hx : c < xs.length) (ht : t < l.length) (hc : at1 xs c = t) (ho : okb l t = true) : aborts l xs t = true :=
  abL_marks h ht hc ho _ (Nat.zero_le _) (by omega)
theorem abL_id {l xs : List Row} (h : may l = true) {m : Nat → Bool} : ∀ {k i : Nat}, (∀ c (t : Nat), i ≤ c → c < i + k → at1 xs c = t → t < l.length → m t = true ∨ okb l t = false) → abL l xs i k m = m
  | 0, _, _ => rfl
  | k + 1, i, hs => by
    simp only [abL]
    cases hp : decide (0 ≤ at1 xs i) && decide (at1 xs i < l.length) with
    | true =>
      simp only [Bool.and_eq_true, decide_eq_true_eq] at hp
      rw [ab_id h (by omega) (hs i (at1 xs i).toNat (Nat.le_refl _) (by omega) (by omega) (by omega))]
      exact abL_id h fun c t h1 h2 => hs c t (by omega) (by omega)
    | false => exact abL_id h fun c t h1 h2 => hs c t (by omega) (by omega)
theorem abL_append (l xs : List Row) : ∀ (k k' i : Nat) (m : Nat → Bool), abL l xs i (k + k') m = abL l xs (i + k) k' (abL l xs i k m)
  | 0, k', i, m => by simp [abL]
  | k + 1, k', i, m => by
    rw [show k + 1 + k' = (k + k') + 1 by omega, abL, abL_append l xs k k' (i + 1), abL, show i + 1 + k = i + (k + 1) by omega]
theorem abL_congr {l xs ys : List Row} : ∀ {k i j : Nat} (m : Nat → Bool), (∀ c, c < k → at1 xs (i + c) = at1 ys (j + c)) → abL l xs i k m = abL l ys j k m
  | 0, _, _, _, _ => rfl
  | k + 1, i, j, m, h => by
    have h0 := h 0 (by omega)
    simp only [Nat.add_zero] at h0
    simp only [abL, h0]
    exact abL_congr _ fun c hc => by have := h (c + 1) (by omega); rwa [show i + (c + 1) = i + 1 + c by omega, show j + (c + 1) = j + 1 + c by omega] at this
theorem aborts_twice {l : List Row} (h : may l = true) (xs : List Row) : aborts l (xs ++ xs) = aborts l xs := by
  unfold aborts
  rw [List.length_append, abL_append]
  have e1 : abL l (xs ++ xs) 0 xs.length (fun _ => false) = aborts l xs := by
    refine abL_congr _ fun c hc => ?_
    have hg : (xs ++ xs).getD c [] = xs.getD c [] := by
      rw [List.getD_eq_getElem?_getD, List.getElem?_append_left hc, ← List.getD_eq_getElem?_getD]
    simp only [at1, Nat.zero_add, hg]
  rw [e1]
  refine abL_id h fun c t h1 h2 h3 h4 => ?_
  have e2 : at1 (xs ++ xs) c = at1 xs (c - xs.length) := by
    have hg : (xs ++ xs).getD c [] = xs.getD (c - xs.length) [] := by
      rw [List.getD_eq_getElem?_getD, List.getElem?_append_right (by omega), ← List.getD_eq_getElem?_getD]
    simp only [at1, hg]
  cases ho : okb l t with
  | false => exact .inr rfl
  | true => exact .inl (aborts_marks h (c := c - xs.length) (by omega) h4 (by rw [← e2]; exact h3) ho)

/-! ### In, for any list -/
def anyF (p : Nat → Bool) : Nat → Nat → Bool
  | _, 0 => false
  | i, k + 1 => p i || anyF p (i + 1) k
theorem anyF_of {p : Nat → Bool} {j : Nat} (hp : p j = true) : ∀ {k i : Nat}, i ≤ j → j < i + k → anyF p i k = true
  | 0, _, _, _ => by omega
  | k + 1, i, h1, h2 => by
    simp only [anyF, Bool.or_eq_true]
    by_cases e : j = i
    · subst e; exact .inl hp
    · exact .inr (anyF_of hp (by omega) (by omega))
theorem L18_any (N : Nat) (xs : List Row) (hx : xs.length ≤ 1000) (v : Int) : ∀ (k n i : Nat), i + k = xs.length → k < n → L18a26 N n xs v i = match anyF (fun j => at1 xs j == v) i k with | true => some (.ret true) | false => some .x0
  | 0, n + 1, i, h, _ => by
    have e : decide ((i : Int) < (xs.length : Int)) = false := decide_eq_false (by omega)
    show (match decide ((i : Int) < (xs.length : Int)) with | true => _ | false => _) = _
    rw [e]; rfl
  | k + 1, n + 1, i, h, hn => by
    have e : decide ((i : Int) < (xs.length : Int)) = true := decide_eq_true (by omega)
    have e1 : decide ((0 : Int) ≤ (i : Int)) = true := by simp
    show (match decide ((i : Int) < (xs.length : Int)) with | true => _ | false => _) = _
    simp only [e, e1, Bool.and_self, tst, Int.toNat_natCast, ← at1.eq_1, anyF]
    cases hq : (at1 xs i == v) with
    | true => rfl
    | false =>
      simp only [Bool.false_or]
      rw [wrap_succ (by omega)]
      exact L18_any N xs hx v k n (i + 1) (by omega) (by omega)
  | _, 0, _, _, h => by omega
theorem F18_any {N : Nat} (hN : 50 ≤ N) {xs : List Row} (hx : xs.length ≤ 45) (v : Int) : F18 N xs v = some (.r (anyF (fun j => at1 xs j == v) 0 xs.length)) := by
  obtain ⟨M, rfl⟩ : ∃ M, N = M + 1 := ⟨N - 1, by omega⟩
  show (match L18a26 M M xs v 0 with | none => (none : Option R18) | some (.ret x) => some (.r x) | some (.x0) => some (.r false)) = _
  rw [show (0 : Int) = ((0 : Nat) : Int) from rfl, L18_any M xs (by omega) v xs.length M 0 (by omega) (by omega)]
  cases anyF (fun j => at1 xs j == v) 0 xs.length <;> rfl

/-! ### Rows with tasks aborted -/
def setAs : List Row → List Nat → List Row
  | l, [] => l
  | l, u :: r => setAs (l.set u (Eng.setAt (l.getD u []) 2 [.bool true])) r
theorem set_row {row : Row} (h : row.length = 8) (c : Nat) : ((Eng.setAt row 2 [.bool true]).getD c .top) = if c = 2 then .bool true else row.getD c .top := by
  simp only [Eng.setAt, List.getD_eq_getElem?_getD]
  by_cases e : c = 2
  · subst e; rw [List.getElem?_set_self (by omega)]; simp
  · rw [List.getElem?_set_ne (Ne.symm e)]; simp [e]
theorem set_len {row : Row} : (Eng.setAt row 2 [.bool true]).length = row.length := by simp [Eng.setAt]
theorem setAs_length : ∀ (us : List Nat) (l : List Row), (setAs l us).length = l.length
  | [], _ => rfl
  | u :: r, l => by rw [setAs, setAs_length r]; simp
theorem getD_set {l : List Row} {u j : Nat} {row : Row} (hu : u < l.length) : (l.set u row).getD j [] = if j = u then row else l.getD j [] := by
  simp only [List.getD_eq_getElem?_getD]
  by_cases e : j = u
  · subst e; rw [List.getElem?_set_self hu]; simp
  · rw [List.getElem?_set_ne (Ne.symm e)]; simp [e]
theorem setAs_cell : ∀ (us : List Nat) (l : List Row), (∀ u ∈ us, u < l.length) → (∀ i, i < l.length → (l.getD i []).length = 8) → ∀ (j c : Nat), ((setAs l us).getD j []).getD c .top = if c = 2 ∧ j ∈ us then .bool true else (l.getD j []).getD c .top
  | [], l, _, _, j, c => by simp [setAs]
  | u :: r, l, hu, h8, j, c => by
    have hul : u < l.length := hu u (by simp)
    rw [setAs, setAs_cell r _ (fun v hv => by rw [List.length_set]; exact hu v (by simp [hv])) (fun i hi => by
      rw [List.length_set] at hi
      rw [getD_set hul]
      split
      · rw [set_len]; exact h8 u hul
      · exact h8 i hi)]
    rw [getD_set hul]
    by_cases e : j = u
    · subst e
      rw [if_pos rfl, set_row (h8 j hul)]
      by_cases e2 : c = 2 <;> by_cases e3 : j ∈ r <;> simp [e2, e3]
    · rw [if_neg e]
      simp [e]

theorem setAs_cI {us : List Nat} {l : List Row} (ha : ∀ u ∈ us, u < l.length) (h8 : ∀ i, i < l.length → (l.getD i []).length = 8) (j : Int) {c : Nat} (hc : c ≠ 2) : cI (setAs l us) j c = cI l j c := by
  unfold cI; rw [setAs_cell us l ha h8]; simp [hc]
theorem setAs_cB {us : List Nat} {l : List Row} (ha : ∀ u ∈ us, u < l.length) (h8 : ∀ i, i < l.length → (l.getD i []).length = 8) (j : Int) {c : Nat} (hc : c ≠ 2) : cB (setAs l us) j c = cB l j c := by
  unfold cB; rw [setAs_cell us l ha h8]; simp [hc]
theorem setAs_cB2 {us : List Nat} {l : List Row} (ha : ∀ u ∈ us, u < l.length) (h8 : ∀ i, i < l.length → (l.getD i []).length = 8) (j : Int) : cB (setAs l us) j 2 = if j.toNat ∈ us then true else cB l j 2 := by
  unfold cB; rw [setAs_cell us l ha h8]
  by_cases e : j.toNat ∈ us <;> simp [e, AV.toB]
theorem badC_ab {b0 b1 b2 b2' b3 b4 : Bool} {a : Int} (h : b0 = true) : badC b0 b1 b2 b3 b4 a = badC b0 b1 b2' b3 b4 a := by subst h; simp [badC]
theorem okFrom_congr {l l' : List Row} : ∀ {k i : Nat}, (∀ j : Nat, i ≤ j → j < i + k → okAt l j = okAt l' j) → okFrom l i k = okFrom l' i k
  | 0, _, _ => rfl
  | k + 1, i, h => by
    simp only [okFrom]
    rw [h i (Nat.le_refl _) (by omega), okFrom_congr (k := k) (i := i + 1) fun j h1 h2 => h j (by omega) (by omega)]
theorem setAs_may {us : List Nat} {l : List Row} (ha : ∀ u ∈ us, u < l.length) (h8 : ∀ i, i < l.length → (l.getD i []).length = 8) (hb : ∀ u ∈ us, cB l u 0 = true) : may (setAs l us) = may l := by
  unfold may
  rw [setAs_length]
  congr 1
  refine okFrom_congr fun j h1 h2 => ?_
  unfold okAt lv
  simp only [setAs_cI ha h8 _ (show 5 ≠ 2 by decide), setAs_cI ha h8 _ (show 6 ≠ 2 by decide), setAs_cI ha h8 _ (show 7 ≠ 2 by decide), setAs_cB ha h8 _ (show 0 ≠ 2 by decide), setAs_cB ha h8 _ (show 1 ≠ 2 by decide), setAs_cB ha h8 _ (show 3 ≠ 2 by decide), setAs_cB ha h8 _ (show 4 ≠ 2 by decide), setAs_cB2 ha h8]
  by_cases e : ((j : Int).toNat) ∈ us
  · rw [if_pos e, badC_ab (b2' := cB l j 2) (by have := hb _ e; simpa using this)]
  · rw [if_neg e]

theorem flt_sorted (m : Nat → Bool) : ∀ (k i : Nat), (flt m i k).Pairwise (· < ·)
  | 0, _ => by simp [flt]
  | k + 1, i => by
    simp only [flt]
    cases m i with
    | true =>
      simp only [List.pairwise_cons]
      exact ⟨fun j hj => by have := mem_flt.1 hj; omega, flt_sorted m k (i + 1)⟩
    | false => exact flt_sorted m k (i + 1)

end Go.Proofs.Ytfggehkiglenjaa

namespace Go.Proofs.Ytfggehkiglenjaa
open Go Go.Eng

/-! ### Facts of right rows -/
theorem may_c {l : List Row} (h : may l = true) {j : Nat} (hj : j < l.length) : badC (cB l j 0) (cB l j 1) (cB l j 2) (cB l j 3) (cB l j 4) (cI l j 7) = false ∧ (0 < j → lv l j = true → lv l (cI l j 5) = true) := by
  have := (may_ok h).2 j hj
  simp only [okAt, Bool.and_eq_true, Bool.not_eq_true'] at this
  refine ⟨this.2.2.1, fun h0 h1 => ?_⟩
  have h2 := this.2.2.2
  have e : decide ((0 : Int) < (j : Int)) = true := decide_eq_true (by omega)
  rw [e, h1] at h2
  simpa using h2
theorem waits_lv {l : List Row} (h : may l = true) {j : Nat} (hj : j < l.length) (hw : cB l j 3 = true) : lv l j = true := by
  have := (may_c h hj).1
  unfold badC at this
  rw [hw] at this
  simp only [lv]
  revert this
  cases cB l j 0 <;> cases cB l j 1 <;> simp
theorem quiet_dep {l : List Row} (h : may l = true) {u : Nat} (hu : u < l.length) : ∀ {v : Nat}, v < l.length → lv l v = true → dep l u v = true → lv l u = true ∧ (quiet l u = true → quiet l v = true) := by
  intro v
  induction v using Nat.strongRecOn with
  | _ v ih =>
    intro hv hl hd
    obtain ⟨h0, h1⟩ := (dep_iff h u hv).1 hd
    have hw := (may_own h hv).2 h0
    have hlo := (may_c h hv).2 h0 hl
    obtain ⟨p, hp⟩ : ∃ p : Nat, cI l v 5 = p := ⟨(cI l v 5).toNat, by omega⟩
    rw [hp] at hlo
    have step : quiet l p = true → quiet l v = true := fun hq => by
      rw [quiet_eq h (show p < l.length by omega)] at hq
      have h1' : cB l p 1 = false := by simp only [lv, Bool.and_eq_true, Bool.not_eq_true'] at hlo; exact hlo.2
      rw [h1'] at hq
      simp only [Bool.false_or, Bool.and_eq_true] at hq
      have := allF_iff.1 hq.2.2 v (by omega) (by omega)
      have hk : kid l p v = true := by
        have hb : cB l v 0 = true := by simp only [lv, Bool.and_eq_true] at hl; exact hl.1
        simp [kid, child, h0, hp, hb]
      rw [hk] at this
      simpa using this
    rcases h1 with h1 | h1
    · have : p = u := by omega
      subst this
      exact ⟨hlo, step⟩
    · rw [hp, Int.toNat_natCast] at h1
      have := ih p (by omega) (by omega) hlo h1
      exact ⟨this.1, fun hq => step (this.2 hq)⟩

/-- What ready tells. -/
structure CanF (l : List Row) (t : Nat) : Prop where
  lt : t < l.length
  waits : cB l t 3 = true
  part : cB l t 4 = false
  own : 0 ≤ cI l t 5
  await : cI l (cI l t 5) 7 = cI l t 6
  q : quiet l t = true
  all : ∀ c, c < l.length → isOf l (cI l t 5) (cI l t 6) c = true → cB l c 0 = true → quiet l c = true
theorem can_iff {l : List Row} {t : Nat} : t ∈ ready l ↔ CanF l t := by
  unfold ready
  rw [mem_flt]
  simp only [canB, Bool.and_eq_true, Bool.not_eq_true', decide_eq_false_iff_not, bne_eq_false_iff_eq, allF_iff, Bool.or_eq_true, Bool.and_eq_false_iff]
  constructor
  · rintro ⟨_, h1, h2, h3, h4, h5, h6, h7⟩
    refine ⟨by omega, h2, h3, by omega, h5, h6, fun c hc hi hb => ?_⟩
    rcases h7 c (by omega) (by omega) with (h | h) | h
    · rw [h] at hi; cases hi
    · rw [h] at hb; cases hb
    · exact h
  · intro h
    refine ⟨Nat.zero_le _, by have := h.lt; omega, h.waits, h.part, by have := h.own; omega, h.await, h.q, fun c _ hc => ?_⟩
    cases hi : isOf l (cI l t 5) (cI l t 6) c with
    | false => exact .inl (.inl rfl)
    | true =>
      cases hb : cB l c 0 with
      | false => exact .inl (.inr rfl)
      | true => exact .inr (h.all c (by omega) hi hb)
theorem can_own {l : List Row} (h : may l = true) {t : Nat} (hc : CanF l t) : 0 < t ∧ cI l t 5 < t ∧ 0 ≤ cI l t 6 := by
  have := may_own h hc.lt
  have := hc.own
  by_cases h0 : t = 0
  · have := (may_own h hc.lt).1 h0; omega
  · have := (may_own h hc.lt).2 (by omega); omega

/-! ### The checks -/
theorem J4a_eq {l : List Row} {N t : Nat} (hc : CanF l t) : J4a7474 N l t = some .nx := by
  have ht := hc.lt
  have ho := hc.own
  have e1 : decide ((t : Int) < 0) = false := decide_eq_false (by omega)
  have e2 : decide ((l.length : Int) ≤ (t : Int)) = false := decide_eq_false (by omega)
  have e3 : decide ((0 : Int) ≤ (t : Int)) = true := decide_eq_true (by omega)
  have e4 : decide ((t : Int) < (l.length : Int)) = true := decide_eq_true (by omega)
  have e5 : decide (cI l t 5 < 0) = false := decide_eq_false (by omega)
  unfold J4a7474
  simp only [e1, e2, e3, e4, Bool.and_self, tst, ← cI.eq_1, e5]

def fine (l : List Row) (v : Nat) : Prop := cB l v 0 = true → cB l v 1 = false → cB l v 3 = true ∧ cB l v 2 = false
theorem L4v_all {l : List Row} (hl : l.length ≤ 40) (N : Nat) {xs : List Nat} (hx : xs.length ≤ 45) (hin : ∀ v ∈ xs, v < l.length ∧ fine l v) : ∀ (k n i : Nat), i + k = xs.length → k < n → L4a15309414 N n l xs.length i (rowsN xs) = some (.x4 (rowsN xs))
  | 0, n + 1, i, h1, _ => by
    have e : decide ((i : Int) < (xs.length : Int)) = false := decide_eq_false (by omega)
    show (match decide ((i : Int) < (xs.length : Int)) with | true => _ | false => _) = _
    rw [e]
  | k + 1, n + 1, i, h1, hn => by
    have hi : i < xs.length := by omega
    have hm := hin _ (List.getElem_mem hi)
    have e : decide ((i : Int) < (xs.length : Int)) = true := decide_eq_true (by omega)
    have e1 : decide ((0 : Int) ≤ (i : Int)) = true := decide_eq_true (by omega)
    have e2 : decide ((i : Int) < ((rowsN xs).length : Int)) = true := by rw [rowsN_length]; exact e
    have e2' : decide (i < (rowsN xs).length) = true := by rw [rowsN_length]; exact decide_eq_true (by omega)
    have e3 : decide ((0 : Int) ≤ ((xs[i] : Nat) : Int)) = true := decide_eq_true (by omega)
    have e4 : decide (((xs[i] : Nat) : Int) < (l.length : Int)) = true := decide_eq_true (by omega)
    show (match decide ((i : Int) < (xs.length : Int)) with | true => _ | false => _) = _
    simp only [e, e1, e2, Bool.and_self, tst, Int.toNat_natCast, e2', rowsN_get hi, e3, e4]
    rw [wrap_succ (by omega)]
    have ih := L4v_all hl N hx hin k n (i + 1) (by omega) (by omega)
    have hcb : ∀ c, ((l.getD xs[i] []).getD c .top).toB = cB l (xs[i] : Nat) c := fun c => by simp [cB]
    simp only [hcb]
    have hf := hm.2
    unfold fine at hf
    cases h0 : cB l (xs[i] : Nat) 0 with
    | false => exact ih
    | true =>
      cases h1 : cB l (xs[i] : Nat) 1 with
      | true => exact ih
      | false =>
        obtain ⟨h3, h2⟩ := hf h0 h1
        rw [h3, h2]
        exact ih
  | _, 0, _, _, h => by omega

theorem L4u_all {l : List Row} (h : may l = true) {N : Nat} (hN : 120 ≤ N) {xs : List Nat} (hx : xs.length ≤ 45) (hin : ∀ u ∈ xs, u < l.length ∧ fine l u ∧ ∀ v ∈ deps l u, fine l v) : ∀ (k n i : Nat), i + k = xs.length → k < n → L4a59802 N n l xs.length i (rowsN xs) = some (.x2 (rowsN xs))
  | 0, n + 1, i, h1, _ => by
    have e : decide ((i : Int) < (xs.length : Int)) = false := decide_eq_false (by omega)
    show (match decide ((i : Int) < (xs.length : Int)) with | true => _ | false => _) = _
    rw [e]
  | k + 1, n + 1, i, h1, hn => by
    have hl := (may_ok h).1
    have hi : i < xs.length := by omega
    have hm := hin _ (List.getElem_mem hi)
    have hd := deps_len h ((xs[i] : Nat) : Int)
    have e : decide ((i : Int) < (xs.length : Int)) = true := decide_eq_true (by omega)
    have e1 : decide ((0 : Int) ≤ (i : Int)) = true := decide_eq_true (by omega)
    have e2 : decide ((i : Int) < ((rowsN xs).length : Int)) = true := by rw [rowsN_length]; exact e
    have e2' : decide (i < (rowsN xs).length) = true := by rw [rowsN_length]; exact decide_eq_true (by omega)
    have e3 : decide (((rowsN (deps l (xs[i] : Nat))).length + 1) * 8 ≤ 140737488355328) = true := by rw [rowsN_length]; exact decide_eq_true (by omega)
    show (match decide ((i : Int) < (xs.length : Int)) with | true => _ | false => _) = _
    simp only [e, e1, e2, Bool.and_self, tst, Int.toNat_natCast, e2', rowsN_get hi, F15_eq (show 100 ≤ N by omega) h, e3, rowsN_append]
    rw [wrap_succ (by omega)]
    have hv := L4v_all (l := l) (by omega) N (xs := deps l (xs[i] : Nat) ++ [xs[i]]) (by simp; omega) (fun v hv => by
      rcases List.mem_append.1 hv with hv | hv
      · exact ⟨(mem_deps.1 hv).1, hm.2.2 v hv⟩
      · have : v = xs[i] := by simpa using hv
        subst this
        exact ⟨hm.1, hm.2.1⟩) (deps l (xs[i] : Nat) ++ [xs[i]]).length N 0 (by omega) (by simp; omega)
    rw [show ((0 : Nat) : Int) = (0 : Int) from rfl, ← rowsN_length] at hv
    rw [hv]
    exact L4u_all h hN hx hin k n (i + 1) (by omega) (by omega)
  | _, 0, _, _, h => by omega

theorem quiet_fine {l : List Row} (h : may l = true) {v : Nat} (hv : v < l.length) (hq : lv l v = true → quiet l v = true) : fine l v := by
  intro h0 h1
  have := hq (by simp [lv, h0, h1])
  rw [quiet_eq h hv, h1] at this
  simp only [Bool.false_or, Bool.and_eq_true, Bool.not_eq_true'] at this
  exact ⟨this.1, this.2.1⟩
theorem J4b_eq {l : List Row} (h : may l = true) {N t : Nat} (hN : 120 ≤ N) (hc : CanF l t) : J4a14950 N l t = some .nx := by
  have ht := hc.lt
  have ho := can_own h hc
  have hl := (may_ok h).1
  have e3 : decide ((0 : Int) ≤ (t : Int)) = true := decide_eq_true (by omega)
  have e4 : decide ((t : Int) < (l.length : Int)) = true := decide_eq_true (by omega)
  unfold J4a14950
  simp only [e3, e4, Bool.and_self, tst, ← cI.eq_1, F14_eq (show 50 ≤ N by omega) h _ _ ho.2.2]
  have hlen := flt_length (isOf l (cI l t 5) (cI l t 6)) l.length 0
  have hall := L4u_all h hN (xs := flt (isOf l (cI l t 5) (cI l t 6)) 0 l.length) (by omega) (fun u hu => by
    obtain ⟨_, h1, h2⟩ := mem_flt.1 hu
    have hq : lv l u = true → quiet l u = true := fun hl => hc.all u (by omega) h2 (by simp only [lv, Bool.and_eq_true] at hl; exact hl.1)
    refine ⟨by omega, quiet_fine h (by omega) hq, fun v hv => ?_⟩
    obtain ⟨hv1, hv2⟩ := mem_deps.1 hv
    exact quiet_fine h hv1 fun hlv => by
      have := quiet_dep h (show u < l.length by omega) hv1 hlv hv2
      exact this.2 (hq this.1)) _ N 0 (Nat.zero_add _) (by omega)
  rw [show ((0 : Nat) : Int) = (0 : Int) from rfl, ← rowsN_length] at hall
  rw [hall]

theorem L4l_all {l : List Row} (hl : l.length ≤ 40) (N : Nat) {xs : List Nat} (hx : xs.length ≤ 45) (hin : ∀ v ∈ xs, v < l.length) : ∀ (k n i : Nat) (b : Bool), i + k = xs.length → k < n → L4a239226 N n l b xs.length i (rowsN xs) = some (.x6 (b && (xs.drop i).all fun v => !cB l v 0 || cB l v 1) (rowsN xs))
  | 0, n + 1, i, b, h1, _ => by
    have e : decide ((i : Int) < (xs.length : Int)) = false := decide_eq_false (by omega)
    show (match decide ((i : Int) < (xs.length : Int)) with | true => _ | false => _) = _
    rw [e, List.drop_eq_nil_of_le (by omega)]; simp
  | k + 1, n + 1, i, b, h1, hn => by
    have hi : i < xs.length := by omega
    have hm := hin _ (List.getElem_mem hi)
    have e : decide ((i : Int) < (xs.length : Int)) = true := decide_eq_true (by omega)
    have e1 : decide ((0 : Int) ≤ (i : Int)) = true := decide_eq_true (by omega)
    have e2 : decide ((i : Int) < ((rowsN xs).length : Int)) = true := by rw [rowsN_length]; exact e
    have e2' : decide (i < (rowsN xs).length) = true := by rw [rowsN_length]; exact decide_eq_true (by omega)
    have e3 : decide ((0 : Int) ≤ ((xs[i] : Nat) : Int)) = true := decide_eq_true (by omega)
    have e4 : decide (((xs[i] : Nat) : Int) < (l.length : Int)) = true := decide_eq_true (by omega)
    show (match decide ((i : Int) < (xs.length : Int)) with | true => _ | false => _) = _
    simp only [e, e1, e2, Bool.and_self, tst, Int.toNat_natCast, e2', rowsN_get hi, e3, e4]
    rw [wrap_succ (by omega), List.drop_eq_getElem_cons hi, List.all_cons]
    have ih := L4l_all hl N hx hin k n (i + 1)
    have hcb : ∀ c, ((l.getD xs[i] []).getD c .top).toB = cB l (xs[i] : Nat) c := fun c => by simp [cB]
    simp only [hcb]
    cases b with
    | false => simp only [Bool.false_and]; rw [ih false (by omega) (by omega)]; rfl
    | true =>
      cases h0 : cB l (xs[i] : Nat) 0 with
      | false => simp only [Bool.not_false, Bool.true_or, Bool.true_and]; rw [ih true (by omega) (by omega)]; rfl
      | true => simp only [Bool.not_true, Bool.false_or, Bool.true_and]; rw [ih _ (by omega) (by omega)]
  | _, 0, _, _, _, h => by omega
/-- Nothing that depends on t is live. -/
def leaf (l : List Row) (t : Nat) : Bool := (deps l t).all fun v => !cB l v 0 || cB l v 1
theorem J4c_eq {l : List Row} (h : may l = true) {N t : Nat} (hN : 120 ≤ N) : J4a59806 N l t true = some (.nx (leaf l t)) := by
  have hl := (may_ok h).1
  have hd := deps_len h (t : Int)
  unfold J4a59806
  rw [F15_eq (by omega) h]
  have hall := L4l_all (l := l) (by omega) N (xs := deps l t) (by omega) (fun v hv => (mem_deps.1 hv).1) _ N 0 true (Nat.zero_add _) (by omega)
  rw [show ((0 : Nat) : Int) = (0 : Int) from rfl, List.drop_zero, ← rowsN_length, Bool.true_and] at hall
  simp only [hall, leaf]

/-! ### A task that has become done -/
def nx (l : List Row) (t : Nat) : List Row := l.set t [.bool true, .bool true, .bool false, .bool false, .bool false, .int .i64 (cI l t 5), .int .i64 (cI l t 6), .int .i64 (-1)]
theorem setAt8 {row : Row} (h : row.length = 8) (a b c d e f g i : AV) : Eng.setAt row 0 [a, b, c, d, e, f, g, i] = [a, b, c, d, e, f, g, i] := by
  match row, h with
  | [_, _, _, _, _, _, _, _], _ => rfl
theorem nx_length (l : List Row) (t : Nat) : (nx l t).length = l.length := by simp [nx]
theorem nx_ne {l : List Row} {t : Nat} (ht : t < l.length) {j : Nat} (hj : j ≠ t) : (nx l t).getD j [] = l.getD j [] := by
  unfold nx; rw [getD_set ht, if_neg hj]
theorem nx_eq {l : List Row} {t : Nat} (ht : t < l.length) : (nx l t).getD t [] = [.bool true, .bool true, .bool false, .bool false, .bool false, .int .i64 (cI l t 5), .int .i64 (cI l t 6), .int .i64 (-1)] := by
  unfold nx; rw [getD_set ht, if_pos rfl]
theorem nx_cB {l : List Row} {t : Nat} (ht : t < l.length) {j : Nat} (hj : j ≠ t) (c : Nat) : cB (nx l t) j c = cB l j c := by
  unfold cB; rw [Int.toNat_natCast, nx_ne ht hj]
theorem nx_cI {l : List Row} {t : Nat} (ht : t < l.length) {j : Nat} (hj : j ≠ t) (c : Nat) : cI (nx l t) j c = cI l j c := by
  unfold cI; rw [Int.toNat_natCast, nx_ne ht hj]
theorem nx_tB {l : List Row} {t : Nat} (ht : t < l.length) : cB (nx l t) t 0 = true ∧ cB (nx l t) t 1 = true ∧ cB (nx l t) t 2 = false ∧ cB (nx l t) t 3 = false ∧ cB (nx l t) t 4 = false ∧ cI (nx l t) t 7 = -1 := by
  unfold cB cI; rw [Int.toNat_natCast, nx_eq ht]; exact ⟨rfl, rfl, rfl, rfl, rfl, rfl⟩
theorem nx_c5 {l : List Row} {t : Nat} (ht : t < l.length) (j : Nat) : cI (nx l t) j 5 = cI l j 5 := by
  by_cases e : j = t
  · subst e; show (((nx l j).getD ((j : Int).toNat) []).getD 5 .top).toI = _; rw [Int.toNat_natCast, nx_eq ht]; rfl
  · exact nx_cI ht e 5
theorem nx_c6 {l : List Row} {t : Nat} (ht : t < l.length) (j : Nat) : cI (nx l t) j 6 = cI l j 6 := by
  by_cases e : j = t
  · subst e; show (((nx l j).getD ((j : Int).toNat) []).getD 6 .top).toI = _; rw [Int.toNat_natCast, nx_eq ht]; rfl
  · exact nx_cI ht e 6

theorem leaf_own {l : List Row} (h : may l = true) {t : Nat} (hlf : leaf l t = true) {j : Nat} (hj : j < l.length) (h0 : 0 < j) (ho : cI l j 5 = t) : lv l j = false := by
  have hd : j ∈ deps l t := mem_deps.2 ⟨hj, (dep_iff h t hj).2 ⟨h0, .inl ho⟩⟩
  have := List.all_eq_true.1 hlf j hd
  simp only [lv]
  revert this
  cases cB l j 0 <;> cases cB l j 1 <;> simp

theorem nx_may {l : List Row} (h : may l = true) {t : Nat} (hc : CanF l t) (hlf : leaf l t = true) : may (nx l t) = true := by
  have ht := hc.lt
  have hown := can_own h hc
  have hok := may_ok h
  unfold may
  rw [nx_length]
  simp only [Bool.and_eq_true, decide_eq_true_eq]
  refine ⟨hok.1, ?_⟩
  have key : ∀ j : Nat, j < l.length → okAt (nx l t) j = true := fun j hj => by
    have hj0 := hok.2 j hj
    by_cases e : j = t
    · subst e
      obtain ⟨t0, t1, t2, t3, t4, t7⟩ := nx_tB ht
      simp only [okAt, Bool.and_eq_true, Bool.not_eq_true'] at hj0 ⊢
      rw [nx_c5 ht, nx_c6 ht]
      refine ⟨hj0.1, hj0.2.1, ?_, ?_⟩
      · rw [t0, t1, t2, t3, t4, t7]; rfl
      · simp [lv, t0, t1]
    · simp only [okAt, Bool.and_eq_true, Bool.not_eq_true'] at hj0 ⊢
      rw [nx_c5 ht, nx_c6 ht, nx_cB ht e, nx_cB ht e, nx_cB ht e, nx_cB ht e, nx_cB ht e, nx_cI ht e]
      refine ⟨hj0.1, hj0.2.1, hj0.2.2.1, ?_⟩
      have e1 : lv (nx l t) j = lv l j := by simp only [lv, nx_cB ht e]
      rw [e1]
      cases hd : decide ((0 : Int) < (j : Int)) with
      | false => rfl
      | true =>
        have hpos : 0 < j := by have := of_decide_eq_true hd; omega
        cases hlj : lv l j with
        | false => rfl
        | true =>
          have h2 := hj0.2.2.2
          rw [hd, hlj] at h2
          have hw := (may_own h hj).2 hpos
          obtain ⟨p, hp⟩ : ∃ p : Nat, cI l j 5 = p := ⟨(cI l j 5).toNat, by omega⟩
          have hpt : p ≠ t := fun e => by
            subst e
            have := leaf_own h hlf hj hpos hp
            rw [hlj] at this; cases this
          rw [hp] at h2 ⊢
          have e2 : lv (nx l t) p = lv l p := by simp only [lv, nx_cB ht hpt]
          rw [e2]; exact h2
  have hgen : ∀ (k i : Nat), i + k ≤ l.length → okFrom (nx l t) i k = true := by
    intro k
    induction k with
    | zero => intros; rfl
    | succ k ih => intro i hi; simp only [okFrom, Bool.and_eq_true]; exact ⟨key i (by omega), ih (i + 1) (by omega)⟩
  exact hgen l.length 0 (by omega)

theorem nx_quiet {l : List Row} (h : may l = true) {t : Nat} (ht : t < l.length) (h' : may (nx l t) = true) : ∀ (d k : Nat), k < l.length → l.length ≤ k + d → quiet l k = true → quiet (nx l t) k = true := by
  intro d
  induction d with
  | zero => intro k h0 h1; omega
  | succ d ih =>
    intro k h0 h1 hq
    rw [quiet_eq h' (by rw [nx_length]; exact h0)]
    by_cases e : k = t
    · subst e; rw [(nx_tB ht).2.1]; rfl
    · rw [quiet_eq h h0] at hq
      rw [nx_cB ht e, nx_cB ht e, nx_cB ht e, nx_length]
      simp only [Bool.or_eq_true, Bool.and_eq_true, Bool.not_eq_true'] at hq ⊢
      rcases hq with hq | ⟨h2, h3, h4⟩
      · exact .inl hq
      · refine .inr ⟨h2, h3, allF_iff.2 fun c hc1 hc2 => ?_⟩
        simp only [Bool.or_eq_true, Bool.not_eq_true']
        by_cases ec : c = t
        · subst ec
          right
          rw [quiet_eq h' (by rw [nx_length]; exact ht), (nx_tB ht).2.1]; rfl
        · cases hk : kid (nx l t) k c with
          | false => exact .inl rfl
          | true =>
            right
            have hk2 : kid l k c = true := by
              simp only [kid, child, nx_c5 ht, nx_cB ht ec] at hk
              exact hk
            have := allF_iff.1 h4 c hc1 hc2
            simp only [hk2, Bool.not_true, Bool.false_or] at this
            have := kid_gt h (by omega) hk2
            exact ih c (by omega) (by omega) (by assumption)

theorem nx_ready {l : List Row} (h : may l = true) {t : Nat} (hc : CanF l t) (hlf : leaf l t = true) {u : Nat} (hu : CanF l u) : u ∈ ready (nx l t) ↔ u ≠ t := by
  have ht := hc.lt
  have h' := nx_may h hc hlf
  have hq := fun k hk => nx_quiet h ht h' l.length k hk (by omega)
  constructor
  · intro hm e
    subst e
    have := (can_iff.1 hm).waits
    rw [(nx_tB ht).2.2.2.1] at this; cases this
  · intro e
    have hul := hu.lt
    have hown := can_own h hu
    have hoo := hu.own
    obtain ⟨p, hp⟩ : ∃ p : Nat, cI l u 5 = p := ⟨(cI l u 5).toNat, by omega⟩
    have hpt : p ≠ t := fun e' => by
      subst e'
      have := leaf_own h hlf hul hown.1 hp
      rw [waits_lv h hul hu.waits] at this; cases this
    refine can_iff.2 ⟨by rw [nx_length]; exact hul, by rw [nx_cB ht e]; exact hu.waits, by rw [nx_cB ht e]; exact hu.part, by rw [nx_c5 ht]; exact hu.own, ?_, hq u hul hu.q, fun c hcl hi hb => ?_⟩
    · have := hu.await
      rw [nx_c5 ht, nx_c6 ht, hp, nx_cI ht hpt, ← this, hp]
    · rw [nx_length] at hcl
      by_cases ec : c = t
      · subst ec; exact hq c hcl hc.q
      · refine hq c hcl (hu.all c hcl ?_ (by rw [nx_cB ht ec] at hb; exact hb))
        simp only [isOf, nx_c5 ht, nx_c6 ht] at hi ⊢
        exact hi

/-! ### The law -/
theorem F17_eq {l : List Row} (h : may l = true) {N : Nat} (hN : 120 ≤ N) {k : Nat} (hk : k < l.length) : F17 N l k = some (.r (quiet l k)) := by
  obtain ⟨M, rfl⟩ : ∃ M, N = M + 2 := ⟨N - 2, by omega⟩
  have hl := (may_ok h).1
  have e3 : decide ((0 : Int) ≤ (k : Int)) = true := decide_eq_true (by omega)
  have e4 : decide ((k : Int) < (l.length : Int)) = true := decide_eq_true (by omega)
  show (match F16 (M + 1) l with | none => none | some (.r x) => _) = _
  rw [F16_eq (by omega), h]
  simp only [e3, e4, F22_eq h l.length k hk (by omega) M (by omega)]
theorem L4q_all {l l' : List Row} (h : may l = true) (h' : may l' = true) (hll : l'.length = l.length) (hq : ∀ k, k < l.length → quiet l k = true → quiet l' k = true) {N : Nat} (hN : 150 ≤ N) : ∀ (k n i : Nat), i + k = l.length → k < n → L4a7655418 N n l l' l.length i = some .x8
  | 0, n + 1, i, h1, _ => by
    have e : decide ((i : Int) < (l.length : Int)) = false := decide_eq_false (by omega)
    show (match decide ((i : Int) < (l.length : Int)) with | true => _ | false => _) = _
    rw [e]
  | k + 1, n + 1, i, h1, hn => by
    have hl := (may_ok h).1
    have e : decide ((i : Int) < (l.length : Int)) = true := decide_eq_true (by omega)
    show (match decide ((i : Int) < (l.length : Int)) with | true => _ | false => _) = _
    simp only [e, F17_eq h (show 120 ≤ N by omega) (show i < l.length by omega), F17_eq h' (show 120 ≤ N by omega) (show i < l'.length by omega)]
    rw [wrap_succ (by omega)]
    have ih := L4q_all h h' hll hq hN k n (i + 1) (by omega) (by omega)
    cases hqi : quiet l i with
    | false => exact ih
    | true => simp only [hq i (by omega) hqi]; exact ih
  | _, 0, _, _, h => by omega
theorem L4s_all {N : Nat} (hN : 50 ≤ N) (t : Nat) {ys xs : List Nat} (hy : ys.length ≤ 45) (hx : xs.length ≤ 45) (hin : ∀ u ∈ xs, u ∈ ys ↔ u ≠ t) : ∀ (k n i : Nat), i + k = xs.length → k < n → L4a15310846 N n t (rowsN ys) xs.length i (rowsN xs) = some (.x10 (rowsN xs))
  | 0, n + 1, i, h1, _ => by
    have e : decide ((i : Int) < (xs.length : Int)) = false := decide_eq_false (by omega)
    show (match decide ((i : Int) < (xs.length : Int)) with | true => _ | false => _) = _
    rw [e]
  | k + 1, n + 1, i, h1, hn => by
    have hi : i < xs.length := by omega
    have hm := hin _ (List.getElem_mem hi)
    have e : decide ((i : Int) < (xs.length : Int)) = true := decide_eq_true (by omega)
    have e1 : decide ((0 : Int) ≤ (i : Int)) = true := decide_eq_true (by omega)
    have e2 : decide ((i : Int) < ((rowsN xs).length : Int)) = true := by rw [rowsN_length]; exact e
    have e2' : decide (i < (rowsN xs).length) = true := by rw [rowsN_length]; exact decide_eq_true (by omega)
    have e3 : (ys.any fun x => (x : Int) == ((xs[i] : Nat) : Int)) = (((xs[i] : Nat) : Int) != (t : Int)) := by
      rw [Bool.eq_iff_iff, List.any_eq_true]
      constructor
      · rintro ⟨x, h2, h3⟩
        have : x = xs[i] := by have := eq_of_beq h3; omega
        subst this
        have := hm.1 h2
        simp; omega
      · intro h2
        exact ⟨xs[i], hm.2 (by simp at h2; omega), by simp⟩
    show (match decide ((i : Int) < (xs.length : Int)) with | true => _ | false => _) = _
    simp only [e, e1, e2, Bool.and_self, tst, Int.toNat_natCast, e2', rowsN_get hi, F18_eq hN hy, e3, beq_self_eq_true, Bool.not_true]
    rw [wrap_succ (by omega)]
    exact L4s_all hN t hy hx hin k n (i + 1) (by omega) (by omega)
  | _, 0, _, _, h => by omega

theorem L4_all {l : List Row} (h : may l = true) (h8 : ∀ i, i < l.length → (l.getD i []).length = 8) {N : Nat} (hN : 160 ≤ N) : ∀ (k n i : Nat), i + k = (ready l).length → k < n → L4a58 N n l (ready l).length i (rowsN (ready l)) = some (.x0 (rowsN (ready l)))
  | 0, n + 1, i, h1, _ => by
    have e : decide ((i : Int) < ((ready l).length : Int)) = false := decide_eq_false (by omega)
    show (match decide ((i : Int) < ((ready l).length : Int)) with | true => _ | false => _) = _
    rw [e]
  | k + 1, n + 1, i, h1, hn => by
    have hl := (may_ok h).1
    have hrl : (ready l).length ≤ l.length := flt_length _ _ _
    have hi : i < (ready l).length := by omega
    have hc := can_iff.1 (List.getElem_mem hi)
    have e : decide ((i : Int) < ((ready l).length : Int)) = true := decide_eq_true (by omega)
    have e1 : decide ((0 : Int) ≤ (i : Int)) = true := decide_eq_true (by omega)
    have e2 : decide ((i : Int) < ((rowsN (ready l)).length : Int)) = true := by rw [rowsN_length]; exact e
    have e2' : decide (i < (rowsN (ready l)).length) = true := by rw [rowsN_length]; exact decide_eq_true (by omega)
    show (match decide ((i : Int) < ((ready l).length : Int)) with | true => _ | false => _) = _
    simp only [e, e1, e2, Bool.and_self, tst, Int.toNat_natCast, e2', rowsN_get hi]
    have ih := L4_all h h8 hN k n (i + 1) (by omega) (by omega)
    generalize (ready l)[i] = t at *
    have ht := hc.lt
    rw [wrap_succ (by omega), J4a_eq hc]
    simp only
    rw [J4b_eq h (by omega) hc]
    simp only
    rw [J4c_eq h (by omega)]
    simp only
    cases hlf : leaf l t with
    | false => exact ih
    | true =>
      have e3 : decide ((0 : Int) ≤ (t : Int)) = true := decide_eq_true (by omega)
      have e4 : decide ((t : Int) < (l.length : Int)) = true := decide_eq_true (by omega)
      have e5 : decide (t < l.length) = true := decide_eq_true ht
      have e6 : decide ((0 + l.length) * 32 ≤ 140737488355328) = true := decide_eq_true (by omega)
      have hcI : ∀ c, ((l.getD t []).getD c .top).toI = cI l t c := fun c => by simp [cI]
      have h' := nx_may h hc hlf
      simp only [Bool.not_true, e3, e4, e5, e6, Bool.and_self, List.nil_append, Int.toNat_natCast, setAt8 (h8 t ht), hcI]
      show (match F16 N (nx l t) with | none => none | some (.r rx) => _) = _
      rw [F16_eq (by omega), h']
      simp only [Bool.not_true]
      have hq := L4q_all h h' (nx_length l t) (fun k hk => nx_quiet h ht h' l.length k hk (by omega)) (show 150 ≤ N by omega) l.length N 0 (by omega) (by omega)
      rw [show ((0 : Nat) : Int) = (0 : Int) from rfl] at hq
      show (match L4a7655418 N N l (nx l t) l.length 0 with | none => none | some (.ret x) => _ | some (.x8) => _) = _
      rw [hq]
      simp only
      show (match F9 N (nx l t) with | none => none | some (.r x) => _) = _
      rw [F9_eq (by omega) h', F9_eq (by omega) h]
      simp only
      have hrl' : (ready (nx l t)).length ≤ (nx l t).length := flt_length _ _ _
      rw [nx_length] at hrl'
      have hs := L4s_all (N := N) (by omega) t (ys := ready (nx l t)) (xs := ready l) (by omega) (by omega) (fun u hu => nx_ready h hc hlf (can_iff.1 hu)) (ready l).length N 0 (by omega) (by omega)
      rw [show ((0 : Nat) : Int) = (0 : Int) from rfl, ← rowsN_length] at hs
      rw [hs]
      exact ih
  | _, 0, _, _, h => by omega

theorem terminates_true (x : List Row) (hx8 : ∀ row ∈ x, row.length = 8) : F4 200 x = some (.r true) := by
  show (tst (decide ((0 : Int) ≤ (Eng.imin (x.length : Int) 40)) && decide ((Eng.imin (x.length : Int) 40) ≤ (x.length : Int)) && decide ((x.length : Int) ≤ (x.length : Int))) <| _) = _
  simp only [imin_bounds, tst]
  have hx := take_le x
  have h8 : ∀ row ∈ x.take (Eng.imin (x.length : Int) 40).toNat, row.length = 8 := fun row hr => hx8 row (List.mem_of_mem_take hr)
  generalize x.take (Eng.imin (x.length : Int) 40).toNat = l at *
  have h8' : ∀ i, i < l.length → (l.getD i []).length = 8 := fun i hi => h8 _ (by rw [List.getD_eq_getElem?_getD, List.getElem?_eq_getElem hi]; exact List.getElem_mem hi)
  have b3 : decide ((0 + l.length) * 32 ≤ 140737488355328) = true := decide_eq_true (by omega)
  simp only [List.nil_append, b3]
  cases h : may l with
  | false =>
    rw [F9_not (by omega) h]
    simp only
    have hz : L4a58 199 199 l (([] : List Row).length : Int) 0 [] = some (.x0 []) := rfl
    rw [hz]
    simp only [works_true]
  | true =>
    have hl := (may_ok h).1
    have hrl : (ready l).length ≤ l.length := flt_length _ _ _
    rw [F9_eq (by omega) h]
    simp only
    have := L4_all h h8' (N := 199) (by omega) (ready l).length 199 0 (by omega) (by omega)
    rw [show ((0 : Nat) : Int) = (0 : Int) from rfl, ← rowsN_length] at this
    rw [this]
    simp only [works_true]

end Go.Proofs.Ytfggehkiglenjaa

namespace Go.Proofs.Ytfggehkiglenjaa
open Go Go.Eng Go.ChangeShapes Go.WideShapes Go.ChangeAt Go.RowKit

theorem own : ownKnob Try.prog.godebug = none := by kernel_rfl
theorem laidOut : laidOutB Try.prog = true := by kernel_rfl

theorem list_of_arg {t e : TypeId} (ha : (CX.ti t).u.agg = false) (hk : (CX.ti t).ks = [.slice e]) {x : AV} (h : ArgAV CX t x) : ∃ rows, x = .list e rows ∧ ∀ row ∈ rows, koks (CX.K e) row = true := by
  rcases h with ⟨h1, _⟩ | ⟨_, h2, hw⟩
  · rw [ha] at h1; cases h1
  · rw [hk] at h2
    cases x <;> simp [koks, kok] at h2
    subst h2
    cases hw with
    | list _ xs hl hr hx => exact ⟨_, rfl, hr⟩

theorem law4 (xs : List AV) (h : ArgsAV CX [22] xs) : ∃ m M', FCalls CX 4 m xs [] (.bool true) M' := by
  match xs, h with
  | [x], ⟨hx, _⟩ =>
    obtain ⟨rows0, rfl, hr0⟩ := list_of_arg (e := 30) (by kernel_rfl) (by kernel_rfl) hx
    exact ⟨_, _, soundF4 200 (fun _ => .list 30 rows0) [] (.r true) (terminates_true rows0 (fun row h => by rw [koks_length (hr0 row h)]; kernel_rfl))⟩

set_option maxRecDepth 100000 in
theorem lifted4 (os : Os) (started : os.Started) (H : Type) (enc : TypeId × Value → H) :
    ReturnsInHanded {} Try.checked os 4 .any (Rows.masterTerminatesSpec.pre6 enc Try.prog Try.f4 Rows.masterTerminatesRow.domain false) (Rows.masterTerminatesSpec.post enc Try.prog Try.f4 false true false false) := by
  refine returnsInHanded_of_change (C := Try.checked) own started (by kernel_rfl) Try.func4
    (ChangeSpec.witness6 (enc := enc) (C := Try.checked) false { blocks := #[], args := #[.slice none 0 0], vars := [] } 8 (by kernel_rfl) (by kernel_rfl) (by kernel_rfl) (by kernel_rfl)) ?_
  intro W base args ds gs before hval hW _ _
  exact law_contract (X := CX) hX (fun _ => rfl) laidOut (ts := [22]) (tb := 4) (n := 8) (by kernel_rfl) (by kernel_rfl) Try.underlying4 (by kernel_rfl) (by kernel_rfl) rfl
    (fun ds hds => by match ds, hds with | [d0], _ => rfl) law4 W base args ds gs before hval hW

theorem masterTerminates_holds : Rows.MasterTerminatesSaid :=
  OpenClaim.holds_of_wide 4 Try.f4 rfl rfl rfl rfl rfl rfl rfl ⟨rfl, rfl, rfl, rfl, rfl⟩ rfl rfl rfl rfl rfl (by kernel_rfl) Try.func4 (by kernel_rfl)
    (of_decide_eq_true (by kernel_rfl)) (by unfold Func.isWrapper; first | (rw [if_pos (by decide +kernel)]; kernel_rfl) | (rw [if_neg (by decide +kernel)]; exact ⟨rfl, rfl⟩))
    (fun os started H enc _ => lifted4 os started H enc)

#print axioms masterTerminates_holds
end Go.Proofs.Ytfggehkiglenjaa
