/-
  The functions of the code as typed functions, and that the code runs so. Printed by gen2.py.
  The functions of the code as typed functions, and that the code runs so. Printed by gen2.py.
  The functions of the code as typed functions, and that the code runs so. Printed by gen2.py.
  The functions of the code as typed functions, and that the code runs so. Printed by gen2.py.
  The functions of the code as typed functions, and that the code runs so. Printed by gen2.py.
  The functions of the code as typed functions, and that the code runs so. Printed by gen2.py.
  The functions of the code as typed functions, and that the code runs so. Printed by gen2.py.
  Plain laws: when rows are those of tasks (both texts).
  Plain laws: which tasks depend on a task; lists of tasks.
  Plain law: MasterForest's typed function answers true.
  Plain laws: quiet tasks, tasks that can be terminated.
  Plain laws: what is aborted with tasks.
  Plain law: MasterAborts.
  Plain laws: what is aborted is closed.
  Plain law: MasterClosed.
  What is proved: ceilinglaw33.MasterClosed returns true for every input, and leaves its arguments as they were. No condition.
-/
import Derived.Test.YtfggehkiglenjaaC2
import Derived.KernelRfl
import Derived.Test.YtfggehkiglenjaaC3
import Derived.Test.YtfggehkiglenjaaRows
import Derived.WalkKit
import Derived.ProofKit
import Derived.OpenShut
set_option linter.all false
set_option linter.deprecated false
namespace Go.Proofs.Ytfggehkiglenjaa
open Go Go.Eng
set_option maxRecDepth 100000

/-! ### F27: ceiling/ceilingref33.is -/
inductive R27 where
  | r (x0 : Bool)
abbrev TF27 := List Row → Int → Option R27
def sgF27 : LSh := ⟨[(0, .one (.cell (.slice 30))), (1, .one (.cell (.int .i64)))], []⟩
def FFF27 (Fx : TF27) (s : St) : Option R27 := Fx ((Eng.look s.env 0).rows) ((Eng.look s.env 1).toI)
def valF27 (o : R27) : AV := match o with | .r x0 => .bool x0
def memF27 (o : R27) : List Blk := match o with | .r x0 => []
def elF27 {R : Type} (o : R27) (k : AV → List Blk → Option R) : Option R := match o with | .r x0 => k (.bool x0) []
def RecOkF27 (Fx : TF27) : Prop := ∀ lk M o, FFF27 Fx (canS sgF27 lk M) = some o → FCalls CX 27 0 (argsE 2 (canS sgF27 lk M).env) (canS sgF27 lk M).mem (valF27 o) (memF27 o)
noncomputable def csF27 (N : Nat) (R : Type) : List (CE R) := []
theorem hcsF27 (N : Nat) (R : Type) : AllE (CeOk CX) (csF27 N R) := trivial
noncomputable def T27ur1 (N : Nat) (R : Type) : LTab R := mkTab ⟨13, 8191⟩ (csF27 N R) (noY) [] [] []
theorem okT27ur1 (N : Nat) (R : Type) : (T27ur1 N R).Ok CX code27 := mkTab_ok (hcsF27 N R) (noY_ok) (trivial) (trivial) (trivial)
def rsF27 : List ResultVar := [.tmp 4]
def F27 : Nat → TF27
  | 0 => fun _ _ => none
  | N + 1 => fun x0 x1 =>
    match decide ((0 : Int) ≤ x1) with
    | true =>
      some (.r (decide (x1 < ((x0.length : Int)))))
    | false =>
      some (.r false)
def xRF27 : XSh R27 := ⟨[], ⟨[(0, .one (.cell (.bool)))], []⟩, fun _ => [], fun s => .r ((Eng.look s.env 0).toB)⟩
theorem fsF27 : ∀ (N : Nat) (lk : Nat → AV) (M : List Blk), FFF27 (F27 (N + 1)) (canS sgF27 lk M) = evfn CX (T27ur1 N R27) code27 rsF27 (argsE 2 (canS sgF27 lk M).env) (canS sgF27 lk M).mem (goR CX 0 (fun _ => some xRF27)) := by intro N lk M; kernel_rfl
theorem soundF27 : ∀ N, RecOkF27 (F27 N)
  | 0, lk, M, o, h => by cases h
  | N + 1, lk, M, o, h => fn_sound hX (okT27ur1 N R27) Try.func27 hb27 rfl en27 (by kernel_rfl) (ys := fun _ => some xRF27) (fun st y h => by injection h with h; subst h; exact fun lk M => ⟨rfl, rfl⟩) ((fsF27 N lk M).symm.trans h)
def cvce27n0 : List Cv := []
def selce27n0 : St → List Nat := fun _ => []
noncomputable def ce27n0 (Fx : TF27) (R : Type) (test : List AV → List Blk → Bool) : CE R := ⟨27, test, fun args M => some (selce27n0 ⟨argEnv 0 args, M, [], .unk⟩), fun args M k => tst (Nat.beq args.length 2) (callFn CX 0 cvce27n0 sgF27 selce27n0 (FFF27 Fx) elF27 args M k)⟩
theorem okce27n0 (Fx : TF27) (h : RecOkF27 Fx) (R : Type) (test : List AV → List Blk → Bool) : CeOk CX (ce27n0 Fx R test) := ce_ok hX (fun o k => by cases o; rfl) h en27 (fun args M ids h => by injection h with h; exact ⟨rfl, h.symm⟩)
end Go.Proofs.Ytfggehkiglenjaa

namespace Go.Proofs.Ytfggehkiglenjaa
open Go Go.Eng
set_option maxRecDepth 100000

/-! ### F28: ceiling/ceilingref33.mark -/
inductive R28 where
  | r (b0 : List Row)
abbrev TF28 := List Row → Int → List Row → Option R28
def sgF28 : LSh := ⟨[(0, .one (.cell (.slice 30))), (1, .one (.own 0)), (2, .one (.cell (.int .i64)))], [.row 4]⟩
def FFF28 (Fx : TF28) (s : St) : Option R28 := Fx ((Eng.look s.env 0).rows) ((Eng.look s.env 2).toI) ((s.mem.getD 0 .dead).rows)
def valF28 (o : R28) : AV := match o with | .r b0 => .tup []
def memF28 (o : R28) : List Blk := match o with | .r b0 => [.row 4 b0]
def elF28 {R : Type} (o : R28) (k : AV → List Blk → Option R) : Option R := match o with | .r b0 => k (.tup []) [.row 4 b0]
def RecOkF28 (Fx : TF28) : Prop := ∀ lk M o, FFF28 Fx (canS sgF28 lk M) = some o → FCalls CX 28 1 (argsE 3 (canS sgF28 lk M).env) (canS sgF28 lk M).mem (valF28 o) (memF28 o)
def cvce28n0 : List Cv := []
def selce28n0 : St → List Nat := fun st => [(Eng.look st.env 1).id]
noncomputable def ce28n0 (Fx : TF28) (R : Type) (test : List AV → List Blk → Bool) : CE R := ⟨28, test, fun args M => some (selce28n0 ⟨argEnv 0 args, M, [], .unk⟩), fun args M k => tst (Nat.beq args.length 3) (callFn CX 1 cvce28n0 sgF28 selce28n0 (FFF28 Fx) elF28 args M k)⟩
theorem okce28n0 (Fx : TF28) (h : RecOkF28 Fx) (R : Type) (test : List AV → List Blk → Bool) : CeOk CX (ce28n0 Fx R test) := ce_ok hX (fun o k => by cases o; rfl) h en28 (fun args M ids h => by injection h with h; exact ⟨rfl, h.symm⟩)
noncomputable def csF28 (rec : TF28) (N : Nat) (R : Type) : List (CE R) := [ce28n0 rec R (fun _ _ => true), ce30n0 (F30 N) R (fun _ _ => true)]
theorem hcsF28 (rec : TF28) (hrec : RecOkF28 rec) (N : Nat) (R : Type) : AllE (CeOk CX) (csF28 rec N R) := ⟨okce28n0 rec hrec R (fun _ _ => true), okce30n0 (F30 N) (soundF30 N) R (fun _ _ => true), trivial⟩
inductive OJ28a6 where
  | nx (b0 : List Row) (b1c0 : Bool) (b1c1 : Bool) (b1c2 : Bool) (b1c3 : Bool) (b1c4 : Bool) (b1c5 : Int) (b1c6 : Int) (b1c7 : Int)
  | ret (b0 : List Row) (b1c0 : Bool) (b1c1 : Bool) (b1c2 : Bool) (b1c3 : Bool) (b1c4 : Bool) (b1c5 : Int) (b1c6 : Int) (b1c7 : Int)
def J28a6 (rec : TF28) (N : Nat) : Int → List Row → Bool → Bool → Bool → Bool → Bool → Int → Int → Int → Option OJ28a6 := fun x2 b0 b1c0 b1c1 b1c2 b1c3 b1c4 b1c5 b1c6 b1c7 =>
    match F30 N b1c0 b1c1 b1c2 b1c3 b1c4 b1c5 b1c6 b1c7 with
    | none => none
    | some (.r rx0v1) =>
      match !rx0v1 with
      | true =>
        some (.ret b0 b1c0 b1c1 b1c2 b1c3 b1c4 b1c5 b1c6 b1c7)
      | false =>
        match b1c2 with
        | true =>
          some (.ret b0 b1c0 b1c1 b1c2 b1c3 b1c4 b1c5 b1c6 b1c7)
        | false =>
          tst (decide ((0 : Int) ≤ x2) && decide (x2 < ((b0.length : Int)))) <|
          tst (decide (x2.toNat < b0.length)) <|
          match (((b0.getD x2.toNat [])).getD 0 .top).toB with
          | true =>
            some (.ret b0 b1c0 b1c1 b1c2 b1c3 b1c4 b1c5 b1c6 b1c7)
          | false =>
            some (.nx b0 b1c0 b1c1 b1c2 b1c3 b1c4 b1c5 b1c6 b1c7)
def LFJ28a6 (rec : TF28) (N : Nat) (s : St) : Option OJ28a6 := J28a6 rec N ((Eng.look s.env 2).toI) ((s.mem.getD 0 .dead).rows) (((s.mem.getD 1 .dead).cells.getD 0 .top).toB) (((s.mem.getD 1 .dead).cells.getD 1 .top).toB) (((s.mem.getD 1 .dead).cells.getD 2 .top).toB) (((s.mem.getD 1 .dead).cells.getD 3 .top).toB) (((s.mem.getD 1 .dead).cells.getD 4 .top).toB) (((s.mem.getD 1 .dead).cells.getD 5 .top).toI) (((s.mem.getD 1 .dead).cells.getD 6 .top).toI) (((s.mem.getD 1 .dead).cells.getD 7 .top).toI)
def sgJ28a6 : LSh := ⟨[(1, .one (.own 0)), (2, .one (.cell (.int .i64))), (6, .one (.ptr 1 0 0))], [.row 4, .var [.bool, .bool, .bool, .bool, .bool, .int .i64, .int .i64, .int .i64] [.cell (.bool), .cell (.bool), .cell (.bool), .cell (.bool), .cell (.bool), .cell (.int .i64), .cell (.int .i64), .cell (.int .i64)]]⟩
def ceJ28a6 : List Cv := []
def seJ28a6 : St → List Nat := fun st => [(Eng.look st.env 1).id, (Eng.look st.env 6).id]
def xJ28a6wnx : XSh OJ28a6 := ⟨[], ⟨[], [.row 4, .var [.bool, .bool, .bool, .bool, .bool, .int .i64, .int .i64, .int .i64] [.cell (.bool), .cell (.bool), .cell (.bool), .cell (.bool), .cell (.bool), .cell (.int .i64), .cell (.int .i64), .cell (.int .i64)]]⟩, fun st => [0, 1], fun s => .nx ((s.mem.getD 0 .dead).rows) (((s.mem.getD 1 .dead).cells.getD 0 .top).toB) (((s.mem.getD 1 .dead).cells.getD 1 .top).toB) (((s.mem.getD 1 .dead).cells.getD 2 .top).toB) (((s.mem.getD 1 .dead).cells.getD 3 .top).toB) (((s.mem.getD 1 .dead).cells.getD 4 .top).toB) (((s.mem.getD 1 .dead).cells.getD 5 .top).toI) (((s.mem.getD 1 .dead).cells.getD 6 .top).toI) (((s.mem.getD 1 .dead).cells.getD 7 .top).toI)⟩
def xJ28a6wret : XSh OJ28a6 := ⟨[], ⟨[], [.row 4, .var [.bool, .bool, .bool, .bool, .bool, .int .i64, .int .i64, .int .i64] [.cell (.bool), .cell (.bool), .cell (.bool), .cell (.bool), .cell (.bool), .cell (.int .i64), .cell (.int .i64), .cell (.int .i64)]]⟩, fun st => [0, 1], fun s => .ret ((s.mem.getD 0 .dead).rows) (((s.mem.getD 1 .dead).cells.getD 0 .top).toB) (((s.mem.getD 1 .dead).cells.getD 1 .top).toB) (((s.mem.getD 1 .dead).cells.getD 2 .top).toB) (((s.mem.getD 1 .dead).cells.getD 3 .top).toB) (((s.mem.getD 1 .dead).cells.getD 4 .top).toB) (((s.mem.getD 1 .dead).cells.getD 5 .top).toI) (((s.mem.getD 1 .dead).cells.getD 6 .top).toI) (((s.mem.getD 1 .dead).cells.getD 7 .top).toI)⟩
def xsJ28a6 : Ex → St → Option (XSh OJ28a6) := fun e st => match e with
  | .normal => some xJ28a6wnx
  | .ret => some xJ28a6wret
  | _ => none
def exJ28a6 (o : OJ28a6) : Ex := match o with | .nx b0 b1c0 b1c1 b1c2 b1c3 b1c4 b1c5 b1c6 b1c7 => .normal | .ret b0 b1c0 b1c1 b1c2 b1c3 b1c4 b1c5 b1c6 b1c7 => .ret
def stJ28a6 (o : OJ28a6) : St := match o with | .nx b0 b1c0 b1c1 b1c2 b1c3 b1c4 b1c5 b1c6 b1c7 => ⟨[], [.row 4 b0, .var [.bool, .bool, .bool, .bool, .bool, .int .i64, .int .i64, .int .i64] [.bool b1c0, .bool b1c1, .bool b1c2, .bool b1c3, .bool b1c4, .int .i64 b1c5, .int .i64 b1c6, .int .i64 b1c7]], [], .unk⟩ | .ret b0 b1c0 b1c1 b1c2 b1c3 b1c4 b1c5 b1c6 b1c7 => ⟨[], [.row 4 b0, .var [.bool, .bool, .bool, .bool, .bool, .int .i64, .int .i64, .int .i64] [.bool b1c0, .bool b1c1, .bool b1c2, .bool b1c3, .bool b1c4, .int .i64 b1c5, .int .i64 b1c6, .int .i64 b1c7]], [], .unk⟩
def elJ28a6 {R : Type} (o : OJ28a6) (k : Ex → St → Option R) : Option R := match o with | .nx b0 b1c0 b1c1 b1c2 b1c3 b1c4 b1c5 b1c6 b1c7 => k .normal ⟨[], [.row 4 b0, .var [.bool, .bool, .bool, .bool, .bool, .int .i64, .int .i64, .int .i64] [.bool b1c0, .bool b1c1, .bool b1c2, .bool b1c3, .bool b1c4, .int .i64 b1c5, .int .i64 b1c6, .int .i64 b1c7]], [], .unk⟩ | .ret b0 b1c0 b1c1 b1c2 b1c3 b1c4 b1c5 b1c6 b1c7 => k .ret ⟨[], [.row 4 b0, .var [.bool, .bool, .bool, .bool, .bool, .int .i64, .int .i64, .int .i64] [.bool b1c0, .bool b1c1, .bool b1c2, .bool b1c3, .bool b1c4, .int .i64 b1c5, .int .i64 b1c6, .int .i64 b1c7]], [], .unk⟩
theorem heJ28a6 {R : Type} (o : OJ28a6) (k : Ex → St → Option R) : elJ28a6 o k = k (exJ28a6 o) (stJ28a6 o) := by cases o <;> rfl
theorem hxJ28a6 : ∀ e st x, xsJ28a6 e st = some x → outOk x e exJ28a6 stJ28a6 := by
  intro e st x h
  unfold xsJ28a6 at h
  repeat' split at h
  all_goals first
    | (injection h with h; subst h; exact fun lk M => ⟨rfl, rfl⟩)
    | cases h
noncomputable def T28uc6 (rec : TF28) (N : Nat) (R : Type) : LTab R := mkTab ⟨45, 33550336⟩ (csF28 rec N R) (noY) [] [] []
theorem okT28uc6 (rec : TF28) (hrec : RecOkF28 rec) (N : Nat) (R : Type) : (T28uc6 rec N R).Ok CX code28 := mkTab_ok (hcsF28 rec hrec N R) (noY_ok) (trivial) (trivial) (trivial)
noncomputable def bdJ28a6 : Code := (codeAt code28 [false, true]).getD .skip
theorem hsJ28a6 (rec : TF28) (N : Nat) : ∀ (lk : Nat → AV) (M : List Blk), LFJ28a6 rec N (canS sgJ28a6 lk M) = evk CX (T28uc6 rec N OJ28a6) bdJ28a6 6 (canS sgJ28a6 lk M) (kontX CX 2 xsJ28a6) := by intro lk M; kernel_rfl
inductive OL28a62 where
  | x0 (b0 : List Row)
def L28a62 (rec : TF28) (N : Nat) : Nat → List Row → Int → Int → List Row → Option OL28a62
  | 0 => fun _ _ _ _ => none
  | n + 1 => fun x0 x2 x7 b0 =>
    match decide (x7 < ((x0.length : Int))) with
    | true =>
      tst (decide ((0 : Int) ≤ x7) && decide (x7 < ((x0.length : Int)))) <|
      match ((((x0.getD x7.toNat [])).getD 5 .top).toI) == x2 with
      | true =>
        match rec x0 x7 b0 with
        | none => none
        | some (.r rb0v3) =>
          L28a62 rec N n x0 x2 (IntKind.wrap .i64 (x7 + (1 : Int))) rb0v3
      | false =>
        L28a62 rec N n x0 x2 (IntKind.wrap .i64 (x7 + (1 : Int))) b0
    | false =>
      some (.x0 b0)
def LFL28a62 (rec : TF28) (N : Nat) (n : Nat) (s : St) : Option OL28a62 := L28a62 rec N n ((Eng.look s.env 0).rows) ((Eng.look s.env 2).toI) ((Eng.look s.env 7).toI) ((s.mem.getD 0 .dead).rows)
def sgL28a62 : LSh := ⟨[(0, .one (.cell (.slice 30))), (1, .one (.own 0)), (2, .one (.cell (.int .i64))), (7, .one (.cell (.int .i64)))], [.row 4]⟩
def ceL28a62 : List Cv := []
def seL28a62 : St → List Nat := fun st => [(Eng.look st.env 1).id]
def xL28a62wx0 : XSh OL28a62 := ⟨[], ⟨[], [.row 4]⟩, fun st => [0], fun s => .x0 ((s.mem.getD 0 .dead).rows)⟩
def xsL28a62 : Ex → St → Option (XSh OL28a62) := fun e st => match e with
  | .exit 0 => some xL28a62wx0
  | _ => none
def exL28a62 (o : OL28a62) : Ex := match o with | .x0 b0 => (.exit 0)
def stL28a62 (o : OL28a62) : St := match o with | .x0 b0 => ⟨[], [.row 4 b0], [], .unk⟩
def elL28a62 {R : Type} (o : OL28a62) (k : Ex → St → Option R) : Option R := match o with | .x0 b0 => k (.exit 0) ⟨[], [.row 4 b0], [], .unk⟩
theorem heL28a62 {R : Type} (o : OL28a62) (k : Ex → St → Option R) : elL28a62 o k = k (exL28a62 o) (stL28a62 o) := by cases o <;> rfl
theorem hxL28a62 : ∀ e st x, xsL28a62 e st = some x → outOk x e exL28a62 stL28a62 := by
  intro e st x h
  unfold xsL28a62 at h
  repeat' split at h
  all_goals first
    | (injection h with h; subst h; exact fun lk M => ⟨rfl, rfl⟩)
    | cases h
noncomputable def T28ul62 (rec : TF28) (N : Nat) (R : Type) : LTab R := mkTab ⟨45, 35184103653504⟩ (csF28 rec N R) (noY) [] [] []
theorem okT28ul62 (rec : TF28) (hrec : RecOkF28 rec) (N : Nat) (R : Type) : (T28ul62 rec N R).Ok CX code28 := mkTab_ok (hcsF28 rec hrec N R) (noY_ok) (trivial) (trivial) (trivial)
noncomputable def bdL28a62 : Code := match codeAt code28 [false, true, true, true, true] with | some (.loop c) => c | _ => .skip
theorem hsL28a62 (rec : TF28) (N : Nat) : ∀ (n : Nat) (lk : Nat → AV) (M : List Blk), LFL28a62 rec N (n + 1) (canS sgL28a62 lk M) = evk CX (T28ul62 rec N OL28a62) bdL28a62 (2 * 62) (canS sgL28a62 lk M) (kont CX 1 [] sgL28a62 (fun st => [0]) xsL28a62 (LFL28a62 rec N n)) := by intro n lk M; kernel_rfl
noncomputable def T28ur1 (rec : TF28) (N : Nat) (R : Type) : LTab R := mkTab ⟨45, 35184372088831⟩ (csF28 rec N R) (noY) [(62, fun st k => callLoop CX 1 35184103653504 ceL28a62 sgL28a62 seL28a62 ⟨45, 35184372088831⟩ (LFL28a62 rec N N) elL28a62 st k)] [] [(6, fun st k => callLoop CX 2 33550336 ceJ28a6 sgJ28a6 seJ28a6 ⟨45, 35184372088831⟩ (LFJ28a6 rec N) elJ28a6 st k)]
theorem okT28ur1 (rec : TF28) (hrec : RecOkF28 rec) (N : Nat) (R : Type) : (T28ur1 rec N R).Ok CX code28 := mkTab_ok (hcsF28 rec hrec N R) (noY_ok) (⟨loop_ok hX (path := [false, true, true, true, true]) (by kernel_rfl) (by rfl) (okT28ul62 rec hrec N OL28a62) (fun _ _ => rfl) (hsL28a62 rec N) hxL28a62 rfl heL28a62, trivial⟩) (trivial) (⟨cut_ok hX (path := [false, true]) (by kernel_rfl) (by rfl) (okT28uc6 rec hrec N OJ28a6) (hsJ28a6 rec N) hxJ28a6 rfl heJ28a6, trivial⟩)
def rsF28 : List ResultVar := []
def F28 : Nat → TF28
  | 0 => fun _ _ _ => none
  | N + 1 => fun x0 x2 b0 =>
    tst (decide ((0 : Int) ≤ x2) && decide (x2 < ((x0.length : Int)))) <|
    match J28a6 (F28 N) N x2 b0 ((((x0.getD x2.toNat [])).getD 0 .top).toB) ((((x0.getD x2.toNat [])).getD 1 .top).toB) ((((x0.getD x2.toNat [])).getD 2 .top).toB) ((((x0.getD x2.toNat [])).getD 3 .top).toB) ((((x0.getD x2.toNat [])).getD 4 .top).toB) ((((x0.getD x2.toNat [])).getD 5 .top).toI) ((((x0.getD x2.toNat [])).getD 6 .top).toI) ((((x0.getD x2.toNat [])).getD 7 .top).toI) with
    | none => none
    | some (.nx b0v2 b1c0v2 b1c1v2 b1c2v2 b1c3v2 b1c4v2 b1c5v2 b1c6v2 b1c7v2) =>
      tst (decide ((0 : Int) ≤ x2) && decide (x2 < ((b0v2.length : Int)))) <|
      tst (decide (x2.toNat < b0v2.length)) <|
      match L28a62 (F28 N) N N x0 x2 0 (b0v2.set x2.toNat (Eng.setAt ((b0v2.getD x2.toNat [])) 0 [.bool true])) with
      | none => none
      | some (.x0 b0v4) =>
        some (.r b0v4)
    | some (.ret b0v5 b1c0v5 b1c1v5 b1c2v5 b1c3v5 b1c4v5 b1c5v5 b1c6v5 b1c7v5) =>
      some (.r b0v5)
def xRF28 : XSh R28 := ⟨[], ⟨[], [.row 4]⟩, fun st => [0], fun s => .r ((s.mem.getD 0 .dead).rows)⟩
theorem fsF28 : ∀ (N : Nat) (lk : Nat → AV) (M : List Blk), FFF28 (F28 (N + 1)) (canS sgF28 lk M) = evfn CX (T28ur1 (F28 N) N R28) code28 rsF28 (argsE 3 (canS sgF28 lk M).env) (canS sgF28 lk M).mem (goRt CX 1 0 (fun _ => some xRF28)) := by intro N lk M; kernel_rfl
theorem soundF28 : ∀ N, RecOkF28 (F28 N)
  | 0, lk, M, o, h => by cases h
  | N + 1, lk, M, o, h => fn_soundt hX (okT28ur1 (F28 N) (soundF28 N) N R28) Try.func28 hb28 rfl en28 (by kernel_rfl) (ys := fun _ => some xRF28) (fun st y h => by injection h with h; subst h; exact fun lk M => ⟨rfl, rfl⟩) ((fsF28 N lk M).symm.trans h)
end Go.Proofs.Ytfggehkiglenjaa

namespace Go.Proofs.Ytfggehkiglenjaa
open Go Go.Eng
set_option maxRecDepth 100000

/-! ### F12: ceiling/ceilingref33.Abort -/
inductive R12 where
  | r (b0 : List Row)
abbrev TF12 := List Row → List Row → Option R12
def sgF12 : LSh := ⟨[(0, .one (.cell (.slice 30))), (1, .one (.cell (.slice 3)))], []⟩
def FFF12 (Fx : TF12) (s : St) : Option R12 := Fx ((Eng.look s.env 0).rows) ((Eng.look s.env 1).rows)
def valF12 (o : R12) : AV := match o with | .r b0 => .own 0
def memF12 (o : R12) : List Blk := match o with | .r b0 => [.row 3 b0]
def elF12 {R : Type} (o : R12) (k : AV → List Blk → Option R) : Option R := match o with | .r b0 => k (.own 0) [.row 3 b0]
def RecOkF12 (Fx : TF12) : Prop := ∀ lk M o, FFF12 Fx (canS sgF12 lk M) = some o → FCalls CX 12 0 (argsE 2 (canS sgF12 lk M).env) (canS sgF12 lk M).mem (valF12 o) (memF12 o)
noncomputable def csF12 (N : Nat) (R : Type) : List (CE R) := [ce19n0 (F19 N) R (fun _ _ => true), ce27n0 (F27 N) R (fun _ _ => true), ce28n0 (F28 N) R (fun _ _ => true)]
theorem hcsF12 (N : Nat) (R : Type) : AllE (CeOk CX) (csF12 N R) := ⟨okce19n0 (F19 N) (soundF19 N) R (fun _ _ => true), okce27n0 (F27 N) (soundF27 N) R (fun _ _ => true), okce28n0 (F28 N) (soundF28 N) R (fun _ _ => true), trivial⟩
inductive OL12a122 where
  | x0 (b0 : List Row)
def L12a122 (N : Nat) : Nat → List Row → List Row → Int → List Row → Option OL12a122
  | 0 => fun _ _ _ _ => none
  | n + 1 => fun x0 x1 x6 b0 =>
    match decide (x6 < ((x1.length : Int))) with
    | true =>
      tst (decide ((0 : Int) ≤ x6) && decide (x6 < ((x1.length : Int)))) <|
      match F27 N x0 ((((x1.getD x6.toNat [])).getD 0 .top).toI) with
      | none => none
      | some (.r rx0v2) =>
        match rx0v2 with
        | true =>
          tst (decide ((0 : Int) ≤ x6) && decide (x6 < ((x1.length : Int)))) <|
          match F28 N x0 ((((x1.getD x6.toNat [])).getD 0 .top).toI) b0 with
          | none => none
          | some (.r rb0v3) =>
            L12a122 N n x0 x1 (IntKind.wrap .i64 (x6 + (1 : Int))) rb0v3
        | false =>
          L12a122 N n x0 x1 (IntKind.wrap .i64 (x6 + (1 : Int))) b0
    | false =>
      some (.x0 b0)
def LFL12a122 (N : Nat) (n : Nat) (s : St) : Option OL12a122 := L12a122 N n ((Eng.look s.env 0).rows) ((Eng.look s.env 1).rows) ((Eng.look s.env 6).toI) ((s.mem.getD 0 .dead).rows)
def sgL12a122 : LSh := ⟨[(0, .one (.cell (.slice 30))), (1, .one (.cell (.slice 3))), (5, .one (.own 0)), (6, .one (.cell (.int .i64)))], [.row 4]⟩
def ceL12a122 : List Cv := []
def seL12a122 : St → List Nat := fun st => [(Eng.look st.env 5).id]
def xL12a122wx0 : XSh OL12a122 := ⟨[], ⟨[], [.row 4]⟩, fun st => [0], fun s => .x0 ((s.mem.getD 0 .dead).rows)⟩
def xsL12a122 : Ex → St → Option (XSh OL12a122) := fun e st => match e with
  | .exit 0 => some xL12a122wx0
  | _ => none
def exL12a122 (o : OL12a122) : Ex := match o with | .x0 b0 => (.exit 0)
def stL12a122 (o : OL12a122) : St := match o with | .x0 b0 => ⟨[], [.row 4 b0], [], .unk⟩
def elL12a122 {R : Type} (o : OL12a122) (k : Ex → St → Option R) : Option R := match o with | .x0 b0 => k (.exit 0) ⟨[], [.row 4 b0], [], .unk⟩
theorem heL12a122 {R : Type} (o : OL12a122) (k : Ex → St → Option R) : elL12a122 o k = k (exL12a122 o) (stL12a122 o) := by cases o <;> rfl
theorem hxL12a122 : ∀ e st x, xsL12a122 e st = some x → outOk x e exL12a122 stL12a122 := by
  intro e st x h
  unfold xsL12a122 at h
  repeat' split at h
  all_goals first
    | (injection h with h; subst h; exact fun lk M => ⟨rfl, rfl⟩)
    | cases h
noncomputable def T12ul122 (N : Nat) (R : Type) : LTab R := mkTab ⟨49, 17179836480⟩ (csF12 N R) (noY) [] [] []
theorem okT12ul122 (N : Nat) (R : Type) : (T12ul122 N R).Ok CX code12 := mkTab_ok (hcsF12 N R) (noY_ok) (trivial) (trivial) (trivial)
noncomputable def bdL12a122 : Code := match codeAt code12 [false, true, false, true, true, true] with | some (.loop c) => c | _ => .skip
theorem hsL12a122 (N : Nat) : ∀ (n : Nat) (lk : Nat → AV) (M : List Blk), LFL12a122 N (n + 1) (canS sgL12a122 lk M) = evk CX (T12ul122 N OL12a122) bdL12a122 (2 * 122) (canS sgL12a122 lk M) (kont CX 1 [] sgL12a122 (fun st => [0]) xsL12a122 (LFL12a122 N n)) := by intro n lk M; kernel_rfl
inductive OL12a506 where
  | x2 (b0 : List Row) (b1 : List Row)
def L12a506 (N : Nat) : Nat → List Row → Int → List Row → List Row → Option OL12a506
  | 0 => fun _ _ _ _ => none
  | n + 1 => fun x0 x8 b0 b1 =>
    match decide (x8 < ((x0.length : Int))) with
    | true =>
      tst (decide ((0 : Int) ≤ x8) && decide (x8 < ((b0.length : Int)))) <|
      tst (decide (x8.toNat < b0.length)) <|
      match (((b0.getD x8.toNat [])).getD 0 .top).toB with
      | true =>
        tst (decide (((b1.length + 1) * 8) ≤ 140737488355328)) <|
        L12a506 N n x0 (IntKind.wrap .i64 (x8 + (1 : Int))) b0 (b1 ++ (([[.int .i64 x8]] : List Row)))
      | false =>
        L12a506 N n x0 (IntKind.wrap .i64 (x8 + (1 : Int))) b0 b1
    | false =>
      some (.x2 b0 b1)
def LFL12a506 (N : Nat) (n : Nat) (s : St) : Option OL12a506 := L12a506 N n ((Eng.look s.env 0).rows) ((Eng.look s.env 8).toI) ((s.mem.getD 0 .dead).rows) ((s.mem.getD 1 .dead).rows)
def sgL12a506 : LSh := ⟨[(0, .one (.cell (.slice 30))), (5, .one (.own 0)), (7, .one (.own 1)), (8, .one (.cell (.int .i64)))], [.row 4, .row 3]⟩
def ceL12a506 : List Cv := [.mk 7 3]
def seL12a506 : St → List Nat := fun st => [(Eng.look st.env 5).id, (Eng.look st.env 7).id]
def xL12a506wx2 : XSh OL12a506 := ⟨[], ⟨[(7, .one (.own 1))], [.row 4, .row 3]⟩, fun st => [0, (Eng.look st.env 7).id], fun s => .x2 ((s.mem.getD 0 .dead).rows) ((s.mem.getD 1 .dead).rows)⟩
def xsL12a506 : Ex → St → Option (XSh OL12a506) := fun e st => match e with
  | .exit 2 => some xL12a506wx2
  | _ => none
def exL12a506 (o : OL12a506) : Ex := match o with | .x2 b0 b1 => (.exit 2)
def stL12a506 (o : OL12a506) : St := match o with | .x2 b0 b1 => ⟨[(7, .own 1)], [.row 4 b0, .row 3 b1], [], .unk⟩
def elL12a506 {R : Type} (o : OL12a506) (k : Ex → St → Option R) : Option R := match o with | .x2 b0 b1 => k (.exit 2) ⟨[(7, .own 1)], [.row 4 b0, .row 3 b1], [], .unk⟩
theorem heL12a506 {R : Type} (o : OL12a506) (k : Ex → St → Option R) : elL12a506 o k = k (exL12a506 o) (stL12a506 o) := by cases o <;> rfl
theorem hxL12a506 : ∀ e st x, xsL12a506 e st = some x → outOk x e exL12a506 stL12a506 := by
  intro e st x h
  unfold xsL12a506 at h
  repeat' split at h
  all_goals first
    | (injection h with h; subst h; exact fun lk M => ⟨rfl, rfl⟩)
    | cases h
noncomputable def T12ul506 (N : Nat) (R : Type) : LTab R := mkTab ⟨49, 281457796841856⟩ (csF12 N R) (noY) [] [] []
theorem okT12ul506 (N : Nat) (R : Type) : (T12ul506 N R).Ok CX code12 := mkTab_ok (hcsF12 N R) (noY_ok) (trivial) (trivial) (trivial)
noncomputable def bdL12a506 : Code := match codeAt code12 [false, true, false, true, true, true, true, true] with | some (.loop c) => c | _ => .skip
theorem hsL12a506 (N : Nat) : ∀ (n : Nat) (lk : Nat → AV) (M : List Blk), LFL12a506 N (n + 1) (canS sgL12a506 lk M) = evk CX (T12ul506 N OL12a506) bdL12a506 (2 * 506) (canS sgL12a506 lk M) (kont CX 1 [] sgL12a506 (fun st => [0, (Eng.look st.env 7).id]) xsL12a506 (LFL12a506 N n)) := by intro n lk M; kernel_rfl
noncomputable def T12ur1 (N : Nat) (R : Type) : LTab R := mkTab ⟨49, 562949953421311⟩ (csF12 N R) (noY) [(122, fun st k => callLoop CX 1 17179836480 ceL12a122 sgL12a122 seL12a122 ⟨49, 562949953421311⟩ (LFL12a122 N N) elL12a122 st k), (506, fun st k => callLoop CX 1 281457796841856 ceL12a506 sgL12a506 seL12a506 ⟨49, 562949953421311⟩ (LFL12a506 N N) elL12a506 st k)] [] []
theorem okT12ur1 (N : Nat) (R : Type) : (T12ur1 N R).Ok CX code12 := mkTab_ok (hcsF12 N R) (noY_ok) (⟨loop_ok hX (path := [false, true, false, true, true, true]) (by kernel_rfl) (by rfl) (okT12ul122 N OL12a122) (fun _ _ => rfl) (hsL12a122 N) hxL12a122 rfl heL12a122, loop_ok hX (path := [false, true, false, true, true, true, true, true]) (by kernel_rfl) (by rfl) (okT12ul506 N OL12a506) (fun _ _ => rfl) (hsL12a506 N) hxL12a506 rfl heL12a506, trivial⟩) (trivial) (trivial)
def rsF12 : List ResultVar := [.tmp 4]
def F12 : Nat → TF12
  | 0 => fun _ _ => none
  | N + 1 => fun x0 x1 =>
    match F19 N x0 with
    | none => none
    | some (.r rx0v1) =>
      match !rx0v1 with
      | true =>
        some (.r (([] : List Row)))
      | false =>
        tst (decide ((0 : Int) ≤ ((x0.length : Int))) && decide ((x0.length : Int) ≤ ((x0.length : Int))) && decide (((x0.length : Int)) * 1 ≤ (140737488355328 : Int))) <|
        match L12a122 N N x0 x1 0 (List.replicate (((x0.length : Int)).toNat) [.bool false]) with
        | none => none
        | some (.x0 b0v4) =>
          match L12a506 N N x0 0 b0v4 (([] : List Row)) with
          | none => none
          | some (.x2 b0v5 b1v5) =>
            some (.r b1v5)
def xRF12 : XSh R12 := ⟨[.mk 0 3], ⟨[(0, .one (.own 0))], [.row 3]⟩, fun st => [(Eng.look st.env 0).id], fun s => .r ((s.mem.getD 0 .dead).rows)⟩
theorem fsF12 : ∀ (N : Nat) (lk : Nat → AV) (M : List Blk), FFF12 (F12 (N + 1)) (canS sgF12 lk M) = evfn CX (T12ur1 N R12) code12 rsF12 (argsE 2 (canS sgF12 lk M).env) (canS sgF12 lk M).mem (goR CX 0 (fun _ => some xRF12)) := by intro N lk M; kernel_rfl
theorem soundF12 : ∀ N, RecOkF12 (F12 N)
  | 0, lk, M, o, h => by cases h
  | N + 1, lk, M, o, h => fn_sound hX (okT12ur1 N R12) Try.func12 hb12 rfl en12 (by kernel_rfl) (ys := fun _ => some xRF12) (fun st y h => by injection h with h; subst h; exact fun lk M => ⟨rfl, rfl⟩) ((fsF12 N lk M).symm.trans h)
def cvce12n0 : List Cv := []
def selce12n0 : St → List Nat := fun _ => []
noncomputable def ce12n0 (Fx : TF12) (R : Type) (test : List AV → List Blk → Bool) : CE R := ⟨12, test, fun args M => some (selce12n0 ⟨argEnv 0 args, M, [], .unk⟩), fun args M k => tst (Nat.beq args.length 2) (callFn CX 0 cvce12n0 sgF12 selce12n0 (FFF12 Fx) elF12 args M k)⟩
theorem okce12n0 (Fx : TF12) (h : RecOkF12 Fx) (R : Type) (test : List AV → List Blk → Bool) : CeOk CX (ce12n0 Fx R test) := ce_ok hX (fun o k => by cases o; rfl) h en12 (fun args M ids h => by injection h with h; exact ⟨rfl, h.symm⟩)
end Go.Proofs.Ytfggehkiglenjaa

namespace Go.Proofs.Ytfggehkiglenjaa
open Go Go.Eng
set_option maxRecDepth 100000

/-! ### F3: ceiling/ceilinglaw33.MasterAborts -/
inductive R3 where
  | r (x0 : Bool)
abbrev TF3 := List Row → List Row → Option R3
def sgF3 : LSh := ⟨[(0, .one (.cell (.slice 30))), (1, .one (.cell (.slice 3)))], []⟩
def FFF3 (Fx : TF3) (s : St) : Option R3 := Fx ((Eng.look s.env 0).rows) ((Eng.look s.env 1).rows)
def valF3 (o : R3) : AV := match o with | .r x0 => .bool x0
def memF3 (o : R3) : List Blk := match o with | .r x0 => []
def elF3 {R : Type} (o : R3) (k : AV → List Blk → Option R) : Option R := match o with | .r x0 => k (.bool x0) []
def RecOkF3 (Fx : TF3) : Prop := ∀ lk M o, FFF3 Fx (canS sgF3 lk M) = some o → FCalls CX 3 0 (argsE 2 (canS sgF3 lk M).env) (canS sgF3 lk M).mem (valF3 o) (memF3 o)
noncomputable def csF3 (N : Nat) (R : Type) : List (CE R) := [ce8n0 (F8 N) R (fun _ _ => true), ce9n1 (F9 N) R (fun _ _ => true), ce10n0 (F10 N) R (fun _ _ => true), ce11n2 (F11 N) R (fun _ _ => true), ce12n0 (F12 N) R (fun _ _ => true), ce13n0 (F13 N) R (fun _ _ => true)]
theorem hcsF3 (N : Nat) (R : Type) : AllE (CeOk CX) (csF3 N R) := ⟨okce8n0 (F8 N) (soundF8 N) R (fun _ _ => true), okce9n1 (F9 N) (soundF9 N) R (fun _ _ => true), okce10n0 (F10 N) (soundF10 N) R (fun _ _ => true), okce11n2 (F11 N) (soundF11 N) R (fun _ _ => true), okce12n0 (F12 N) (soundF12 N) R (fun _ _ => true), okce13n0 (F13 N) (soundF13 N) R (fun _ _ => true), trivial⟩
noncomputable def T3ur1 (N : Nat) (R : Type) : LTab R := mkTab ⟨32, 4294967295⟩ (csF3 N R) (noY) [] [] []
theorem okT3ur1 (N : Nat) (R : Type) : (T3ur1 N R).Ok CX code3 := mkTab_ok (hcsF3 N R) (noY_ok) (trivial) (trivial) (trivial)
def rsF3 : List ResultVar := [.tmp 4]
def F3 : Nat → TF3
  | 0 => fun _ _ => none
  | N + 1 => fun x0 x1 =>
    tst (decide ((0 : Int) ≤ (Eng.imin ((x0.length : Int)) 40)) && decide ((Eng.imin ((x0.length : Int)) 40) ≤ ((x0.length : Int))) && decide ((x0.length : Int) ≤ ((x0.length : Int)))) <|
    tst (decide ((0 : Int) ≤ (Eng.imin ((x1.length : Int)) 40)) && decide ((Eng.imin ((x1.length : Int)) 40) ≤ ((x1.length : Int))) && decide ((x1.length : Int) ≤ ((x1.length : Int)))) <|
    match F9 N (x0.take ((Eng.imin ((x0.length : Int)) 40).toNat)) with
    | none => none
    | some (.r rb0v1) =>
      match F10 N (x0.take ((Eng.imin ((x0.length : Int)) 40).toNat)) with
      | none => none
      | some (.r rb0v2) =>
        match F8 N rb0v1 rb0v2 with
        | none => none
        | some (.r rx0v3) =>
          match rx0v3 with
          | true =>
            match F11 N (x0.take ((Eng.imin ((x0.length : Int)) 40).toNat)) (x1.take ((Eng.imin ((x1.length : Int)) 40).toNat)) with
            | none => none
            | some (.r rb0v4) =>
              match F12 N (x0.take ((Eng.imin ((x0.length : Int)) 40).toNat)) (x1.take ((Eng.imin ((x1.length : Int)) 40).toNat)) with
              | none => none
              | some (.r rb0v5) =>
                match F8 N rb0v4 rb0v5 with
                | none => none
                | some (.r rx0v6) =>
                  match rx0v6 with
                  | true =>
                    match F13 N  with
                    | none => none
                    | some (.r rx0v7) =>
                      some (.r rx0v7)
                  | false =>
                    some (.r false)
          | false =>
            some (.r false)
def xRF3 : XSh R3 := ⟨[], ⟨[(0, .one (.cell (.bool)))], []⟩, fun _ => [], fun s => .r ((Eng.look s.env 0).toB)⟩
theorem fsF3 : ∀ (N : Nat) (lk : Nat → AV) (M : List Blk), FFF3 (F3 (N + 1)) (canS sgF3 lk M) = evfn CX (T3ur1 N R3) code3 rsF3 (argsE 2 (canS sgF3 lk M).env) (canS sgF3 lk M).mem (goR CX 0 (fun _ => some xRF3)) := by intro N lk M; kernel_rfl
theorem soundF3 : ∀ N, RecOkF3 (F3 N)
  | 0, lk, M, o, h => by cases h
  | N + 1, lk, M, o, h => fn_sound hX (okT3ur1 N R3) Try.func3 hb3 rfl en3 (by kernel_rfl) (ys := fun _ => some xRF3) (fun st y h => by injection h with h; subst h; exact fun lk M => ⟨rfl, rfl⟩) ((fsF3 N lk M).symm.trans h)
end Go.Proofs.Ytfggehkiglenjaa

namespace Go.Proofs.Ytfggehkiglenjaa
open Go Go.Eng
set_option maxRecDepth 100000

/-! ### F18: ceiling/ceilingref33.In -/
inductive R18 where
  | r (x0 : Bool)
abbrev TF18 := List Row → Int → Option R18
def sgF18 : LSh := ⟨[(0, .one (.cell (.slice 3))), (1, .one (.cell (.int .i64)))], []⟩
def FFF18 (Fx : TF18) (s : St) : Option R18 := Fx ((Eng.look s.env 0).rows) ((Eng.look s.env 1).toI)
def valF18 (o : R18) : AV := match o with | .r x0 => .bool x0
def memF18 (o : R18) : List Blk := match o with | .r x0 => []
def elF18 {R : Type} (o : R18) (k : AV → List Blk → Option R) : Option R := match o with | .r x0 => k (.bool x0) []
def RecOkF18 (Fx : TF18) : Prop := ∀ lk M o, FFF18 Fx (canS sgF18 lk M) = some o → FCalls CX 18 0 (argsE 2 (canS sgF18 lk M).env) (canS sgF18 lk M).mem (valF18 o) (memF18 o)
noncomputable def csF18 (N : Nat) (R : Type) : List (CE R) := []
theorem hcsF18 (N : Nat) (R : Type) : AllE (CeOk CX) (csF18 N R) := trivial
inductive OL18a26 where
  | ret (x4 : Bool)
  | x0
def L18a26 (N : Nat) : Nat → List Row → Int → Int → Option OL18a26
  | 0 => fun _ _ _ => none
  | n + 1 => fun x0 x1 x5 =>
    match decide (x5 < ((x0.length : Int))) with
    | true =>
      tst (decide ((0 : Int) ≤ x5) && decide (x5 < ((x0.length : Int)))) <|
      match ((((x0.getD x5.toNat [])).getD 0 .top).toI) == x1 with
      | true =>
        some (.ret true)
      | false =>
        L18a26 N n x0 x1 (IntKind.wrap .i64 (x5 + (1 : Int)))
    | false =>
      some .x0
def LFL18a26 (N : Nat) (n : Nat) (s : St) : Option OL18a26 := L18a26 N n ((Eng.look s.env 0).rows) ((Eng.look s.env 1).toI) ((Eng.look s.env 5).toI)
def sgL18a26 : LSh := ⟨[(0, .one (.cell (.slice 3))), (1, .one (.cell (.int .i64))), (5, .one (.cell (.int .i64)))], []⟩
def ceL18a26 : List Cv := []
def seL18a26 : St → List Nat := fun _ => []
def xL18a26wret : XSh OL18a26 := ⟨[], ⟨[(4, .one (.cell (.bool)))], []⟩, fun _ => [], fun s => .ret ((Eng.look s.env 4).toB)⟩
def xL18a26wx0 : XSh OL18a26 := ⟨[], ⟨[], []⟩, fun _ => [], fun s => .x0 ⟩
def xsL18a26 : Ex → St → Option (XSh OL18a26) := fun e st => match e with
  | .ret => some xL18a26wret
  | .exit 0 => some xL18a26wx0
  | _ => none
def exL18a26 (o : OL18a26) : Ex := match o with | .ret x4 => .ret | .x0 => (.exit 0)
def stL18a26 (o : OL18a26) : St := match o with | .ret x4 => ⟨[(4, .bool x4)], [], [], .unk⟩ | .x0 => ⟨[], [], [], .unk⟩
def elL18a26 {R : Type} (o : OL18a26) (k : Ex → St → Option R) : Option R := match o with | .ret x4 => k .ret ⟨[(4, .bool x4)], [], [], .unk⟩ | .x0 => k (.exit 0) ⟨[], [], [], .unk⟩
theorem heL18a26 {R : Type} (o : OL18a26) (k : Ex → St → Option R) : elL18a26 o k = k (exL18a26 o) (stL18a26 o) := by cases o <;> rfl
theorem hxL18a26 : ∀ e st x, xsL18a26 e st = some x → outOk x e exL18a26 stL18a26 := by
  intro e st x h
  unfold xsL18a26 at h
  repeat' split at h
  all_goals first
    | (injection h with h; subst h; exact fun lk M => ⟨rfl, rfl⟩)
    | cases h
noncomputable def T18ul26 (N : Nat) (R : Type) : LTab R := mkTab ⟨18, 262128⟩ (csF18 N R) (noY) [] [] []
theorem okT18ul26 (N : Nat) (R : Type) : (T18ul26 N R).Ok CX code18 := mkTab_ok (hcsF18 N R) (noY_ok) (trivial) (trivial) (trivial)
noncomputable def bdL18a26 : Code := match codeAt code18 [false, true, false, true] with | some (.loop c) => c | _ => .skip
theorem hsL18a26 (N : Nat) : ∀ (n : Nat) (lk : Nat → AV) (M : List Blk), LFL18a26 N (n + 1) (canS sgL18a26 lk M) = evk CX (T18ul26 N OL18a26) bdL18a26 (2 * 26) (canS sgL18a26 lk M) (kont CX 0 [] sgL18a26 (fun _ => []) xsL18a26 (LFL18a26 N n)) := by intro n lk M; kernel_rfl
noncomputable def T18ur1 (N : Nat) (R : Type) : LTab R := mkTab ⟨18, 262143⟩ (csF18 N R) (noY) [(26, fun st k => callLoop CX 0 262128 ceL18a26 sgL18a26 seL18a26 ⟨18, 262143⟩ (LFL18a26 N N) elL18a26 st k)] [] []
theorem okT18ur1 (N : Nat) (R : Type) : (T18ur1 N R).Ok CX code18 := mkTab_ok (hcsF18 N R) (noY_ok) (⟨loop_ok hX (path := [false, true, false, true]) (by kernel_rfl) (by rfl) (okT18ul26 N OL18a26) (fun _ _ => rfl) (hsL18a26 N) hxL18a26 rfl heL18a26, trivial⟩) (trivial) (trivial)
def rsF18 : List ResultVar := [.tmp 4]
def F18 : Nat → TF18
  | 0 => fun _ _ => none
  | N + 1 => fun x0 x1 =>
    match L18a26 N N x0 x1 0 with
    | none => none
    | some (.ret x4v1) =>
      some (.r x4v1)
    | some (.x0) =>
      some (.r false)
def xRF18 : XSh R18 := ⟨[], ⟨[(0, .one (.cell (.bool)))], []⟩, fun _ => [], fun s => .r ((Eng.look s.env 0).toB)⟩
theorem fsF18 : ∀ (N : Nat) (lk : Nat → AV) (M : List Blk), FFF18 (F18 (N + 1)) (canS sgF18 lk M) = evfn CX (T18ur1 N R18) code18 rsF18 (argsE 2 (canS sgF18 lk M).env) (canS sgF18 lk M).mem (goR CX 0 (fun _ => some xRF18)) := by intro N lk M; kernel_rfl
theorem soundF18 : ∀ N, RecOkF18 (F18 N)
  | 0, lk, M, o, h => by cases h
  | N + 1, lk, M, o, h => fn_sound hX (okT18ur1 N R18) Try.func18 hb18 rfl en18 (by kernel_rfl) (ys := fun _ => some xRF18) (fun st y h => by injection h with h; subst h; exact fun lk M => ⟨rfl, rfl⟩) ((fsF18 N lk M).symm.trans h)
def cvce18n0 : List Cv := []
def selce18n0 : St → List Nat := fun _ => []
noncomputable def ce18n0 (Fx : TF18) (R : Type) (test : List AV → List Blk → Bool) : CE R := ⟨18, test, fun args M => some (selce18n0 ⟨argEnv 0 args, M, [], .unk⟩), fun args M k => tst (Nat.beq args.length 2) (callFn CX 0 cvce18n0 sgF18 selce18n0 (FFF18 Fx) elF18 args M k)⟩
theorem okce18n0 (Fx : TF18) (h : RecOkF18 Fx) (R : Type) (test : List AV → List Blk → Bool) : CeOk CX (ce18n0 Fx R test) := ce_ok hX (fun o k => by cases o; rfl) h en18 (fun args M ids h => by injection h with h; exact ⟨rfl, h.symm⟩)
def cvce18n1 : List Cv := [.frz 0 (.slice 3)]
def selce18n1 : St → List Nat := fun _ => []
noncomputable def ce18n1 (Fx : TF18) (R : Type) (test : List AV → List Blk → Bool) : CE R := ⟨18, test, fun _ _ => none, fun args M k => tst (Nat.beq args.length 2) (callFn CX 0 cvce18n1 sgF18 selce18n1 (FFF18 Fx) elF18 args M k)⟩
theorem okce18n1 (Fx : TF18) (h : RecOkF18 Fx) (R : Type) (test : List AV → List Blk → Bool) : CeOk CX (ce18n1 Fx R test) := ce_ok hX (fun o k => by cases o; rfl) h en18 (fun args M ids h => by cases h)
end Go.Proofs.Ytfggehkiglenjaa

namespace Go.Proofs.Ytfggehkiglenjaa
open Go Go.Eng
set_option maxRecDepth 100000

/-! ### F5: ceiling/ceilinglaw33.MasterClosed -/
inductive R5 where
  | r (x0 : Bool)
abbrev TF5 := List Row → List Row → Option R5
def sgF5 : LSh := ⟨[(0, .one (.cell (.slice 30))), (1, .one (.cell (.slice 3)))], []⟩
def FFF5 (Fx : TF5) (s : St) : Option R5 := Fx ((Eng.look s.env 0).rows) ((Eng.look s.env 1).rows)
def valF5 (o : R5) : AV := match o with | .r x0 => .bool x0
def memF5 (o : R5) : List Blk := match o with | .r x0 => []
def elF5 {R : Type} (o : R5) (k : AV → List Blk → Option R) : Option R := match o with | .r x0 => k (.bool x0) []
def RecOkF5 (Fx : TF5) : Prop := ∀ lk M o, FFF5 Fx (canS sgF5 lk M) = some o → FCalls CX 5 0 (argsE 2 (canS sgF5 lk M).env) (canS sgF5 lk M).mem (valF5 o) (memF5 o)
noncomputable def csF5 (N : Nat) (R : Type) : List (CE R) := [ce8n0 (F8 N) R (fun _ _ => true), ce11n2 (F11 N) R (testV CX cvce11n2 sgF11 selce11n2), ce11n0 (F11 N) R (testV CX cvce11n0 sgF11 selce11n0), ce11n3 (F11 N) R (testV CX cvce11n3 sgF11 selce11n3), ce13n0 (F13 N) R (fun _ _ => true), ce16n1 (F16 N) R (fun _ _ => true), ce18n0 (F18 N) R (fun _ _ => true), ce19n0 (F19 N) R (fun _ _ => true)]
theorem hcsF5 (N : Nat) (R : Type) : AllE (CeOk CX) (csF5 N R) := ⟨okce8n0 (F8 N) (soundF8 N) R (fun _ _ => true), okce11n2 (F11 N) (soundF11 N) R (testV CX cvce11n2 sgF11 selce11n2), okce11n0 (F11 N) (soundF11 N) R (testV CX cvce11n0 sgF11 selce11n0), okce11n3 (F11 N) (soundF11 N) R (testV CX cvce11n3 sgF11 selce11n3), okce13n0 (F13 N) (soundF13 N) R (fun _ _ => true), okce16n1 (F16 N) (soundF16 N) R (fun _ _ => true), okce18n0 (F18 N) (soundF18 N) R (fun _ _ => true), okce19n0 (F19 N) (soundF19 N) R (fun _ _ => true), trivial⟩
inductive OJ5a130354 where
  | nx
  | ret (x4 : Bool)
def J5a130354 (N : Nat) : List Row → List Row → List Row → Int → Int → Option OJ5a130354 := fun x0 x1 x5 x7 x8 =>
    match decide (x8 < (0 : Int)) with
    | true =>
      some (.ret false)
    | false =>
      match decide (((x0.length : Int)) ≤ x8) with
      | true =>
        some (.ret false)
      | false =>
        match decide ((0 : Int) < x7) with
        | true =>
          tst (decide ((0 : Int) ≤ (IntKind.wrap .i64 (x7 - (1 : Int)))) && decide ((IntKind.wrap .i64 (x7 - (1 : Int))) < ((x5.length : Int)))) <|
          match decide (x8 ≤ ((((x5.getD ((IntKind.wrap .i64 (x7 - (1 : Int))).toNat) [])).getD 0 .top).toI)) with
          | true =>
            some (.ret false)
          | false =>
            tst (decide ((0 : Int) ≤ x8) && decide (x8 < ((x0.length : Int)))) <|
            match !((((x0.getD x8.toNat [])).getD 0 .top).toB) with
            | true =>
              some (.ret false)
            | false =>
              tst (decide ((0 : Int) ≤ x8) && decide (x8 < ((x0.length : Int)))) <|
              match (((x0.getD x8.toNat [])).getD 1 .top).toB with
              | true =>
                some (.ret false)
              | false =>
                tst (decide ((0 : Int) ≤ x8) && decide (x8 < ((x0.length : Int)))) <|
                match (((x0.getD x8.toNat [])).getD 2 .top).toB with
                | true =>
                  some (.ret false)
                | false =>
                  match F18 N x1 x8 with
                  | none => none
                  | some (.r rx0v6) =>
                    match !rx0v6 with
                    | true =>
                      tst (decide ((0 : Int) ≤ x8) && decide (x8 < ((x0.length : Int)))) <|
                      match F18 N x5 ((((x0.getD x8.toNat [])).getD 5 .top).toI) with
                      | none => none
                      | some (.r rx0v7) =>
                        match !rx0v7 with
                        | true =>
                          some (.ret false)
                        | false =>
                          some .nx
                    | false =>
                      some .nx
        | false =>
          tst (decide ((0 : Int) ≤ x8) && decide (x8 < ((x0.length : Int)))) <|
          match !((((x0.getD x8.toNat [])).getD 0 .top).toB) with
          | true =>
            some (.ret false)
          | false =>
            tst (decide ((0 : Int) ≤ x8) && decide (x8 < ((x0.length : Int)))) <|
            match (((x0.getD x8.toNat [])).getD 1 .top).toB with
            | true =>
              some (.ret false)
            | false =>
              tst (decide ((0 : Int) ≤ x8) && decide (x8 < ((x0.length : Int)))) <|
              match (((x0.getD x8.toNat [])).getD 2 .top).toB with
              | true =>
                some (.ret false)
              | false =>
                match F18 N x1 x8 with
                | none => none
                | some (.r rx0v8) =>
                  match !rx0v8 with
                  | true =>
                    tst (decide ((0 : Int) ≤ x8) && decide (x8 < ((x0.length : Int)))) <|
                    match F18 N x5 ((((x0.getD x8.toNat [])).getD 5 .top).toI) with
                    | none => none
                    | some (.r rx0v9) =>
                      match !rx0v9 with
                      | true =>
                        some (.ret false)
                      | false =>
                        some .nx
                  | false =>
                    some .nx
def LFJ5a130354 (N : Nat) (s : St) : Option OJ5a130354 := J5a130354 N ((Eng.look s.env 0).rows) ((Eng.look s.env 1).rows) ((Eng.look s.env 5).rows) ((Eng.look s.env 7).toI) ((Eng.look s.env 8).toI)
def sgJ5a130354 : LSh := ⟨[(0, .one (.cell (.slice 30))), (1, .one (.cell (.slice 3))), (5, .one (.cell (.slice 3))), (7, .one (.cell (.int .i64))), (8, .one (.cell (.int .i64)))], []⟩
def ceJ5a130354 : List Cv := []
def seJ5a130354 : St → List Nat := fun _ => []
def xJ5a130354wnx : XSh OJ5a130354 := ⟨[], ⟨[], []⟩, fun _ => [], fun s => .nx ⟩
def xJ5a130354wret : XSh OJ5a130354 := ⟨[], ⟨[(4, .one (.cell (.bool)))], []⟩, fun _ => [], fun s => .ret ((Eng.look s.env 4).toB)⟩
def xsJ5a130354 : Ex → St → Option (XSh OJ5a130354) := fun e st => match e with
  | .normal => some xJ5a130354wnx
  | .ret => some xJ5a130354wret
  | _ => none
def exJ5a130354 (o : OJ5a130354) : Ex := match o with | .nx => .normal | .ret x4 => .ret
def stJ5a130354 (o : OJ5a130354) : St := match o with | .nx => ⟨[], [], [], .unk⟩ | .ret x4 => ⟨[(4, .bool x4)], [], [], .unk⟩
def elJ5a130354 {R : Type} (o : OJ5a130354) (k : Ex → St → Option R) : Option R := match o with | .nx => k .normal ⟨[], [], [], .unk⟩ | .ret x4 => k .ret ⟨[(4, .bool x4)], [], [], .unk⟩
theorem heJ5a130354 {R : Type} (o : OJ5a130354) (k : Ex → St → Option R) : elJ5a130354 o k = k (exJ5a130354 o) (stJ5a130354 o) := by cases o <;> rfl
theorem hxJ5a130354 : ∀ e st x, xsJ5a130354 e st = some x → outOk x e exJ5a130354 stJ5a130354 := by
  intro e st x h
  unfold xsJ5a130354 at h
  repeat' split at h
  all_goals first
    | (injection h with h; subst h; exact fun lk M => ⟨rfl, rfl⟩)
    | cases h
noncomputable def T5uc130354 (N : Nat) (R : Type) : LTab R := mkTab ⟨161, 5192296858534827619523297074479120⟩ (csF5 N R) (noY) [] [] []
theorem okT5uc130354 (N : Nat) (R : Type) : (T5uc130354 N R).Ok CX code5 := mkTab_ok (hcsF5 N R) (noY_ok) (trivial) (trivial) (trivial)
noncomputable def bdJ5a130354 : Code := (codeAt code5 [false, true, false, false, true, true, false, false, true, false, true, true, true, true, true, true]).getD .skip
theorem hsJ5a130354 (N : Nat) : ∀ (lk : Nat → AV) (M : List Blk), LFJ5a130354 N (canS sgJ5a130354 lk M) = evk CX (T5uc130354 N OJ5a130354) bdJ5a130354 130354 (canS sgJ5a130354 lk M) (kontX CX 0 xsJ5a130354) := by intro lk M; kernel_rfl
inductive OL5a1018 where
  | ret (x4 : Bool) (b0 : List Row)
  | x0 (b0 : List Row)
def L5a1018 (N : Nat) : Nat → List Row → List Row → List Row → List Row → Int → Int → List Row → Option OL5a1018
  | 0 => fun _ _ _ _ _ _ _ => none
  | n + 1 => fun x0 x1 x5 x46 x47 x48 b0 =>
    match decide (x48 < x47) with
    | true =>
      tst (decide ((0 : Int) ≤ x48) && decide (x48 < ((x46.length : Int)))) <|
      match J5a130354 N x0 x1 x5 x48 ((((x46.getD x48.toNat [])).getD 0 .top).toI) with
      | none => none
      | some (.nx) =>
        tst (decide ((0 : Int) ≤ ((((x46.getD x48.toNat [])).getD 0 .top).toI)) && decide ((((x46.getD x48.toNat [])).getD 0 .top).toI < ((b0.length : Int)))) <|
        tst (decide ((((((x46.getD x48.toNat [])).getD 0 .top).toI).toNat) < b0.length)) <|
        L5a1018 N n x0 x1 x5 x46 x47 (IntKind.wrap .i64 (x48 + (1 : Int))) (b0.set (((((x46.getD x48.toNat [])).getD 0 .top).toI).toNat) (Eng.setAt ((b0.getD (((((x46.getD x48.toNat [])).getD 0 .top).toI).toNat) [])) 2 [.bool true]))
      | some (.ret x4v11) =>
        some (.ret x4v11 b0)
    | false =>
      some (.x0 b0)
def LFL5a1018 (N : Nat) (n : Nat) (s : St) : Option OL5a1018 := L5a1018 N n ((Eng.look s.env 0).rows) ((Eng.look s.env 1).rows) ((Eng.look s.env 5).rows) ((Eng.look s.env 46).rows) ((Eng.look s.env 47).toI) ((Eng.look s.env 48).toI) ((s.mem.getD 0 .dead).rows)
def sgL5a1018 : LSh := ⟨[(0, .one (.cell (.slice 30))), (1, .one (.cell (.slice 3))), (5, .one (.cell (.slice 3))), (6, .one (.own 0)), (46, .one (.cell (.slice 3))), (47, .one (.cell (.int .i64))), (48, .one (.cell (.int .i64)))], [.row 30]⟩
def ceL5a1018 : List Cv := []
def seL5a1018 : St → List Nat := fun st => [(Eng.look st.env 6).id]
def xL5a1018wret : XSh OL5a1018 := ⟨[], ⟨[(4, .one (.cell (.bool)))], [.row 30]⟩, fun st => [0], fun s => .ret ((Eng.look s.env 4).toB) ((s.mem.getD 0 .dead).rows)⟩
def xL5a1018wx0 : XSh OL5a1018 := ⟨[], ⟨[], [.row 30]⟩, fun st => [0], fun s => .x0 ((s.mem.getD 0 .dead).rows)⟩
def xsL5a1018 : Ex → St → Option (XSh OL5a1018) := fun e st => match e with
  | .ret => some xL5a1018wret
  | .exit 0 => some xL5a1018wx0
  | _ => none
def exL5a1018 (o : OL5a1018) : Ex := match o with | .ret x4 b0 => .ret | .x0 b0 => (.exit 0)
def stL5a1018 (o : OL5a1018) : St := match o with | .ret x4 b0 => ⟨[(4, .bool x4)], [.row 30 b0], [], .unk⟩ | .x0 b0 => ⟨[], [.row 30 b0], [], .unk⟩
def elL5a1018 {R : Type} (o : OL5a1018) (k : Ex → St → Option R) : Option R := match o with | .ret x4 b0 => k .ret ⟨[(4, .bool x4)], [.row 30 b0], [], .unk⟩ | .x0 b0 => k (.exit 0) ⟨[], [.row 30 b0], [], .unk⟩
theorem heL5a1018 {R : Type} (o : OL5a1018) (k : Ex → St → Option R) : elL5a1018 o k = k (exL5a1018 o) (stL5a1018 o) := by cases o <;> rfl
theorem hxL5a1018 : ∀ e st x, xsL5a1018 e st = some x → outOk x e exL5a1018 stL5a1018 := by
  intro e st x h
  unfold xsL5a1018 at h
  repeat' split at h
  all_goals first
    | (injection h with h; subst h; exact fun lk M => ⟨rfl, rfl⟩)
    | cases h
noncomputable def T5ul1018 (N : Nat) (R : Type) : LTab R := mkTab ⟨161, 166153499473114484112694407558332816⟩ (csF5 N R) (noY) [] [] [(130354, fun st k => callLoop CX 0 5192296858534827619523297074479120 ceJ5a130354 sgJ5a130354 seJ5a130354 ⟨161, 166153499473114484112694407558332816⟩ (LFJ5a130354 N) elJ5a130354 st k)]
theorem okT5ul1018 (N : Nat) (R : Type) : (T5ul1018 N R).Ok CX code5 := mkTab_ok (hcsF5 N R) (noY_ok) (trivial) (trivial) (⟨cut_ok hX (path := [false, true, false, false, true, true, false, false, true, false, true, true, true, true, true, true]) (by kernel_rfl) (by rfl) (okT5uc130354 N OJ5a130354) (hsJ5a130354 N) hxJ5a130354 rfl heJ5a130354, trivial⟩)
noncomputable def bdL5a1018 : Code := match codeAt code5 [false, true, false, true, true, true, true, true, true] with | some (.loop c) => c | _ => .skip
theorem hsL5a1018 (N : Nat) : ∀ (n : Nat) (lk : Nat → AV) (M : List Blk), LFL5a1018 N (n + 1) (canS sgL5a1018 lk M) = evk CX (T5ul1018 N OL5a1018) bdL5a1018 (2 * 1018) (canS sgL5a1018 lk M) (kont CX 1 [] sgL5a1018 (fun st => [0]) xsL5a1018 (LFL5a1018 N n)) := by intro n lk M; kernel_rfl
inductive OJ5a254 where
  | nx (b0 : List Row)
  | ret (x4 : Bool) (b0 : List Row)
def J5a254 (N : Nat) : List Row → List Row → List Row → List Row → Option OJ5a254 := fun x0 x1 x5 b0 =>
    match L5a1018 N N x0 x1 x5 x5 ((x5.length : Int)) 0 b0 with
    | none => none
    | some (.ret x4v12 b0v12) =>
      some (.ret x4v12 b0v12)
    | some (.x0 b0v13) =>
      some (.nx b0v13)
def LFJ5a254 (N : Nat) (s : St) : Option OJ5a254 := J5a254 N ((Eng.look s.env 0).rows) ((Eng.look s.env 1).rows) ((Eng.look s.env 5).rows) ((s.mem.getD 0 .dead).rows)
def sgJ5a254 : LSh := ⟨[(0, .one (.cell (.slice 30))), (1, .one (.cell (.slice 3))), (5, .one (.cell (.slice 3))), (6, .one (.own 0))], [.row 30]⟩
def ceJ5a254 : List Cv := [.frz 5 (.slice 3)]
def seJ5a254 : St → List Nat := fun st => [(Eng.look st.env 6).id]
def xJ5a254wnx : XSh OJ5a254 := ⟨[], ⟨[], [.row 30]⟩, fun st => [0], fun s => .nx ((s.mem.getD 0 .dead).rows)⟩
def xJ5a254wret : XSh OJ5a254 := ⟨[], ⟨[(4, .one (.cell (.bool)))], [.row 30]⟩, fun st => [0], fun s => .ret ((Eng.look s.env 4).toB) ((s.mem.getD 0 .dead).rows)⟩
def xsJ5a254 : Ex → St → Option (XSh OJ5a254) := fun e st => match e with
  | .normal => some xJ5a254wnx
  | .ret => some xJ5a254wret
  | _ => none
def exJ5a254 (o : OJ5a254) : Ex := match o with | .nx b0 => .normal | .ret x4 b0 => .ret
def stJ5a254 (o : OJ5a254) : St := match o with | .nx b0 => ⟨[], [.row 30 b0], [], .unk⟩ | .ret x4 b0 => ⟨[(4, .bool x4)], [.row 30 b0], [], .unk⟩
def elJ5a254 {R : Type} (o : OJ5a254) (k : Ex → St → Option R) : Option R := match o with | .nx b0 => k .normal ⟨[], [.row 30 b0], [], .unk⟩ | .ret x4 b0 => k .ret ⟨[(4, .bool x4)], [.row 30 b0], [], .unk⟩
theorem heJ5a254 {R : Type} (o : OJ5a254) (k : Ex → St → Option R) : elJ5a254 o k = k (exJ5a254 o) (stJ5a254 o) := by cases o <;> rfl
theorem hxJ5a254 : ∀ e st x, xsJ5a254 e st = some x → outOk x e exJ5a254 stJ5a254 := by
  intro e st x h
  unfold xsJ5a254 at h
  repeat' split at h
  all_goals first
    | (injection h with h; subst h; exact fun lk M => ⟨rfl, rfl⟩)
    | cases h
noncomputable def T5uc254 (N : Nat) (R : Type) : LTab R := mkTab ⟨161, 166153499473114484112905513790865808⟩ (csF5 N R) (noY) [(1018, fun st k => callLoop CX 1 166153499473114484112694407558332816 ceL5a1018 sgL5a1018 seL5a1018 ⟨161, 166153499473114484112905513790865808⟩ (LFL5a1018 N N) elL5a1018 st k)] [] []
theorem okT5uc254 (N : Nat) (R : Type) : (T5uc254 N R).Ok CX code5 := mkTab_ok (hcsF5 N R) (noY_ok) (⟨loop_ok hX (path := [false, true, false, true, true, true, true, true, true]) (by kernel_rfl) (by rfl) (okT5ul1018 N OL5a1018) (fun _ _ => rfl) (hsL5a1018 N) hxL5a1018 rfl heL5a1018, trivial⟩) (trivial) (trivial)
noncomputable def bdJ5a254 : Code := (codeAt code5 [false, true, true, true, true, true, true]).getD .skip
theorem hsJ5a254 (N : Nat) : ∀ (lk : Nat → AV) (M : List Blk), LFJ5a254 N (canS sgJ5a254 lk M) = evk CX (T5uc254 N OJ5a254) bdJ5a254 254 (canS sgJ5a254 lk M) (kontX CX 1 xsJ5a254) := by intro lk M; kernel_rfl
inductive OL5a2042 where
  | ret (x4 : Bool)
  | x2
def L5a2042 (N : Nat) : Nat → List Row → List Row → Int → Int → Option OL5a2042
  | 0 => fun _ _ _ _ => none
  | n + 1 => fun x5 x117 x118 x119 =>
    match decide (x119 < x118) with
    | true =>
      tst (decide ((0 : Int) ≤ x119) && decide (x119 < ((x117.length : Int)))) <|
      match F18 N x5 ((((x117.getD x119.toNat [])).getD 5 .top).toI) with
      | none => none
      | some (.r rx0v15) =>
        match rx0v15 with
        | true =>
          match (((x117.getD x119.toNat [])).getD 0 .top).toB with
          | true =>
            match !((((x117.getD x119.toNat [])).getD 1 .top).toB) with
            | true =>
              match !((((x117.getD x119.toNat [])).getD 2 .top).toB) with
              | true =>
                match F18 N x5 x119 with
                | none => none
                | some (.r rx0v16) =>
                  match !rx0v16 with
                  | true =>
                    some (.ret false)
                  | false =>
                    L5a2042 N n x5 x117 x118 (IntKind.wrap .i64 (x119 + (1 : Int)))
              | false =>
                L5a2042 N n x5 x117 x118 (IntKind.wrap .i64 (x119 + (1 : Int)))
            | false =>
              L5a2042 N n x5 x117 x118 (IntKind.wrap .i64 (x119 + (1 : Int)))
          | false =>
            L5a2042 N n x5 x117 x118 (IntKind.wrap .i64 (x119 + (1 : Int)))
        | false =>
          L5a2042 N n x5 x117 x118 (IntKind.wrap .i64 (x119 + (1 : Int)))
    | false =>
      some .x2
def LFL5a2042 (N : Nat) (n : Nat) (s : St) : Option OL5a2042 := L5a2042 N n ((Eng.look s.env 5).rows) ((Eng.look s.env 117).rows) ((Eng.look s.env 118).toI) ((Eng.look s.env 119).toI)
def sgL5a2042 : LSh := ⟨[(5, .one (.cell (.slice 3))), (117, .one (.cell (.slice 30))), (118, .one (.cell (.int .i64))), (119, .one (.cell (.int .i64)))], []⟩
def ceL5a2042 : List Cv := []
def seL5a2042 : St → List Nat := fun _ => []
def xL5a2042wret : XSh OL5a2042 := ⟨[], ⟨[(4, .one (.cell (.bool)))], []⟩, fun _ => [], fun s => .ret ((Eng.look s.env 4).toB)⟩
def xL5a2042wx2 : XSh OL5a2042 := ⟨[], ⟨[], []⟩, fun _ => [], fun s => .x2 ⟩
def xsL5a2042 : Ex → St → Option (XSh OL5a2042) := fun e st => match e with
  | .ret => some xL5a2042wret
  | .exit 2 => some xL5a2042wx2
  | _ => none
def exL5a2042 (o : OL5a2042) : Ex := match o with | .ret x4 => .ret | .x2 => (.exit 2)
def stL5a2042 (o : OL5a2042) : St := match o with | .ret x4 => ⟨[(4, .bool x4)], [], [], .unk⟩ | .x2 => ⟨[], [], [], .unk⟩
def elL5a2042 {R : Type} (o : OL5a2042) (k : Ex → St → Option R) : Option R := match o with | .ret x4 => k .ret ⟨[(4, .bool x4)], [], [], .unk⟩ | .x2 => k (.exit 2) ⟨[], [], [], .unk⟩
theorem heL5a2042 {R : Type} (o : OL5a2042) (k : Ex → St → Option R) : elL5a2042 o k = k (exL5a2042 o) (stL5a2042 o) := by cases o <;> rfl
theorem hxL5a2042 : ∀ e st x, xsL5a2042 e st = some x → outOk x e exL5a2042 stL5a2042 := by
  intro e st x h
  unfold xsL5a2042 at h
  repeat' split at h
  all_goals first
    | (injection h with h; subst h; exact fun lk M => ⟨rfl, rfl⟩)
    | cases h
noncomputable def T5ul2042 (N : Nat) (R : Type) : LTab R := mkTab ⟨161, 713623845688365942636685048272844038051202576⟩ (csF5 N R) (noY) [] [] []
theorem okT5ul2042 (N : Nat) (R : Type) : (T5ul2042 N R).Ok CX code5 := mkTab_ok (hcsF5 N R) (noY_ok) (trivial) (trivial) (trivial)
noncomputable def bdL5a2042 : Code := match codeAt code5 [false, true, false, true, true, true, true, true, true, true] with | some (.loop c) => c | _ => .skip
theorem hsL5a2042 (N : Nat) : ∀ (n : Nat) (lk : Nat → AV) (M : List Blk), LFL5a2042 N (n + 1) (canS sgL5a2042 lk M) = evk CX (T5ul2042 N OL5a2042) bdL5a2042 (2 * 2042) (canS sgL5a2042 lk M) (kont CX 0 [] sgL5a2042 (fun _ => []) xsL5a2042 (LFL5a2042 N n)) := by intro n lk M; kernel_rfl
noncomputable def T5ur1 (N : Nat) (R : Type) : LTab R := mkTab ⟨161, 2923003274661805836407369665432566039311865085951⟩ (csF5 N R) (noY) [(2042, fun st k => callLoop CX 0 713623845688365942636685048272844038051202576 ceL5a2042 sgL5a2042 seL5a2042 ⟨161, 2923003274661805836407369665432566039311865085951⟩ (LFL5a2042 N N) elL5a2042 st k)] [] [(254, fun st k => callLoop CX 1 166153499473114484112905513790865808 ceJ5a254 sgJ5a254 seJ5a254 ⟨161, 2923003274661805836407369665432566039311865085951⟩ (LFJ5a254 N) elJ5a254 st k)]
theorem okT5ur1 (N : Nat) (R : Type) : (T5ur1 N R).Ok CX code5 := mkTab_ok (hcsF5 N R) (noY_ok) (⟨loop_ok hX (path := [false, true, false, true, true, true, true, true, true, true]) (by kernel_rfl) (by rfl) (okT5ul2042 N OL5a2042) (fun _ _ => rfl) (hsL5a2042 N) hxL5a2042 rfl heL5a2042, trivial⟩) (trivial) (⟨cut_ok hX (path := [false, true, true, true, true, true, true]) (by kernel_rfl) (by rfl) (okT5uc254 N OJ5a254) (hsJ5a254 N) hxJ5a254 rfl heJ5a254, trivial⟩)
def rsF5 : List ResultVar := [.tmp 4]
def F5 : Nat → TF5
  | 0 => fun _ _ => none
  | N + 1 => fun x0 x1 =>
    tst (decide ((0 : Int) ≤ (Eng.imin ((x0.length : Int)) 40)) && decide ((Eng.imin ((x0.length : Int)) 40) ≤ ((x0.length : Int))) && decide ((x0.length : Int) ≤ ((x0.length : Int)))) <|
    tst (decide ((0 : Int) ≤ (Eng.imin ((x1.length : Int)) 40)) && decide ((Eng.imin ((x1.length : Int)) 40) ≤ ((x1.length : Int))) && decide ((x1.length : Int) ≤ ((x1.length : Int)))) <|
    match F11 N (x0.take ((Eng.imin ((x0.length : Int)) 40).toNat)) (x1.take ((Eng.imin ((x1.length : Int)) 40).toNat)) with
    | none => none
    | some (.r rb0v1) =>
      tst (decide (((0 + (x1.take ((Eng.imin ((x1.length : Int)) 40).toNat)).length) * 8) ≤ 140737488355328)) <|
      tst (decide (((((([] : List Row)) ++ (x1.take ((Eng.imin ((x1.length : Int)) 40).toNat))).length + (x1.take ((Eng.imin ((x1.length : Int)) 40).toNat)).length) * 8) ≤ 140737488355328)) <|
      match F11 N (x0.take ((Eng.imin ((x0.length : Int)) 40).toNat)) (((([] : List Row)) ++ (x1.take ((Eng.imin ((x1.length : Int)) 40).toNat))) ++ (x1.take ((Eng.imin ((x1.length : Int)) 40).toNat))) with
      | none => none
      | some (.r rb0v2) =>
        match F8 N rb0v2 rb0v1 with
        | none => none
        | some (.r rx0v3) =>
          match !rx0v3 with
          | true =>
            some (.r false)
          | false =>
            match F19 N (x0.take ((Eng.imin ((x0.length : Int)) 40).toNat)) with
            | none => none
            | some (.r rx0v4) =>
              match !rx0v4 with
              | true =>
                match ((rb0v1.length : Int)) == (0 : Int) with
                | true =>
                  match F13 N  with
                  | none => none
                  | some (.r rx0v5) =>
                    some (.r rx0v5)
                | false =>
                  some (.r false)
              | false =>
                tst (decide (((0 + (x0.take ((Eng.imin ((x0.length : Int)) 40).toNat)).length) * 32) ≤ 140737488355328)) <|
                match J5a254 N (x0.take ((Eng.imin ((x0.length : Int)) 40).toNat)) (x1.take ((Eng.imin ((x1.length : Int)) 40).toNat)) rb0v1 ((([] : List Row)) ++ (x0.take ((Eng.imin ((x0.length : Int)) 40).toNat))) with
                | none => none
                | some (.nx b0v14) =>
                  match L5a2042 N N rb0v1 (x0.take ((Eng.imin ((x0.length : Int)) 40).toNat)) (((x0.take ((Eng.imin ((x0.length : Int)) 40).toNat)).length : Int)) 0 with
                  | none => none
                  | some (.ret x4v17) =>
                    some (.r x4v17)
                  | some (.x2) =>
                    match F16 N b0v14 with
                    | none => none
                    | some (.r rx0v19) =>
                      match rx0v19 with
                      | true =>
                        match F11 N b0v14 (x1.take ((Eng.imin ((x1.length : Int)) 40).toNat)) with
                        | none => none
                        | some (.r rb0v20) =>
                          match ((rb0v20.length : Int)) == (0 : Int) with
                          | true =>
                            match F13 N  with
                            | none => none
                            | some (.r rx0v21) =>
                              some (.r rx0v21)
                          | false =>
                            some (.r false)
                      | false =>
                        some (.r false)
                | some (.ret x4v22 b0v22) =>
                  some (.r x4v22)
def xRF5 : XSh R5 := ⟨[], ⟨[(0, .one (.cell (.bool)))], []⟩, fun _ => [], fun s => .r ((Eng.look s.env 0).toB)⟩
theorem fsF5 : ∀ (N : Nat) (lk : Nat → AV) (M : List Blk), FFF5 (F5 (N + 1)) (canS sgF5 lk M) = evfn CX (T5ur1 N R5) code5 rsF5 (argsE 2 (canS sgF5 lk M).env) (canS sgF5 lk M).mem (goR CX 0 (fun _ => some xRF5)) := by intro N lk M; kernel_rfl
theorem soundF5 : ∀ N, RecOkF5 (F5 N)
  | 0, lk, M, o, h => by cases h
  | N + 1, lk, M, o, h => fn_sound hX (okT5ur1 N R5) Try.func5 hb5 rfl en5 (by kernel_rfl) (ys := fun _ => some xRF5) (fun st y h => by injection h with h; subst h; exact fun lk M => ⟨rfl, rfl⟩) ((fsF5 N lk M).symm.trans h)
end Go.Proofs.Ytfggehkiglenjaa

namespace Go.Proofs.Ytfggehkiglenjaa
open Go Go.Eng
set_option maxRecDepth 100000

/-! ### F6: ceiling/ceilinglaw33.MasterForest -/
inductive R6 where
  | r (x0 : Bool)
abbrev TF6 := List Row → Option R6
def sgF6 : LSh := ⟨[(0, .one (.cell (.slice 30)))], []⟩
def FFF6 (Fx : TF6) (s : St) : Option R6 := Fx ((Eng.look s.env 0).rows)
def valF6 (o : R6) : AV := match o with | .r x0 => .bool x0
def memF6 (o : R6) : List Blk := match o with | .r x0 => []
def elF6 {R : Type} (o : R6) (k : AV → List Blk → Option R) : Option R := match o with | .r x0 => k (.bool x0) []
def RecOkF6 (Fx : TF6) : Prop := ∀ lk M o, FFF6 Fx (canS sgF6 lk M) = some o → FCalls CX 6 0 (argsE 1 (canS sgF6 lk M).env) (canS sgF6 lk M).mem (valF6 o) (memF6 o)
noncomputable def csF6 (N : Nat) (R : Type) : List (CE R) := [ce13n0 (F13 N) R (fun _ _ => true), ce14n0 (F14 N) R (fun _ _ => true), ce15n0 (F15 N) R (fun _ _ => true), ce16n0 (F16 N) R (fun _ _ => true), ce18n0 (F18 N) R (testV CX cvce18n0 sgF18 selce18n0), ce18n1 (F18 N) R (testV CX cvce18n1 sgF18 selce18n1), ce19n0 (F19 N) R (fun _ _ => true)]
theorem hcsF6 (N : Nat) (R : Type) : AllE (CeOk CX) (csF6 N R) := ⟨okce13n0 (F13 N) (soundF13 N) R (fun _ _ => true), okce14n0 (F14 N) (soundF14 N) R (fun _ _ => true), okce15n0 (F15 N) (soundF15 N) R (fun _ _ => true), okce16n0 (F16 N) (soundF16 N) R (fun _ _ => true), okce18n0 (F18 N) (soundF18 N) R (testV CX cvce18n0 sgF18 selce18n0), okce18n1 (F18 N) (soundF18 N) R (testV CX cvce18n1 sgF18 selce18n1), okce19n0 (F19 N) (soundF19 N) R (fun _ _ => true), trivial⟩
inductive OJ6a16043314 where
  | nx
  | ret (x2 : Bool)
def J6a16043314 (N : Nat) : List Row → Int → List Row → Int → Option OJ6a16043314 := fun x0 x3 x4 x6 =>
    match decide (x6 ≤ x3) with
    | true =>
      some (.ret false)
    | false =>
      match decide (((x0.length : Int)) ≤ x6) with
      | true =>
        some (.ret false)
      | false =>
        tst (decide ((0 : Int) ≤ x6) && decide (x6 < ((x0.length : Int)))) <|
        match ((((x0.getD x6.toNat [])).getD 5 .top).toI) != x3 with
        | true =>
          tst (decide ((0 : Int) ≤ x6) && decide (x6 < ((x0.length : Int)))) <|
          match F18 N x4 ((((x0.getD x6.toNat [])).getD 5 .top).toI) with
          | none => none
          | some (.r rx0v6) =>
            match !rx0v6 with
            | true =>
              some (.ret false)
            | false =>
              some .nx
        | false =>
          some .nx
def LFJ6a16043314 (N : Nat) (s : St) : Option OJ6a16043314 := J6a16043314 N ((Eng.look s.env 0).rows) ((Eng.look s.env 3).toI) ((Eng.look s.env 4).rows) ((Eng.look s.env 6).toI)
def sgJ6a16043314 : LSh := ⟨[(0, .one (.cell (.slice 30))), (3, .one (.cell (.int .i64))), (4, .one (.cell (.slice 3))), (6, .one (.cell (.int .i64)))], []⟩
def ceJ6a16043314 : List Cv := []
def seJ6a16043314 : St → List Nat := fun _ => []
def xJ6a16043314wnx : XSh OJ6a16043314 := ⟨[], ⟨[], []⟩, fun _ => [], fun s => .nx ⟩
def xJ6a16043314wret : XSh OJ6a16043314 := ⟨[], ⟨[(2, .one (.cell (.bool)))], []⟩, fun _ => [], fun s => .ret ((Eng.look s.env 2).toB)⟩
def xsJ6a16043314 : Ex → St → Option (XSh OJ6a16043314) := fun e st => match e with
  | .normal => some xJ6a16043314wnx
  | .ret => some xJ6a16043314wret
  | _ => none
def exJ6a16043314 (o : OJ6a16043314) : Ex := match o with | .nx => .normal | .ret x2 => .ret
def stJ6a16043314 (o : OJ6a16043314) : St := match o with | .nx => ⟨[], [], [], .unk⟩ | .ret x2 => ⟨[(2, .bool x2)], [], [], .unk⟩
def elJ6a16043314 {R : Type} (o : OJ6a16043314) (k : Ex → St → Option R) : Option R := match o with | .nx => k .normal ⟨[], [], [], .unk⟩ | .ret x2 => k .ret ⟨[(2, .bool x2)], [], [], .unk⟩
theorem heJ6a16043314 {R : Type} (o : OJ6a16043314) (k : Ex → St → Option R) : elJ6a16043314 o k = k (exJ6a16043314 o) (stJ6a16043314 o) := by cases o <;> rfl
theorem hxJ6a16043314 : ∀ e st x, xsJ6a16043314 e st = some x → outOk x e exJ6a16043314 stJ6a16043314 := by
  intro e st x h
  unfold xsJ6a16043314 at h
  repeat' split at h
  all_goals first
    | (injection h with h; subst h; exact fun lk M => ⟨rfl, rfl⟩)
    | cases h
noncomputable def T6uc16043314 (N : Nat) (R : Type) : LTab R := mkTab ⟨117, 9444732930554918338564⟩ (csF6 N R) (noY) [] [] []
theorem okT6uc16043314 (N : Nat) (R : Type) : (T6uc16043314 N R).Ok CX code6 := mkTab_ok (hcsF6 N R) (noY_ok) (trivial) (trivial) (trivial)
noncomputable def bdJ6a16043314 : Code := (codeAt code6 [false, true, false, false, true, true, false, false, true, false, true, true, false, false, true, true, false, false, true, false, true, true, true]).getD .skip
theorem hsJ6a16043314 (N : Nat) : ∀ (lk : Nat → AV) (M : List Blk), LFJ6a16043314 N (canS sgJ6a16043314 lk M) = evk CX (T6uc16043314 N OJ6a16043314) bdJ6a16043314 16043314 (canS sgJ6a16043314 lk M) (kontX CX 0 xsJ6a16043314) := by intro lk M; kernel_rfl
inductive OL6a64173262 where
  | ret (x2 : Bool) (b0 : List Row)
  | x4 (b0 : List Row)
def L6a64173262 (N : Nat) : Nat → List Row → Int → Int → List Row → Option OL6a64173262
  | 0 => fun _ _ _ _ => none
  | n + 1 => fun x4 x76 x77 b0 =>
    match decide (x77 < x76) with
    | true =>
      tst (decide ((0 : Int) ≤ x77) && decide (x77 < ((b0.length : Int)))) <|
      tst (decide (x77.toNat < b0.length)) <|
      match F18 N x4 ((((b0.getD x77.toNat [])).getD 0 .top).toI) with
      | none => none
      | some (.r rx0v9) =>
        match !rx0v9 with
        | true =>
          some (.ret false b0)
        | false =>
          L6a64173262 N n x4 x76 (IntKind.wrap .i64 (x77 + (1 : Int))) b0
    | false =>
      some (.x4 b0)
def LFL6a64173262 (N : Nat) (n : Nat) (s : St) : Option OL6a64173262 := L6a64173262 N n ((Eng.look s.env 4).rows) ((Eng.look s.env 76).toI) ((Eng.look s.env 77).toI) ((s.mem.getD 0 .dead).rows)
def sgL6a64173262 : LSh := ⟨[(4, .one (.cell (.slice 3))), (75, .one (.own 0)), (76, .one (.cell (.int .i64))), (77, .one (.cell (.int .i64)))], [.row 3]⟩
def ceL6a64173262 : List Cv := []
def seL6a64173262 : St → List Nat := fun st => [(Eng.look st.env 75).id]
def xL6a64173262wret : XSh OL6a64173262 := ⟨[], ⟨[(2, .one (.cell (.bool)))], [.row 3]⟩, fun st => [0], fun s => .ret ((Eng.look s.env 2).toB) ((s.mem.getD 0 .dead).rows)⟩
def xL6a64173262wx4 : XSh OL6a64173262 := ⟨[], ⟨[], [.row 3]⟩, fun st => [0], fun s => .x4 ((s.mem.getD 0 .dead).rows)⟩
def xsL6a64173262 : Ex → St → Option (XSh OL6a64173262) := fun e st => match e with
  | .ret => some xL6a64173262wret
  | .exit 4 => some xL6a64173262wx4
  | _ => none
def exL6a64173262 (o : OL6a64173262) : Ex := match o with | .ret x2 b0 => .ret | .x4 b0 => (.exit 4)
def stL6a64173262 (o : OL6a64173262) : St := match o with | .ret x2 b0 => ⟨[(2, .bool x2)], [.row 3 b0], [], .unk⟩ | .x4 b0 => ⟨[], [.row 3 b0], [], .unk⟩
def elL6a64173262 {R : Type} (o : OL6a64173262) (k : Ex → St → Option R) : Option R := match o with | .ret x2 b0 => k .ret ⟨[(2, .bool x2)], [.row 3 b0], [], .unk⟩ | .x4 b0 => k (.exit 4) ⟨[], [.row 3 b0], [], .unk⟩
theorem heL6a64173262 {R : Type} (o : OL6a64173262) (k : Ex → St → Option R) : elL6a64173262 o k = k (exL6a64173262 o) (stL6a64173262 o) := by cases o <;> rfl
theorem hxL6a64173262 : ∀ e st x, xsL6a64173262 e st = some x → outOk x e exL6a64173262 stL6a64173262 := by
  intro e st x h
  unfold xsL6a64173262 at h
  repeat' split at h
  all_goals first
    | (injection h with h; subst h; exact fun lk M => ⟨rfl, rfl⟩)
    | cases h
noncomputable def T6ul64173262 (N : Nat) (R : Type) : LTab R := mkTab ⟨117, 77220136727884438534357252⟩ (csF6 N R) (noY) [] [] []
theorem okT6ul64173262 (N : Nat) (R : Type) : (T6ul64173262 N R).Ok CX code6 := mkTab_ok (hcsF6 N R) (noY_ok) (trivial) (trivial) (trivial)
noncomputable def bdL6a64173262 : Code := match codeAt code6 [false, true, true, true, false, false, true, true, false, false, true, false, true, true, false, false, true, true, false, false, true, false, true, true, true] with | some (.loop c) => c | _ => .skip
theorem hsL6a64173262 (N : Nat) : ∀ (n : Nat) (lk : Nat → AV) (M : List Blk), LFL6a64173262 N (n + 1) (canS sgL6a64173262 lk M) = evk CX (T6ul64173262 N OL6a64173262) bdL6a64173262 (2 * 64173262) (canS sgL6a64173262 lk M) (kont CX 1 [] sgL6a64173262 (fun st => [0]) xsL6a64173262 (LFL6a64173262 N n)) := by intro n lk M; kernel_rfl
inductive OL6a125338 where
  | ret (x2 : Bool)
  | x2
def L6a125338 (N : Nat) : Nat → List Row → Int → List Row → List Row → Int → Int → Option OL6a125338
  | 0 => fun _ _ _ _ _ _ => none
  | n + 1 => fun x0 x3 x4 x39 x40 x41 =>
    match decide (x41 < x40) with
    | true =>
      tst (decide ((0 : Int) ≤ x41) && decide (x41 < ((x39.length : Int)))) <|
      match J6a16043314 N x0 x3 x4 ((((x39.getD x41.toNat [])).getD 0 .top).toI) with
      | none => none
      | some (.nx) =>
        match F15 N x0 ((((x39.getD x41.toNat [])).getD 0 .top).toI) with
        | none => none
        | some (.r rb0v8) =>
          match L6a64173262 N N x4 ((rb0v8.length : Int)) 0 rb0v8 with
          | none => none
          | some (.ret x2v10 b0v10) =>
            some (.ret x2v10)
          | some (.x4 b0v11) =>
            L6a125338 N n x0 x3 x4 x39 x40 (IntKind.wrap .i64 (x41 + (1 : Int)))
      | some (.ret x2v12) =>
        some (.ret x2v12)
    | false =>
      some .x2
def LFL6a125338 (N : Nat) (n : Nat) (s : St) : Option OL6a125338 := L6a125338 N n ((Eng.look s.env 0).rows) ((Eng.look s.env 3).toI) ((Eng.look s.env 4).rows) ((Eng.look s.env 39).rows) ((Eng.look s.env 40).toI) ((Eng.look s.env 41).toI)
def sgL6a125338 : LSh := ⟨[(0, .one (.cell (.slice 30))), (3, .one (.cell (.int .i64))), (4, .one (.cell (.slice 3))), (39, .one (.cell (.slice 3))), (40, .one (.cell (.int .i64))), (41, .one (.cell (.int .i64)))], []⟩
def ceL6a125338 : List Cv := [.frz 4 (.slice 3), .frz 39 (.slice 3)]
def seL6a125338 : St → List Nat := fun _ => []
def xL6a125338wret : XSh OL6a125338 := ⟨[], ⟨[(2, .one (.cell (.bool)))], []⟩, fun _ => [], fun s => .ret ((Eng.look s.env 2).toB)⟩
def xL6a125338wx2 : XSh OL6a125338 := ⟨[], ⟨[], []⟩, fun _ => [], fun s => .x2 ⟩
def xsL6a125338 : Ex → St → Option (XSh OL6a125338) := fun e st => match e with
  | .ret => some xL6a125338wret
  | .exit 2 => some xL6a125338wx2
  | _ => none
def exL6a125338 (o : OL6a125338) : Ex := match o with | .ret x2 => .ret | .x2 => (.exit 2)
def stL6a125338 (o : OL6a125338) : St := match o with | .ret x2 => ⟨[(2, .bool x2)], [], [], .unk⟩ | .x2 => ⟨[], [], [], .unk⟩
def elL6a125338 {R : Type} (o : OL6a125338) (k : Ex → St → Option R) : Option R := match o with | .ret x2 => k .ret ⟨[(2, .bool x2)], [], [], .unk⟩ | .x2 => k (.exit 2) ⟨[], [], [], .unk⟩
theorem heL6a125338 {R : Type} (o : OL6a125338) (k : Ex → St → Option R) : elL6a125338 o k = k (exL6a125338 o) (stL6a125338 o) := by cases o <;> rfl
theorem hxL6a125338 : ∀ e st x, xsL6a125338 e st = some x → outOk x e exL6a125338 stL6a125338 := by
  intro e st x h
  unfold xsL6a125338 at h
  repeat' split at h
  all_goals first
    | (injection h with h; subst h; exact fun lk M => ⟨rfl, rfl⟩)
    | cases h
noncomputable def T6ul125338 (N : Nat) (R : Type) : LTab R := mkTab ⟨117, 154742504910670335339135300⟩ (csF6 N R) (noY) [(64173262, fun st k => callLoop CX 1 77220136727884438534357252 ceL6a64173262 sgL6a64173262 seL6a64173262 ⟨117, 154742504910670335339135300⟩ (LFL6a64173262 N N) elL6a64173262 st k)] [] [(16043314, fun st k => callLoop CX 0 9444732930554918338564 ceJ6a16043314 sgJ6a16043314 seJ6a16043314 ⟨117, 154742504910670335339135300⟩ (LFJ6a16043314 N) elJ6a16043314 st k)]
theorem okT6ul125338 (N : Nat) (R : Type) : (T6ul125338 N R).Ok CX code6 := mkTab_ok (hcsF6 N R) (noY_ok) (⟨loop_ok hX (path := [false, true, true, true, false, false, true, true, false, false, true, false, true, true, false, false, true, true, false, false, true, false, true, true, true]) (by kernel_rfl) (by rfl) (okT6ul64173262 N OL6a64173262) (fun _ _ => rfl) (hsL6a64173262 N) hxL6a64173262 rfl heL6a64173262, trivial⟩) (trivial) (⟨cut_ok hX (path := [false, true, false, false, true, true, false, false, true, false, true, true, false, false, true, true, false, false, true, false, true, true, true]) (by kernel_rfl) (by rfl) (okT6uc16043314 N OJ6a16043314) (hsJ6a16043314 N) hxJ6a16043314 rfl heJ6a16043314, trivial⟩)
noncomputable def bdL6a125338 : Code := match codeAt code6 [false, true, false, true, true, false, false, true, true, false, false, true, false, true, true, true] with | some (.loop c) => c | _ => .skip
theorem hsL6a125338 (N : Nat) : ∀ (n : Nat) (lk : Nat → AV) (M : List Blk), LFL6a125338 N (n + 1) (canS sgL6a125338 lk M) = evk CX (T6ul125338 N OL6a125338) bdL6a125338 (2 * 125338) (canS sgL6a125338 lk M) (kont CX 0 [] sgL6a125338 (fun _ => []) xsL6a125338 (LFL6a125338 N n)) := by intro n lk M; kernel_rfl
inductive OJ6a31334 where
  | nx (b0 : List Row)
  | ret (x2 : Bool) (b0 : List Row)
def J6a31334 (N : Nat) : List Row → Int → List Row → Option OJ6a31334 := fun x0 x3 b0 =>
    match L6a125338 N N x0 x3 b0 b0 ((b0.length : Int)) 0 with
    | none => none
    | some (.ret x2v13) =>
      some (.ret x2v13 b0)
    | some (.x2) =>
      some (.nx b0)
def LFJ6a31334 (N : Nat) (s : St) : Option OJ6a31334 := J6a31334 N ((Eng.look s.env 0).rows) ((Eng.look s.env 3).toI) ((s.mem.getD 0 .dead).rows)
def sgJ6a31334 : LSh := ⟨[(0, .one (.cell (.slice 30))), (3, .one (.cell (.int .i64))), (4, .one (.own 0))], [.row 3]⟩
def ceJ6a31334 : List Cv := []
def seJ6a31334 : St → List Nat := fun st => [(Eng.look st.env 4).id]
def xJ6a31334wnx : XSh OJ6a31334 := ⟨[], ⟨[], [.fro 3]⟩, fun st => [0], fun s => .nx ((s.mem.getD 0 .dead).rows)⟩
def xJ6a31334wret : XSh OJ6a31334 := ⟨[], ⟨[(2, .one (.cell (.bool)))], [.fro 3]⟩, fun st => [0], fun s => .ret ((Eng.look s.env 2).toB) ((s.mem.getD 0 .dead).rows)⟩
def xsJ6a31334 : Ex → St → Option (XSh OJ6a31334) := fun e st => match e with
  | .normal => some xJ6a31334wnx
  | .ret => some xJ6a31334wret
  | _ => none
def exJ6a31334 (o : OJ6a31334) : Ex := match o with | .nx b0 => .normal | .ret x2 b0 => .ret
def stJ6a31334 (o : OJ6a31334) : St := match o with | .nx b0 => ⟨[], [.fro 3 b0], [], .unk⟩ | .ret x2 b0 => ⟨[(2, .bool x2)], [.fro 3 b0], [], .unk⟩
def elJ6a31334 {R : Type} (o : OJ6a31334) (k : Ex → St → Option R) : Option R := match o with | .nx b0 => k .normal ⟨[], [.fro 3 b0], [], .unk⟩ | .ret x2 b0 => k .ret ⟨[(2, .bool x2)], [.fro 3 b0], [], .unk⟩
theorem heJ6a31334 {R : Type} (o : OJ6a31334) (k : Ex → St → Option R) : elJ6a31334 o k = k (exJ6a31334 o) (stJ6a31334 o) := by cases o <;> rfl
theorem hxJ6a31334 : ∀ e st x, xsJ6a31334 e st = some x → outOk x e exJ6a31334 stJ6a31334 := by
  intro e st x h
  unfold xsJ6a31334 at h
  repeat' split at h
  all_goals first
    | (injection h with h; subst h; exact fun lk M => ⟨rfl, rfl⟩)
    | cases h
noncomputable def T6uc31334 (N : Nat) (R : Type) : LTab R := mkTab ⟨117, 154742504910671984606576964⟩ (csF6 N R) (noY) [(125338, fun st k => callLoop CX 0 154742504910670335339135300 ceL6a125338 sgL6a125338 seL6a125338 ⟨117, 154742504910671984606576964⟩ (LFL6a125338 N N) elL6a125338 st k)] [] []
theorem okT6uc31334 (N : Nat) (R : Type) : (T6uc31334 N R).Ok CX code6 := mkTab_ok (hcsF6 N R) (noY_ok) (⟨loop_ok hX (path := [false, true, false, true, true, false, false, true, true, false, false, true, false, true, true, true]) (by kernel_rfl) (by rfl) (okT6ul125338 N OL6a125338) (fun _ _ => rfl) (hsL6a125338 N) hxL6a125338 rfl heL6a125338, trivial⟩) (trivial) (trivial)
noncomputable def bdJ6a31334 : Code := (codeAt code6 [false, true, true, false, false, true, true, false, false, true, false, true, true, true]).getD .skip
theorem hsJ6a31334 (N : Nat) : ∀ (lk : Nat → AV) (M : List Blk), LFJ6a31334 N (canS sgJ6a31334 lk M) = evk CX (T6uc31334 N OJ6a31334) bdJ6a31334 31334 (canS sgJ6a31334 lk M) (kontX CX 1 xsJ6a31334) := by intro lk M; kernel_rfl
inductive OL6a125342 where
  | ret (x2 : Bool)
  | x6
def L6a125342 (N : Nat) : Nat → List Row → Int → List Row → List Row → Int → Int → Option OL6a125342
  | 0 => fun _ _ _ _ _ _ => none
  | n + 1 => fun x0 x3 x4 x87 x88 x89 =>
    match decide (x89 < x88) with
    | true =>
      tst (decide ((0 : Int) ≤ x89) && decide (x89 < ((x87.length : Int)))) <|
      match ((((x87.getD x89.toNat [])).getD 5 .top).toI) == x3 with
      | true =>
        match F18 N x4 x89 with
        | none => none
        | some (.r rx0v16) =>
          match !rx0v16 with
          | true =>
            some (.ret false)
          | false =>
            match F14 N x0 x3 ((((x87.getD x89.toNat [])).getD 6 .top).toI) with
            | none => none
            | some (.r rb0v17) =>
              match F18 N rb0v17 x89 with
              | none => none
              | some (.r rx0v18) =>
                match !rx0v18 with
                | true =>
                  some (.ret false)
                | false =>
                  L6a125342 N n x0 x3 x4 x87 x88 (IntKind.wrap .i64 (x89 + (1 : Int)))
      | false =>
        L6a125342 N n x0 x3 x4 x87 x88 (IntKind.wrap .i64 (x89 + (1 : Int)))
    | false =>
      some .x6
def LFL6a125342 (N : Nat) (n : Nat) (s : St) : Option OL6a125342 := L6a125342 N n ((Eng.look s.env 0).rows) ((Eng.look s.env 3).toI) ((Eng.look s.env 4).rows) ((Eng.look s.env 87).rows) ((Eng.look s.env 88).toI) ((Eng.look s.env 89).toI)
def sgL6a125342 : LSh := ⟨[(0, .one (.cell (.slice 30))), (3, .one (.cell (.int .i64))), (4, .one (.cell (.slice 3))), (87, .one (.cell (.slice 30))), (88, .one (.cell (.int .i64))), (89, .one (.cell (.int .i64)))], []⟩
def ceL6a125342 : List Cv := [.frz 4 (.slice 3)]
def seL6a125342 : St → List Nat := fun _ => []
def xL6a125342wret : XSh OL6a125342 := ⟨[], ⟨[(2, .one (.cell (.bool)))], []⟩, fun _ => [], fun s => .ret ((Eng.look s.env 2).toB)⟩
def xL6a125342wx6 : XSh OL6a125342 := ⟨[], ⟨[], []⟩, fun _ => [], fun s => .x6 ⟩
def xsL6a125342 : Ex → St → Option (XSh OL6a125342) := fun e st => match e with
  | .ret => some xL6a125342wret
  | .exit 6 => some xL6a125342wx6
  | _ => none
def exL6a125342 (o : OL6a125342) : Ex := match o with | .ret x2 => .ret | .x6 => (.exit 6)
def stL6a125342 (o : OL6a125342) : St := match o with | .ret x2 => ⟨[(2, .bool x2)], [], [], .unk⟩ | .x6 => ⟨[], [], [], .unk⟩
def elL6a125342 {R : Type} (o : OL6a125342) (k : Ex → St → Option R) : Option R := match o with | .ret x2 => k .ret ⟨[(2, .bool x2)], [], [], .unk⟩ | .x6 => k (.exit 6) ⟨[], [], [], .unk⟩
theorem heL6a125342 {R : Type} (o : OL6a125342) (k : Ex → St → Option R) : elL6a125342 o k = k (exL6a125342 o) (stL6a125342 o) := by cases o <;> rfl
theorem hxL6a125342 : ∀ e st x, xsL6a125342 e st = some x → outOk x e exL6a125342 stL6a125342 := by
  intro e st x h
  unfold xsL6a125342 at h
  repeat' split at h
  all_goals first
    | (injection h with h; subst h; exact fun lk M => ⟨rfl, rfl⟩)
    | cases h
noncomputable def T6ul125342 (N : Nat) (R : Type) : LTab R := mkTab ⟨117, 41538374249308601385553833184200196⟩ (csF6 N R) (noY) [] [] []
theorem okT6ul125342 (N : Nat) (R : Type) : (T6ul125342 N R).Ok CX code6 := mkTab_ok (hcsF6 N R) (noY_ok) (trivial) (trivial) (trivial)
noncomputable def bdL6a125342 : Code := match codeAt code6 [false, true, true, true, true, false, false, true, true, false, false, true, false, true, true, true] with | some (.loop c) => c | _ => .skip
theorem hsL6a125342 (N : Nat) : ∀ (n : Nat) (lk : Nat → AV) (M : List Blk), LFL6a125342 N (n + 1) (canS sgL6a125342 lk M) = evk CX (T6ul125342 N OL6a125342) bdL6a125342 (2 * 125342) (canS sgL6a125342 lk M) (kont CX 0 [] sgL6a125342 (fun _ => []) xsL6a125342 (LFL6a125342 N n)) := by intro n lk M; kernel_rfl
inductive OL6a122 where
  | ret (x2 : Bool)
  | x0
def L6a122 (N : Nat) : Nat → List Row → Int → Int → Option OL6a122
  | 0 => fun _ _ _ => none
  | n + 1 => fun x0 x32 x33 =>
    match decide (x33 < x32) with
    | true =>
      match F15 N x0 x33 with
      | none => none
      | some (.r rb0v5) =>
        match J6a31334 N x0 x33 rb0v5 with
        | none => none
        | some (.nx b0v15) =>
          match L6a125342 N N x0 x33 b0v15 x0 ((x0.length : Int)) 0 with
          | none => none
          | some (.ret x2v19) =>
            some (.ret x2v19)
          | some (.x6) =>
            L6a122 N n x0 x32 (IntKind.wrap .i64 (x33 + (1 : Int)))
        | some (.ret x2v21 b0v21) =>
          some (.ret x2v21)
    | false =>
      some .x0
def LFL6a122 (N : Nat) (n : Nat) (s : St) : Option OL6a122 := L6a122 N n ((Eng.look s.env 0).rows) ((Eng.look s.env 32).toI) ((Eng.look s.env 33).toI)
def sgL6a122 : LSh := ⟨[(0, .one (.cell (.slice 30))), (32, .one (.cell (.int .i64))), (33, .one (.cell (.int .i64)))], []⟩
def ceL6a122 : List Cv := []
def seL6a122 : St → List Nat := fun _ => []
def xL6a122wret : XSh OL6a122 := ⟨[], ⟨[(2, .one (.cell (.bool)))], []⟩, fun _ => [], fun s => .ret ((Eng.look s.env 2).toB)⟩
def xL6a122wx0 : XSh OL6a122 := ⟨[], ⟨[], []⟩, fun _ => [], fun s => .x0 ⟩
def xsL6a122 : Ex → St → Option (XSh OL6a122) := fun e st => match e with
  | .ret => some xL6a122wret
  | .exit 0 => some xL6a122wx0
  | _ => none
def exL6a122 (o : OL6a122) : Ex := match o with | .ret x2 => .ret | .x0 => (.exit 0)
def stL6a122 (o : OL6a122) : St := match o with | .ret x2 => ⟨[(2, .bool x2)], [], [], .unk⟩ | .x0 => ⟨[], [], [], .unk⟩
def elL6a122 {R : Type} (o : OL6a122) (k : Ex → St → Option R) : Option R := match o with | .ret x2 => k .ret ⟨[(2, .bool x2)], [], [], .unk⟩ | .x0 => k (.exit 0) ⟨[], [], [], .unk⟩
theorem heL6a122 {R : Type} (o : OL6a122) (k : Ex → St → Option R) : elL6a122 o k = k (exL6a122 o) (stL6a122 o) := by cases o <;> rfl
theorem hxL6a122 : ∀ e st x, xsL6a122 e st = some x → outOk x e exL6a122 stL6a122 := by
  intro e st x h
  unfold xsL6a122 at h
  repeat' split at h
  all_goals first
    | (injection h with h; subst h; exact fun lk M => ⟨rfl, rfl⟩)
    | cases h
noncomputable def T6ul122 (N : Nat) (R : Type) : LTab R := mkTab ⟨117, 83076749736557242056487932677588828⟩ (csF6 N R) (noY) [(125342, fun st k => callLoop CX 0 41538374249308601385553833184200196 ceL6a125342 sgL6a125342 seL6a125342 ⟨117, 83076749736557242056487932677588828⟩ (LFL6a125342 N N) elL6a125342 st k)] [] [(31334, fun st k => callLoop CX 1 154742504910671984606576964 ceJ6a31334 sgJ6a31334 seJ6a31334 ⟨117, 83076749736557242056487932677588828⟩ (LFJ6a31334 N) elJ6a31334 st k)]
theorem okT6ul122 (N : Nat) (R : Type) : (T6ul122 N R).Ok CX code6 := mkTab_ok (hcsF6 N R) (noY_ok) (⟨loop_ok hX (path := [false, true, true, true, true, false, false, true, true, false, false, true, false, true, true, true]) (by kernel_rfl) (by rfl) (okT6ul125342 N OL6a125342) (fun _ _ => rfl) (hsL6a125342 N) hxL6a125342 rfl heL6a125342, trivial⟩) (trivial) (⟨cut_ok hX (path := [false, true, true, false, false, true, true, false, false, true, false, true, true, true]) (by kernel_rfl) (by rfl) (okT6uc31334 N OJ6a31334) (hsJ6a31334 N) hxJ6a31334 rfl heJ6a31334, trivial⟩)
noncomputable def bdL6a122 : Code := match codeAt code6 [false, true, false, true, true, true] with | some (.loop c) => c | _ => .skip
theorem hsL6a122 (N : Nat) : ∀ (n : Nat) (lk : Nat → AV) (M : List Blk), LFL6a122 N (n + 1) (canS sgL6a122 lk M) = evk CX (T6ul122 N OL6a122) bdL6a122 (2 * 122) (canS sgL6a122 lk M) (kont CX 0 [] sgL6a122 (fun _ => []) xsL6a122 (LFL6a122 N n)) := by intro n lk M; kernel_rfl
noncomputable def T6ur1 (N : Nat) (R : Type) : LTab R := mkTab ⟨117, 166153499473114484112975882535043071⟩ (csF6 N R) (noY) [(122, fun st k => callLoop CX 0 83076749736557242056487932677588828 ceL6a122 sgL6a122 seL6a122 ⟨117, 166153499473114484112975882535043071⟩ (LFL6a122 N N) elL6a122 st k)] [] []
theorem okT6ur1 (N : Nat) (R : Type) : (T6ur1 N R).Ok CX code6 := mkTab_ok (hcsF6 N R) (noY_ok) (⟨loop_ok hX (path := [false, true, false, true, true, true]) (by kernel_rfl) (by rfl) (okT6ul122 N OL6a122) (fun _ _ => rfl) (hsL6a122 N) hxL6a122 rfl heL6a122, trivial⟩) (trivial) (trivial)
def rsF6 : List ResultVar := [.tmp 2]
def F6 : Nat → TF6
  | 0 => fun _ => none
  | N + 1 => fun x0 =>
    tst (decide ((0 : Int) ≤ (Eng.imin ((x0.length : Int)) 32)) && decide ((Eng.imin ((x0.length : Int)) 32) ≤ ((x0.length : Int))) && decide ((x0.length : Int) ≤ ((x0.length : Int)))) <|
    match F19 N (x0.take ((Eng.imin ((x0.length : Int)) 32).toNat)) with
    | none => none
    | some (.r rx0v1) =>
      match !rx0v1 with
      | true =>
        match F16 N (x0.take ((Eng.imin ((x0.length : Int)) 32).toNat)) with
        | none => none
        | some (.r rx0v2) =>
          match !rx0v2 with
          | true =>
            match F15 N (x0.take ((Eng.imin ((x0.length : Int)) 32).toNat)) 0 with
            | none => none
            | some (.r rb0v3) =>
              match ((rb0v3.length : Int)) == (0 : Int) with
              | true =>
                match F13 N  with
                | none => none
                | some (.r rx0v4) =>
                  some (.r rx0v4)
              | false =>
                some (.r false)
          | false =>
            some (.r false)
      | false =>
        match L6a122 N N (x0.take ((Eng.imin ((x0.length : Int)) 32).toNat)) (((x0.take ((Eng.imin ((x0.length : Int)) 32).toNat)).length : Int)) 0 with
        | none => none
        | some (.ret x2v22) =>
          some (.r x2v22)
        | some (.x0) =>
          match F13 N  with
          | none => none
          | some (.r rx0v24) =>
            some (.r rx0v24)
def xRF6 : XSh R6 := ⟨[], ⟨[(0, .one (.cell (.bool)))], []⟩, fun _ => [], fun s => .r ((Eng.look s.env 0).toB)⟩
theorem fsF6 : ∀ (N : Nat) (lk : Nat → AV) (M : List Blk), FFF6 (F6 (N + 1)) (canS sgF6 lk M) = evfn CX (T6ur1 N R6) code6 rsF6 (argsE 1 (canS sgF6 lk M).env) (canS sgF6 lk M).mem (goR CX 0 (fun _ => some xRF6)) := by intro N lk M; kernel_rfl
theorem soundF6 : ∀ N, RecOkF6 (F6 N)
  | 0, lk, M, o, h => by cases h
  | N + 1, lk, M, o, h => fn_sound hX (okT6ur1 N R6) Try.func6 hb6 rfl en6 (by kernel_rfl) (ys := fun _ => some xRF6) (fun st y h => by injection h with h; subst h; exact fun lk M => ⟨rfl, rfl⟩) ((fsF6 N lk M).symm.trans h)
end Go.Proofs.Ytfggehkiglenjaa

namespace Go.Proofs.Ytfggehkiglenjaa
open Go Go.Eng

/-- Cell c of row i, as a truth value, as a number. -/
def cB (l : List Row) (i : Int) (c : Nat) : Bool := ((l.getD i.toNat []).getD c .top).toB
def cI (l : List Row) (i : Int) (c : Nat) : Int := ((l.getD i.toNat []).getD c .top).toI

theorem wrap_id {n : Int} (h0 : -9223372036854775808 ≤ n) (h1 : n ≤ 9223372036854775807) : IntKind.wrap .i64 n = n := by
  simp [IntKind.wrap, IntKind.bits, IntKind.signed]
  split <;> omega

def badA (i o s : Int) : Bool := (i == 0) && (o != -1 || s != -1)
def badB (i o s : Int) : Bool := decide (0 < i) && (decide (o < 0) || (decide (i ≤ o) || decide (s < 0)))
def badC (b0 b1 b2 b3 b4 : Bool) (a : Int) : Bool := !b0 && (b1 || b2) || (!(b0 && !b1) && (b3 || (b4 || a != -1)) || (decide (a < -1) || b3 && a != -1))
def lv (l : List Row) (i : Int) : Bool := cB l i 0 && !cB l i 1
/-- Row i is right. -/
def okAt (l : List Row) (i : Int) : Bool :=
  !badA i (cI l i 5) (cI l i 6) && (!badB i (cI l i 5) (cI l i 6) && (!badC (cB l i 0) (cB l i 1) (cB l i 2) (cB l i 3) (cB l i 4) (cI l i 7) && !(decide (0 < i) && (lv l i && !lv l (cI l i 5)))))

theorem J16a (N : Nat) (b0 b1 b2 b3 b4 : Bool) (o s a : Int) : J16a7474 N b0 b1 b2 b3 b4 o s a = some (.nx (b0 && !b1) b0 b1 b2 b3 b4 o s a) := by cases b0 <;> rfl
theorem J16b (N : Nat) (i : Int) (b0 b1 b2 b3 b4 : Bool) (o s a : Int) : J16a29900 N i b0 b1 b2 b3 b4 o s a = some (.nx (badA i o s) b0 b1 b2 b3 b4 o s a) := by
  unfold J16a29900 badA
  cases (i == 0) <;> cases (o != -1) <;> rfl
theorem J16c (N : Nat) (i : Int) (b0 b1 b2 b3 b4 : Bool) (o s a : Int) : J16a119606 N i b0 b1 b2 b3 b4 o s a = some (.nx (badB i o s) b0 b1 b2 b3 b4 o s a) := by
  unfold J16a119606 badB
  cases decide (0 < i) <;> cases decide (o < 0) <;> cases decide (i ≤ o) <;> rfl
theorem J16e (N : Nat) (b0 b1 b2 b3 b4 : Bool) (o s a : Int) : J16a956860 N b0 b1 b2 b3 b4 o s a = some (.nx (!b0 && (b1 || b2)) b0 b1 b2 b3 b4 o s a) := by cases b0 <;> cases b1 <;> rfl
theorem J16f (N : Nat) (x b0 b1 b2 b3 b4 : Bool) (o s a : Int) : J16a3827446 N x b0 b1 b2 b3 b4 o s a = some (.nx (!x && (b3 || (b4 || a != -1))) b0 b1 b2 b3 b4 o s a) := by cases x <;> cases b3 <;> cases b4 <;> rfl
theorem J16d (N : Nat) (b0 b1 b2 b3 b4 : Bool) (o s a : Int) : J16a478430 N (b0 && !b1) b0 b1 b2 b3 b4 o s a = some (.nx (badC b0 b1 b2 b3 b4 a) b0 b1 b2 b3 b4 o s a) := by
  unfold J16a478430 badC
  simp only [J16e, J16f]
  cases (!b0 && (b1 || b2)) with
  | true => rfl
  | false =>
    cases (!(b0 && !b1) && (b3 || (b4 || a != -1))) with
    | true => rfl
    | false => cases decide (a < -1) <;> cases b3 <;> rfl

theorem L16_step (N n : Nat) (l : List Row) (i : Int) (h0 : 0 ≤ i) (h1 : i < l.length) : L16a58 N (n + 1) l l l.length i = match okAt l i with | true => L16a58 N n l l l.length (IntKind.wrap .i64 (i + 1)) | false => some (.ret false) := by
  have e0 : decide (i < (l.length : Int)) = true := by simpa using h1
  have e1 : decide (0 ≤ i) = true := by simpa using h0
  show (match decide (i < (l.length : Int)) with | true => _ | false => _) = _
  simp only [e0, e1, J16a, J16b, J16c, J16d, Bool.and_self, tst]
  unfold okAt
  simp only [← cB.eq_1, ← cI.eq_1, ← lv.eq_1]
  cases hA : badA i (cI l i 5) (cI l i 6) with
  | true => rfl
  | false =>
    cases hB : badB i (cI l i 5) (cI l i 6) with
    | true => rfl
    | false =>
      cases hC : badC (cB l i 0) (cB l i 1) (cB l i 2) (cB l i 3) (cB l i 4) (cI l i 7) with
      | true => rfl
      | false =>
        cases hd : decide (0 < i) with
        | false => rfl
        | true =>
          cases hl : lv l i with
          | false => rfl
          | true =>
            unfold badB at hB
            rw [hd] at hB
            have hi : 0 < i := by simpa using hd
            simp only [Bool.true_and, Bool.or_eq_false_iff, decide_eq_false_iff_not] at hB
            have e2 : decide (0 ≤ cI l i 5) = true := by simp; omega
            have e3 : decide (cI l i 5 < (l.length : Int)) = true := by simp; omega
            simp only [e2, e3, Bool.and_self, lv]
            cases cB l (cI l i 5) 0 with
            | false => rfl
            | true => cases cB l (cI l i 5) 1 <;> rfl

def okFrom (l : List Row) (i : Nat) : Nat → Bool
  | 0 => true
  | k + 1 => okAt l i && okFrom l (i + 1) k
/-- The rows are those of tasks with their masters. -/
def may (l : List Row) : Bool := decide (l.length ≤ 32) && okFrom l 0 l.length

theorem wrap_succ {i : Nat} (h : i ≤ 1000000) : IntKind.wrap .i64 ((i : Int) + 1) = ((i + 1 : Nat) : Int) := by
  rw [wrap_id (by omega) (by omega)]; omega

theorem L16_all (N : Nat) (l : List Row) (hl : l.length ≤ 1000) : ∀ (k n i : Nat), i + k = l.length → k < n → L16a58 N n l l l.length i = match okFrom l i k with | true => some .x0 | false => some (.ret false)
  | 0, n + 1, i, h, _ => by
    have e : decide ((i : Int) < (l.length : Int)) = false := by simp; omega
    show (match decide ((i : Int) < (l.length : Int)) with | true => _ | false => _) = _
    rw [e]; rfl
  | k + 1, n + 1, i, h, hn => by
    rw [L16_step N n l i (by omega) (by omega)]
    cases ho : okAt l i with
    | false => simp only [okFrom, ho, Bool.false_and]
    | true =>
      simp only [okFrom, ho, Bool.true_and]
      rw [wrap_succ (by omega)]
      exact L16_all N l hl k n (i + 1) (by omega) (by omega)
  | _, 0, _, _, h => by omega

theorem F16_eq {N : Nat} (hN : 40 ≤ N) (l : List Row) : F16 N l = some (.r (may l)) := by
  obtain ⟨M, rfl⟩ : ∃ M, N = M + 1 := ⟨N - 1, by omega⟩
  show (match decide ((32 : Int) < (l.length : Int)) with | true => _ | false => _) = _
  unfold may
  by_cases h : l.length ≤ 32
  · have e : decide ((32 : Int) < (l.length : Int)) = false := by simp; omega
    rw [e]
    simp only
    have := L16_all M l (by omega) l.length M 0 (by omega) (by omega)
    rw [show (0 : Int) = ((0 : Nat) : Int) from rfl, this]
    simp only [h, decide_true, Bool.true_and]
    cases okFrom l 0 l.length <;> rfl
  · have e : decide ((32 : Int) < (l.length : Int)) = true := by simp; omega
    rw [e]
    simp [h]

theorem F30_eq (N : Nat) (b0 b1 b2 b3 b4 : Bool) (o s a : Int) : F30 (N + 1) b0 b1 b2 b3 b4 o s a = some (.r (b0 && !b1)) := by cases b0 <;> rfl
theorem J19a_eq (N : Nat) (i : Int) (b0 b1 b2 b3 b4 : Bool) (o s a : Int) : J19a3730 N i b0 b1 b2 b3 b4 o s a = match badA i o s || badB i o s with | true => some (.ret false b0 b1 b2 b3 b4 o s a) | false => some (.nx b0 b1 b2 b3 b4 o s a) := by
  unfold J19a3730 badA badB
  cases (i == 0) <;> cases (o != -1) <;> cases (s != -1) <;> cases decide (0 < i) <;> cases decide (o < 0) <;> cases decide (i ≤ o) <;> cases decide (s < 0) <;> rfl
theorem J19b_eq (N : Nat) (b0 b1 b2 b3 b4 : Bool) (o s a : Int) : J19a7462 (N + 1) b0 b1 b2 b3 b4 o s a = match badC b0 b1 b2 b3 b4 a with | true => some (.ret false b0 b1 b2 b3 b4 o s a) | false => some (.nx b0 b1 b2 b3 b4 o s a) := by
  unfold J19a7462 badC
  simp only [F30_eq]
  cases b0 <;> cases b1 <;> cases b2 <;> cases b3 <;> cases b4 <;> cases (a != -1) <;> cases decide (a < -1) <;> rfl

theorem L19_step (N n : Nat) (l : List Row) (i : Int) (h0 : 0 ≤ i) (h1 : i < l.length) : L19a58 (N + 1) (n + 1) l i = match okAt l i with | true => L19a58 (N + 1) n l (IntKind.wrap .i64 (i + 1)) | false => some (.ret false) := by
  have e0 : decide (i < (l.length : Int)) = true := by simpa using h1
  have e1 : decide (0 ≤ i) = true := by simpa using h0
  show (match decide (i < (l.length : Int)) with | true => _ | false => _) = _
  simp only [e0, e1, J19a_eq, Bool.and_self, tst]
  unfold okAt
  simp only [← cB.eq_1, ← cI.eq_1, ← lv.eq_1]
  cases hA : badA i (cI l i 5) (cI l i 6) with
  | true => rfl
  | false =>
    cases hB : badB i (cI l i 5) (cI l i 6) with
    | true => rfl
    | false =>
      simp only [Bool.or_self, J19b_eq]
      cases hC : badC (cB l i 0) (cB l i 1) (cB l i 2) (cB l i 3) (cB l i 4) (cI l i 7) with
      | true => rfl
      | false =>
        cases hd : decide (0 < i) with
        | false => rfl
        | true =>
          simp only [F30_eq, ← lv.eq_1]
          cases hl : lv l i with
          | false => rfl
          | true =>
            unfold badB at hB
            rw [hd] at hB
            have hi : 0 < i := by simpa using hd
            simp only [Bool.true_and, Bool.or_eq_false_iff, decide_eq_false_iff_not] at hB
            have e2 : decide (0 ≤ cI l i 5) = true := by simp; omega
            have e3 : decide (cI l i 5 < (l.length : Int)) = true := by simp; omega
            simp only [e2, e3, Bool.and_self]
            cases lv l (cI l i 5) <;> rfl

theorem L19_all (N : Nat) (l : List Row) (hl : l.length ≤ 1000) : ∀ (k n i : Nat), i + k = l.length → k < n → L19a58 (N + 1) n l i = match okFrom l i k with | true => some .x0 | false => some (.ret false)
  | 0, n + 1, i, h, _ => by
    have e : decide ((i : Int) < (l.length : Int)) = false := by simp; omega
    show (match decide ((i : Int) < (l.length : Int)) with | true => _ | false => _) = _
    rw [e]; rfl
  | k + 1, n + 1, i, h, hn => by
    rw [L19_step N n l i (by omega) (by omega)]
    cases ho : okAt l i with
    | false => simp only [okFrom, ho, Bool.false_and]
    | true =>
      simp only [okFrom, ho, Bool.true_and]
      rw [wrap_succ (by omega)]
      exact L19_all N l hl k n (i + 1) (by omega) (by omega)
  | _, 0, _, _, h => by omega

theorem F19_eq {N : Nat} (hN : 40 ≤ N) (l : List Row) : F19 N l = some (.r (may l)) := by
  obtain ⟨M, rfl⟩ : ∃ M, N = M + 2 := ⟨N - 2, by omega⟩
  show (match decide ((32 : Int) < (l.length : Int)) with | true => _ | false => _) = _
  unfold may
  by_cases h : l.length ≤ 32
  · have e : decide ((32 : Int) < (l.length : Int)) = false := by simp; omega
    rw [e]
    simp only
    have := L19_all M l (by omega) l.length (M + 1) 0 (by omega) (by omega)
    rw [show (0 : Int) = ((0 : Nat) : Int) from rfl, this]
    simp only [h, decide_true, Bool.true_and]
    cases okFrom l 0 l.length <;> rfl
  · have e : decide ((32 : Int) < (l.length : Int)) = true := by simp; omega
    rw [e]
    simp [h]

/-- What holds of right rows. -/
theorem okFrom_get {l : List Row} : ∀ {k i : Nat}, okFrom l i k = true → ∀ j, i ≤ j → j < i + k → okAt l j = true
  | 0, i, _, j, h1, h2 => by omega
  | k + 1, i, h, j, h1, h2 => by
    simp only [okFrom, Bool.and_eq_true] at h
    by_cases e : j = i
    · subst e; exact h.1
    · exact okFrom_get h.2 j (by omega) (by omega)
theorem may_ok {l : List Row} (h : may l = true) : l.length ≤ 32 ∧ ∀ j : Nat, j < l.length → okAt l j = true := by
  simp only [may, Bool.and_eq_true, decide_eq_true_eq] at h
  exact ⟨h.1, fun j hj => okFrom_get h.2 j (by omega) (by omega)⟩
theorem may_own {l : List Row} (h : may l = true) {j : Nat} (hj : j < l.length) : (j = 0 → cI l j 5 = -1 ∧ cI l j 6 = -1) ∧ (0 < j → 0 ≤ cI l j 5 ∧ cI l j 5 < j ∧ 0 ≤ cI l j 6) := by
  have := (may_ok h).2 j hj
  simp only [okAt, badA, badB, Bool.and_eq_true, Bool.not_eq_true'] at this
  refine ⟨fun e => ?_, fun e => ?_⟩
  · subst e; have h1 := this.1; simp at h1; exact h1
  · have h2 := this.2.1; simp at h2; omega

end Go.Proofs.Ytfggehkiglenjaa

namespace Go.Proofs.Ytfggehkiglenjaa
open Go Go.Eng

/-! ### Lists of numbers, arrays of truth values -/
def rowsN (xs : List Nat) : List Row := xs.map fun (i : Nat) => [AV.int .i64 (i : Int)]
theorem rowsN_length (xs : List Nat) : (rowsN xs).length = xs.length := by simp [rowsN]
theorem rowsN_append (xs : List Nat) (i : Nat) : rowsN xs ++ [[AV.int .i64 (i : Int)]] = rowsN (xs ++ [i]) := by simp [rowsN]
theorem rowsN_get {xs : List Nat} {i : Nat} (h : i < xs.length) : (((rowsN xs).getD i []).getD 0 .top).toI = (xs[i] : Int) := by
  simp [rowsN, List.getD, List.getElem?_map, List.getElem?_eq_getElem h, AV.toI]

def flt (m : Nat → Bool) : Nat → Nat → List Nat
  | _, 0 => []
  | i, k + 1 => match m i with | true => i :: flt m (i + 1) k | false => flt m (i + 1) k
theorem mem_flt {m : Nat → Bool} : ∀ {k i j : Nat}, j ∈ flt m i k ↔ i ≤ j ∧ j < i + k ∧ m j = true
  | 0, i, j => by simp [flt]; omega
  | k + 1, i, j => by
    simp only [flt]
    cases h : m i with
    | true =>
      simp only [List.mem_cons, mem_flt]
      constructor
      · rintro (rfl | ⟨h1, h2, h3⟩)
        · exact ⟨Nat.le_refl _, by omega, h⟩
        · exact ⟨by omega, by omega, h3⟩
      · rintro ⟨h1, h2, h3⟩
        by_cases e : j = i
        · exact .inl e
        · exact .inr ⟨by omega, by omega, h3⟩
    | false =>
      simp only [mem_flt]
      constructor
      · rintro ⟨h1, h2, h3⟩; exact ⟨by omega, by omega, h3⟩
      · rintro ⟨h1, h2, h3⟩
        refine ⟨?_, by omega, h3⟩
        by_cases e : j = i
        · subst e; rw [h] at h3; cases h3
        · omega
theorem flt_length (m : Nat → Bool) : ∀ (k i : Nat), (flt m i k).length ≤ k
  | 0, _ => by simp [flt]
  | k + 1, i => by
    simp only [flt]
    have := flt_length m k (i + 1)
    cases m i <;> simp <;> omega
theorem flt_congr {m m' : Nat → Bool} : ∀ {k i : Nat}, (∀ j, i ≤ j → j < i + k → m j = m' j) → flt m i k = flt m' i k
  | 0, _, _ => rfl
  | k + 1, i, h => by
    simp only [flt]
    rw [h i (Nat.le_refl _) (by omega), flt_congr (k := k) (i := i + 1) fun j h1 h2 => h j (by omega) (by omega)]

def arr (m : Nat → Bool) : List AV := [.bool (m 0), .bool (m 1), .bool (m 2), .bool (m 3), .bool (m 4), .bool (m 5), .bool (m 6), .bool (m 7), .bool (m 8), .bool (m 9), .bool (m 10), .bool (m 11), .bool (m 12), .bool (m 13), .bool (m 14), .bool (m 15), .bool (m 16), .bool (m 17), .bool (m 18), .bool (m 19), .bool (m 20), .bool (m 21), .bool (m 22), .bool (m 23), .bool (m 24), .bool (m 25), .bool (m 26), .bool (m 27), .bool (m 28), .bool (m 29), .bool (m 30), .bool (m 31)]
theorem arr_eq (m : Nat → Bool) : arr m = (List.range 32).map fun i => AV.bool (m i) := rfl
theorem arr_get (m : Nat → Bool) {i : Nat} (h : i < 32) : ((arr m).getD (0 + i * 1) .top).toB = m i := by
  rw [arr_eq, Nat.zero_add, Nat.mul_one]
  simp [List.getD, List.getElem?_map, List.getElem?_range h, AV.toB]
def upd (m : Nat → Bool) (i : Nat) (j : Nat) : Bool := m j || j == i
theorem arr_set (m : Nat → Bool) {i : Nat} (h : i < 32) : Eng.setAt (arr m) (0 + i * 1) [AV.bool true] = arr (upd m i) := by
  rw [arr_eq, arr_eq, Nat.zero_add, Nat.mul_one]
  simp only [Eng.setAt]
  apply List.ext_getElem (by simp)
  intro j h1 h2
  simp only [List.length_set, List.length_map, List.length_range] at h1
  simp only [List.getElem_set, List.getElem_map, List.getElem_range, upd]
  by_cases e : i = j
  · subst e; simp
  · have : (j == i) = false := by simp; omega
    simp [e, this]
theorem arr_congr {m m' : Nat → Bool} (h : ∀ j, m j = m' j) : arr m = arr m' := by rw [show m = m' from funext h]

/-! ### In -/
theorem L18_all (N : Nat) (xs : List Nat) (hx : xs.length ≤ 1000) (v : Int) : ∀ (k n i : Nat), i + k = xs.length → k < n → L18a26 N n (rowsN xs) v i = match (xs.drop i).any (fun x => (x : Int) == v) with | true => some (.ret true) | false => some .x0
  | 0, n + 1, i, h, _ => by
    have e : decide ((i : Int) < ((rowsN xs).length : Int)) = false := by rw [rowsN_length]; simp; omega
    show (match decide ((i : Int) < ((rowsN xs).length : Int)) with | true => _ | false => _) = _
    rw [e, List.drop_eq_nil_of_le (by omega)]; rfl
  | k + 1, n + 1, i, h, hn => by
    have hi : i < xs.length := by omega
    have e : decide ((i : Int) < ((rowsN xs).length : Int)) = true := by rw [rowsN_length]; simp; omega
    have e1 : decide ((0 : Int) ≤ (i : Int)) = true := by simp
    show (match decide ((i : Int) < ((rowsN xs).length : Int)) with | true => _ | false => _) = _
    simp only [e, e1, Bool.and_self, tst, Int.toNat_natCast, rowsN_get hi]
    rw [List.drop_eq_getElem_cons hi, List.any_cons]
    cases hq : ((xs[i] : Int) == v) with
    | true => rfl
    | false =>
      simp only [Bool.false_or]
      rw [wrap_succ (by omega)]
      exact L18_all N xs hx v k n (i + 1) (by omega) (by omega)
  | _, 0, _, _, h => by omega
theorem F18_eq {N : Nat} (hN : 50 ≤ N) {xs : List Nat} (hx : xs.length ≤ 45) (v : Int) : F18 N (rowsN xs) v = some (.r (xs.any fun x => (x : Int) == v)) := by
  obtain ⟨M, rfl⟩ : ∃ M, N = M + 1 := ⟨N - 1, by omega⟩
  show (match L18a26 M M (rowsN xs) v 0 with | none => (none : Option R18) | some (.ret x) => some (.r x) | some (.x0) => some (.r false)) = _
  rw [show (0 : Int) = ((0 : Nat) : Int) from rfl, L18_all M xs (by omega) v xs.length M 0 (by omega) (by omega), List.drop_zero]
  cases xs.any fun x => (x : Int) == v <;> rfl

/-! ### Of -/
def isOf (l : List Row) (t s : Int) (i : Nat) : Bool := decide (0 < i) && (cI l i 5 == t && cI l i 6 == s)
theorem L14_all (N : Nat) (l : List Row) (hl : l.length ≤ 32) (t s : Int) (hs : 0 ≤ s) : ∀ (k n i : Nat) (acc : List Nat), i + k = l.length → k < n → acc.length ≤ i → L14i58f31a6 N n l l.length i t s (rowsN acc) = some (.x0 t s (rowsN (acc ++ flt (isOf l t s) i k)))
  | 0, n + 1, i, acc, h, _, _ => by
    have e : decide ((i : Int) < (l.length : Int)) = false := by simp; omega
    show (match decide ((i : Int) < (l.length : Int)) with | true => _ | false => _) = _
    rw [e]; simp [flt]
  | k + 1, n + 1, i, acc, h, hn, ha => by
    have e : decide ((i : Int) < (l.length : Int)) = true := by simp; omega
    have e1 : decide ((0 : Int) ≤ (i : Int)) = true := by simp
    have e2 : decide (s < 0) = false := by simp; omega
    show (match decide ((i : Int) < (l.length : Int)) with | true => _ | false => _) = _
    simp only [e, e1, e2, Bool.and_self, tst, ← cI.eq_1]
    rw [wrap_succ (by omega)]
    have ih := L14_all N l hl t s hs k n (i + 1)
    have e4 : decide (((rowsN acc).length + 1) * 8 ≤ 140737488355328) = true := by rw [rowsN_length]; simp; omega
    have e5 : decide ((0 : Int) < (i : Int)) = decide (0 < i) := by simp
    rw [e5]
    unfold flt
    have hof : isOf l t s i = (decide (0 < i) && (cI l i 5 == t && cI l i 6 == s)) := rfl
    rw [hof]
    cases decide (0 < i) with
    | false => simp only [Bool.false_and]; exact ih acc (by omega) (by omega) (by omega)
    | true =>
      cases cI l i 5 == t with
      | false => simp only [Bool.false_and, Bool.and_false]; exact ih acc (by omega) (by omega) (by omega)
      | true =>
        cases cI l i 6 == s with
        | false => simp only [Bool.and_false]; exact ih acc (by omega) (by omega) (by omega)
        | true =>
          simp only [Bool.and_self, e4, rowsN_append]
          rw [ih (acc ++ [i]) (by omega) (by omega) (by simp; omega)]
          simp
  | _, 0, _, _, _, h, _ => by omega
theorem F14_eq {N : Nat} (hN : 50 ≤ N) {l : List Row} (h : may l = true) (t s : Int) (hs : 0 ≤ s) : F14 N l t s = some (.r (rowsN (flt (isOf l t s) 0 l.length))) := by
  obtain ⟨M, rfl⟩ : ∃ M, N = M + 1 := ⟨N - 1, by omega⟩
  have hl := (may_ok h).1
  obtain ⟨K, rfl⟩ : ∃ K, M = K + 1 := ⟨M - 1, by omega⟩
  have e2 : decide (s < 0) = false := by simp; omega
  show (match F16 (K + 1) l with | none => none | some (.r x) => _) = _
  rw [F16_eq (by omega), h]
  simp only [Bool.not_true, e2]
  show (match L14i58f31a6 (K + 1) (K + 1) l l.length 0 t s (rowsN []) with | none => (none : Option R14) | some (.x0 _ _ b) => some (.r b)) = _
  rw [show (0 : Int) = ((0 : Nat) : Int) from rfl, L14_all (K + 1) l hl t s hs l.length (K + 1) 0 [] (by omega) (by omega) (by simp)]
  simp

/-! ### Dependence -/
def depF (l : List Row) (t : Int) : Nat → Nat → Bool
  | 0, _ => false
  | k + 1, j => decide (0 < j) && (cI l j 5 == t || depF l t k (cI l j 5).toNat)
/-- Task j depends on task t. -/
def dep (l : List Row) (t : Int) (j : Nat) : Bool := depF l t (j + 1) j
theorem depF_more {l : List Row} (h : may l = true) (t : Int) : ∀ (k k' j : Nat), j < l.length → j < k → j < k' → depF l t k j = depF l t k' j
  | 0, _, j, _, h1, _ => by omega
  | k + 1, 0, j, _, _, h2 => by omega
  | k + 1, k' + 1, j, hj, h1, h2 => by
    simp only [depF]
    by_cases h0 : 0 < j
    · have := (may_own h hj).2 h0
      rw [depF_more h t k k' (cI l j 5).toNat (by omega) (by omega) (by omega)]
    · simp [h0]
theorem dep_eq {l : List Row} (h : may l = true) (t : Int) {j : Nat} (hj : j < l.length) : dep l t j = (decide (0 < j) && (cI l j 5 == t || dep l t (cI l j 5).toNat)) := by
  show depF l t (j + 1) j = _
  rw [depF]
  show _ = (decide (0 < j) && (cI l j 5 == t || depF l t ((cI l j 5).toNat + 1) (cI l j 5).toNat))
  by_cases h0 : 0 < j
  · have := (may_own h hj).2 h0
    rw [depF_more h t j ((cI l j 5).toNat + 1) (cI l j 5).toNat (by omega) (by omega) (by omega)]
  · simp [h0]
theorem dep_iff {l : List Row} (h : may l = true) (t : Int) {j : Nat} (hj : j < l.length) : dep l t j = true ↔ 0 < j ∧ (cI l j 5 = t ∨ dep l t (cI l j 5).toNat = true) := by
  rw [dep_eq h t hj]; simp
theorem dep_gt {l : List Row} (h : may l = true) (t : Int) : ∀ {j : Nat}, j < l.length → dep l t j = true → 0 ≤ t ∧ t < j := by
  intro j
  induction j using Nat.strongRecOn with
  | _ j ih =>
    intro hj hd
    obtain ⟨h0, h1⟩ := (dep_iff h t hj).1 hd
    have hw := (may_own h hj).2 h0
    rcases h1 with h1 | h1
    · omega
    · have := ih (cI l j 5).toNat (by omega) (by omega) h1
      omega
theorem dep_trans {l : List Row} (h : may l = true) (t : Int) (u : Nat) (hu : u < l.length) (hd : dep l t u = true) : ∀ {j : Nat}, j < l.length → dep l u j = true → dep l t j = true := by
  intro j
  induction j using Nat.strongRecOn with
  | _ j ih =>
    intro hj hj'
    obtain ⟨h0, h1⟩ := (dep_iff h _ hj).1 hj'
    have hw := (may_own h hj).2 h0
    refine (dep_iff h t hj).2 ⟨h0, .inr ?_⟩
    rcases h1 with h1 | h1
    · rw [h1]; simpa using hd
    · exact ih (cI l j 5).toNat (by omega) (by omega) h1
/-- The first step on the way down. -/
theorem dep_top {l : List Row} (h : may l = true) (t : Int) : ∀ {j : Nat}, j < l.length → (dep l t j = true ↔ ∃ c : Nat, 0 < c ∧ c < l.length ∧ cI l c 5 = t ∧ (j = c ∨ dep l c j = true)) := by
  intro j
  induction j using Nat.strongRecOn with
  | _ j ih =>
    intro hj
    rw [dep_iff h t hj]
    constructor
    · rintro ⟨h0, h1⟩
      have hw := (may_own h hj).2 h0
      rcases h1 with h1 | h1
      · exact ⟨j, h0, hj, h1, .inl rfl⟩
      · obtain ⟨c, c1, c2, c3, c4⟩ := (ih (cI l j 5).toNat (by omega) (by omega)).1 h1
        refine ⟨c, c1, c2, c3, .inr ((dep_iff h _ hj).2 ⟨h0, ?_⟩)⟩
        rcases c4 with c4 | c4
        · left; omega
        · exact .inr c4
    · rintro ⟨c, c1, c2, c3, c4⟩
      rcases c4 with rfl | c4
      · exact ⟨c1, .inl c3⟩
      · obtain ⟨h0, h1⟩ := (dep_iff h _ hj).1 c4
        have hw := (may_own h hj).2 h0
        refine ⟨h0, .inr ((ih (cI l j 5).toNat (by omega) (by omega)).2 ⟨c, c1, c2, c3, ?_⟩)⟩
        rcases h1 with h1 | h1
        · left; omega
        · exact .inr h1

def child (l : List Row) (t : Int) (i : Nat) : Bool := decide (0 < i) && cI l i 5 == t
def mk (l : List Row) (t : Int) : Nat → Nat → (Nat → Bool) → Nat → Bool
  | _, 0, m => m
  | i, k + 1, m => mk l t (i + 1) k (match child l t i with | true => fun j => upd m i j || (decide (j < l.length) && dep l i j) | false => m)
theorem mk_iff (l : List Row) (t : Int) (j : Nat) : ∀ (k i : Nat) (m : Nat → Bool), mk l t i k m j = true ↔ m j = true ∨ ∃ c, i ≤ c ∧ c < i + k ∧ child l t c = true ∧ (j = c ∨ j < l.length ∧ dep l c j = true)
  | 0, i, m => by simp only [mk]; constructor; exact .inl; rintro (h | ⟨c, h1, h2, _⟩); exact h; omega
  | k + 1, i, m => by
    simp only [mk]
    rw [mk_iff l t j k (i + 1)]
    cases hc : child l t i with
    | true =>
      simp only [upd, Bool.or_eq_true, Bool.and_eq_true, decide_eq_true_eq, beq_iff_eq]
      constructor
      · rintro (((h | h) | h) | ⟨c, h1, h2, h3⟩)
        · exact .inl h
        · exact .inr ⟨i, by omega, by omega, hc, .inl h⟩
        · exact .inr ⟨i, by omega, by omega, hc, .inr h⟩
        · exact .inr ⟨c, by omega, by omega, h3⟩
      · rintro (h | ⟨c, h1, h2, h3, h4⟩)
        · exact .inl (.inl (.inl h))
        · by_cases e : c = i
          · subst e
            rcases h4 with h4 | h4
            · exact .inl (.inl (.inr h4))
            · exact .inl (.inr h4)
          · exact .inr ⟨c, by omega, by omega, h3, h4⟩
    | false =>
      simp only
      constructor
      · rintro (h | ⟨c, h1, h2, h3⟩)
        · exact .inl h
        · exact .inr ⟨c, by omega, by omega, h3⟩
      · rintro (h | ⟨c, h1, h2, h3, h4⟩)
        · exact .inl h
        · by_cases e : c = i
          · subst e; rw [hc] at h3; cases h3
          · exact .inr ⟨c, by omega, by omega, h3, h4⟩
theorem mk_all {l : List Row} (h : may l = true) (t : Int) (m : Nat → Bool) (j : Nat) : mk l t 0 l.length m j = (m j || (decide (j < l.length) && dep l t j)) := by
  rw [Bool.eq_iff_iff, mk_iff]
  simp only [Bool.or_eq_true, Bool.and_eq_true, decide_eq_true_eq, child, beq_iff_eq]
  constructor
  · rintro (h1 | ⟨c, _, c2, ⟨c3, c4⟩, c5⟩)
    · exact .inl h1
    · right
      have hj : j < l.length := by rcases c5 with rfl | c5; omega; exact c5.1
      exact ⟨hj, (dep_top h t hj).2 ⟨c, c3, by omega, c4, c5.imp id (fun x => x.2)⟩⟩
  · rintro (h1 | ⟨hj, h1⟩)
    · exact .inl h1
    · obtain ⟨c, c1, c2, c3, c4⟩ := (dep_top h t hj).1 h1
      exact .inr ⟨c, by omega, by omega, ⟨c1, c3⟩, c4.imp id (fun x => ⟨hj, x⟩)⟩

theorem F23_eq (N : Nat) (l : List Row) (t s : Int) : F23 (N + 1) l t s = some (.r l t s) := rfl

theorem L29_all {l : List Row} (h : may l = true) (N : Nat) (t : Int) (rec : TF29) (hrec : ∀ (c : Nat) (m : Nat → Bool), c < l.length → child l t c = true → rec c l (arr m) = some (.r l (arr fun j => m j || (decide (j < l.length) && dep l c j)))) :
    ∀ (k n i : Nat) (m : Nat → Bool), i + k = l.length → k < n → L29i6f31a6 rec N n l l.length i t (-1) (arr m) l = some (.x0 t (-1) (arr (mk l t i k m)) l)
  | 0, n + 1, i, m, h1, _ => by
    have e : decide ((i : Int) < (l.length : Int)) = false := by simp; omega
    show (match decide ((i : Int) < (l.length : Int)) with | true => _ | false => _) = _
    rw [e]; rfl
  | k + 1, n + 1, i, m, h1, hn => by
    have hl := (may_ok h).1
    have e : decide ((i : Int) < (l.length : Int)) = true := by simp; omega
    have e1 : decide ((0 : Int) ≤ (i : Int)) = true := by simp
    have e2 : decide ((-1 : Int) < 0) = true := rfl
    have e3 : decide ((i : Int) < (32 : Int)) = true := by simp; omega
    have e4 : decide ((0 + i * 1) + 1 ≤ 32) = true := by simp; omega
    have e5 : decide ((0 : Int) < (i : Int)) = decide (0 < i) := by simp
    show (match decide ((i : Int) < (l.length : Int)) with | true => _ | false => _) = _
    simp only [e, e1, e2, e3, Bool.and_self, Bool.and_true, tst, ← cI.eq_1]
    simp only [Int.toNat_natCast, e4, e5]
    rw [wrap_succ (by omega), arr_set m (by omega)]
    have ih := L29_all h N t rec hrec k n (i + 1)
    unfold mk
    have hof : child l t i = (decide (0 < i) && cI l i 5 == t) := rfl
    cases hp : decide (0 < i) with
    | false => rw [hof, hp]; simp only [Bool.false_and]; exact ih m (by omega) (by omega)
    | true =>
      cases hq : cI l i 5 == t with
      | false => rw [hof, hp, hq]; simp only [Bool.and_false]; exact ih m (by omega) (by omega)
      | true =>
        have hc : child l t i = true := by rw [hof, hp, hq]; rfl
        rw [hc]
        simp only
        rw [hrec i (upd m i) (by omega) hc]
        simp only
        exact ih _ (by omega) (by omega)
  | _, 0, _, _, _, h => by omega

theorem F29_eq {l : List Row} (h : may l = true) : ∀ (d : Nat) (t : Int), (t < 0 ∨ (l.length : Int) ≤ t + d) → ∀ (N : Nat), 40 + d ≤ N → ∀ (m : Nat → Bool), F29 (N + 1) t l (arr m) = some (.r l (arr fun j => m j || (decide (j < l.length) && dep l t j))) := by
  intro d
  induction d with
  | zero =>
    intro t ht N hN m
    have hl := (may_ok h).1
    obtain ⟨M, rfl⟩ : ∃ M, N = M + 1 := ⟨N - 1, by omega⟩
    show (match L29i6f31a6 (F29 (M + 1)) (M + 1) (M + 1) l l.length 0 t (-1) (arr m) l with | none => (none : Option R29) | some (.x0 _ _ b3 b5) => some (.r b5 b3)) = _
    rw [show (0 : Int) = ((0 : Nat) : Int) from rfl, L29_all h (M + 1) t (F29 (M + 1)) (fun c m hc hch => ?_) l.length (M + 1) 0 m (by omega) (by omega)]
    · simp only; rw [arr_congr (mk_all h t m)]
    · simp only [child, Bool.and_eq_true, decide_eq_true_eq, beq_iff_eq] at hch
      have := (may_own h hc).2 hch.1
      omega
  | succ d ih =>
    intro t ht N hN m
    have hl := (may_ok h).1
    obtain ⟨M, rfl⟩ : ∃ M, N = M + 1 := ⟨N - 1, by omega⟩
    show (match L29i6f31a6 (F29 (M + 1)) (M + 1) (M + 1) l l.length 0 t (-1) (arr m) l with | none => (none : Option R29) | some (.x0 _ _ b3 b5) => some (.r b5 b3)) = _
    rw [show (0 : Int) = ((0 : Nat) : Int) from rfl, L29_all h (M + 1) t (F29 (M + 1)) (fun c m hc hch => ?_) l.length (M + 1) 0 m (by omega) (by omega)]
    · simp only; rw [arr_congr (mk_all h t m)]
    · simp only [child, Bool.and_eq_true, decide_eq_true_eq, beq_iff_eq] at hch
      have := (may_own h hc).2 hch.1
      exact ih c (by omega) M (by omega) m

/-! ### Depends -/
theorem L26_all (N : Nat) (m : Nat → Bool) (len : Nat) (hl : len ≤ 32) : ∀ (k n i : Nat) (acc : List Nat), i + k = len → k < n → acc.length ≤ i → L26a26 N n len i (arr m) (rowsN acc) = some (.x0 (arr m) (rowsN (acc ++ flt m i k)))
  | 0, n + 1, i, acc, h, _, _ => by
    have e : decide ((i : Int) < (len : Int)) = false := by simp; omega
    show (match decide ((i : Int) < (len : Int)) with | true => _ | false => _) = _
    rw [e]; simp [flt]
  | k + 1, n + 1, i, acc, h, hn, ha => by
    have e : decide ((i : Int) < (len : Int)) = true := by simp; omega
    have e1 : decide ((0 : Int) ≤ (i : Int)) = true := by simp
    have e3 : decide ((i : Int) < (32 : Int)) = true := by simp; omega
    have e6 : decide ((0 + i * 1) + 1 ≤ 32) = true := by simp; omega
    have e4 : decide (((rowsN acc).length + 1) * 8 ≤ 140737488355328) = true := by rw [rowsN_length]; simp; omega
    show (match decide ((i : Int) < (len : Int)) with | true => _ | false => _) = _
    simp only [e, e1, e3, Bool.and_self, tst, Int.toNat_natCast, e6, arr_get m (show i < 32 by omega), e4, rowsN_append]
    rw [wrap_succ (by omega)]
    have ih := L26_all N m len hl k n (i + 1)
    unfold flt
    cases m i with
    | false => exact ih acc (by omega) (by omega) (by omega)
    | true =>
      simp only
      rw [ih (acc ++ [i]) (by omega) (by omega) (by simp; omega)]
      simp
  | _, 0, _, _, _, h, _ => by omega
theorem F26_eq {N : Nat} (hN : 50 ≤ N) {l : List Row} (hl : l.length ≤ 32) (m : Nat → Bool) : F26 N l (m 0) (m 1) (m 2) (m 3) (m 4) (m 5) (m 6) (m 7) (m 8) (m 9) (m 10) (m 11) (m 12) (m 13) (m 14) (m 15) (m 16) (m 17) (m 18) (m 19) (m 20) (m 21) (m 22) (m 23) (m 24) (m 25) (m 26) (m 27) (m 28) (m 29) (m 30) (m 31) = some (.r (rowsN (flt m 0 l.length))) := by
  obtain ⟨M, rfl⟩ : ∃ M, N = M + 1 := ⟨N - 1, by omega⟩
  show (match L26a26 M M l.length 0 (arr m) (rowsN []) with | none => (none : Option R26) | some (.x0 _ b) => some (.r b)) = _
  rw [show (0 : Int) = ((0 : Nat) : Int) from rfl, L26_all M m l.length hl l.length M 0 [] (by omega) (by omega) (by simp)]
  simp

/-- The tasks that depend on a task. -/
def deps (l : List Row) (t : Int) : List Nat := flt (dep l t) 0 l.length
theorem F15_eq {N : Nat} (hN : 100 ≤ N) {l : List Row} (h : may l = true) (t : Int) : F15 N l t = some (.r (rowsN (deps l t))) := by
  obtain ⟨M, rfl⟩ : ∃ M, N = M + 1 := ⟨N - 1, by omega⟩
  obtain ⟨K, rfl⟩ : ∃ K, M = K + 1 := ⟨M - 1, by omega⟩
  have hl := (may_ok h).1
  show (match F16 (K + 1) l with | none => none | some (.r x) => _) = _
  rw [F16_eq (by omega), h]
  simp only [Bool.not_true]
  have h29 := F29_eq h 32 t (by omega) K (by omega) (fun _ => false)
  show (match F29 (K + 1) t l (arr fun _ => false) with | none => none | some (.r l' b) => _) = _
  rw [h29]
  simp only
  generalize hm : (fun j => (false || (decide (j < l.length) && dep l t j))) = m
  show (match F26 (K + 1) l (m 0) (m 1) (m 2) (m 3) (m 4) (m 5) (m 6) (m 7) (m 8) (m 9) (m 10) (m 11) (m 12) (m 13) (m 14) (m 15) (m 16) (m 17) (m 18) (m 19) (m 20) (m 21) (m 22) (m 23) (m 24) (m 25) (m 26) (m 27) (m 28) (m 29) (m 30) (m 31) with | none => (none : Option R15) | some (.r b) => some (.r b)) = _
  rw [F26_eq (by omega) hl m]
  simp only
  unfold deps
  rw [flt_congr (m := m) (m' := dep l t) fun j h1 h2 => ?_]
  subst hm
  have : decide (j < l.length) = true := by simp; omega
  simp [this]
theorem F15_not {N : Nat} (hN : 100 ≤ N) {l : List Row} (h : may l = false) (t : Int) : F15 N l t = some (.r []) := by
  obtain ⟨M, rfl⟩ : ∃ M, N = M + 1 := ⟨N - 1, by omega⟩
  show (match F16 M l with | none => none | some (.r x) => _) = _
  rw [F16_eq (by omega), h]
  rfl

end Go.Proofs.Ytfggehkiglenjaa

namespace Go.Proofs.Ytfggehkiglenjaa
open Go Go.Eng

theorem works_true : F13 199 = some (.r true) := by kernel_rfl

theorem mem_deps {l : List Row} {t : Int} {u : Nat} : u ∈ deps l t ↔ u < l.length ∧ dep l t u = true := by
  unfold deps; rw [mem_flt]; simp
theorem deps_len {l : List Row} (h : may l = true) (t : Int) : (deps l t).length ≤ 32 := Nat.le_trans (flt_length _ _ _) (may_ok h).1
theorem inn {xs : List Nat} {u : Nat} (h : u ∈ xs) : (xs.any fun x => (x : Int) == (u : Int)) = true := List.any_eq_true.2 ⟨u, h, by simp⟩

theorem Lv {l : List Row} (h : may l = true) (t : Int) {N : Nat} (hN : 50 ≤ N) {xs : List Nat} (hx : xs.length ≤ 45) (hall : ∀ v ∈ xs, v ∈ deps l t) :
    ∀ (k n i : Nat), i + k = xs.length → k < n → L6a64173262 N n (rowsN (deps l t)) xs.length i (rowsN xs) = some (.x4 (rowsN xs))
  | 0, n + 1, i, h1, _ => by
    have e : decide ((i : Int) < (xs.length : Int)) = false := by simp; omega
    show (match decide ((i : Int) < (xs.length : Int)) with | true => _ | false => _) = _
    rw [e]
  | k + 1, n + 1, i, h1, hn => by
    have hi : i < xs.length := by omega
    have e : decide ((i : Int) < (xs.length : Int)) = true := by simp; omega
    have e1 : decide ((0 : Int) ≤ (i : Int)) = true := by simp
    have e2 : decide ((i : Int) < ((rowsN xs).length : Int)) = true := by rw [rowsN_length]; exact e
    have e3 : decide (i < (rowsN xs).length) = true := by rw [rowsN_length]; simpa using hi
    show (match decide ((i : Int) < (xs.length : Int)) with | true => _ | false => _) = _
    simp only [e, e1, e2, Bool.and_self, tst, Int.toNat_natCast, e3, rowsN_get hi]
    rw [F18_eq hN (by have := deps_len h t; omega), inn (hall _ (List.getElem_mem hi))]
    simp only [Bool.not_true]
    rw [wrap_succ (by omega)]
    exact Lv h t hN hx hall k n (i + 1) (by omega) (by omega)
  | _, 0, _, _, h => by omega

theorem Ju {l : List Row} (h : may l = true) (t : Nat) {N : Nat} (hN : 50 ≤ N) {u : Nat} (hu : u ∈ deps l t) : J6a16043314 N l t (rowsN (deps l t)) u = some .nx := by
  obtain ⟨h1, h2⟩ := mem_deps.1 hu
  have hg := dep_gt h t h1 h2
  have e1 : decide ((u : Int) ≤ (t : Int)) = false := by simp; omega
  have e2 : decide ((l.length : Int) ≤ (u : Int)) = false := by simp; omega
  have e3 : decide ((0 : Int) ≤ (u : Int)) = true := by simp
  have e4 : decide ((u : Int) < (l.length : Int)) = true := by simp; omega
  unfold J6a16043314
  simp only [e1, e2, e3, e4, Bool.and_self, tst, ← cI.eq_1]
  cases hq : (cI l u 5 != (t : Int)) with
  | false => rfl
  | true =>
    obtain ⟨h3, h4⟩ := (dep_iff h t h1).1 h2
    have hw := (may_own h h1).2 h3
    have hne : cI l u 5 ≠ (t : Int) := by simpa using hq
    have h5 : dep l t (cI l u 5).toNat = true := by rcases h4 with h4 | h4; exact absurd h4 hne; exact h4
    have hm : (cI l u 5).toNat ∈ deps l t := mem_deps.2 ⟨by omega, h5⟩
    have hc : cI l u 5 = ((cI l u 5).toNat : Int) := by omega
    simp only
    rw [F18_eq hN (by have := deps_len h t; omega), hc, inn hm]
    rfl

theorem Lu {l : List Row} (h : may l = true) (t : Nat) {N : Nat} (hN : 150 ≤ N) : ∀ (k n i : Nat), i + k = (deps l t).length → k < n →
    L6a125338 N n l t (rowsN (deps l t)) (rowsN (deps l t)) ((rowsN (deps l t)).length : Int) i = some .x2
  | 0, n + 1, i, h1, _ => by
    have e : decide ((i : Int) < ((rowsN (deps l t)).length : Int)) = false := by rw [rowsN_length]; simp; omega
    show (match decide ((i : Int) < ((rowsN (deps l t)).length : Int)) with | true => _ | false => _) = _
    rw [e]
  | k + 1, n + 1, i, h1, hn => by
    have hi : i < (deps l t).length := by omega
    have hdl := deps_len h t
    have e : decide ((i : Int) < ((rowsN (deps l t)).length : Int)) = true := by rw [rowsN_length]; simp; omega
    have e1 : decide ((0 : Int) ≤ (i : Int)) = true := by simp
    show (match decide ((i : Int) < ((rowsN (deps l t)).length : Int)) with | true => _ | false => _) = _
    simp only [e, e1, Bool.and_self, tst, Int.toNat_natCast, rowsN_get hi]
    have hm : (deps l t)[i] ∈ deps l t := List.getElem_mem hi
    obtain ⟨m1, m2⟩ := mem_deps.1 hm
    rw [Ju h t (by omega) hm]
    simp only
    rw [F15_eq (by omega) h]
    simp only [rowsN_length]
    have hall : ∀ v ∈ deps l ((deps l t)[i] : Nat), v ∈ deps l t := fun v hv => by
      obtain ⟨v1, v2⟩ := mem_deps.1 hv
      exact mem_deps.2 ⟨v1, dep_trans h t _ m1 m2 v1 v2⟩
    have hvl := deps_len h (((deps l t)[i] : Nat) : Int)
    have := Lv h t (N := N) (by omega) (xs := deps l ((deps l t)[i] : Nat)) (by omega) hall (deps l ((deps l t)[i] : Nat)).length N 0 (by omega) (by omega)
    rw [show (0 : Int) = ((0 : Nat) : Int) from rfl, this]
    simp only
    rw [wrap_succ (by omega), ← rowsN_length]
    exact Lu h t hN k n (i + 1) (by omega) (by omega)
  | _, 0, _, _, h => by omega

theorem Lx {l : List Row} (h : may l = true) (t : Nat) {N : Nat} (hN : 150 ≤ N) : ∀ (k n i : Nat), i + k = l.length → k < n →
    L6a125342 N n l t (rowsN (deps l t)) l l.length i = some .x6
  | 0, n + 1, i, h1, _ => by
    have e : decide ((i : Int) < (l.length : Int)) = false := by simp; omega
    show (match decide ((i : Int) < (l.length : Int)) with | true => _ | false => _) = _
    rw [e]
  | k + 1, n + 1, i, h1, hn => by
    have hl := (may_ok h).1
    have hi : i < l.length := by omega
    have e : decide ((i : Int) < (l.length : Int)) = true := by simp; omega
    have e1 : decide ((0 : Int) ≤ (i : Int)) = true := by simp
    show (match decide ((i : Int) < (l.length : Int)) with | true => _ | false => _) = _
    simp only [e, e1, Bool.and_self, tst, ← cI.eq_1]
    have ih := Lx h t hN k n (i + 1) (by omega) (by omega)
    rw [wrap_succ (by omega)]
    cases hq : cI l i 5 == (t : Int) with
    | false => exact ih
    | true =>
      have hq' : cI l i 5 = (t : Int) := by simpa using hq
      have h0 : 0 < i := by
        by_cases e0 : i = 0
        · have := (may_own h hi).1 e0; omega
        · omega
      have hw := (may_own h hi).2 h0
      have hm : i ∈ deps l t := mem_deps.2 ⟨hi, (dep_iff h t hi).2 ⟨h0, .inl hq'⟩⟩
      have hm2 : i ∈ flt (isOf l t (cI l i 6)) 0 l.length := mem_flt.2 ⟨by omega, by omega, by simp [isOf, hq, h0]⟩
      simp only
      rw [F18_eq (by omega) (by have := deps_len h t; omega), inn hm]
      simp only [Bool.not_true]
      rw [F14_eq (by omega) h _ _ hw.2.2]
      simp only
      rw [F18_eq (by omega) (by have := flt_length (isOf l t (cI l i 6)) l.length 0; omega), inn hm2]
      exact ih
  | _, 0, _, _, h => by omega

theorem Lt {l : List Row} (h : may l = true) {N : Nat} (hN : 150 ≤ N) : ∀ (k n i : Nat), i + k = l.length → k < n → L6a122 N n l l.length i = some .x0
  | 0, n + 1, i, h1, _ => by
    have e : decide ((i : Int) < (l.length : Int)) = false := by simp; omega
    show (match decide ((i : Int) < (l.length : Int)) with | true => _ | false => _) = _
    rw [e]
  | k + 1, n + 1, i, h1, hn => by
    have hl := (may_ok h).1
    have e : decide ((i : Int) < (l.length : Int)) = true := by simp; omega
    have hdl := deps_len h (i : Int)
    show (match decide ((i : Int) < (l.length : Int)) with | true => _ | false => _) = _
    simp only [e]
    rw [F15_eq (by omega) h]
    simp only
    have hj : J6a31334 N l i (rowsN (deps l i)) = some (.nx (rowsN (deps l i))) := by
      unfold J6a31334
      rw [show (0 : Int) = ((0 : Nat) : Int) from rfl, Lu h i hN (deps l i).length N 0 (by omega) (by omega)]
    rw [hj]
    simp only
    rw [show (0 : Int) = ((0 : Nat) : Int) from rfl, Lx h i hN l.length N 0 (by omega) (by omega)]
    simp only
    rw [wrap_succ (by omega)]
    exact Lt h hN k n (i + 1) (by omega) (by omega)
  | _, 0, _, _, h => by omega

theorem forest (x : List Row) : F6 200 x = some (.r true) := by
  have himin : Eng.imin (x.length : Int) 32 = min (x.length : Int) 32 := by unfold Eng.imin; split <;> omega
  have e : (decide ((0 : Int) ≤ Eng.imin (x.length : Int) 32) && decide (Eng.imin (x.length : Int) 32 ≤ (x.length : Int)) && decide ((x.length : Int) ≤ (x.length : Int))) = true := by
    rw [himin]; simp; omega
  show tst (decide ((0 : Int) ≤ Eng.imin (x.length : Int) 32) && decide (Eng.imin (x.length : Int) 32 ≤ (x.length : Int)) && decide ((x.length : Int) ≤ (x.length : Int))) _ = _
  rw [e]
  simp only [tst]
  generalize x.take (Eng.imin (x.length : Int) 32).toNat = l
  rw [F19_eq (by omega)]
  simp only
  cases h : may l with
  | false =>
    simp only [Bool.not_false]
    rw [F16_eq (by omega), h]
    simp only [Bool.not_false]
    rw [F15_not (by omega) h]
    simp only [List.length_nil]
    rw [works_true]
    rfl
  | true =>
    have hl := (may_ok h).1
    simp only [Bool.not_true]
    rw [show (0 : Int) = ((0 : Nat) : Int) from rfl, Lt h (by omega) l.length 199 0 (by omega) (by omega)]
    simp only
    rw [works_true]

end Go.Proofs.Ytfggehkiglenjaa

namespace Go.Proofs.Ytfggehkiglenjaa
open Go Go.Eng

def allF (p : Nat → Bool) : Nat → Nat → Bool
  | _, 0 => true
  | i, k + 1 => p i && allF p (i + 1) k
theorem allF_iff {p : Nat → Bool} : ∀ {k i : Nat}, allF p i k = true ↔ ∀ j, i ≤ j → j < i + k → p j = true
  | 0, i => by simp only [allF, true_iff]; intro j h1 h2; omega
  | k + 1, i => by
    simp only [allF, Bool.and_eq_true, allF_iff (k := k) (i := i + 1)]
    constructor
    · rintro ⟨h1, h2⟩ j h3 h4
      by_cases e : j = i
      · subst e; exact h1
      · exact h2 j (by omega) (by omega)
    · intro h
      exact ⟨h i (Nat.le_refl _) (by omega), fun j h1 h2 => h j (by omega) (by omega)⟩
theorem allF_congr {p q : Nat → Bool} : ∀ {k i : Nat}, (∀ j, i ≤ j → j < i + k → p j = q j) → allF p i k = allF q i k
  | 0, _, _ => rfl
  | k + 1, i, h => by
    simp only [allF]
    rw [h i (Nat.le_refl _) (by omega), allF_congr (k := k) (i := i + 1) fun j h1 h2 => h j (by omega) (by omega)]

/-- A child that is born. -/
def kid (l : List Row) (t : Int) (c : Nat) : Bool := child l t c && cB l c 0
theorem kid_gt {l : List Row} (h : may l = true) {t : Int} {c : Nat} (hc : c < l.length) (hk : kid l t c = true) : 0 < c ∧ 0 ≤ t ∧ t < c := by
  simp only [kid, child, Bool.and_eq_true, decide_eq_true_eq, beq_iff_eq] at hk
  have := (may_own h hc).2 hk.1.1
  omega
def qF (l : List Row) : Nat → Nat → Bool
  | 0, _ => false
  | k + 1, t => cB l t 1 || (cB l t 3 && (!cB l t 2 && allF (fun c => !kid l t c || qF l k c) 0 l.length))
theorem qF_more {l : List Row} (h : may l = true) : ∀ (k k' t : Nat), t < l.length → l.length ≤ t + k → l.length ≤ t + k' → qF l k t = qF l k' t
  | 0, _, t, h0, h1, _ => by omega
  | k + 1, 0, t, h0, _, h2 => by omega
  | k + 1, k' + 1, t, h0, h1, h2 => by
    simp only [qF]
    rw [allF_congr fun c h3 h4 => ?_]
    cases hk : kid l t c with
    | false => rfl
    | true =>
      have := kid_gt h (by omega) hk
      rw [qF_more h k k' c (by omega) (by omega) (by omega)]
/-- Task t is quiet. -/
def quiet (l : List Row) (t : Nat) : Bool := qF l l.length t
theorem quiet_eq {l : List Row} (h : may l = true) {t : Nat} (ht : t < l.length) : quiet l t = (cB l t 1 || (cB l t 3 && (!cB l t 2 && allF (fun c => !kid l t c || quiet l c) 0 l.length))) := by
  unfold quiet
  rw [qF_more h l.length (l.length + 1) t ht (by omega) (by omega), qF]

theorem L22_all {l : List Row} (h : may l = true) (N : Nat) (t : Int) (rec : TF22) (b4 : Bool) (hrec : ∀ c : Nat, c < l.length → kid l t c = true → rec l c = some (.r (quiet l c))) :
    ∀ (k n i : Nat), i + k = l.length → k < n → L22i122f31a6 rec N n l l.length i t (-1) l b4 = match allF (fun c => !kid l t c || quiet l c) i k with | true => some (.x0 t (-1) l b4) | false => some (.ret t (-1) l false)
  | 0, n + 1, i, h1, _ => by
    have e : decide ((i : Int) < (l.length : Int)) = false := by simp; omega
    show (match decide ((i : Int) < (l.length : Int)) with | true => _ | false => _) = _
    rw [e]; rfl
  | k + 1, n + 1, i, h1, hn => by
    have hl := (may_ok h).1
    have e : decide ((i : Int) < (l.length : Int)) = true := by simp; omega
    have e1 : decide ((0 : Int) ≤ (i : Int)) = true := by simp
    have e2 : decide ((-1 : Int) < 0) = true := rfl
    have e5 : decide ((0 : Int) < (i : Int)) = decide (0 < i) := by simp
    show (match decide ((i : Int) < (l.length : Int)) with | true => _ | false => _) = _
    simp only [e, e1, e2, Bool.and_self, tst, ← cI.eq_1, ← cB.eq_1]
    rw [wrap_succ (by omega), e5]
    have ih := L22_all h N t rec b4 hrec k n (i + 1) (by omega) (by omega)
    unfold allF
    have hof : kid l t i = ((decide (0 < i) && cI l i 5 == t) && cB l i 0) := rfl
    cases hp : decide (0 < i) with
    | false => rw [hof, hp]; simp only [Bool.false_and, Bool.not_false, Bool.true_or, Bool.true_and]; exact ih
    | true =>
      cases hq : cI l i 5 == t with
      | false => rw [hof, hp, hq]; simp only [Bool.false_and, Bool.and_false, Bool.not_false, Bool.true_or, Bool.true_and]; exact ih
      | true =>
        cases hb : cB l i 0 with
        | false => rw [hof, hp, hq, hb]; simp only [Bool.and_false, Bool.not_false, Bool.true_or, Bool.true_and]; exact ih
        | true =>
          have hc : kid l t i = true := by rw [hof, hp, hq, hb]; rfl
          rw [hc]
          simp only
          rw [hrec i (by omega) hc]
          cases hr : quiet l i with
          | false => rfl
          | true => simp only [Bool.not_true, Bool.false_or, Bool.true_and]; exact ih
  | _, 0, _, _, h => by omega

theorem J22_eq (rec : TF22) (N : Nat) (b b0 b1 b2 b3 b4 : Bool) (o s a : Int) : J22a14 rec N b b0 b1 b2 b3 b4 o s a = match b1 || !(b3 && !b2) with | true => some (.ret b1 b0 b1 b2 b3 b4 o s a) | false => some (.nx b b0 b1 b2 b3 b4 o s a) := by
  unfold J22a14
  cases b1 <;> cases b2 <;> cases b3 <;> rfl

theorem F22_eq {l : List Row} (h : may l = true) : ∀ (d t : Nat), t < l.length → l.length ≤ t + d → ∀ (N : Nat), 40 + d ≤ N → F22 (N + 1) l t = some (.r (quiet l t)) := by
  intro d
  induction d with
  | zero => intro t h0 h1; omega
  | succ d ih =>
    intro t h0 h1 N hN
    have hl := (may_ok h).1
    obtain ⟨M, rfl⟩ : ∃ M, N = M + 1 := ⟨N - 1, by omega⟩
    have e : decide ((t : Int) < (l.length : Int)) = true := by simp; omega
    have e1 : decide ((0 : Int) ≤ (t : Int)) = true := by simp
    rw [quiet_eq h h0]
    show (tst (decide ((0 : Int) ≤ (t : Int)) && decide ((t : Int) < (l.length : Int))) <| _) = _
    simp only [e, e1, Bool.and_self, tst, J22_eq, ← cI.eq_1, ← cB.eq_1]
    cases hb1 : cB l t 1 with
    | true => rfl
    | false =>
      cases hb3 : cB l t 3 with
      | false => rfl
      | true =>
        cases hb2 : cB l t 2 with
        | true => rfl
        | false =>
          simp only [Bool.not_false, Bool.and_self, Bool.not_true, Bool.or_self, F23_eq, Bool.true_and, Bool.false_or]
          have hall := L22_all h (M + 1) t (F22 (M + 1)) false (fun c hc hk => ?_) l.length (M + 1) 0 (by omega) (by omega)
          · rw [show ((0 : Nat) : Int) = (0 : Int) from rfl] at hall
            rw [hall]
            cases allF (fun c => !kid l t c || quiet l c) 0 l.length <;> rfl
          · have := kid_gt h hc hk
            exact ih c (by omega) (by omega) M (by omega)

theorem L32_all {l : List Row} (h : may l = true) (N : Nat) (t : Nat) (rec : TF32) (hrec : ∀ c : Nat, c < l.length → kid l t c = true → rec l c = some (.r (quiet l c))) :
    ∀ (k n i : Nat), i + k = l.length → k < n → L32a122 rec N n l t i = match allF (fun c => !kid l t c || quiet l c) i k with | true => some .x0 | false => some (.ret false)
  | 0, n + 1, i, h1, _ => by
    have e : decide ((i : Int) < (l.length : Int)) = false := by simp; omega
    show (match decide ((i : Int) < (l.length : Int)) with | true => _ | false => _) = _
    rw [e]; rfl
  | k + 1, n + 1, i, h1, hn => by
    have hl := (may_ok h).1
    have e : decide ((i : Int) < (l.length : Int)) = true := by simp; omega
    have e1 : decide ((0 : Int) ≤ (i : Int)) = true := by simp
    show (match decide ((i : Int) < (l.length : Int)) with | true => _ | false => _) = _
    simp only [e, e1, Bool.and_self, tst, ← cI.eq_1, ← cB.eq_1]
    rw [wrap_succ (by omega)]
    have ih := L32_all h N t rec hrec k n (i + 1) (by omega) (by omega)
    unfold allF
    have hof : kid l t i = ((decide (0 < i) && cI l i 5 == t) && cB l i 0) := rfl
    cases hq : cI l i 5 == t with
    | false => rw [hof, hq]; simp only [Bool.false_and, Bool.and_false, Bool.not_false, Bool.true_or, Bool.true_and]; exact ih
    | true =>
      have hp : decide (0 < i) = true := by
        simp only [beq_iff_eq] at hq
        by_cases h0 : i = 0
        · have := (may_own h (show i < l.length by omega)).1 h0
          omega
        · simp; omega
      cases hb : cB l i 0 with
      | false => rw [hof, hp, hq, hb]; simp only [Bool.and_false, Bool.not_false, Bool.true_or, Bool.true_and]; exact ih
      | true =>
        have hc : kid l t i = true := by rw [hof, hp, hq, hb]; rfl
        rw [hc]
        simp only
        rw [hrec i (by omega) hc]
        cases hr : quiet l i with
        | false => rfl
        | true => simp only [Bool.not_true, Bool.false_or, Bool.true_and]; exact ih
  | _, 0, _, _, h => by omega

theorem F32_eq {l : List Row} (h : may l = true) : ∀ (d t : Nat), t < l.length → l.length ≤ t + d → ∀ (N : Nat), 40 + d ≤ N → F32 (N + 1) l t = some (.r (quiet l t)) := by
  intro d
  induction d with
  | zero => intro t h0 h1; omega
  | succ d ih =>
    intro t h0 h1 N hN
    have hl := (may_ok h).1
    obtain ⟨M, rfl⟩ : ∃ M, N = M + 1 := ⟨N - 1, by omega⟩
    have e : decide ((t : Int) < (l.length : Int)) = true := by simp; omega
    have e1 : decide ((0 : Int) ≤ (t : Int)) = true := by simp
    rw [quiet_eq h h0]
    show (tst (decide ((0 : Int) ≤ (t : Int)) && decide ((t : Int) < (l.length : Int))) <| _) = _
    simp only [e, e1, Bool.and_self, tst, J32a14, ← cI.eq_1, ← cB.eq_1]
    cases hb1 : cB l t 1 with
    | true => rfl
    | false =>
      cases hb3 : cB l t 3 with
      | false => rfl
      | true =>
        cases hb2 : cB l t 2 with
        | true => rfl
        | false =>
          simp only [Bool.not_false, Bool.not_true, Bool.true_and, Bool.false_or]
          have hall := L32_all h (M + 1) t (F32 (M + 1)) (fun c hc hk => ?_) l.length (M + 1) 0 (by omega) (by omega)
          · rw [show ((0 : Nat) : Int) = (0 : Int) from rfl] at hall
            rw [hall]
            cases allF (fun c => !kid l t c || quiet l c) 0 l.length <;> rfl
          · have := kid_gt h hc hk
            exact ih c (by omega) (by omega) M (by omega)

/-! ### Ready -/
/-- Task i can be terminated. -/
def canB (l : List Row) (i : Nat) : Bool :=
  cB l i 3 && (!cB l i 4 && (!decide (cI l i 5 < 0) && (!(cI l (cI l i 5) 7 != cI l i 6) && (quiet l i && allF (fun c => !(isOf l (cI l i 5) (cI l i 6) c && cB l c 0) || quiet l c) 0 l.length))))

theorem L9i_all {l : List Row} (h : may l = true) (N : Nat) (hN : 80 ≤ N) (t s : Int) (hs : 0 ≤ s) :
    ∀ (k n i : Nat), i + k = l.length → k < n → L9i223642f31a6 N n l l.length i t s l = match allF (fun c => !(isOf l t s c && cB l c 0) || quiet l c) i k with | true => some (.x0 t s l) | false => some (.ret t s l)
  | 0, n + 1, i, h1, _ => by
    have e : decide ((i : Int) < (l.length : Int)) = false := by simp; omega
    show (match decide ((i : Int) < (l.length : Int)) with | true => _ | false => _) = _
    rw [e]; rfl
  | k + 1, n + 1, i, h1, hn => by
    have hl := (may_ok h).1
    have e : decide ((i : Int) < (l.length : Int)) = true := by simp; omega
    have e1 : decide ((0 : Int) ≤ (i : Int)) = true := by simp
    have e2 : decide (s < 0) = false := by simp; omega
    have e5 : decide ((0 : Int) < (i : Int)) = decide (0 < i) := by simp
    show (match decide ((i : Int) < (l.length : Int)) with | true => _ | false => _) = _
    simp only [e, e1, e2, Bool.and_self, tst, ← cI.eq_1, ← cB.eq_1]
    rw [wrap_succ (by omega), e5]
    have ih := L9i_all h N hN t s hs k n (i + 1) (by omega) (by omega)
    unfold allF
    have hof : isOf l t s i = (decide (0 < i) && (cI l i 5 == t && cI l i 6 == s)) := rfl
    cases hp : decide (0 < i) with
    | false => rw [hof, hp]; simp only [Bool.false_and, Bool.not_false, Bool.true_or, Bool.true_and]; exact ih
    | true =>
      cases hq : cI l i 5 == t with
      | false => rw [hof, hp, hq]; simp only [Bool.false_and, Bool.and_false, Bool.not_false, Bool.true_or, Bool.true_and]; exact ih
      | true =>
        cases hq2 : cI l i 6 == s with
        | false => rw [hof, hp, hq, hq2]; simp only [Bool.false_and, Bool.and_false, Bool.not_false, Bool.true_or, Bool.true_and]; exact ih
        | true =>
          cases hb : cB l i 0 with
          | false => rw [hof, hp, hq, hq2]; simp only [Bool.and_false, Bool.not_false, Bool.true_or, Bool.true_and]; exact ih
          | true =>
            rw [hof, hp, hq, hq2]
            simp only
            obtain ⟨M, rfl⟩ : ∃ M, N = M + 1 := ⟨N - 1, by omega⟩
            rw [F22_eq h l.length i (by omega) (by omega) M (by omega)]
            cases hr : quiet l i with
            | false => rfl
            | true => simp only [Bool.and_self, Bool.not_true, Bool.false_or, Bool.true_and]; exact ih
  | _, 0, _, _, h => by omega

theorem J9_eq {l : List Row} (h : may l = true) (N : Nat) (hN : 80 ≤ N) (i : Nat) (hi : i < l.length) :
    J9a27954 N i l (cB l i 0) (cB l i 1) (cB l i 2) (cB l i 3) (cB l i 4) (cI l i 5) (cI l i 6) (cI l i 7) = match cB l i 3 && (!cB l i 4 && (!decide (cI l i 5 < 0) && (!(cI l (cI l i 5) 7 != cI l i 6) && quiet l i))) with
      | true => some (.nx l (cB l i 0) (cB l i 1) (cB l i 2) (cB l i 3) (cB l i 4) (cI l i 5) (cI l i 6) (cI l i 7))
      | false => some (.x1 l (cB l i 0) (cB l i 1) (cB l i 2) (cB l i 3) (cB l i 4) (cI l i 5) (cI l i 6) (cI l i 7)) := by
  have hl := (may_ok h).1
  unfold J9a27954
  cases h3 : cB l i 3 with
  | false => rfl
  | true =>
    cases h4 : cB l i 4 with
    | true => rfl
    | false =>
      cases h5 : decide (cI l i 5 < 0) with
      | true => rfl
      | false =>
        simp only [decide_eq_false_iff_not] at h5
        have e1 : decide ((0 : Int) ≤ cI l i 5) = true := by simp; omega
        have e2 : decide (cI l i 5 < (l.length : Int)) = true := by
          have := may_own h hi
          by_cases h0 : i = 0
          · have := this.1 h0; omega
          · have := this.2 (by omega); simp; omega
        simp only [e1, e2, Bool.and_self, tst, ← cI.eq_1, ← cB.eq_1]
        cases h7 : cI l (cI l i 5) 7 != cI l i 6 with
        | true => rfl
        | false =>
          obtain ⟨M, rfl⟩ : ∃ M, N = M + 1 := ⟨N - 1, by omega⟩
          simp only [F22_eq h l.length i (by omega) (by omega) M (by omega)]
          cases quiet l i <;> rfl

theorem L9_all {l : List Row} (h : may l = true) (N : Nat) (hN : 80 ≤ N) : ∀ (k n i : Nat) (acc : List Nat), i + k = l.length → k < n → acc.length ≤ i → L9a218 N n l l.length i l (rowsN acc) = some (.x0 l (rowsN (acc ++ flt (canB l) i k)))
  | 0, n + 1, i, acc, h1, _, _ => by
    have e : decide ((i : Int) < (l.length : Int)) = false := by simp; omega
    show (match decide ((i : Int) < (l.length : Int)) with | true => _ | false => _) = _
    rw [e]; simp [flt]
  | k + 1, n + 1, i, acc, h1, hn, ha => by
    have hl := (may_ok h).1
    have e : decide ((i : Int) < (l.length : Int)) = true := by simp; omega
    have e1 : decide ((0 : Int) ≤ (i : Int)) = true := by simp
    have e4 : decide (((rowsN acc).length + 1) * 8 ≤ 140737488355328) = true := by rw [rowsN_length]; simp; omega
    show (match decide ((i : Int) < (l.length : Int)) with | true => _ | false => _) = _
    simp only [e, e1, Bool.and_self, tst, ← cI.eq_1, ← cB.eq_1]
    rw [J9_eq h N hN i (by omega), wrap_succ (by omega)]
    have ih := L9_all h N hN k n (i + 1)
    have hcan : canB l i = ((cB l i 3 && (!cB l i 4 && (!decide (cI l i 5 < 0) && (!(cI l (cI l i 5) 7 != cI l i 6) && quiet l i)))) && allF (fun c => !(isOf l (cI l i 5) (cI l i 6) c && cB l c 0) || quiet l c) 0 l.length) := by
      unfold canB; simp only [Bool.and_assoc]
    unfold flt
    rw [hcan]
    cases hc : cB l i 3 && (!cB l i 4 && (!decide (cI l i 5 < 0) && (!(cI l (cI l i 5) 7 != cI l i 6) && quiet l i))) with
    | false => simp only [Bool.false_and]; exact ih acc (by omega) (by omega) (by omega)
    | true =>
      have h5 : 0 ≤ cI l i 5 := by
        simp only [Bool.and_eq_true, Bool.not_eq_true', decide_eq_false_iff_not] at hc
        omega
      have h6 : 0 ≤ cI l i 6 := by
        have := may_own h (show i < l.length by omega)
        by_cases h0 : i = 0
        · have := this.1 h0; omega
        · exact (this.2 (by omega)).2.2
      obtain ⟨M, rfl⟩ : ∃ M, N = M + 1 := ⟨N - 1, by omega⟩
      simp only [F23_eq]
      have hall := L9i_all h (M + 1) hN (cI l i 5) (cI l i 6) h6 l.length (M + 1) 0 (by omega) (by omega)
      rw [show ((0 : Nat) : Int) = (0 : Int) from rfl] at hall
      rw [hall]
      cases allF (fun c => !(isOf l (cI l i 5) (cI l i 6) c && cB l c 0) || quiet l c) 0 l.length with
      | false => simp only [Bool.and_false]; exact ih acc (by omega) (by omega) (by omega)
      | true =>
        simp only [Bool.and_self, e4, rowsN_append]
        rw [ih (acc ++ [i]) (by omega) (by omega) (by simp; omega)]
        simp
  | _, 0, _, _, _, h, _ => by omega

def ready (l : List Row) : List Nat := flt (canB l) 0 l.length
theorem F9_eq {N : Nat} (hN : 100 ≤ N) {l : List Row} (h : may l = true) : F9 N l = some (.r (rowsN (ready l))) := by
  obtain ⟨M, rfl⟩ : ∃ M, N = M + 1 := ⟨N - 1, by omega⟩
  have hl := (may_ok h).1
  show (match F16 M l with | none => none | some (.r x) => _) = _
  rw [F16_eq (by omega), h]
  simp only [Bool.not_true]
  show (match L9a218 M M l l.length 0 l (rowsN []) with | none => (none : Option R9) | some (.x0 _ b) => some (.r b)) = _
  rw [show (0 : Int) = ((0 : Nat) : Int) from rfl, L9_all h M (by omega) l.length M 0 [] (by omega) (by omega) (by simp)]
  simp [ready]
theorem F9_not {N : Nat} (hN : 100 ≤ N) {l : List Row} (h : may l = false) : F9 N l = some (.r []) := by
  obtain ⟨M, rfl⟩ : ∃ M, N = M + 1 := ⟨N - 1, by omega⟩
  show (match F16 M l with | none => none | some (.r x) => _) = _
  rw [F16_eq (by omega), h]
  rfl

/-! ### Ready, of the document -/
theorem J33_eq (N : Nat) (l : List Row) (t s : Int) (i : Nat) (hi : i < l.length) : J33a1864 N l t s i = some (.nx (isOf l t s i)) := by
  have e : decide ((i : Int) < (l.length : Int)) = true := by simp; omega
  have e1 : decide ((0 : Int) ≤ (i : Int)) = true := by simp
  unfold J33a1864
  simp only [e, e1, Bool.and_self, tst, ← cI.eq_1, isOf]
  have e5 : decide ((0 : Int) < (i : Int)) = decide (0 < i) := by simp
  rw [e5]
  cases cI l i 5 == t <;> cases cI l i 6 == s <;> simp
theorem L33_all {l : List Row} (hl : l.length ≤ 32) (N : Nat) (t s : Int) : ∀ (k n i : Nat) (acc : List Nat), i + k = l.length → k < n → acc.length ≤ i → L33a58 N n l t s i (rowsN acc) = some (.x0 (rowsN (acc ++ flt (isOf l t s) i k)))
  | 0, n + 1, i, acc, h1, _, _ => by
    have e : decide ((i : Int) < (l.length : Int)) = false := by simp; omega
    show (match decide ((i : Int) < (l.length : Int)) with | true => _ | false => _) = _
    rw [e]; simp [flt]
  | k + 1, n + 1, i, acc, h1, hn, ha => by
    have e : decide ((i : Int) < (l.length : Int)) = true := by simp; omega
    have e4 : decide (((rowsN acc).length + 1) * 8 ≤ 140737488355328) = true := by rw [rowsN_length]; simp; omega
    show (match decide ((i : Int) < (l.length : Int)) with | true => _ | false => _) = _
    simp only [e, tst]
    rw [J33_eq N l t s i (by omega), wrap_succ (by omega)]
    have ih := L33_all hl N t s k n (i + 1)
    unfold flt
    cases isOf l t s i with
    | false => exact ih acc (by omega) (by omega) (by omega)
    | true =>
      simp only [e4, rowsN_append]
      rw [ih (acc ++ [i]) (by omega) (by omega) (by simp; omega)]
      simp
  | _, 0, _, _, _, h, _ => by omega
theorem F33_eq {N : Nat} (hN : 50 ≤ N) {l : List Row} (hl : l.length ≤ 32) (t s : Int) : F33 N l t s = some (.r (rowsN (flt (isOf l t s) 0 l.length))) := by
  obtain ⟨M, rfl⟩ : ∃ M, N = M + 1 := ⟨N - 1, by omega⟩
  show (match L33a58 M M l t s 0 (rowsN []) with | none => (none : Option R33) | some (.x0 b) => some (.r b)) = _
  rw [show (0 : Int) = ((0 : Nat) : Int) from rfl, L33_all hl M t s l.length M 0 [] (by omega) (by omega) (by simp)]
  simp

theorem L24_all {l : List Row} (h : may l = true) (N : Nat) (hN : 80 ≤ N) (xs : List Nat) (hx : xs.length ≤ 1000) (hin : ∀ x ∈ xs, x < l.length) :
    ∀ (k n i : Nat), i + k = xs.length → k < n → L24a250 N n l i (rowsN xs) = match (xs.drop i).all (fun c => !cB l c 0 || quiet l c) with | true => some (.x0 (rowsN xs)) | false => some (.ret false (rowsN xs))
  | 0, n + 1, i, h1, _ => by
    have e : decide ((i : Int) < ((rowsN xs).length : Int)) = false := by rw [rowsN_length]; simp; omega
    show (match decide ((i : Int) < ((rowsN xs).length : Int)) with | true => _ | false => _) = _
    rw [e, List.drop_eq_nil_of_le (by omega)]; rfl
  | k + 1, n + 1, i, h1, hn => by
    have hi : i < xs.length := by omega
    have hm := hin _ (List.getElem_mem hi)
    have hl := (may_ok h).1
    have e : decide ((i : Int) < ((rowsN xs).length : Int)) = true := by rw [rowsN_length]; simp; omega
    have e1 : decide ((0 : Int) ≤ (i : Int)) = true := by simp
    have e2 : decide (i < (rowsN xs).length) = true := by rw [rowsN_length]; simp; omega
    have e3 : decide ((0 : Int) ≤ ((xs[i] : Nat) : Int)) = true := by simp
    have e4 : decide (((xs[i] : Nat) : Int) < (l.length : Int)) = true := by simp; omega
    show (match decide ((i : Int) < ((rowsN xs).length : Int)) with | true => _ | false => _) = _
    simp only [e, e1, Bool.and_self, tst, Int.toNat_natCast, e2, rowsN_get hi, e3, e4]
    rw [List.drop_eq_getElem_cons hi, List.all_cons]
    rw [wrap_succ (by omega)]
    have ih := L24_all h N hN xs hx hin k n (i + 1) (by omega) (by omega)
    have hcb : ((l.getD xs[i] []).getD 0 .top).toB = cB l (xs[i] : Nat) 0 := by simp [cB]
    rw [hcb]
    cases hb : cB l (xs[i] : Nat) 0 with
    | false => simp only [Bool.not_false, Bool.true_or, Bool.true_and]; exact ih
    | true =>
      obtain ⟨M, rfl⟩ : ∃ M, N = M + 1 := ⟨N - 1, by omega⟩
      simp only [F32_eq h l.length xs[i] (by omega) (by omega) M (by omega)]
      cases hq : quiet l xs[i] with
      | false => rfl
      | true => simp only [Bool.not_true, Bool.false_or, Bool.true_and]; exact ih
  | _, 0, _, _, h => by omega

theorem all_flt (m p : Nat → Bool) : ∀ (k i : Nat), (flt m i k).all p = allF (fun c => !m c || p c) i k
  | 0, _ => rfl
  | k + 1, i => by
    simp only [flt, allF]
    cases m i with
    | true => simp [List.all_cons, all_flt m p k]
    | false => simp [all_flt m p k]

theorem J24_eq {l : List Row} (h : may l = true) (N : Nat) (hN : 80 ≤ N) (i : Nat) (hi : i < l.length) :
    J24a14 N l i (cB l i 0) (cB l i 1) (cB l i 2) (cB l i 3) (cB l i 4) (cI l i 5) (cI l i 6) (cI l i 7) = match cB l i 3 && (!cB l i 4 && (!decide (cI l i 5 < 0) && (!(cI l (cI l i 5) 7 != cI l i 6) && quiet l i))) with
      | true => some (.nx (cB l i 0) (cB l i 1) (cB l i 2) (cB l i 3) (cB l i 4) (cI l i 5) (cI l i 6) (cI l i 7))
      | false => some (.ret false (cB l i 0) (cB l i 1) (cB l i 2) (cB l i 3) (cB l i 4) (cI l i 5) (cI l i 6) (cI l i 7)) := by
  have hl := (may_ok h).1
  unfold J24a14
  cases h3 : cB l i 3 with
  | false => rfl
  | true =>
    cases h4 : cB l i 4 with
    | true => rfl
    | false =>
      obtain ⟨M, rfl⟩ : ∃ M, N = M + 1 := ⟨N - 1, by omega⟩
      simp only [F32_eq h l.length i (by omega) (by omega) M (by omega), Bool.not_true, Bool.not_false, Bool.true_and]
      cases hq : quiet l i with
      | false => simp
      | true =>
        cases h5 : decide (cI l i 5 < 0) with
        | true => rfl
        | false =>
          simp only [decide_eq_false_iff_not] at h5
          have e1 : decide ((0 : Int) ≤ cI l i 5) = true := by simp; omega
          have e2 : decide (cI l i 5 < (l.length : Int)) = true := by
            have := may_own h hi
            by_cases h0 : i = 0
            · have := this.1 h0; omega
            · have := this.2 (by omega); simp; omega
          simp only [e1, e2, Bool.and_self, tst, ← cI.eq_1, ← cB.eq_1]
          cases h7 : cI l (cI l i 5) 7 != cI l i 6 <;> rfl

theorem F24_eq {l : List Row} (h : may l = true) (N : Nat) (hN : 100 ≤ N) (i : Nat) (hi : i < l.length) : F24 N l i = some (.r (canB l i)) := by
  obtain ⟨M, rfl⟩ : ∃ M, N = M + 1 := ⟨N - 1, by omega⟩
  have hl := (may_ok h).1
  have e : decide ((i : Int) < (l.length : Int)) = true := by simp; omega
  have e1 : decide ((0 : Int) ≤ (i : Int)) = true := by simp
  show (tst (decide ((0 : Int) ≤ (i : Int)) && decide ((i : Int) < (l.length : Int))) <| _) = _
  simp only [e, e1, Bool.and_self, tst, ← cI.eq_1, ← cB.eq_1]
  rw [J24_eq h M (by omega) i hi]
  have hcan : canB l i = ((cB l i 3 && (!cB l i 4 && (!decide (cI l i 5 < 0) && (!(cI l (cI l i 5) 7 != cI l i 6) && quiet l i)))) && allF (fun c => !(isOf l (cI l i 5) (cI l i 6) c && cB l c 0) || quiet l c) 0 l.length) := by
    unfold canB; simp only [Bool.and_assoc]
  rw [hcan]
  cases hc : cB l i 3 && (!cB l i 4 && (!decide (cI l i 5 < 0) && (!(cI l (cI l i 5) 7 != cI l i 6) && quiet l i))) with
  | false => rfl
  | true =>
    simp only [F33_eq (show 50 ≤ M by omega) hl, Bool.true_and]
    have hlen := flt_length (isOf l (cI l i 5) (cI l i 6)) l.length 0
    have hall := L24_all h M (by omega) (flt (isOf l (cI l i 5) (cI l i 6)) 0 l.length) (by omega) (fun x hx => by have := mem_flt.1 hx; omega) _ M 0 (Nat.zero_add _) (by omega)
    rw [show ((0 : Nat) : Int) = (0 : Int) from rfl] at hall
    rw [hall, List.drop_zero, all_flt]
    rw [allF_congr (q := fun c => !(isOf l (cI l i 5) (cI l i 6) c && cB l c 0) || quiet l c) fun j _ _ => by cases isOf l (cI l i 5) (cI l i 6) j <;> simp]
    cases allF (fun c => !(isOf l (cI l i 5) (cI l i 6) c && cB l c 0) || quiet l c) 0 l.length <;> rfl

theorem L10_all {l : List Row} (h : may l = true) (N : Nat) (hN : 100 ≤ N) : ∀ (k n i : Nat) (acc : List Nat), i + k = l.length → k < n → acc.length ≤ i → L10a122 N n l i (rowsN acc) = some (.x0 (rowsN (acc ++ flt (canB l) i k)))
  | 0, n + 1, i, acc, h1, _, _ => by
    have e : decide ((i : Int) < (l.length : Int)) = false := by simp; omega
    show (match decide ((i : Int) < (l.length : Int)) with | true => _ | false => _) = _
    rw [e]; simp [flt]
  | k + 1, n + 1, i, acc, h1, hn, ha => by
    have hl := (may_ok h).1
    have e : decide ((i : Int) < (l.length : Int)) = true := by simp; omega
    have e4 : decide (((rowsN acc).length + 1) * 8 ≤ 140737488355328) = true := by rw [rowsN_length]; simp; omega
    show (match decide ((i : Int) < (l.length : Int)) with | true => _ | false => _) = _
    simp only [e, tst]
    rw [F24_eq h N hN i (by omega), wrap_succ (by omega)]
    have ih := L10_all h N hN k n (i + 1)
    unfold flt
    cases canB l i with
    | false => exact ih acc (by omega) (by omega) (by omega)
    | true =>
      simp only [e4, rowsN_append]
      rw [ih (acc ++ [i]) (by omega) (by omega) (by simp; omega)]
      simp
  | _, 0, _, _, _, h, _ => by omega
theorem F10_eq {N : Nat} (hN : 110 ≤ N) {l : List Row} (h : may l = true) : F10 N l = some (.r (rowsN (ready l))) := by
  obtain ⟨M, rfl⟩ : ∃ M, N = M + 1 := ⟨N - 1, by omega⟩
  have hl := (may_ok h).1
  show (match F19 M l with | none => none | some (.r x) => _) = _
  rw [F19_eq (by omega), h]
  simp only [Bool.not_true]
  show (match L10a122 M M l 0 (rowsN []) with | none => (none : Option R10) | some (.x0 b) => some (.r b)) = _
  rw [show (0 : Int) = ((0 : Nat) : Int) from rfl, L10_all h M (by omega) l.length M 0 [] (by omega) (by omega) (by simp)]
  simp [ready]
theorem F10_not {N : Nat} (hN : 110 ≤ N) {l : List Row} (h : may l = false) : F10 N l = some (.r []) := by
  obtain ⟨M, rfl⟩ : ∃ M, N = M + 1 := ⟨N - 1, by omega⟩
  show (match F19 M l with | none => none | some (.r x) => _) = _
  rw [F19_eq (by omega), h]
  rfl

/-! ### Same -/
theorem L8_all (N : Nat) (xs : List Nat) (hx : xs.length ≤ 1000) : ∀ (k n i : Nat), i + k = xs.length → k < n → L8a58 N n (rowsN xs) (rowsN xs) i = some .x0
  | 0, n + 1, i, h1, _ => by
    have e : decide ((i : Int) < ((rowsN xs).length : Int)) = false := by rw [rowsN_length]; simp; omega
    show (match decide ((i : Int) < ((rowsN xs).length : Int)) with | true => _ | false => _) = _
    rw [e]
  | k + 1, n + 1, i, h1, hn => by
    have e : decide ((i : Int) < ((rowsN xs).length : Int)) = true := by rw [rowsN_length]; simp; omega
    have e1 : decide ((0 : Int) ≤ (i : Int)) = true := by simp
    show (match decide ((i : Int) < ((rowsN xs).length : Int)) with | true => _ | false => _) = _
    simp only [e, e1, Bool.and_self, tst, bne_self_eq_false]
    rw [wrap_succ (by omega)]
    exact L8_all N xs hx k n (i + 1) (by omega) (by omega)
  | _, 0, _, _, h => by omega
theorem F8_same {N : Nat} (hN : 50 ≤ N) {xs : List Nat} (hx : xs.length ≤ 45) : F8 N (rowsN xs) (rowsN xs) = some (.r true) := by
  obtain ⟨M, rfl⟩ : ∃ M, N = M + 1 := ⟨N - 1, by omega⟩
  show (match ((rowsN xs).length : Int) != ((rowsN xs).length : Int) with | true => _ | false => _) = _
  simp only [bne_self_eq_false]
  rw [show (0 : Int) = ((0 : Nat) : Int) from rfl, L8_all M xs (by omega) xs.length M 0 (by omega) (by omega)]

end Go.Proofs.Ytfggehkiglenjaa

namespace Go.Proofs.Ytfggehkiglenjaa
open Go Go.Eng

def goF (f : Nat → (Nat → Bool) → Nat → Bool) (p : Nat → Bool) : Nat → Nat → (Nat → Bool) → Nat → Bool
  | _, 0, m => m
  | i, k + 1, m => goF f p (i + 1) k (match p i with | true => f i m | false => m)
theorem goF_congr {f g : Nat → (Nat → Bool) → Nat → Bool} {p : Nat → Bool} : ∀ {k i : Nat} (m : Nat → Bool), (∀ c m, i ≤ c → c < i + k → p c = true → f c m = g c m) → goF f p i k m = goF g p i k m
  | 0, _, _, _ => rfl
  | k + 1, i, m, h => by
    simp only [goF]
    have : (match p i with | true => f i m | false => m) = (match p i with | true => g i m | false => m) := by
      cases hp : p i with
      | true => exact h i m (Nat.le_refl _) (by omega) hp
      | false => rfl
    rw [this]
    exact goF_congr _ fun c m h1 h2 h3 => h c m (by omega) (by omega) h3

/-- Born, not done, not aborted. -/
def okb (l : List Row) (t : Nat) : Bool := cB l t 0 && (!cB l t 1 && !cB l t 2)
def abF (l : List Row) : Nat → Nat → (Nat → Bool) → Nat → Bool
  | 0, _, m => m
  | k + 1, t, m => match m t || !okb l t with | true => m | false => goF (abF l k) (child l t) 0 l.length (upd m t)
theorem child_gt {l : List Row} (h : may l = true) {t : Int} {c : Nat} (hc : c < l.length) (hk : child l t c = true) : 0 < c ∧ 0 ≤ t ∧ t < c := by
  simp only [child, Bool.and_eq_true, decide_eq_true_eq, beq_iff_eq] at hk
  have := (may_own h hc).2 hk.1
  omega
theorem abF_more {l : List Row} (h : may l = true) : ∀ (k k' t : Nat) (m : Nat → Bool), t < l.length → l.length ≤ t + k → l.length ≤ t + k' → abF l k t m = abF l k' t m
  | 0, _, t, _, h0, h1, _ => by omega
  | k + 1, 0, t, _, h0, _, h2 => by omega
  | k + 1, k' + 1, t, m, h0, h1, h2 => by
    simp only [abF]
    rw [goF_congr (upd m t) fun c m' h3 h4 h5 => ?_]
    have := child_gt h (by omega) h5
    exact abF_more h k k' c m' (by omega) (by omega) (by omega)
/-- What is aborted when task t is, and m is already. -/
def ab (l : List Row) (t : Nat) (m : Nat → Bool) : Nat → Bool := abF l l.length t m
theorem ab_eq {l : List Row} (h : may l = true) {t : Nat} (ht : t < l.length) (m : Nat → Bool) : ab l t m = match m t || !okb l t with | true => m | false => goF (ab l) (child l t) 0 l.length (upd m t) := by
  unfold ab
  rw [abF_more h l.length (l.length + 1) t m ht (by omega) (by omega), abF]

theorem L25_all {l : List Row} (h : may l = true) (N : Nat) (t : Int) (rec : TF25) (hrec : ∀ (c : Nat) (m : Nat → Bool), c < l.length → child l t c = true → rec c l (arr m) = some (.r l (arr (ab l c m)))) :
    ∀ (k n i : Nat) (m : Nat → Bool), i + k = l.length → k < n → L25i30f31a6 rec N n l l.length i t (-1) l (arr m) = some (.x0 t (-1) l (arr (goF (ab l) (child l t) i k m)))
  | 0, n + 1, i, m, h1, _ => by
    have e : decide ((i : Int) < (l.length : Int)) = false := by simp; omega
    show (match decide ((i : Int) < (l.length : Int)) with | true => _ | false => _) = _
    rw [e]; rfl
  | k + 1, n + 1, i, m, h1, hn => by
    have hl := (may_ok h).1
    have e : decide ((i : Int) < (l.length : Int)) = true := by simp; omega
    have e1 : decide ((0 : Int) ≤ (i : Int)) = true := by simp
    have e2 : decide ((-1 : Int) < 0) = true := rfl
    have e5 : decide ((0 : Int) < (i : Int)) = decide (0 < i) := by simp
    show (match decide ((i : Int) < (l.length : Int)) with | true => _ | false => _) = _
    simp only [e, e1, e2, Bool.and_self, tst, ← cI.eq_1]
    rw [wrap_succ (by omega), e5]
    have ih := L25_all h N t rec hrec k n (i + 1)
    unfold goF
    have hof : child l t i = (decide (0 < i) && cI l i 5 == t) := rfl
    cases hp : decide (0 < i) with
    | false => rw [hof, hp]; simp only [Bool.false_and]; exact ih m (by omega) (by omega)
    | true =>
      cases hq : cI l i 5 == t with
      | false => rw [hof, hp, hq]; simp only [Bool.and_false]; exact ih m (by omega) (by omega)
      | true =>
        have hc : child l t i = true := by rw [hof, hp, hq]; rfl
        rw [hc]
        simp only
        rw [hrec i m (by omega) hc]
        simp only
        exact ih _ (by omega) (by omega)
  | _, 0, _, _, _, h => by omega

theorem J25_in (rec : TF25) (N : Nat) {l : List Row} (hl : l.length ≤ 32) (t : Nat) (ht : t < l.length) (m : Nat → Bool) : J25a2 rec N t l (arr m) = match m t || !okb l t with | true => some (.ret l (arr m)) | false => some (.nx l (arr m)) := by
  have e0 : decide ((t : Int) < 0) = false := decide_eq_false (by omega)
  have e : decide ((l.length : Int) ≤ (t : Int)) = false := by simp; omega
  have e1 : decide ((0 : Int) ≤ (t : Int)) = true := by simp
  have e2 : decide ((t : Int) < (32 : Int)) = true := by simp; omega
  have e3 : decide (0 + t * 1 + 1 ≤ 32) = true := decide_eq_true (by omega)
  have e4 : decide ((t : Int) < (l.length : Int)) = true := by simp; omega
  unfold J25a2
  simp only [e0, e, e1, e2, e4, Bool.and_self, tst, ← cB.eq_1]
  simp only [Int.toNat_natCast, e3, arr_get m (show t < 32 by omega), okb]
  cases m t <;> cases cB l t 0 <;> cases cB l t 1 <;> cases cB l t 2 <;> rfl
theorem J25_out (rec : TF25) (N : Nat) {l : List Row} (t : Int) (ht : t < 0 ∨ l.length ≤ t) (b : List AV) : J25a2 rec N t l b = some (.ret l b) := by
  unfold J25a2
  by_cases h : t < 0
  · have e0 : decide (t < 0) = true := by simpa using h
    simp only [e0]
  · have e0 : decide (t < 0) = false := by simpa using h
    have e : decide ((l.length : Int) ≤ t) = true := by simp; omega
    simp only [e0, e]

theorem F25_eq {l : List Row} (h : may l = true) : ∀ (d t : Nat), t < l.length → l.length ≤ t + d → ∀ (N : Nat), 40 + d ≤ N → ∀ (m : Nat → Bool), F25 (N + 1) t l (arr m) = some (.r l (arr (ab l t m))) := by
  intro d
  induction d with
  | zero => intro t h0 h1; omega
  | succ d ih =>
    intro t h0 h1 N hN m
    have hl := (may_ok h).1
    obtain ⟨M, rfl⟩ : ∃ M, N = M + 1 := ⟨N - 1, by omega⟩
    have e1 : decide ((0 : Int) ≤ (t : Int)) = true := by simp
    have e2 : decide ((t : Int) < (32 : Int)) = true := by simp; omega
    have e3 : decide (0 + t * 1 + 1 ≤ 32) = true := decide_eq_true (by omega)
    rw [ab_eq h h0]
    show (match J25a2 (F25 (M + 1)) (M + 1) t l (arr m) with | none => (none : Option R25) | some (.nx _ _) => _ | some (.ret b c) => some (.r b c)) = _
    rw [J25_in _ _ hl t h0]
    cases hm : m t || !okb l t with
    | true => rfl
    | false =>
      simp only [e1, e2, Bool.and_self, Bool.and_true, tst, F23_eq]
      simp only [Int.toNat_natCast, e3]
      rw [arr_set m (by omega), show (0 : Int) = ((0 : Nat) : Int) from rfl, L25_all h (M + 1) t (F25 (M + 1)) (fun c m hc hk => ?_) l.length (M + 1) 0 (upd m t) (by omega) (by omega)]
      have := child_gt h hc hk
      exact ih c (by omega) (by omega) M (by omega) m
theorem F25_out {N : Nat} {l : List Row} (t : Int) (ht : t < 0 ∨ l.length ≤ t) (b : List AV) : F25 (N + 1) t l b = some (.r l b) := by
  show (match J25a2 (F25 N) N t l b with | none => (none : Option R25) | some (.nx _ _) => _ | some (.ret b c) => some (.r b c)) = _
  rw [J25_out _ _ t ht]

/-- Task number i of a list. -/
def at1 (xs : List Row) (i : Nat) : Int := ((xs.getD i []).getD 0 .top).toI
/-- What is aborted with a list's tasks. -/
def abL (l xs : List Row) : Nat → Nat → (Nat → Bool) → Nat → Bool
  | _, 0, m => m
  | i, k + 1, m => abL l xs (i + 1) k (match decide (0 ≤ at1 xs i) && decide (at1 xs i < l.length) with | true => ab l (at1 xs i).toNat m | false => m)

theorem L11_all {l : List Row} (h : may l = true) (N : Nat) (hN : 80 ≤ N) (xs : List Row) (hx : xs.length ≤ 1000) : ∀ (k n i : Nat) (m : Nat → Bool), i + k = xs.length → k < n → L11a506 N n xs xs.length i l (arr m) = some (.x0 l (arr (abL l xs i k m)))
  | 0, n + 1, i, m, h1, _ => by
    have e : decide ((i : Int) < (xs.length : Int)) = false := by simp; omega
    show (match decide ((i : Int) < (xs.length : Int)) with | true => _ | false => _) = _
    rw [e]; rfl
  | k + 1, n + 1, i, m, h1, hn => by
    have hl := (may_ok h).1
    have e : decide ((i : Int) < (xs.length : Int)) = true := by simp; omega
    have e1 : decide ((0 : Int) ≤ (i : Int)) = true := by simp
    show (match decide ((i : Int) < (xs.length : Int)) with | true => _ | false => _) = _
    simp only [e, e1, Bool.and_self, tst, Int.toNat_natCast, ← at1.eq_1]
    rw [wrap_succ (by omega)]
    have ih := L11_all h N hN xs hx k n (i + 1)
    obtain ⟨M, rfl⟩ : ∃ M, N = M + 1 := ⟨N - 1, by omega⟩
    unfold abL
    generalize at1 xs i = t
    by_cases hin : 0 ≤ t ∧ t < l.length
    · obtain ⟨u, rfl⟩ : ∃ u : Nat, t = u := ⟨t.toNat, by omega⟩
      have e3 : decide ((0 : Int) ≤ (u : Int)) = true := by simp
      have e4 : decide ((u : Int) < (l.length : Int)) = true := by simp; omega
      rw [F25_eq h l.length u (by omega) (by omega) M (by omega) m]
      simp only [e3, e4, Bool.and_self, Int.toNat_natCast]
      exact ih _ (by omega) (by omega)
    · have e3 : (decide ((0 : Int) ≤ t) && decide (t < (l.length : Int))) = false := by
        simp; omega
      rw [F25_out t (by omega) (arr m), e3]
      simp only
      exact ih _ (by omega) (by omega)
  | _, 0, _, _, _, h => by omega

def aborts (l xs : List Row) : Nat → Bool := abL l xs 0 xs.length fun _ => false
theorem F11_eq {N : Nat} (hN : 100 ≤ N) {l : List Row} (h : may l = true) {xs : List Row} (hx : xs.length ≤ 90) : F11 N l xs = some (.r (rowsN (flt (aborts l xs) 0 l.length))) := by
  obtain ⟨M, rfl⟩ : ∃ M, N = M + 1 := ⟨N - 1, by omega⟩
  have hl := (may_ok h).1
  show (match F16 M l with | none => none | some (.r x) => _) = _
  rw [F16_eq (by omega), h]
  simp only [Bool.not_true]
  show (match L11a506 M M xs xs.length 0 l (arr fun _ => false) with | none => (none : Option R11) | some (.x0 _ _) => _) = _
  rw [show (0 : Int) = ((0 : Nat) : Int) from rfl, L11_all h M (by omega) xs (by omega) xs.length M 0 _ (by omega) (by omega)]
  show (match F26 M l (aborts l xs 0) (aborts l xs 1) (aborts l xs 2) (aborts l xs 3) (aborts l xs 4) (aborts l xs 5) (aborts l xs 6) (aborts l xs 7) (aborts l xs 8) (aborts l xs 9) (aborts l xs 10) (aborts l xs 11) (aborts l xs 12) (aborts l xs 13) (aborts l xs 14) (aborts l xs 15) (aborts l xs 16) (aborts l xs 17) (aborts l xs 18) (aborts l xs 19) (aborts l xs 20) (aborts l xs 21) (aborts l xs 22) (aborts l xs 23) (aborts l xs 24) (aborts l xs 25) (aborts l xs 26) (aborts l xs 27) (aborts l xs 28) (aborts l xs 29) (aborts l xs 30) (aborts l xs 31) with | none => (none : Option R11) | some (.r b) => some (.r b)) = _
  rw [F26_eq (by omega) hl]
theorem F11_not {N : Nat} (hN : 100 ≤ N) {l : List Row} (h : may l = false) (xs : List Row) : F11 N l xs = some (.r []) := by
  obtain ⟨M, rfl⟩ : ∃ M, N = M + 1 := ⟨N - 1, by omega⟩
  show (match F16 M l with | none => none | some (.r x) => _) = _
  rw [F16_eq (by omega), h]
  rfl

/-! ### Abort, of the document -/
def rowsB (k : Nat) (m : Nat → Bool) : List Row := (List.range k).map fun i => [AV.bool (m i)]
theorem rowsB_length (k : Nat) (m : Nat → Bool) : (rowsB k m).length = k := by simp [rowsB]
theorem rowsB_get {k : Nat} (m : Nat → Bool) {i : Nat} (h : i < k) : (((rowsB k m).getD i []).getD 0 .top).toB = m i := by
  simp [rowsB, List.getD, List.getElem?_map, List.getElem?_range h, AV.toB]
theorem rowsB_set {k : Nat} (m : Nat → Bool) {i : Nat} (h : i < k) : (rowsB k m).set i (Eng.setAt ((rowsB k m).getD i []) 0 [AV.bool true]) = rowsB k (upd m i) := by
  have e : Eng.setAt ((rowsB k m).getD i []) 0 [AV.bool true] = [AV.bool true] := by
    simp [rowsB, List.getD, List.getElem?_map, List.getElem?_range h, Eng.setAt]
  rw [e]
  apply List.ext_getElem (by simp [rowsB])
  intro j h1 h2
  simp only [List.length_set, rowsB_length] at h1
  simp only [List.getElem_set, rowsB, List.getElem_map, List.getElem_range, upd]
  by_cases e : i = j
  · subst e; simp
  · have : (j == i) = false := by simp; omega
    simp [e, this]
theorem rowsB_none (k : Nat) : List.replicate k [AV.bool false] = rowsB k fun _ => false := by
  apply List.ext_getElem (by simp [rowsB])
  intro j h1 h2
  simp [rowsB]

theorem L28_all {l : List Row} (h : may l = true) (N : Nat) (t : Nat) (rec : TF28) (hrec : ∀ (c : Nat) (m : Nat → Bool), c < l.length → child l t c = true → rec l c (rowsB l.length m) = some (.r (rowsB l.length (ab l c m)))) :
    ∀ (k n i : Nat) (m : Nat → Bool), i + k = l.length → k < n → L28a62 rec N n l t i (rowsB l.length m) = some (.x0 (rowsB l.length (goF (ab l) (child l t) i k m)))
  | 0, n + 1, i, m, h1, _ => by
    have e : decide ((i : Int) < (l.length : Int)) = false := by simp; omega
    show (match decide ((i : Int) < (l.length : Int)) with | true => _ | false => _) = _
    rw [e]; rfl
  | k + 1, n + 1, i, m, h1, hn => by
    have hl := (may_ok h).1
    have e : decide ((i : Int) < (l.length : Int)) = true := by simp; omega
    have e1 : decide ((0 : Int) ≤ (i : Int)) = true := by simp
    show (match decide ((i : Int) < (l.length : Int)) with | true => _ | false => _) = _
    simp only [e, e1, Bool.and_self, tst, ← cI.eq_1]
    rw [wrap_succ (by omega)]
    have ih := L28_all h N t rec hrec k n (i + 1)
    unfold goF
    have hof : child l t i = (decide (0 < i) && cI l i 5 == t) := rfl
    cases hq : cI l i 5 == t with
    | false => rw [hof, hq]; simp only [Bool.and_false]; exact ih m (by omega) (by omega)
    | true =>
      have hp : decide (0 < i) = true := by
        simp only [beq_iff_eq] at hq
        by_cases h0 : i = 0
        · have := (may_own h (show i < l.length by omega)).1 h0
          omega
        · simp; omega
      have hc : child l t i = true := by rw [hof, hp, hq]; rfl
      rw [hc]
      simp only
      rw [hrec i m (by omega) hc]
      simp only
      exact ih _ (by omega) (by omega)
  | _, 0, _, _, _, h => by omega

theorem J28_in (rec : TF28) (N : Nat) {l : List Row} (t : Nat) (ht : t < l.length) (m : Nat → Bool) (b3 b4 : Bool) (o s a : Int) : J28a6 rec (N + 1) t (rowsB l.length m) (cB l t 0) (cB l t 1) (cB l t 2) b3 b4 o s a = match m t || !okb l t with | true => some (.ret (rowsB l.length m) (cB l t 0) (cB l t 1) (cB l t 2) b3 b4 o s a) | false => some (.nx (rowsB l.length m) (cB l t 0) (cB l t 1) (cB l t 2) b3 b4 o s a) := by
  have e1 : decide ((0 : Int) ≤ (t : Int)) = true := by simp
  have e4 : decide ((t : Int) < ((rowsB l.length m).length : Int)) = true := by rw [rowsB_length]; simp; omega
  have e5 : decide (t < (rowsB l.length m).length) = true := by rw [rowsB_length]; simp; omega
  unfold J28a6
  simp only [F30_eq, e1, e4, Bool.and_self, tst, Int.toNat_natCast, e5, rowsB_get m ht, okb]
  cases m t <;> cases cB l t 0 <;> cases cB l t 1 <;> cases cB l t 2 <;> rfl

theorem F28_eq {l : List Row} (h : may l = true) : ∀ (d t : Nat), t < l.length → l.length ≤ t + d → ∀ (N : Nat), 40 + d ≤ N → ∀ (m : Nat → Bool), F28 (N + 1) l t (rowsB l.length m) = some (.r (rowsB l.length (ab l t m))) := by
  intro d
  induction d with
  | zero => intro t h0 h1; omega
  | succ d ih =>
    intro t h0 h1 N hN m
    have hl := (may_ok h).1
    obtain ⟨M, rfl⟩ : ∃ M, N = M + 1 := ⟨N - 1, by omega⟩
    have e1 : decide ((0 : Int) ≤ (t : Int)) = true := by simp
    have e2 : decide ((t : Int) < (l.length : Int)) = true := by simp; omega
    rw [ab_eq h h0]
    show (tst (decide ((0 : Int) ≤ (t : Int)) && decide ((t : Int) < (l.length : Int))) <| _) = _
    simp only [e1, e2, Bool.and_self, tst, ← cI.eq_1, ← cB.eq_1]
    rw [J28_in _ _ t h0]
    cases hm : m t || !okb l t with
    | true => rfl
    | false =>
      have e4 : decide ((t : Int) < ((rowsB l.length m).length : Int)) = true := by rw [rowsB_length]; simp; omega
      have e5 : decide (t < (rowsB l.length m).length) = true := by rw [rowsB_length]; simp; omega
      simp only [e1, e4, Bool.and_self, Int.toNat_natCast, e5, rowsB_set m h0]
      rw [show (0 : Int) = ((0 : Nat) : Int) from rfl, L28_all h (M + 1) t (F28 (M + 1)) (fun c m hc hk => ?_) l.length (M + 1) 0 (upd m t) (by omega) (by omega)]
      have := child_gt h hc hk
      exact ih c (by omega) (by omega) M (by omega) m

theorem F27_eq (N : Nat) (l : List Row) (t : Int) : F27 (N + 1) l t = some (.r (decide ((0 : Int) ≤ t) && decide (t < (l.length : Int)))) := by
  show (match decide ((0 : Int) ≤ t) with | true => _ | false => _) = _
  cases decide ((0 : Int) ≤ t) <;> rfl
theorem L12_all {l : List Row} (h : may l = true) (N : Nat) (hN : 80 ≤ N) (xs : List Row) (hx : xs.length ≤ 1000) : ∀ (k n i : Nat) (m : Nat → Bool), i + k = xs.length → k < n → L12a122 N n l xs i (rowsB l.length m) = some (.x0 (rowsB l.length (abL l xs i k m)))
  | 0, n + 1, i, m, h1, _ => by
    have e : decide ((i : Int) < (xs.length : Int)) = false := by simp; omega
    show (match decide ((i : Int) < (xs.length : Int)) with | true => _ | false => _) = _
    rw [e]; rfl
  | k + 1, n + 1, i, m, h1, hn => by
    have hl := (may_ok h).1
    have e : decide ((i : Int) < (xs.length : Int)) = true := by simp; omega
    have e1 : decide ((0 : Int) ≤ (i : Int)) = true := by simp
    obtain ⟨M, rfl⟩ : ∃ M, N = M + 1 := ⟨N - 1, by omega⟩
    show (match decide ((i : Int) < (xs.length : Int)) with | true => _ | false => _) = _
    simp only [e, e1, Bool.and_self, tst, Int.toNat_natCast, ← at1.eq_1, F27_eq]
    rw [wrap_succ (by omega)]
    have ih := L12_all h (M + 1) hN xs hx k n (i + 1)
    unfold abL
    generalize at1 xs i = t
    cases hd : decide ((0 : Int) ≤ t) && decide (t < (l.length : Int)) with
    | false => simp only; exact ih _ (by omega) (by omega)
    | true =>
      simp only [Bool.and_eq_true, decide_eq_true_eq] at hd
      obtain ⟨u, rfl⟩ : ∃ u : Nat, t = u := ⟨t.toNat, by omega⟩
      simp only
      rw [F28_eq h l.length u (by omega) (by omega) M (by omega) m]
      simp only [Int.toNat_natCast]
      exact ih _ (by omega) (by omega)
  | _, 0, _, _, _, h => by omega
theorem L12b_all (N : Nat) (l : List Row) (hl : l.length ≤ 32) (m : Nat → Bool) : ∀ (k n i : Nat) (acc : List Nat), i + k = l.length → k < n → acc.length ≤ i → L12a506 N n l i (rowsB l.length m) (rowsN acc) = some (.x2 (rowsB l.length m) (rowsN (acc ++ flt m i k)))
  | 0, n + 1, i, acc, h, _, _ => by
    have e : decide ((i : Int) < (l.length : Int)) = false := by simp; omega
    show (match decide ((i : Int) < (l.length : Int)) with | true => _ | false => _) = _
    rw [e]; simp [flt]
  | k + 1, n + 1, i, acc, h, hn, ha => by
    have e : decide ((i : Int) < (l.length : Int)) = true := by simp; omega
    have e1 : decide ((0 : Int) ≤ (i : Int)) = true := by simp
    have e3 : decide ((i : Int) < ((rowsB l.length m).length : Int)) = true := by rw [rowsB_length]; simp; omega
    have e6 : decide (i < (rowsB l.length m).length) = true := by rw [rowsB_length]; simp; omega
    have e4 : decide (((rowsN acc).length + 1) * 8 ≤ 140737488355328) = true := by rw [rowsN_length]; simp; omega
    show (match decide ((i : Int) < (l.length : Int)) with | true => _ | false => _) = _
    simp only [e, e1, e3, Bool.and_self, tst, Int.toNat_natCast, e6, rowsB_get m (show i < l.length by omega), e4, rowsN_append]
    rw [wrap_succ (by omega)]
    have ih := L12b_all N l hl m k n (i + 1)
    unfold flt
    cases m i with
    | false => exact ih acc (by omega) (by omega) (by omega)
    | true =>
      simp only
      rw [ih (acc ++ [i]) (by omega) (by omega) (by simp; omega)]
      simp
  | _, 0, _, _, _, h, _ => by omega
theorem F12_eq {N : Nat} (hN : 100 ≤ N) {l : List Row} (h : may l = true) {xs : List Row} (hx : xs.length ≤ 45) : F12 N l xs = some (.r (rowsN (flt (aborts l xs) 0 l.length))) := by
  obtain ⟨M, rfl⟩ : ∃ M, N = M + 1 := ⟨N - 1, by omega⟩
  have hl := (may_ok h).1
  show (match F19 M l with | none => none | some (.r x) => _) = _
  rw [F19_eq (by omega), h]
  have e1 : decide ((0 : Int) ≤ (l.length : Int)) = true := by simp
  have e2 : decide ((l.length : Int) ≤ (l.length : Int)) = true := by simp
  have e3 : decide ((l.length : Int) * 1 ≤ 140737488355328) = true := by simp; omega
  simp only [Bool.not_true, e1, e2, e3, Bool.and_self, tst, Int.toNat_natCast, rowsB_none]
  rw [show (0 : Int) = ((0 : Nat) : Int) from rfl, L12_all h M (by omega) xs (by omega) xs.length M 0 _ (by omega) (by omega)]
  show (match L12a506 M M l ((0 : Nat) : Int) (rowsB l.length (aborts l xs)) (rowsN []) with | none => (none : Option R12) | some (.x2 _ b) => some (.r b)) = _
  rw [L12b_all M l hl _ l.length M 0 [] (by omega) (by omega) (by simp)]
  simp
theorem F12_not {N : Nat} (hN : 100 ≤ N) {l : List Row} (h : may l = false) (xs : List Row) : F12 N l xs = some (.r []) := by
  obtain ⟨M, rfl⟩ : ∃ M, N = M + 1 := ⟨N - 1, by omega⟩
  show (match F19 M l with | none => none | some (.r x) => _) = _
  rw [F19_eq (by omega), h]
  rfl

end Go.Proofs.Ytfggehkiglenjaa

namespace Go.Proofs.Ytfggehkiglenjaa
open Go Go.Eng
theorem take_le (x : List Row) : (x.take (Eng.imin (x.length : Int) 40).toNat).length ≤ 40 := by
  rw [List.length_take]; unfold Eng.imin; split <;> omega
theorem imin_bounds (n : Nat) : (decide ((0 : Int) ≤ (Eng.imin (n : Int) 40)) && decide ((Eng.imin (n : Int) 40) ≤ (n : Int)) && decide ((n : Int) ≤ (n : Int))) = true := by
  unfold Eng.imin; split <;> simp <;> omega
theorem aborts_true (x y : List Row) : F3 200 x y = some (.r true) := by
  show (tst (decide ((0 : Int) ≤ (Eng.imin (x.length : Int) 40)) && decide ((Eng.imin (x.length : Int) 40) ≤ (x.length : Int)) && decide ((x.length : Int) ≤ (x.length : Int))) <|
    tst (decide ((0 : Int) ≤ (Eng.imin (y.length : Int) 40)) && decide ((Eng.imin (y.length : Int) 40) ≤ (y.length : Int)) && decide ((y.length : Int) ≤ (y.length : Int))) <| _) = _
  simp only [imin_bounds, tst]
  have hy := take_le y
  generalize x.take (Eng.imin (x.length : Int) 40).toNat = l at *
  generalize y.take (Eng.imin (y.length : Int) 40).toNat = xs at *
  cases h : may l with
  | true =>
    have hl := (may_ok h).1
    have h1 := flt_length (canB l) l.length 0
    have h2 := flt_length (aborts l xs) l.length 0
    rw [F9_eq (by omega) h, F10_eq (by omega) h]
    simp only
    rw [F8_same (by omega) (by unfold ready; omega)]
    simp only
    rw [F11_eq (by omega) h (by omega), F12_eq (by omega) h (by omega)]
    simp only
    rw [F8_same (by omega) (by omega)]
    simp only [works_true]
  | false =>
    rw [F9_not (by omega) h, F10_not (by omega) h]
    simp only
    rw [show ([] : List Row) = rowsN [] from rfl, F8_same (by omega) (by simp)]
    simp only
    rw [F11_not (by omega) h, F12_not (by omega) h]
    simp only
    rw [show ([] : List Row) = rowsN [] from rfl, F8_same (by omega) (by simp)]
    simp only [works_true]
end Go.Proofs.Ytfggehkiglenjaa

namespace Go.Proofs.Ytfggehkiglenjaa
open Go Go.Eng

theorem upd_iff {m : Nat → Bool} {i j : Nat} : upd m i j = true ↔ m j = true ∨ j = i := by simp [upd]
theorem goF_ind {P : (Nat → Bool) → Prop} {f : Nat → (Nat → Bool) → Nat → Bool} {p : Nat → Bool} : ∀ {k i : Nat} {m : Nat → Bool}, (∀ c m, i ≤ c → c < i + k → p c = true → P m → P (f c m)) → P m → P (goF f p i k m)
  | 0, _, _, _, h => h
  | k + 1, i, m, hs, h => by
    simp only [goF]
    refine goF_ind (fun c m h1 h2 h3 => hs c m (by omega) (by omega) h3) ?_
    cases hp : p i with
    | true => exact hs i m (Nat.le_refl _) (by omega) hp h
    | false => exact h
theorem ab_mono {l : List Row} (h : may l = true) (j : Nat) : ∀ (d t : Nat), t < l.length → l.length ≤ t + d → ∀ (m : Nat → Bool), m j = true → ab l t m j = true := by
  intro d
  induction d with
  | zero => intro t h0 h1; omega
  | succ d ih =>
    intro t h0 h1 m hm
    rw [ab_eq h h0]
    cases hc : m t || !okb l t with
    | true => exact hm
    | false =>
      refine goF_ind (P := fun m => m j = true) (fun c m' h2 h3 h4 h5 => ?_) (upd_iff.2 (.inl hm))
      have := child_gt h (by omega) h4
      exact ih c (by omega) (by omega) m' h5
theorem ab_mono' {l : List Row} (h : may l = true) {t : Nat} (ht : t < l.length) {m : Nat → Bool} {j : Nat} (hm : m j = true) : ab l t m j = true := ab_mono h j l.length t ht (by omega) m hm
theorem ab_self {l : List Row} (h : may l = true) {t : Nat} (ht : t < l.length) (ho : okb l t = true) (m : Nat → Bool) : ab l t m t = true := by
  rw [ab_eq h ht]
  cases hm : m t with
  | true => simpa using hm
  | false =>
    rw [ho]
    refine goF_ind (P := fun m => m t = true) (fun c m' h2 h3 h4 h5 => ab_mono' h (by omega) h5) (upd_iff.2 (.inr rfl))
theorem ab_id {l : List Row} (h : may l = true) {t : Nat} (ht : t < l.length) {m : Nat → Bool} (hm : m t = true ∨ okb l t = false) : ab l t m = m := by
  rw [ab_eq h ht]
  have : (m t || !okb l t) = true := by rcases hm with hm | hm <;> simp [hm]
  rw [this]

structure Good (l : List Row) (G : Nat → Prop) (m : Nat → Bool) : Prop where
  ok : ∀ j, m j = true → j < l.length ∧ okb l j = true
  why : ∀ j, m j = true → G j ∨ (0 < j ∧ ∃ p : Nat, cI l j 5 = p ∧ m p = true)
theorem ab_good {l : List Row} (h : may l = true) {G : Nat → Prop} : ∀ (d t : Nat), t < l.length → l.length ≤ t + d → ∀ (m : Nat → Bool), (G t ∨ (0 < t ∧ ∃ p : Nat, cI l t 5 = p ∧ m p = true)) → Good l G m → Good l G (ab l t m) := by
  intro d
  induction d with
  | zero => intro t h0 h1; omega
  | succ d ih =>
    intro t h0 h1 m hw hg
    rw [ab_eq h h0]
    cases hc : m t || !okb l t with
    | true => exact hg
    | false =>
      simp only [Bool.or_eq_false_iff, Bool.not_eq_false'] at hc
      refine (goF_ind (P := fun m => Good l G m ∧ m t = true) (fun c m' h2 h3 h4 h5 => ?_) ⟨⟨fun j hj => ?_, fun j hj => ?_⟩, upd_iff.2 (.inr rfl)⟩).1
      · have hgt := child_gt h (by omega) h4
        have ho : cI l c 5 = (t : Int) := by
          simp only [child, Bool.and_eq_true, decide_eq_true_eq, beq_iff_eq] at h4
          exact h4.2
        exact ⟨ih c (by omega) (by omega) m' (.inr ⟨hgt.1, t, ho, h5.2⟩) h5.1, ab_mono' h (by omega) h5.2⟩
      · rcases upd_iff.1 hj with hj | hj
        · exact hg.ok j hj
        · subst hj; exact ⟨h0, hc.2⟩
      · rcases upd_iff.1 hj with hj | hj
        · exact (hg.why j hj).imp id fun ⟨h1, p, h2, h3⟩ => ⟨h1, p, h2, upd_iff.2 (.inl h3)⟩
        · subst hj
          exact hw.imp id fun ⟨h1, p, h2, h3⟩ => ⟨h1, p, h2, upd_iff.2 (.inl h3)⟩

def Cl (l : List Row) (P : Nat → Prop) (m : Nat → Bool) : Prop := ∀ j, j < l.length → 0 < j → okb l j = true → ∀ p : Nat, cI l j 5 = p → m p = true → P p ∨ m j = true
theorem goF_marks {l : List Row} (h : may l = true) (p : Nat → Bool) {c : Nat} (hp : p c = true) (ho : okb l c = true) : ∀ {k i : Nat} (m : Nat → Bool), i + k ≤ l.length → i ≤ c → c < i + k → goF (ab l) p i k m c = true
  | 0, i, m, _, h1, h2 => by omega
  | k + 1, i, m, hk, h1, h2 => by
    simp only [goF]
    by_cases e : c = i
    · subst e
      rw [hp]
      exact goF_ind (P := fun m => m c = true) (fun c' m' h3 h4 h5 h6 => ab_mono' h (by omega) h6) (ab_self h (by omega) ho m)
    · exact goF_marks h p hp ho _ (by omega) (by omega) (by omega)
theorem ab_cl {l : List Row} (h : may l = true) : ∀ (d t : Nat), t < l.length → l.length ≤ t + d → ∀ (P : Nat → Prop) (m : Nat → Bool), Cl l P m → Cl l P (ab l t m) := by
  intro d
  induction d with
  | zero => intro t h0 h1; omega
  | succ d ih =>
    intro t h0 h1 P m hcl
    rw [ab_eq h h0]
    cases hc : m t || !okb l t with
    | true => exact hcl
    | false =>
      have hloop : Cl l (fun p => P p ∨ p = t) (goF (ab l) (child l t) 0 l.length (upd m t)) := by
        refine goF_ind (P := Cl l (fun p => P p ∨ p = t)) (fun c m' h2 h3 h4 h5 => ?_) (fun j hj h2 h3 p h4 h5 => ?_)
        · have := child_gt h (by omega) h4
          exact ih c (by omega) (by omega) _ m' h5
        · rcases upd_iff.1 h5 with h5 | h5
          · rcases hcl j hj h2 h3 p h4 h5 with h6 | h6
            · exact .inl (.inl h6)
            · exact .inr (upd_iff.2 (.inl h6))
          · exact .inl (.inr h5)
      intro j hj h2 h3 p h4 h5
      rcases hloop j hj h2 h3 p h4 h5 with (h6 | h6) | h6
      · exact .inl h6
      · subst h6
        right
        refine goF_marks h (child l p) ?_ h3 _ (by omega) (by omega) (by omega)
        simp only [child, Bool.and_eq_true, decide_eq_true_eq, beq_iff_eq]
        exact ⟨h2, h4⟩
      · exact .inr h6

theorem abL_ind {P : (Nat → Bool) → Prop} {l xs : List Row} : ∀ {k i : Nat} {m : Nat → Bool}, (∀ c (t : Nat) m, i ≤ c → c < i + k → at1 xs c = t → t < l.length → P m → P (ab l t m)) → P m → P (abL l xs i k m)
  | 0, _, _, _, h => h
  | k + 1, i, m, hs, h => by
    simp only [abL]
    refine abL_ind (fun c t m h1 h2 h3 => hs c t m (by omega) (by omega) h3) ?_
    cases hp : decide (0 ≤ at1 xs i) && decide (at1 xs i < l.length) with
    | true =>
      simp only [Bool.and_eq_true, decide_eq_true_eq] at hp
      exact hs i (at1 xs i).toNat m (Nat.le_refl _) (by omega) (by omega) (by omega) h
    | false => exact h
theorem aborts_good {l : List Row} (h : may l = true) (xs : List Row) : Good l (fun j => ∃ i, i < xs.length ∧ at1 xs i = j) (aborts l xs) :=
  abL_ind (P := Good l fun j => ∃ i, i < xs.length ∧ at1 xs i = j) (fun c t m h1 h2 h3 h4 h5 => ab_good h l.length t h4 (by omega) m (.inl ⟨c, by omega, h3⟩) h5) ⟨fun j hj => (by cases hj), fun j hj => (by cases hj)⟩
theorem aborts_cl {l : List Row} (h : may l = true) (xs : List Row) : Cl l (fun _ => False) (aborts l xs) :=
  abL_ind (P := Cl l fun _ => False) (fun c t m h1 h2 h3 h4 h5 => ab_cl h l.length t h4 (by omega) _ m h5) (fun j hj h2 h3 p h4 h5 => by cases h5)
theorem abL_marks {l xs : List Row} (h : may l = true) {c t : Nat} (ht : t < l.length) (hc : at1 xs c = t) (ho : okb l t = true) : ∀ {k i : Nat} (m : Nat → Bool), i ≤ c → c < i + k → abL l xs i k m t = true
  | 0, i, m, h1, h2 => by omega
  | k + 1, i, m, h1, h2 => by
    simp only [abL]
    by_cases e : c = i
    · subst e
      have e1 : (decide ((0 : Int) ≤ (t : Int)) && decide ((t : Int) < l.length)) = true := by simp; omega
      rw [hc, e1]
      refine abL_ind (P := fun m => m t = true) (fun c' t' m' _ _ _ h4 h5 => ab_mono' h h4 h5) ?_
      exact ab_self h ht ho m
    · exact abL_marks h ht hc ho _ (by omega) (by omega)
theorem aborts_marks {l xs : List Row} (h : may l = true) {c t : Nat} (hx : c < xs.length) (ht : t < l.length) (hc : at1 xs c = t) (ho : okb l t = true) : aborts l xs t = true :=
  abL_marks h ht hc ho _ (Nat.zero_le _) (by omega)
theorem abL_id {l xs : List Row} (h : may l = true) {m : Nat → Bool} : ∀ {k i : Nat}, (∀ c (t : Nat), i ≤ c → c < i + k → at1 xs c = t → t < l.length → m t = true ∨ okb l t = false) → abL l xs i k m = m
  | 0, _, _ => rfl
  | k + 1, i, hs => by
    simp only [abL]
    cases hp : decide (0 ≤ at1 xs i) && decide (at1 xs i < l.length) with
    | true =>
      simp only [Bool.and_eq_true, decide_eq_true_eq] at hp
      rw [ab_id h (by omega) (hs i (at1 xs i).toNat (Nat.le_refl _) (by omega) (by omega) (by omega))]
      exact abL_id h fun c t h1 h2 => hs c t (by omega) (by omega)
    | false => exact abL_id h fun c t h1 h2 => hs c t (by omega) (by omega)
theorem abL_append (l xs : List Row) : ∀ (k k' i : Nat) (m : Nat → Bool), abL l xs i (k + k') m = abL l xs (i + k) k' (abL l xs i k m)
  | 0, k', i, m => by simp [abL]
  | k + 1, k', i, m => by
    rw [show k + 1 + k' = (k + k') + 1 by omega, abL, abL_append l xs k k' (i + 1), abL, show i + 1 + k = i + (k + 1) by omega]
theorem abL_congr {l xs ys : List Row} : ∀ {k i j : Nat} (m : Nat → Bool), (∀ c, c < k → at1 xs (i + c) = at1 ys (j + c)) → abL l xs i k m = abL l ys j k m
  | 0, _, _, _, _ => rfl
  | k + 1, i, j, m, h => by
    have h0 := h 0 (by omega)
    simp only [Nat.add_zero] at h0
    simp only [abL, h0]
    exact abL_congr _ fun c hc => by have := h (c + 1) (by omega); rwa [show i + (c + 1) = i + 1 + c by omega, show j + (c + 1) = j + 1 + c by omega] at this
theorem aborts_twice {l : List Row} (h : may l = true) (xs : List Row) : aborts l (xs ++ xs) = aborts l xs := by
  unfold aborts
  rw [List.length_append, abL_append]
  have e1 : abL l (xs ++ xs) 0 xs.length (fun _ => false) = aborts l xs := by
    refine abL_congr _ fun c hc => ?_
    have hg : (xs ++ xs).getD c [] = xs.getD c [] := by
      rw [List.getD_eq_getElem?_getD, List.getElem?_append_left hc, ← List.getD_eq_getElem?_getD]
    simp only [at1, Nat.zero_add, hg]
  rw [e1]
  refine abL_id h fun c t h1 h2 h3 h4 => ?_
  have e2 : at1 (xs ++ xs) c = at1 xs (c - xs.length) := by
    have hg : (xs ++ xs).getD c [] = xs.getD (c - xs.length) [] := by
      rw [List.getD_eq_getElem?_getD, List.getElem?_append_right (by omega), ← List.getD_eq_getElem?_getD]
    simp only [at1, hg]
  cases ho : okb l t with
  | false => exact .inr rfl
  | true => exact .inl (aborts_marks h (c := c - xs.length) (by omega) h4 (by rw [← e2]; exact h3) ho)

/-! ### In, for any list -/
def anyF (p : Nat → Bool) : Nat → Nat → Bool
  | _, 0 => false
  | i, k + 1 => p i || anyF p (i + 1) k
theorem anyF_of {p : Nat → Bool} {j : Nat} (hp : p j = true) : ∀ {k i : Nat}, i ≤ j → j < i + k → anyF p i k = true
  | 0, _, _, _ => by omega
  | k + 1, i, h1, h2 => by
    simp only [anyF, Bool.or_eq_true]
    by_cases e : j = i
    · subst e; exact .inl hp
    · exact .inr (anyF_of hp (by omega) (by omega))
theorem L18_any (N : Nat) (xs : List Row) (hx : xs.length ≤ 1000) (v : Int) : ∀ (k n i : Nat), i + k = xs.length → k < n → L18a26 N n xs v i = match anyF (fun j => at1 xs j == v) i k with | true => some (.ret true) | false => some .x0
  | 0, n + 1, i, h, _ => by
    have e : decide ((i : Int) < (xs.length : Int)) = false := decide_eq_false (by omega)
    show (match decide ((i : Int) < (xs.length : Int)) with | true => _ | false => _) = _
    rw [e]; rfl
  | k + 1, n + 1, i, h, hn => by
    have e : decide ((i : Int) < (xs.length : Int)) = true := decide_eq_true (by omega)
    have e1 : decide ((0 : Int) ≤ (i : Int)) = true := by simp
    show (match decide ((i : Int) < (xs.length : Int)) with | true => _ | false => _) = _
    simp only [e, e1, Bool.and_self, tst, Int.toNat_natCast, ← at1.eq_1, anyF]
    cases hq : (at1 xs i == v) with
    | true => rfl
    | false =>
      simp only [Bool.false_or]
      rw [wrap_succ (by omega)]
      exact L18_any N xs hx v k n (i + 1) (by omega) (by omega)
  | _, 0, _, _, h => by omega
theorem F18_any {N : Nat} (hN : 50 ≤ N) {xs : List Row} (hx : xs.length ≤ 45) (v : Int) : F18 N xs v = some (.r (anyF (fun j => at1 xs j == v) 0 xs.length)) := by
  obtain ⟨M, rfl⟩ : ∃ M, N = M + 1 := ⟨N - 1, by omega⟩
  show (match L18a26 M M xs v 0 with | none => (none : Option R18) | some (.ret x) => some (.r x) | some (.x0) => some (.r false)) = _
  rw [show (0 : Int) = ((0 : Nat) : Int) from rfl, L18_any M xs (by omega) v xs.length M 0 (by omega) (by omega)]
  cases anyF (fun j => at1 xs j == v) 0 xs.length <;> rfl

/-! ### Rows with tasks aborted -/
def setAs : List Row → List Nat → List Row
  | l, [] => l
  | l, u :: r => setAs (l.set u (Eng.setAt (l.getD u []) 2 [.bool true])) r
theorem set_row {row : Row} (h : row.length = 8) (c : Nat) : ((Eng.setAt row 2 [.bool true]).getD c .top) = if c = 2 then .bool true else row.getD c .top := by
  simp only [Eng.setAt, List.getD_eq_getElem?_getD]
  by_cases e : c = 2
  · subst e; rw [List.getElem?_set_self (by omega)]; simp
  · rw [List.getElem?_set_ne (Ne.symm e)]; simp [e]
theorem set_len {row : Row} : (Eng.setAt row 2 [.bool true]).length = row.length := by simp [Eng.setAt]
theorem setAs_length : ∀ (us : List Nat) (l : List Row), (setAs l us).length = l.length
  | [], _ => rfl
  | u :: r, l => by rw [setAs, setAs_length r]; simp
theorem getD_set {l : List Row} {u j : Nat} {row : Row} (hu : u < l.length) : (l.set u row).getD j [] = if j = u then row else l.getD j [] := by
  simp only [List.getD_eq_getElem?_getD]
  by_cases e : j = u
  · subst e; rw [List.getElem?_set_self hu]; simp
  · rw [List.getElem?_set_ne (Ne.symm e)]; simp [e]
theorem setAs_cell : ∀ (us : List Nat) (l : List Row), (∀ u ∈ us, u < l.length) → (∀ i, i < l.length → (l.getD i []).length = 8) → ∀ (j c : Nat), ((setAs l us).getD j []).getD c .top = if c = 2 ∧ j ∈ us then .bool true else (l.getD j []).getD c .top
  | [], l, _, _, j, c => by simp [setAs]
  | u :: r, l, hu, h8, j, c => by
    have hul : u < l.length := hu u (by simp)
    rw [setAs, setAs_cell r _ (fun v hv => by rw [List.length_set]; exact hu v (by simp [hv])) (fun i hi => by
      rw [List.length_set] at hi
      rw [getD_set hul]
      split
      · rw [set_len]; exact h8 u hul
      · exact h8 i hi)]
    rw [getD_set hul]
    by_cases e : j = u
    · subst e
      rw [if_pos rfl, set_row (h8 j hul)]
      by_cases e2 : c = 2 <;> by_cases e3 : j ∈ r <;> simp [e2, e3]
    · rw [if_neg e]
      simp [e]

theorem setAs_cI {us : List Nat} {l : List Row} (ha : ∀ u ∈ us, u < l.length) (h8 : ∀ i, i < l.length → (l.getD i []).length = 8) (j : Int) {c : Nat} (hc : c ≠ 2) : cI (setAs l us) j c = cI l j c := by
  unfold cI; rw [setAs_cell us l ha h8]; simp [hc]
theorem setAs_cB {us : List Nat} {l : List Row} (ha : ∀ u ∈ us, u < l.length) (h8 : ∀ i, i < l.length → (l.getD i []).length = 8) (j : Int) {c : Nat} (hc : c ≠ 2) : cB (setAs l us) j c = cB l j c := by
  unfold cB; rw [setAs_cell us l ha h8]; simp [hc]
theorem setAs_cB2 {us : List Nat} {l : List Row} (ha : ∀ u ∈ us, u < l.length) (h8 : ∀ i, i < l.length → (l.getD i []).length = 8) (j : Int) : cB (setAs l us) j 2 = if j.toNat ∈ us then true else cB l j 2 := by
  unfold cB; rw [setAs_cell us l ha h8]
  by_cases e : j.toNat ∈ us <;> simp [e, AV.toB]
theorem badC_ab {b0 b1 b2 b2' b3 b4 : Bool} {a : Int} (h : b0 = true) : badC b0 b1 b2 b3 b4 a = badC b0 b1 b2' b3 b4 a := by subst h; simp [badC]
theorem okFrom_congr {l l' : List Row} : ∀ {k i : Nat}, (∀ j : Nat, i ≤ j → j < i + k → okAt l j = okAt l' j) → okFrom l i k = okFrom l' i k
  | 0, _, _ => rfl
  | k + 1, i, h => by
    simp only [okFrom]
    rw [h i (Nat.le_refl _) (by omega), okFrom_congr (k := k) (i := i + 1) fun j h1 h2 => h j (by omega) (by omega)]
theorem setAs_may {us : List Nat} {l : List Row} (ha : ∀ u ∈ us, u < l.length) (h8 : ∀ i, i < l.length → (l.getD i []).length = 8) (hb : ∀ u ∈ us, cB l u 0 = true) : may (setAs l us) = may l := by
  unfold may
  rw [setAs_length]
  congr 1
  refine okFrom_congr fun j h1 h2 => ?_
  unfold okAt lv
  simp only [setAs_cI ha h8 _ (show 5 ≠ 2 by decide), setAs_cI ha h8 _ (show 6 ≠ 2 by decide), setAs_cI ha h8 _ (show 7 ≠ 2 by decide), setAs_cB ha h8 _ (show 0 ≠ 2 by decide), setAs_cB ha h8 _ (show 1 ≠ 2 by decide), setAs_cB ha h8 _ (show 3 ≠ 2 by decide), setAs_cB ha h8 _ (show 4 ≠ 2 by decide), setAs_cB2 ha h8]
  by_cases e : ((j : Int).toNat) ∈ us
  · rw [if_pos e, badC_ab (b2' := cB l j 2) (by have := hb _ e; simpa using this)]
  · rw [if_neg e]

theorem flt_sorted (m : Nat → Bool) : ∀ (k i : Nat), (flt m i k).Pairwise (· < ·)
  | 0, _ => by simp [flt]
  | k + 1, i => by
    simp only [flt]
    cases m i with
    | true =>
      simp only [List.pairwise_cons]
      exact ⟨fun j hj => by have := mem_flt.1 hj; omega, flt_sorted m k (i + 1)⟩
    | false => exact flt_sorted m k (i + 1)

end Go.Proofs.Ytfggehkiglenjaa

namespace Go.Proofs.Ytfggehkiglenjaa
open Go Go.Eng

theorem wrap_pred {i : Nat} (h0 : 0 < i) (h : i ≤ 1000000) : IntKind.wrap .i64 ((i : Int) - 1) = ((i - 1 : Nat) : Int) := by
  rw [wrap_id (by omega) (by omega)]; omega

/-- The tasks that are aborted. -/
def abs' (l xs : List Row) : List Nat := flt (aborts l xs) 0 l.length
theorem mem_abs {l xs : List Row} {u : Nat} : u ∈ abs' l xs ↔ u < l.length ∧ aborts l xs u = true := by
  unfold abs'; rw [mem_flt]; simp
theorem abs_len (l xs : List Row) : (abs' l xs).length ≤ l.length := flt_length _ _ _

theorem J5_eq {l xs : List Row} (h : may l = true) (hx : xs.length ≤ 45) {N : Nat} (hN : 50 ≤ N) {i : Nat} (hi : i < (abs' l xs).length) : J5a130354 N l xs (rowsN (abs' l xs)) i ((abs' l xs)[i] : Nat) = some .nx := by
  have hl := (may_ok h).1
  have hA := abs_len l xs
  have hm := mem_abs.1 (List.getElem_mem hi)
  have hg := aborts_good h xs
  have ho := (hg.ok _ hm.2).2
  have hw := hg.why _ hm.2
  have hprev : ∀ h0 : 0 < i, (abs' l xs)[i - 1]'(by omega) < (abs' l xs)[i] := fun h0 => List.pairwise_iff_getElem.1 (flt_sorted (aborts l xs) l.length 0) (i - 1) i (by unfold abs' at hi; omega) hi (by omega)
  generalize hu : (abs' l xs)[i] = u at *
  simp only [okb, Bool.and_eq_true, Bool.not_eq_true'] at ho
  have e1 : decide ((u : Int) < 0) = false := decide_eq_false (by omega)
  have e2 : decide ((l.length : Int) ≤ (u : Int)) = false := decide_eq_false (by omega)
  have e3 : decide ((0 : Int) ≤ (u : Int)) = true := decide_eq_true (by omega)
  have e4 : decide ((u : Int) < (l.length : Int)) = true := decide_eq_true (by omega)
  have e5 : F18 N xs (u : Int) = some (.r (anyF (fun j => at1 xs j == (u : Int)) 0 xs.length)) := F18_any hN hx u
  have e6 : anyF (fun j => at1 xs j == (u : Int)) 0 xs.length = true ∨ F18 N (rowsN (abs' l xs)) (cI l u 5) = some (.r true) := by
    rcases hw with ⟨c, h1, h2⟩ | ⟨h1, p, h2, h3⟩
    · exact .inl (anyF_of (j := c) (by simp [h2]) (by omega) (by omega))
    · right
      rw [F18_eq hN (by omega), h2]
      have hp := (hg.ok _ h3).1
      rw [inn (mem_abs.2 ⟨hp, h3⟩)]
  unfold J5a130354
  simp only [e1, e2, e3, e4, Bool.and_self, tst, ← cB.eq_1, ← cI.eq_1, ho.1, ho.2.1, ho.2.2, Bool.not_true, e5]
  cases h0 : decide ((0 : Int) < (i : Int)) with
  | false =>
    cases hq : anyF (fun j => at1 xs j == (u : Int)) 0 xs.length with
    | true => rfl
    | false =>
      rcases e6 with e6 | e6
      · rw [hq] at e6; cases e6
      · simp only [e6, Bool.not_false, Bool.not_true]
  | true =>
    have h0' : 0 < i := by have := of_decide_eq_true h0; omega
    have e7 : decide ((0 : Int) ≤ ((i - 1 : Nat) : Int)) = true := decide_eq_true (by omega)
    have e8 : decide (((i - 1 : Nat) : Int) < ((rowsN (abs' l xs)).length : Int)) = true := by rw [rowsN_length]; exact decide_eq_true (by omega)
    have e9 : cI (rowsN (abs' l xs)) ((i - 1 : Nat) : Int) 0 = ((abs' l xs)[i - 1]'(by omega) : Nat) := by
      unfold cI; rw [Int.toNat_natCast]; exact rowsN_get (xs := abs' l xs) (i := i - 1) (by omega)
    have e10 : decide ((u : Int) ≤ ((abs' l xs)[i - 1]'(by omega) : Nat)) = false := decide_eq_false (by have := hprev h0'; omega)
    simp only [wrap_pred h0' (by omega), e7, e8, Bool.and_self, Int.toNat_natCast, e9, e10]
    cases hq : anyF (fun j => at1 xs j == (u : Int)) 0 xs.length with
    | true => rfl
    | false =>
      rcases e6 with e6 | e6
      · rw [hq] at e6; cases e6
      · simp only [e6, Bool.not_false, Bool.not_true]

theorem L5_all {l xs : List Row} (h : may l = true) (hx : xs.length ≤ 45) {N : Nat} (hN : 50 ≤ N) : ∀ (k n i : Nat) (b : List Row), b.length = l.length → i + k = (abs' l xs).length → k < n →
    L5a1018 N n l xs (rowsN (abs' l xs)) (rowsN (abs' l xs)) ((rowsN (abs' l xs)).length : Int) i b = some (.x0 (setAs b ((abs' l xs).drop i)))
  | 0, n + 1, i, b, _, h1, _ => by
    have e : decide ((i : Int) < ((rowsN (abs' l xs)).length : Int)) = false := by rw [rowsN_length]; exact decide_eq_false (by omega)
    show (match decide ((i : Int) < ((rowsN (abs' l xs)).length : Int)) with | true => _ | false => _) = _
    rw [e, List.drop_eq_nil_of_le (by omega)]; rfl
  | k + 1, n + 1, i, b, hb, h1, hn => by
    have hl := (may_ok h).1
    have hA := abs_len l xs
    have hi : i < (abs' l xs).length := by omega
    have e : decide ((i : Int) < ((rowsN (abs' l xs)).length : Int)) = true := by rw [rowsN_length]; exact decide_eq_true (by omega)
    have e1 : decide ((0 : Int) ≤ (i : Int)) = true := decide_eq_true (by omega)
    show (match decide ((i : Int) < ((rowsN (abs' l xs)).length : Int)) with | true => _ | false => _) = _
    have hm := mem_abs.1 (List.getElem_mem hi)
    simp only [e, e1, Bool.and_self, tst, Int.toNat_natCast, rowsN_get hi, J5_eq h hx hN hi]
    have e3 : decide ((0 : Int) ≤ ((abs' l xs)[i] : Nat)) = true := decide_eq_true (by omega)
    have e4 : decide ((((abs' l xs)[i] : Nat) : Int) < (b.length : Int)) = true := decide_eq_true (by omega)
    have e5 : decide ((abs' l xs)[i] < b.length) = true := decide_eq_true (by omega)
    simp only [e3, e4, Bool.and_self, e5]
    rw [wrap_succ (by omega), List.drop_eq_getElem_cons hi, setAs]
    exact L5_all h hx hN k n (i + 1) _ (by simpa using hb) (by omega) (by omega)
  | _, 0, _, _, _, _, h => by omega

theorem L5b_all {l xs : List Row} (h : may l = true) {N : Nat} (hN : 50 ≤ N) : ∀ (k n i : Nat), i + k = l.length → k < n → L5a2042 N n (rowsN (abs' l xs)) l l.length i = some .x2
  | 0, n + 1, i, h1, _ => by
    have e : decide ((i : Int) < (l.length : Int)) = false := decide_eq_false (by omega)
    show (match decide ((i : Int) < (l.length : Int)) with | true => _ | false => _) = _
    rw [e]
  | k + 1, n + 1, i, h1, hn => by
    have hl := (may_ok h).1
    have hA := abs_len l xs
    have e : decide ((i : Int) < (l.length : Int)) = true := decide_eq_true (by omega)
    have e1 : decide ((0 : Int) ≤ (i : Int)) = true := decide_eq_true (by omega)
    show (match decide ((i : Int) < (l.length : Int)) with | true => _ | false => _) = _
    simp only [e, e1, Bool.and_self, tst, ← cI.eq_1, ← cB.eq_1, F18_eq hN (show (abs' l xs).length ≤ 45 by omega)]
    rw [wrap_succ (by omega)]
    have ih := L5b_all h (xs := xs) hN k n (i + 1) (by omega) (by omega)
    cases hin : (abs' l xs).any (fun x => (x : Int) == cI l i 5) with
    | false => exact ih
    | true =>
      obtain ⟨p, hp, hpe⟩ := List.any_eq_true.1 hin
      simp only [beq_iff_eq] at hpe
      obtain ⟨hp1, hp2⟩ := mem_abs.1 hp
      cases h0 : cB l i 0 with
      | false => exact ih
      | true =>
        cases h1' : cB l i 1 with
        | true => exact ih
        | false =>
          cases h2 : cB l i 2 with
          | true => exact ih
          | false =>
            have hpos : 0 < i := by
              by_cases hz : i = 0
              · have := (may_own h (show i < l.length by omega)).1 hz; omega
              · omega
            have hok : okb l i = true := by simp [okb, h0, h1', h2]
            have := aborts_cl h xs i (by omega) hpos hok p hpe.symm hp2
            rcases this with this | this
            · exact this.elim
            · rw [inn (mem_abs.2 ⟨by omega, this⟩)]
              exact ih
  | _, 0, _, _, h => by omega

theorem aborts_after {l xs : List Row} (h : may l = true) (h8 : ∀ i, i < l.length → (l.getD i []).length = 8) : flt (aborts (setAs l (abs' l xs)) xs) 0 (setAs l (abs' l xs)).length = [] := by
  have ha : ∀ u ∈ abs' l xs, u < l.length := fun u hu => (mem_abs.1 hu).1
  have hb : ∀ u ∈ abs' l xs, cB l u 0 = true := fun u hu => by
    have := ((aborts_good h xs).ok u (mem_abs.1 hu).2).2
    simp only [okb, Bool.and_eq_true] at this
    exact this.1
  have h' := setAs_may ha h8 hb
  rw [h] at h'
  have e : aborts (setAs l (abs' l xs)) xs = fun _ => false := by
    unfold aborts
    refine abL_id h' fun c t _ hc1 hc2 ht => .inr ?_
    rw [setAs_length] at ht
    unfold okb
    rw [setAs_cB ha h8 _ (show 0 ≠ 2 by decide), setAs_cB ha h8 _ (show 1 ≠ 2 by decide), setAs_cB2 ha h8]
    simp only [Int.toNat_natCast]
    by_cases e : t ∈ abs' l xs
    · simp [e]
    · rw [if_neg e]
      cases ho : okb l t with
      | false => exact ho
      | true => exact absurd (mem_abs.2 ⟨ht, aborts_marks h (by omega) ht hc2 ho⟩) e
  rw [e, List.eq_nil_iff_forall_not_mem]
  intro j hj
  have := (mem_flt.1 hj).2.2
  cases this

theorem closed_true (x y : List Row) (hx8 : ∀ row ∈ x, row.length = 8) : F5 200 x y = some (.r true) := by
  show (tst (decide ((0 : Int) ≤ (Eng.imin (x.length : Int) 40)) && decide ((Eng.imin (x.length : Int) 40) ≤ (x.length : Int)) && decide ((x.length : Int) ≤ (x.length : Int))) <|
    tst (decide ((0 : Int) ≤ (Eng.imin (y.length : Int) 40)) && decide ((Eng.imin (y.length : Int) 40) ≤ (y.length : Int)) && decide ((y.length : Int) ≤ (y.length : Int))) <| _) = _
  simp only [imin_bounds, tst]
  have hy := take_le y
  have hx := take_le x
  have h8 : ∀ row ∈ x.take (Eng.imin (x.length : Int) 40).toNat, row.length = 8 := fun row hr => hx8 row (List.mem_of_mem_take hr)
  generalize x.take (Eng.imin (x.length : Int) 40).toNat = l at *
  generalize y.take (Eng.imin (y.length : Int) 40).toNat = xs at *
  have h8' : ∀ i, i < l.length → (l.getD i []).length = 8 := fun i hi => h8 _ (by rw [List.getD_eq_getElem?_getD, List.getElem?_eq_getElem hi]; exact List.getElem_mem hi)
  have b1 : decide ((0 + xs.length) * 8 ≤ 140737488355328) = true := decide_eq_true (by omega)
  have b2 : decide ((xs.length + xs.length) * 8 ≤ 140737488355328) = true := decide_eq_true (by omega)
  have b3 : decide ((0 + l.length) * 32 ≤ 140737488355328) = true := decide_eq_true (by omega)
  simp only [List.nil_append, b1, b2]
  cases h : may l with
  | false =>
    rw [F11_not (by omega) h, F11_not (by omega) h]
    simp only
    rw [show ([] : List Row) = rowsN [] from rfl, F8_same (by omega) (by simp)]
    simp only
    rw [F19_eq (by omega), h]
    simp only [Bool.not_true, Bool.not_false, works_true]
    rfl
  | true =>
    have hl := (may_ok h).1
    have hA := abs_len l xs
    rw [F11_eq (by omega) h (by omega)]
    simp only
    rw [F11_eq (by omega) h (by simp; omega), aborts_twice h]
    simp only
    rw [F8_same (by omega) (by have := flt_length (aborts l xs) l.length 0; omega)]
    simp only
    rw [F19_eq (by omega), h]
    simp only [Bool.not_true, b3]
    have hJ : J5a254 199 l xs (rowsN (abs' l xs)) l = some (.nx (setAs l (abs' l xs))) := by
      unfold J5a254
      have := L5_all h (show xs.length ≤ 45 by omega) (show 50 ≤ 199 by omega) (abs' l xs).length 199 0 l rfl (by omega) (by omega)
      rw [show ((0 : Nat) : Int) = (0 : Int) from rfl, List.drop_zero] at this
      rw [this]
    have hJ' : J5a254 199 l xs (rowsN (flt (aborts l xs) 0 l.length)) l = some (.nx (setAs l (abs' l xs))) := hJ
    have hB : L5a2042 199 199 (rowsN (flt (aborts l xs) 0 l.length)) l l.length 0 = some .x2 := L5b_all h (xs := xs) (show 50 ≤ 199 by omega) l.length 199 0 (by omega) (by omega)
    rw [hJ']
    simp only
    rw [hB]
    simp only
    have ha : ∀ u ∈ abs' l xs, u < l.length := fun u hu => (mem_abs.1 hu).1
    have hb : ∀ u ∈ abs' l xs, cB l u 0 = true := fun u hu => by
      have := ((aborts_good h xs).ok u (mem_abs.1 hu).2).2
      simp only [okb, Bool.and_eq_true] at this
      exact this.1
    have h' := setAs_may ha h8' hb
    rw [h] at h'
    rw [F16_eq (by omega), h']
    simp only
    rw [F11_eq (by omega) h' (by omega), aborts_after h h8']
    simp only [works_true]
    rfl

end Go.Proofs.Ytfggehkiglenjaa

namespace Go.Proofs.Ytfggehkiglenjaa
open Go Go.Eng Go.ChangeShapes Go.WideShapes Go.ChangeAt Go.RowKit

theorem own : ownKnob Try.prog.godebug = none := by kernel_rfl
theorem laidOut : laidOutB Try.prog = true := by kernel_rfl

theorem list_of_arg {t e : TypeId} (ha : (CX.ti t).u.agg = false) (hk : (CX.ti t).ks = [.slice e]) {x : AV} (h : ArgAV CX t x) : ∃ rows, x = .list e rows ∧ ∀ row ∈ rows, koks (CX.K e) row = true := by
  rcases h with ⟨h1, _⟩ | ⟨_, h2, hw⟩
  · rw [ha] at h1; cases h1
  · rw [hk] at h2
    cases x <;> simp [koks, kok] at h2
    subst h2
    cases hw with
    | list _ xs hl hr hx => exact ⟨_, rfl, hr⟩

theorem law5 (xs : List AV) (h : ArgsAV CX [22, 23] xs) : ∃ m M', FCalls CX 5 m xs [] (.bool true) M' := by
  match xs, h with
  | [x, y], ⟨hx, hy, _⟩ =>
    obtain ⟨rows0, rfl, hr0⟩ := list_of_arg (e := 30) (by kernel_rfl) (by kernel_rfl) hx
    obtain ⟨rows1, rfl, hr1⟩ := list_of_arg (e := 3) (by kernel_rfl) (by kernel_rfl) hy
    exact ⟨_, _, soundF5 200 (fun i => match i with | 0 => .list 30 rows0 | _ => .list 3 rows1) [] (.r true) (closed_true rows0 rows1 (fun row h => by rw [koks_length (hr0 row h)]; kernel_rfl))⟩

set_option maxRecDepth 100000 in
theorem lifted5 (os : Os) (started : os.Started) (H : Type) (enc : TypeId × Value → H) :
    ReturnsInHanded {} Try.checked os 5 .any (Rows.masterClosedSpec.pre6 enc Try.prog Try.f5 Rows.masterClosedRow.domain false) (Rows.masterClosedSpec.post enc Try.prog Try.f5 false true false false) := by
  refine returnsInHanded_of_change (C := Try.checked) own started (by kernel_rfl) Try.func5
    (ChangeSpec.witness6 (enc := enc) (C := Try.checked) false { blocks := #[], args := #[.slice none 0 0, .slice none 0 0], vars := [] } 8 (by kernel_rfl) (by kernel_rfl) (by kernel_rfl) (by kernel_rfl)) ?_
  intro W base args ds gs before hval hW _ _
  exact law_contract (X := CX) hX (fun _ => rfl) laidOut (ts := [22, 23]) (tb := 4) (n := 8) (by kernel_rfl) (by kernel_rfl) Try.underlying4 (by kernel_rfl) (by kernel_rfl) rfl
    (fun ds hds => by match ds, hds with | [d0, d1], _ => rfl) law5 W base args ds gs before hval hW

theorem masterClosed_holds : Rows.MasterClosedSaid :=
  OpenClaim.holds_of_wide 5 Try.f5 rfl rfl rfl rfl rfl rfl rfl ⟨rfl, rfl, rfl, rfl, rfl⟩ rfl rfl rfl rfl rfl (by kernel_rfl) Try.func5 (by kernel_rfl)
    (of_decide_eq_true (by kernel_rfl)) (by unfold Func.isWrapper; first | (rw [if_pos (by decide +kernel)]; kernel_rfl) | (rw [if_neg (by decide +kernel)]; exact ⟨rfl, rfl⟩))
    (fun os started H enc _ => lifted5 os started H enc)

#print axioms masterClosed_holds
end Go.Proofs.Ytfggehkiglenjaa
