/-
  The functions of the code as typed functions, and that the code runs so. Printed by gen2.py.
  The functions of the code as typed functions, and that the code runs so. Printed by gen2.py.
  The functions of the code as typed functions, and that the code runs so. Printed by gen2.py.
  The functions of the code as typed functions, and that the code runs so. Printed by gen2.py.
  The functions of the code as typed functions, and that the code runs so. Printed by gen2.py.
  The functions of the code as typed functions, and that the code runs so. Printed by gen2.py.
  The functions of the code as typed functions, and that the code runs so. Printed by gen2.py.
  The functions of the code as typed functions, and that the code runs so. Printed by gen2.py.
  The functions of the code as typed functions, and that the code runs so. Printed by gen2.py.
  Plain laws of chapter 39: when a task set is right (both texts).
  Plain laws of chapter 39: blocking, demand.
  Plain laws of chapter 39: response times.
  Plain laws of chapter 39: the examples.
  Plain laws of chapter 39: RespCalls.
  Plain laws of chapter 39: RespAll.
  What is proved: ceilinglaw39.RespAll returns true for every input, and leaves its arguments as they were. No condition.
-/
import Derived.Test.YtbgdiljnmifakaaS2
import Derived.KernelRfl
import Derived.Test.YtbgdiljnmifakaaS3
import Derived.Test.YtbgdiljnmifakaaRows
import Derived.WalkKit
import Derived.ProofKit
import Derived.OpenShut
set_option linter.all false
set_option linter.deprecated false
namespace Go.Proofs.Ytbgdiljnmifakaa
open Go Go.Eng
set_option maxRecDepth 100000

/-! ### F41: ceiling/ceilingref39.demand -/
inductive R41 where
  | r (x0 : Int) (x1 : Bool)
abbrev TF41 := List Row → List Row → Int → Int → Int → Int → Option R41
def sgF41 : LSh := ⟨[(0, .agg [.cell (.slice 38), .cell (.slice 3), .cell (.int .i64), .cell (.int .i64)]), (1, .one (.cell (.int .i64))), (2, .one (.cell (.int .i64)))], []⟩
def FFF41 (Fx : TF41) (s : St) : Option R41 := Fx (((Eng.look s.env 0).cells.getD 0 .top).rows) (((Eng.look s.env 0).cells.getD 1 .top).rows) (((Eng.look s.env 0).cells.getD 2 .top).toI) (((Eng.look s.env 0).cells.getD 3 .top).toI) ((Eng.look s.env 1).toI) ((Eng.look s.env 2).toI)
def valF41 (o : R41) : AV := match o with | .r x0 x1 => .tup [.int .i64 x0, .bool x1]
def memF41 (o : R41) : List Blk := match o with | .r x0 x1 => []
def elF41 {R : Type} (o : R41) (k : AV → List Blk → Option R) : Option R := match o with | .r x0 x1 => k (.tup [.int .i64 x0, .bool x1]) []
def RecOkF41 (Fx : TF41) : Prop := ∀ lk M o, FFF41 Fx (canS sgF41 lk M) = some o → FCalls CX 41 0 (argsE 3 (canS sgF41 lk M).env) (canS sgF41 lk M).mem (valF41 o) (memF41 o)
noncomputable def csF41 (N : Nat) (R : Type) : List (CE R) := []
theorem hcsF41 (N : Nat) (R : Type) : AllE (CeOk CX) (csF41 N R) := trivial
inductive OJ41a3730 where
  | nx (b0c0 : List Row) (b0c1 : List Row) (b0c2 : Int) (b0c3 : Int) (b1c0 : Int) (b1c1 : Int) (b1c2 : Int) (b1c3 : Int) (b1c4 : Int) (b1c5 : Int) (b1c6 : List Row)
  | x1 (b0c0 : List Row) (b0c1 : List Row) (b0c2 : Int) (b0c3 : Int) (b1c0 : Int) (b1c1 : Int) (b1c2 : Int) (b1c3 : Int) (b1c4 : Int) (b1c5 : Int) (b1c6 : List Row)
def J41a3730 (N : Nat) : Int → Int → List Row → List Row → Int → Int → Int → Int → Int → Int → Int → Int → List Row → Option OJ41a3730 := fun x1 x9 b0c0 b0c1 b0c2 b0c3 b1c0 b1c1 b1c2 b1c3 b1c4 b1c5 b1c6 =>
    match x9 == x1 with
    | true =>
      some (.x1 b0c0 b0c1 b0c2 b0c3 b1c0 b1c1 b1c2 b1c3 b1c4 b1c5 b1c6)
    | false =>
      tst (decide ((0 : Int) ≤ x1) && decide (x1 < ((b0c0.length : Int)))) <|
      match decide (b1c1 < ((((b0c0.getD x1.toNat [])).getD 1 .top).toI)) with
      | true =>
        some (.x1 b0c0 b0c1 b0c2 b0c3 b1c0 b1c1 b1c2 b1c3 b1c4 b1c5 b1c6)
      | false =>
        some (.nx b0c0 b0c1 b0c2 b0c3 b1c0 b1c1 b1c2 b1c3 b1c4 b1c5 b1c6)
def LFJ41a3730 (N : Nat) (s : St) : Option OJ41a3730 := J41a3730 N ((Eng.look s.env 1).toI) ((Eng.look s.env 9).toI) (((s.mem.getD 0 .dead).cells.getD 0 .top).rows) (((s.mem.getD 0 .dead).cells.getD 1 .top).rows) (((s.mem.getD 0 .dead).cells.getD 2 .top).toI) (((s.mem.getD 0 .dead).cells.getD 3 .top).toI) (((s.mem.getD 1 .dead).cells.getD 0 .top).toI) (((s.mem.getD 1 .dead).cells.getD 1 .top).toI) (((s.mem.getD 1 .dead).cells.getD 2 .top).toI) (((s.mem.getD 1 .dead).cells.getD 3 .top).toI) (((s.mem.getD 1 .dead).cells.getD 4 .top).toI) (((s.mem.getD 1 .dead).cells.getD 5 .top).toI) (((s.mem.getD 1 .dead).cells.getD 6 .top).rows)
def sgJ41a3730 : LSh := ⟨[(1, .one (.cell (.int .i64))), (3, .one (.ptr 0 0 0)), (9, .one (.cell (.int .i64))), (10, .one (.ptr 1 0 0))], [.var [.any, .any, .int .i64, .int .i64] [.cell (.slice 38), .cell (.slice 3), .cell (.int .i64), .cell (.int .i64)], .var [.int .i64, .int .i64, .int .i64, .int .i64, .int .i64, .int .i64, .any] [.cell (.int .i64), .cell (.int .i64), .cell (.int .i64), .cell (.int .i64), .cell (.int .i64), .cell (.int .i64), .cell (.slice 55)]]⟩
def ceJ41a3730 : List Cv := []
def seJ41a3730 : St → List Nat := fun st => [(Eng.look st.env 3).id, (Eng.look st.env 10).id]
def xJ41a3730wnx : XSh OJ41a3730 := ⟨[], ⟨[], [.var [.any, .any, .int .i64, .int .i64] [.cell (.slice 38), .cell (.slice 3), .cell (.int .i64), .cell (.int .i64)], .var [.int .i64, .int .i64, .int .i64, .int .i64, .int .i64, .int .i64, .any] [.cell (.int .i64), .cell (.int .i64), .cell (.int .i64), .cell (.int .i64), .cell (.int .i64), .cell (.int .i64), .cell (.slice 55)]]⟩, fun st => [0, 1], fun s => .nx (((s.mem.getD 0 .dead).cells.getD 0 .top).rows) (((s.mem.getD 0 .dead).cells.getD 1 .top).rows) (((s.mem.getD 0 .dead).cells.getD 2 .top).toI) (((s.mem.getD 0 .dead).cells.getD 3 .top).toI) (((s.mem.getD 1 .dead).cells.getD 0 .top).toI) (((s.mem.getD 1 .dead).cells.getD 1 .top).toI) (((s.mem.getD 1 .dead).cells.getD 2 .top).toI) (((s.mem.getD 1 .dead).cells.getD 3 .top).toI) (((s.mem.getD 1 .dead).cells.getD 4 .top).toI) (((s.mem.getD 1 .dead).cells.getD 5 .top).toI) (((s.mem.getD 1 .dead).cells.getD 6 .top).rows)⟩
def xJ41a3730wx1 : XSh OJ41a3730 := ⟨[], ⟨[], [.var [.any, .any, .int .i64, .int .i64] [.cell (.slice 38), .cell (.slice 3), .cell (.int .i64), .cell (.int .i64)], .var [.int .i64, .int .i64, .int .i64, .int .i64, .int .i64, .int .i64, .any] [.cell (.int .i64), .cell (.int .i64), .cell (.int .i64), .cell (.int .i64), .cell (.int .i64), .cell (.int .i64), .cell (.slice 55)]]⟩, fun st => [0, 1], fun s => .x1 (((s.mem.getD 0 .dead).cells.getD 0 .top).rows) (((s.mem.getD 0 .dead).cells.getD 1 .top).rows) (((s.mem.getD 0 .dead).cells.getD 2 .top).toI) (((s.mem.getD 0 .dead).cells.getD 3 .top).toI) (((s.mem.getD 1 .dead).cells.getD 0 .top).toI) (((s.mem.getD 1 .dead).cells.getD 1 .top).toI) (((s.mem.getD 1 .dead).cells.getD 2 .top).toI) (((s.mem.getD 1 .dead).cells.getD 3 .top).toI) (((s.mem.getD 1 .dead).cells.getD 4 .top).toI) (((s.mem.getD 1 .dead).cells.getD 5 .top).toI) (((s.mem.getD 1 .dead).cells.getD 6 .top).rows)⟩
def xsJ41a3730 : Ex → St → Option (XSh OJ41a3730) := fun e st => match e with
  | .normal => some xJ41a3730wnx
  | .exit 1 => some xJ41a3730wx1
  | _ => none
def exJ41a3730 (o : OJ41a3730) : Ex := match o with | .nx b0c0 b0c1 b0c2 b0c3 b1c0 b1c1 b1c2 b1c3 b1c4 b1c5 b1c6 => .normal | .x1 b0c0 b0c1 b0c2 b0c3 b1c0 b1c1 b1c2 b1c3 b1c4 b1c5 b1c6 => (.exit 1)
def stJ41a3730 (o : OJ41a3730) : St := match o with | .nx b0c0 b0c1 b0c2 b0c3 b1c0 b1c1 b1c2 b1c3 b1c4 b1c5 b1c6 => ⟨[], [.var [.any, .any, .int .i64, .int .i64] [.list 38 b0c0, .list 3 b0c1, .int .i64 b0c2, .int .i64 b0c3], .var [.int .i64, .int .i64, .int .i64, .int .i64, .int .i64, .int .i64, .any] [.int .i64 b1c0, .int .i64 b1c1, .int .i64 b1c2, .int .i64 b1c3, .int .i64 b1c4, .int .i64 b1c5, .list 55 b1c6]], [], .unk⟩ | .x1 b0c0 b0c1 b0c2 b0c3 b1c0 b1c1 b1c2 b1c3 b1c4 b1c5 b1c6 => ⟨[], [.var [.any, .any, .int .i64, .int .i64] [.list 38 b0c0, .list 3 b0c1, .int .i64 b0c2, .int .i64 b0c3], .var [.int .i64, .int .i64, .int .i64, .int .i64, .int .i64, .int .i64, .any] [.int .i64 b1c0, .int .i64 b1c1, .int .i64 b1c2, .int .i64 b1c3, .int .i64 b1c4, .int .i64 b1c5, .list 55 b1c6]], [], .unk⟩
def elJ41a3730 {R : Type} (o : OJ41a3730) (k : Ex → St → Option R) : Option R := match o with | .nx b0c0 b0c1 b0c2 b0c3 b1c0 b1c1 b1c2 b1c3 b1c4 b1c5 b1c6 => k .normal ⟨[], [.var [.any, .any, .int .i64, .int .i64] [.list 38 b0c0, .list 3 b0c1, .int .i64 b0c2, .int .i64 b0c3], .var [.int .i64, .int .i64, .int .i64, .int .i64, .int .i64, .int .i64, .any] [.int .i64 b1c0, .int .i64 b1c1, .int .i64 b1c2, .int .i64 b1c3, .int .i64 b1c4, .int .i64 b1c5, .list 55 b1c6]], [], .unk⟩ | .x1 b0c0 b0c1 b0c2 b0c3 b1c0 b1c1 b1c2 b1c3 b1c4 b1c5 b1c6 => k (.exit 1) ⟨[], [.var [.any, .any, .int .i64, .int .i64] [.list 38 b0c0, .list 3 b0c1, .int .i64 b0c2, .int .i64 b0c3], .var [.int .i64, .int .i64, .int .i64, .int .i64, .int .i64, .int .i64, .any] [.int .i64 b1c0, .int .i64 b1c1, .int .i64 b1c2, .int .i64 b1c3, .int .i64 b1c4, .int .i64 b1c5, .list 55 b1c6]], [], .unk⟩
theorem heJ41a3730 {R : Type} (o : OJ41a3730) (k : Ex → St → Option R) : elJ41a3730 o k = k (exJ41a3730 o) (stJ41a3730 o) := by cases o <;> rfl
theorem hxJ41a3730 : ∀ e st x, xsJ41a3730 e st = some x → outOk x e exJ41a3730 stJ41a3730 := by
  intro e st x h
  unfold xsJ41a3730 at h
  repeat' split at h
  all_goals first
    | (injection h with h; subst h; exact fun lk M => ⟨rfl, rfl⟩)
    | cases h
noncomputable def T41uc3730 (N : Nat) (R : Type) : LTab R := mkTab ⟨62, 274861129728⟩ (csF41 N R) (noY) [] [] []
theorem okT41uc3730 (N : Nat) (R : Type) : (T41uc3730 N R).Ok CX code41 := mkTab_ok (hcsF41 N R) (noY_ok) (trivial) (trivial) (trivial)
noncomputable def bdJ41a3730 : Code := (codeAt code41 [false, true, false, false, true, false, false, true, false, true, true]).getD .skip
theorem hsJ41a3730 (N : Nat) : ∀ (lk : Nat → AV) (M : List Blk), LFJ41a3730 N (canS sgJ41a3730 lk M) = evk CX (T41uc3730 N OJ41a3730) bdJ41a3730 3730 (canS sgJ41a3730 lk M) (kontX CX 2 xsJ41a3730) := by intro lk M; kernel_rfl
inductive OL41a58 where
  | ret (x6 : Int) (x7 : Bool) (b0c0 : List Row) (b0c1 : List Row) (b0c2 : Int) (b0c3 : Int)
  | x0 (x8 : Int) (b0c0 : List Row) (b0c1 : List Row) (b0c2 : Int) (b0c3 : Int)
def L41a58 (N : Nat) : Nat → Int → Int → Int → Int → List Row → List Row → Int → Int → Option OL41a58
  | 0 => fun _ _ _ _ _ _ _ _ => none
  | n + 1 => fun x1 x2 x8 x9 b0c0 b0c1 b0c2 b0c3 =>
    match decide (x9 < ((b0c0.length : Int))) with
    | true =>
      tst (decide ((0 : Int) ≤ x9) && decide (x9 < ((b0c0.length : Int)))) <|
      match J41a3730 N x1 x9 b0c0 b0c1 b0c2 b0c3 ((((b0c0.getD x9.toNat [])).getD 0 .top).toI) ((((b0c0.getD x9.toNat [])).getD 1 .top).toI) ((((b0c0.getD x9.toNat [])).getD 2 .top).toI) ((((b0c0.getD x9.toNat [])).getD 3 .top).toI) ((((b0c0.getD x9.toNat [])).getD 4 .top).toI) ((((b0c0.getD x9.toNat [])).getD 5 .top).toI) ((((b0c0.getD x9.toNat [])).getD 6 .top).rows) with
      | none => none
      | some (.nx b0c0v1 b0c1v1 b0c2v1 b0c3v1 b1c0v1 b1c1v1 b1c2v1 b1c3v1 b1c4v1 b1c5v1 b1c6v1) =>
        tst (!(b1c2v1 == 0)) <|
        tst (!(b1c2v1 == 0)) <|
        match decide ((0 : Int) < (Int.tmod x2 b1c2v1)) with
        | true =>
          match decide ((1152921504606846976 : Int) < (IntKind.wrap .i64 (x8 + (IntKind.wrap .i64 ((IntKind.wrap .i64 ((IntKind.wrap .i64 (Int.tdiv x2 b1c2v1)) + (1 : Int))) * (IntKind.wrap .i64 (b1c5v1 + (IntKind.wrap .i64 ((2 : Int) * b0c2v1))))))))) with
          | true =>
            some (.ret 0 false b0c0v1 b0c1v1 b0c2v1 b0c3v1)
          | false =>
            L41a58 N n x1 x2 (IntKind.wrap .i64 (x8 + (IntKind.wrap .i64 ((IntKind.wrap .i64 ((IntKind.wrap .i64 (Int.tdiv x2 b1c2v1)) + (1 : Int))) * (IntKind.wrap .i64 (b1c5v1 + (IntKind.wrap .i64 ((2 : Int) * b0c2v1)))))))) (IntKind.wrap .i64 (x9 + (1 : Int))) b0c0v1 b0c1v1 b0c2v1 b0c3v1
        | false =>
          match decide ((1152921504606846976 : Int) < (IntKind.wrap .i64 (x8 + (IntKind.wrap .i64 ((IntKind.wrap .i64 (Int.tdiv x2 b1c2v1)) * (IntKind.wrap .i64 (b1c5v1 + (IntKind.wrap .i64 ((2 : Int) * b0c2v1))))))))) with
          | true =>
            some (.ret 0 false b0c0v1 b0c1v1 b0c2v1 b0c3v1)
          | false =>
            L41a58 N n x1 x2 (IntKind.wrap .i64 (x8 + (IntKind.wrap .i64 ((IntKind.wrap .i64 (Int.tdiv x2 b1c2v1)) * (IntKind.wrap .i64 (b1c5v1 + (IntKind.wrap .i64 ((2 : Int) * b0c2v1)))))))) (IntKind.wrap .i64 (x9 + (1 : Int))) b0c0v1 b0c1v1 b0c2v1 b0c3v1
      | some (.x1 b0c0v2 b0c1v2 b0c2v2 b0c3v2 b1c0v2 b1c1v2 b1c2v2 b1c3v2 b1c4v2 b1c5v2 b1c6v2) =>
        L41a58 N n x1 x2 x8 (IntKind.wrap .i64 (x9 + (1 : Int))) b0c0v2 b0c1v2 b0c2v2 b0c3v2
    | false =>
      some (.x0 x8 b0c0 b0c1 b0c2 b0c3)
def LFL41a58 (N : Nat) (n : Nat) (s : St) : Option OL41a58 := L41a58 N n ((Eng.look s.env 1).toI) ((Eng.look s.env 2).toI) ((Eng.look s.env 8).toI) ((Eng.look s.env 9).toI) (((s.mem.getD 0 .dead).cells.getD 0 .top).rows) (((s.mem.getD 0 .dead).cells.getD 1 .top).rows) (((s.mem.getD 0 .dead).cells.getD 2 .top).toI) (((s.mem.getD 0 .dead).cells.getD 3 .top).toI)
def sgL41a58 : LSh := ⟨[(1, .one (.cell (.int .i64))), (2, .one (.cell (.int .i64))), (3, .one (.ptr 0 0 0)), (8, .one (.cell (.int .i64))), (9, .one (.cell (.int .i64)))], [.var [.any, .any, .int .i64, .int .i64] [.cell (.slice 38), .cell (.slice 3), .cell (.int .i64), .cell (.int .i64)]]⟩
def ceL41a58 : List Cv := []
def seL41a58 : St → List Nat := fun st => [(Eng.look st.env 3).id]
def xL41a58wret : XSh OL41a58 := ⟨[], ⟨[(6, .one (.cell (.int .i64))), (7, .one (.cell (.bool)))], [.var [.any, .any, .int .i64, .int .i64] [.cell (.slice 38), .cell (.slice 3), .cell (.int .i64), .cell (.int .i64)]]⟩, fun st => [0], fun s => .ret ((Eng.look s.env 6).toI) ((Eng.look s.env 7).toB) (((s.mem.getD 0 .dead).cells.getD 0 .top).rows) (((s.mem.getD 0 .dead).cells.getD 1 .top).rows) (((s.mem.getD 0 .dead).cells.getD 2 .top).toI) (((s.mem.getD 0 .dead).cells.getD 3 .top).toI)⟩
def xL41a58wx0 : XSh OL41a58 := ⟨[], ⟨[(8, .one (.cell (.int .i64)))], [.var [.any, .any, .int .i64, .int .i64] [.cell (.slice 38), .cell (.slice 3), .cell (.int .i64), .cell (.int .i64)]]⟩, fun st => [0], fun s => .x0 ((Eng.look s.env 8).toI) (((s.mem.getD 0 .dead).cells.getD 0 .top).rows) (((s.mem.getD 0 .dead).cells.getD 1 .top).rows) (((s.mem.getD 0 .dead).cells.getD 2 .top).toI) (((s.mem.getD 0 .dead).cells.getD 3 .top).toI)⟩
def xsL41a58 : Ex → St → Option (XSh OL41a58) := fun e st => match e with
  | .ret => some xL41a58wret
  | .exit 0 => some xL41a58wx0
  | _ => none
def exL41a58 (o : OL41a58) : Ex := match o with | .ret x6 x7 b0c0 b0c1 b0c2 b0c3 => .ret | .x0 x8 b0c0 b0c1 b0c2 b0c3 => (.exit 0)
def stL41a58 (o : OL41a58) : St := match o with | .ret x6 x7 b0c0 b0c1 b0c2 b0c3 => ⟨[(6, .int .i64 x6), (7, .bool x7)], [.var [.any, .any, .int .i64, .int .i64] [.list 38 b0c0, .list 3 b0c1, .int .i64 b0c2, .int .i64 b0c3]], [], .unk⟩ | .x0 x8 b0c0 b0c1 b0c2 b0c3 => ⟨[(8, .int .i64 x8)], [.var [.any, .any, .int .i64, .int .i64] [.list 38 b0c0, .list 3 b0c1, .int .i64 b0c2, .int .i64 b0c3]], [], .unk⟩
def elL41a58 {R : Type} (o : OL41a58) (k : Ex → St → Option R) : Option R := match o with | .ret x6 x7 b0c0 b0c1 b0c2 b0c3 => k .ret ⟨[(6, .int .i64 x6), (7, .bool x7)], [.var [.any, .any, .int .i64, .int .i64] [.list 38 b0c0, .list 3 b0c1, .int .i64 b0c2, .int .i64 b0c3]], [], .unk⟩ | .x0 x8 b0c0 b0c1 b0c2 b0c3 => k (.exit 0) ⟨[(8, .int .i64 x8)], [.var [.any, .any, .int .i64, .int .i64] [.list 38 b0c0, .list 3 b0c1, .int .i64 b0c2, .int .i64 b0c3]], [], .unk⟩
theorem heL41a58 {R : Type} (o : OL41a58) (k : Ex → St → Option R) : elL41a58 o k = k (exL41a58 o) (stL41a58 o) := by cases o <;> rfl
theorem hxL41a58 : ∀ e st x, xsL41a58 e st = some x → outOk x e exL41a58 stL41a58 := by
  intro e st x h
  unfold xsL41a58 at h
  repeat' split at h
  all_goals first
    | (injection h with h; subst h; exact fun lk M => ⟨rfl, rfl⟩)
    | cases h
noncomputable def T41ul58 (N : Nat) (R : Type) : LTab R := mkTab ⟨62, 2305843009213693888⟩ (csF41 N R) (noY) [] [] [(3730, fun st k => callLoop CX 2 274861129728 ceJ41a3730 sgJ41a3730 seJ41a3730 ⟨62, 2305843009213693888⟩ (LFJ41a3730 N) elJ41a3730 st k)]
theorem okT41ul58 (N : Nat) (R : Type) : (T41ul58 N R).Ok CX code41 := mkTab_ok (hcsF41 N R) (noY_ok) (trivial) (trivial) (⟨cut_ok hX (path := [false, true, false, false, true, false, false, true, false, true, true]) (by kernel_rfl) (by rfl) (okT41uc3730 N OJ41a3730) (hsJ41a3730 N) hxJ41a3730 rfl heJ41a3730, trivial⟩)
noncomputable def bdL41a58 : Code := match codeAt code41 [false, true, false, true, true] with | some (.loop c) => c | _ => .skip
theorem hsL41a58 (N : Nat) : ∀ (n : Nat) (lk : Nat → AV) (M : List Blk), LFL41a58 N (n + 1) (canS sgL41a58 lk M) = evk CX (T41ul58 N OL41a58) bdL41a58 (2 * 58) (canS sgL41a58 lk M) (kont CX 1 [] sgL41a58 (fun st => [0]) xsL41a58 (LFL41a58 N n)) := by intro n lk M; kernel_rfl
noncomputable def T41ur1 (N : Nat) (R : Type) : LTab R := mkTab ⟨62, 4611686018427387903⟩ (csF41 N R) (noY) [(58, fun st k => callLoop CX 1 2305843009213693888 ceL41a58 sgL41a58 seL41a58 ⟨62, 4611686018427387903⟩ (LFL41a58 N N) elL41a58 st k)] [] []
theorem okT41ur1 (N : Nat) (R : Type) : (T41ur1 N R).Ok CX code41 := mkTab_ok (hcsF41 N R) (noY_ok) (⟨loop_ok hX (path := [false, true, false, true, true]) (by kernel_rfl) (by rfl) (okT41ul58 N OL41a58) (fun _ _ => rfl) (hsL41a58 N) hxL41a58 rfl heL41a58, trivial⟩) (trivial) (trivial)
def rsF41 : List ResultVar := [.tmp 6, .tmp 7]
def F41 : Nat → TF41
  | 0 => fun _ _ _ _ _ _ => none
  | N + 1 => fun x0c0 x0c1 x0c2 x0c3 x1 x2 =>
    match L41a58 N N x1 x2 0 0 x0c0 x0c1 x0c2 x0c3 with
    | none => none
    | some (.ret x6v3 x7v3 b0c0v3 b0c1v3 b0c2v3 b0c3v3) =>
      some (.r x6v3 x7v3)
    | some (.x0 x8v4 b0c0v4 b0c1v4 b0c2v4 b0c3v4) =>
      some (.r x8v4 true)
def xRF41 : XSh R41 := ⟨[], ⟨[(0, .one (.cell (.int .i64))), (1, .one (.cell (.bool)))], []⟩, fun _ => [], fun s => .r ((Eng.look s.env 0).toI) ((Eng.look s.env 1).toB)⟩
theorem fsF41 : ∀ (N : Nat) (lk : Nat → AV) (M : List Blk), FFF41 (F41 (N + 1)) (canS sgF41 lk M) = evfn CX (T41ur1 N R41) code41 rsF41 (argsE 3 (canS sgF41 lk M).env) (canS sgF41 lk M).mem (goRt CX 0 2 (fun _ => some xRF41)) := by intro N lk M; kernel_rfl
theorem soundF41 : ∀ N, RecOkF41 (F41 N)
  | 0, lk, M, o, h => by cases h
  | N + 1, lk, M, o, h => fn_soundt hX (okT41ur1 N R41) Try.func41 hb41 rfl en41 (by kernel_rfl) (ys := fun _ => some xRF41) (fun st y h => by injection h with h; subst h; exact fun lk M => ⟨rfl, rfl⟩) ((fsF41 N lk M).symm.trans h)
def cvce41n0 : List Cv := []
def selce41n0 : St → List Nat := fun _ => []
noncomputable def ce41n0 (Fx : TF41) (R : Type) (test : List AV → List Blk → Bool) : CE R := ⟨41, test, fun args M => some (selce41n0 ⟨argEnv 0 args, M, [], .unk⟩), fun args M k => tst (Nat.beq args.length 3) (callFn CX 0 cvce41n0 sgF41 selce41n0 (FFF41 Fx) elF41 args M k)⟩
theorem okce41n0 (Fx : TF41) (h : RecOkF41 Fx) (R : Type) (test : List AV → List Blk → Bool) : CeOk CX (ce41n0 Fx R test) := ce_ok hX (fun o k => by cases o; rfl) h en41 (fun args M ids h => by injection h with h; exact ⟨rfl, h.symm⟩)
end Go.Proofs.Ytbgdiljnmifakaa

namespace Go.Proofs.Ytbgdiljnmifakaa
open Go Go.Eng
set_option maxRecDepth 100000

/-! ### F22: ceiling/ceilingref39.Demand -/
inductive R22 where
  | r (x0 : Int) (x1 : Int)
abbrev TF22 := List Row → List Row → Int → Int → Int → Int → Option R22
def sgF22 : LSh := ⟨[(0, .agg [.cell (.slice 38), .cell (.slice 3), .cell (.int .i64), .cell (.int .i64)]), (1, .one (.cell (.int .i64))), (2, .one (.cell (.int .i64)))], []⟩
def FFF22 (Fx : TF22) (s : St) : Option R22 := Fx (((Eng.look s.env 0).cells.getD 0 .top).rows) (((Eng.look s.env 0).cells.getD 1 .top).rows) (((Eng.look s.env 0).cells.getD 2 .top).toI) (((Eng.look s.env 0).cells.getD 3 .top).toI) ((Eng.look s.env 1).toI) ((Eng.look s.env 2).toI)
def valF22 (o : R22) : AV := match o with | .r x0 x1 => .tup [.int .i64 x0, .int .i64 x1]
def memF22 (o : R22) : List Blk := match o with | .r x0 x1 => []
def elF22 {R : Type} (o : R22) (k : AV → List Blk → Option R) : Option R := match o with | .r x0 x1 => k (.tup [.int .i64 x0, .int .i64 x1]) []
def RecOkF22 (Fx : TF22) : Prop := ∀ lk M o, FFF22 Fx (canS sgF22 lk M) = some o → FCalls CX 22 0 (argsE 3 (canS sgF22 lk M).env) (canS sgF22 lk M).mem (valF22 o) (memF22 o)
noncomputable def csF22 (N : Nat) (R : Type) : List (CE R) := [ce14n0 (F14 N) R (fun _ _ => true), ce35n0 (F35 N) R (fun _ _ => true), ce39n0 (F39 N) R (fun _ _ => true), ce41n0 (F41 N) R (fun _ _ => true)]
theorem hcsF22 (N : Nat) (R : Type) : AllE (CeOk CX) (csF22 N R) := ⟨okce14n0 (F14 N) (soundF14 N) R (fun _ _ => true), okce35n0 (F35 N) (soundF35 N) R (fun _ _ => true), okce39n0 (F39 N) (soundF39 N) R (fun _ _ => true), okce41n0 (F41 N) (soundF41 N) R (fun _ _ => true), trivial⟩
inductive OJ22a6 where
  | nx (b0c0 : List Row) (b0c1 : List Row) (b0c2 : Int) (b0c3 : Int)
  | ret (x6 : Int) (x7 : Int) (b0c0 : List Row) (b0c1 : List Row) (b0c2 : Int) (b0c3 : Int)
def J22a6 (N : Nat) : Int → List Row → List Row → Int → Int → Option OJ22a6 := fun x2 b0c0 b0c1 b0c2 b0c3 =>
    match F14 N b0c0 b0c1 b0c2 b0c3 with
    | none => none
    | some (.r rx0v1) =>
      match !rx0v1 with
      | true =>
        some (.ret 0 2 b0c0 b0c1 b0c2 b0c3)
      | false =>
        match F35 N x2 0 2147483647 with
        | none => none
        | some (.r rx0v2) =>
          match !rx0v2 with
          | true =>
            some (.ret 0 2 b0c0 b0c1 b0c2 b0c3)
          | false =>
            some (.nx b0c0 b0c1 b0c2 b0c3)
def LFJ22a6 (N : Nat) (s : St) : Option OJ22a6 := J22a6 N ((Eng.look s.env 2).toI) (((s.mem.getD 0 .dead).cells.getD 0 .top).rows) (((s.mem.getD 0 .dead).cells.getD 1 .top).rows) (((s.mem.getD 0 .dead).cells.getD 2 .top).toI) (((s.mem.getD 0 .dead).cells.getD 3 .top).toI)
def sgJ22a6 : LSh := ⟨[(2, .one (.cell (.int .i64))), (3, .one (.ptr 0 0 0))], [.var [.any, .any, .int .i64, .int .i64] [.cell (.slice 38), .cell (.slice 3), .cell (.int .i64), .cell (.int .i64)]]⟩
def ceJ22a6 : List Cv := []
def seJ22a6 : St → List Nat := fun st => [(Eng.look st.env 3).id]
def xJ22a6wnx : XSh OJ22a6 := ⟨[], ⟨[], [.var [.any, .any, .int .i64, .int .i64] [.cell (.slice 38), .cell (.slice 3), .cell (.int .i64), .cell (.int .i64)]]⟩, fun st => [0], fun s => .nx (((s.mem.getD 0 .dead).cells.getD 0 .top).rows) (((s.mem.getD 0 .dead).cells.getD 1 .top).rows) (((s.mem.getD 0 .dead).cells.getD 2 .top).toI) (((s.mem.getD 0 .dead).cells.getD 3 .top).toI)⟩
def xJ22a6wret : XSh OJ22a6 := ⟨[], ⟨[(6, .one (.cell (.int .i64))), (7, .one (.cell (.int .i64)))], [.var [.any, .any, .int .i64, .int .i64] [.cell (.slice 38), .cell (.slice 3), .cell (.int .i64), .cell (.int .i64)]]⟩, fun st => [0], fun s => .ret ((Eng.look s.env 6).toI) ((Eng.look s.env 7).toI) (((s.mem.getD 0 .dead).cells.getD 0 .top).rows) (((s.mem.getD 0 .dead).cells.getD 1 .top).rows) (((s.mem.getD 0 .dead).cells.getD 2 .top).toI) (((s.mem.getD 0 .dead).cells.getD 3 .top).toI)⟩
def xsJ22a6 : Ex → St → Option (XSh OJ22a6) := fun e st => match e with
  | .normal => some xJ22a6wnx
  | .ret => some xJ22a6wret
  | _ => none
def exJ22a6 (o : OJ22a6) : Ex := match o with | .nx b0c0 b0c1 b0c2 b0c3 => .normal | .ret x6 x7 b0c0 b0c1 b0c2 b0c3 => .ret
def stJ22a6 (o : OJ22a6) : St := match o with | .nx b0c0 b0c1 b0c2 b0c3 => ⟨[], [.var [.any, .any, .int .i64, .int .i64] [.list 38 b0c0, .list 3 b0c1, .int .i64 b0c2, .int .i64 b0c3]], [], .unk⟩ | .ret x6 x7 b0c0 b0c1 b0c2 b0c3 => ⟨[(6, .int .i64 x6), (7, .int .i64 x7)], [.var [.any, .any, .int .i64, .int .i64] [.list 38 b0c0, .list 3 b0c1, .int .i64 b0c2, .int .i64 b0c3]], [], .unk⟩
def elJ22a6 {R : Type} (o : OJ22a6) (k : Ex → St → Option R) : Option R := match o with | .nx b0c0 b0c1 b0c2 b0c3 => k .normal ⟨[], [.var [.any, .any, .int .i64, .int .i64] [.list 38 b0c0, .list 3 b0c1, .int .i64 b0c2, .int .i64 b0c3]], [], .unk⟩ | .ret x6 x7 b0c0 b0c1 b0c2 b0c3 => k .ret ⟨[(6, .int .i64 x6), (7, .int .i64 x7)], [.var [.any, .any, .int .i64, .int .i64] [.list 38 b0c0, .list 3 b0c1, .int .i64 b0c2, .int .i64 b0c3]], [], .unk⟩
theorem heJ22a6 {R : Type} (o : OJ22a6) (k : Ex → St → Option R) : elJ22a6 o k = k (exJ22a6 o) (stJ22a6 o) := by cases o <;> rfl
theorem hxJ22a6 : ∀ e st x, xsJ22a6 e st = some x → outOk x e exJ22a6 stJ22a6 := by
  intro e st x h
  unfold xsJ22a6 at h
  repeat' split at h
  all_goals first
    | (injection h with h; subst h; exact fun lk M => ⟨rfl, rfl⟩)
    | cases h
noncomputable def T22uc6 (N : Nat) (R : Type) : LTab R := mkTab ⟨35, 522432⟩ (csF22 N R) (noY) [] [] []
theorem okT22uc6 (N : Nat) (R : Type) : (T22uc6 N R).Ok CX code22 := mkTab_ok (hcsF22 N R) (noY_ok) (trivial) (trivial) (trivial)
noncomputable def bdJ22a6 : Code := (codeAt code22 [false, true]).getD .skip
theorem hsJ22a6 (N : Nat) : ∀ (lk : Nat → AV) (M : List Blk), LFJ22a6 N (canS sgJ22a6 lk M) = evk CX (T22uc6 N OJ22a6) bdJ22a6 6 (canS sgJ22a6 lk M) (kontX CX 1 xsJ22a6) := by intro lk M; kernel_rfl
noncomputable def T22ur1 (N : Nat) (R : Type) : LTab R := mkTab ⟨35, 34359738367⟩ (csF22 N R) (noY) [] [] [(6, fun st k => callLoop CX 1 522432 ceJ22a6 sgJ22a6 seJ22a6 ⟨35, 34359738367⟩ (LFJ22a6 N) elJ22a6 st k)]
theorem okT22ur1 (N : Nat) (R : Type) : (T22ur1 N R).Ok CX code22 := mkTab_ok (hcsF22 N R) (noY_ok) (trivial) (trivial) (⟨cut_ok hX (path := [false, true]) (by kernel_rfl) (by rfl) (okT22uc6 N OJ22a6) (hsJ22a6 N) hxJ22a6 rfl heJ22a6, trivial⟩)
def rsF22 : List ResultVar := [.tmp 6, .tmp 7]
def F22 : Nat → TF22
  | 0 => fun _ _ _ _ _ _ => none
  | N + 1 => fun x0c0 x0c1 x0c2 x0c3 x1 x2 =>
    match J22a6 N x2 x0c0 x0c1 x0c2 x0c3 with
    | none => none
    | some (.nx b0c0v3 b0c1v3 b0c2v3 b0c3v3) =>
      match F39 N b0c0v3 b0c1v3 b0c2v3 b0c3v3 x1 with
      | none => none
      | some (.r rx0v4) =>
        match rx0v4 != (0 : Int) with
        | true =>
          some (.r 0 rx0v4)
        | false =>
          match F41 N b0c0v3 b0c1v3 b0c2v3 b0c3v3 x1 x2 with
          | none => none
          | some (.r rx0v5 rx1v5) =>
            match !rx1v5 with
            | true =>
              some (.r 0 3)
            | false =>
              some (.r rx0v5 0)
    | some (.ret x6v6 x7v6 b0c0v6 b0c1v6 b0c2v6 b0c3v6) =>
      some (.r x6v6 x7v6)
def xRF22 : XSh R22 := ⟨[], ⟨[(0, .one (.cell (.int .i64))), (1, .one (.cell (.int .i64)))], []⟩, fun _ => [], fun s => .r ((Eng.look s.env 0).toI) ((Eng.look s.env 1).toI)⟩
theorem fsF22 : ∀ (N : Nat) (lk : Nat → AV) (M : List Blk), FFF22 (F22 (N + 1)) (canS sgF22 lk M) = evfn CX (T22ur1 N R22) code22 rsF22 (argsE 3 (canS sgF22 lk M).env) (canS sgF22 lk M).mem (goRt CX 0 2 (fun _ => some xRF22)) := by intro N lk M; kernel_rfl
theorem soundF22 : ∀ N, RecOkF22 (F22 N)
  | 0, lk, M, o, h => by cases h
  | N + 1, lk, M, o, h => fn_soundt hX (okT22ur1 N R22) Try.func22 hb22 rfl en22 (by kernel_rfl) (ys := fun _ => some xRF22) (fun st y h => by injection h with h; subst h; exact fun lk M => ⟨rfl, rfl⟩) ((fsF22 N lk M).symm.trans h)
def cvce22n0 : List Cv := []
def selce22n0 : St → List Nat := fun _ => []
noncomputable def ce22n0 (Fx : TF22) (R : Type) (test : List AV → List Blk → Bool) : CE R := ⟨22, test, fun args M => some (selce22n0 ⟨argEnv 0 args, M, [], .unk⟩), fun args M k => tst (Nat.beq args.length 3) (callFn CX 0 cvce22n0 sgF22 selce22n0 (FFF22 Fx) elF22 args M k)⟩
theorem okce22n0 (Fx : TF22) (h : RecOkF22 Fx) (R : Type) (test : List AV → List Blk → Bool) : CeOk CX (ce22n0 Fx R test) := ce_ok hX (fun o k => by cases o; rfl) h en22 (fun args M ids h => by injection h with h; exact ⟨rfl, h.symm⟩)
end Go.Proofs.Ytbgdiljnmifakaa

namespace Go.Proofs.Ytbgdiljnmifakaa
open Go Go.Eng
set_option maxRecDepth 100000

/-! ### F17: ceiling/resp.Response -/
inductive R17 where
  | r (x0 : Int) (x1 : Bool) (x2 : Int)
abbrev TF17 := List Row → List Row → Int → Int → Int → Option R17
def sgF17 : LSh := ⟨[(0, .agg [.cell (.slice 38), .cell (.slice 3), .cell (.int .i64), .cell (.int .i64)]), (1, .one (.cell (.int .i64)))], []⟩
def FFF17 (Fx : TF17) (s : St) : Option R17 := Fx (((Eng.look s.env 0).cells.getD 0 .top).rows) (((Eng.look s.env 0).cells.getD 1 .top).rows) (((Eng.look s.env 0).cells.getD 2 .top).toI) (((Eng.look s.env 0).cells.getD 3 .top).toI) ((Eng.look s.env 1).toI)
def valF17 (o : R17) : AV := match o with | .r x0 x1 x2 => .tup [.int .i64 x0, .bool x1, .int .i64 x2]
def memF17 (o : R17) : List Blk := match o with | .r x0 x1 x2 => []
def elF17 {R : Type} (o : R17) (k : AV → List Blk → Option R) : Option R := match o with | .r x0 x1 x2 => k (.tup [.int .i64 x0, .bool x1, .int .i64 x2]) []
def RecOkF17 (Fx : TF17) : Prop := ∀ lk M o, FFF17 Fx (canS sgF17 lk M) = some o → FCalls CX 17 0 (argsE 2 (canS sgF17 lk M).env) (canS sgF17 lk M).mem (valF17 o) (memF17 o)
noncomputable def csF17 (N : Nat) (R : Type) : List (CE R) := [ce27n0 (F27 N) R (fun _ _ => true), ce38n0 (F38 N) R (fun _ _ => true)]
theorem hcsF17 (N : Nat) (R : Type) : AllE (CeOk CX) (csF17 N R) := ⟨okce27n0 (F27 N) (soundF27 N) R (fun _ _ => true), okce38n0 (F38 N) (soundF38 N) R (fun _ _ => true), trivial⟩
noncomputable def T17ur1 (N : Nat) (R : Type) : LTab R := mkTab ⟨22, 4194303⟩ (csF17 N R) (noY) [] [] []
theorem okT17ur1 (N : Nat) (R : Type) : (T17ur1 N R).Ok CX code17 := mkTab_ok (hcsF17 N R) (noY_ok) (trivial) (trivial) (trivial)
def rsF17 : List ResultVar := [.tmp 4, .tmp 5, .tmp 6]
def F17 : Nat → TF17
  | 0 => fun _ _ _ _ _ => none
  | N + 1 => fun x0c0 x0c1 x0c2 x0c3 x1 =>
    match F38 N x0c0 x0c1 x0c2 x0c3 x1 with
    | none => none
    | some (.r rx0v1) =>
      match rx0v1 != (0 : Int) with
      | true =>
        some (.r 0 false rx0v1)
      | false =>
        match F27 N x0c0 x0c1 x0c2 x0c3 x1 with
        | none => none
        | some (.r rx0v2 rx1v2) =>
          some (.r rx0v2 rx1v2 0)
def xRF17 : XSh R17 := ⟨[], ⟨[(0, .one (.cell (.int .i64))), (1, .one (.cell (.bool))), (2, .one (.cell (.int .i64)))], []⟩, fun _ => [], fun s => .r ((Eng.look s.env 0).toI) ((Eng.look s.env 1).toB) ((Eng.look s.env 2).toI)⟩
theorem fsF17 : ∀ (N : Nat) (lk : Nat → AV) (M : List Blk), FFF17 (F17 (N + 1)) (canS sgF17 lk M) = evfn CX (T17ur1 N R17) code17 rsF17 (argsE 2 (canS sgF17 lk M).env) (canS sgF17 lk M).mem (goRt CX 0 3 (fun _ => some xRF17)) := by intro N lk M; kernel_rfl
theorem soundF17 : ∀ N, RecOkF17 (F17 N)
  | 0, lk, M, o, h => by cases h
  | N + 1, lk, M, o, h => fn_soundt hX (okT17ur1 N R17) Try.func17 hb17 rfl en17 (by kernel_rfl) (ys := fun _ => some xRF17) (fun st y h => by injection h with h; subst h; exact fun lk M => ⟨rfl, rfl⟩) ((fsF17 N lk M).symm.trans h)
def cvce17n0 : List Cv := []
def selce17n0 : St → List Nat := fun _ => []
noncomputable def ce17n0 (Fx : TF17) (R : Type) (test : List AV → List Blk → Bool) : CE R := ⟨17, test, fun args M => some (selce17n0 ⟨argEnv 0 args, M, [], .unk⟩), fun args M k => tst (Nat.beq args.length 2) (callFn CX 0 cvce17n0 sgF17 selce17n0 (FFF17 Fx) elF17 args M k)⟩
theorem okce17n0 (Fx : TF17) (h : RecOkF17 Fx) (R : Type) (test : List AV → List Blk → Bool) : CeOk CX (ce17n0 Fx R test) := ce_ok hX (fun o k => by cases o; rfl) h en17 (fun args M ids h => by injection h with h; exact ⟨rfl, h.symm⟩)
end Go.Proofs.Ytbgdiljnmifakaa

namespace Go.Proofs.Ytbgdiljnmifakaa
open Go Go.Eng
set_option maxRecDepth 100000

/-! ### F29: ceiling/ceilingref39.response -/
inductive R29 where
  | r (x0 : Int) (x1 : Bool)
abbrev TF29 := List Row → List Row → Int → Int → Int → Option R29
def sgF29 : LSh := ⟨[(0, .agg [.cell (.slice 38), .cell (.slice 3), .cell (.int .i64), .cell (.int .i64)]), (1, .one (.cell (.int .i64)))], []⟩
def FFF29 (Fx : TF29) (s : St) : Option R29 := Fx (((Eng.look s.env 0).cells.getD 0 .top).rows) (((Eng.look s.env 0).cells.getD 1 .top).rows) (((Eng.look s.env 0).cells.getD 2 .top).toI) (((Eng.look s.env 0).cells.getD 3 .top).toI) ((Eng.look s.env 1).toI)
def valF29 (o : R29) : AV := match o with | .r x0 x1 => .tup [.int .i64 x0, .bool x1]
def memF29 (o : R29) : List Blk := match o with | .r x0 x1 => []
def elF29 {R : Type} (o : R29) (k : AV → List Blk → Option R) : Option R := match o with | .r x0 x1 => k (.tup [.int .i64 x0, .bool x1]) []
def RecOkF29 (Fx : TF29) : Prop := ∀ lk M o, FFF29 Fx (canS sgF29 lk M) = some o → FCalls CX 29 0 (argsE 2 (canS sgF29 lk M).env) (canS sgF29 lk M).mem (valF29 o) (memF29 o)
noncomputable def csF29 (N : Nat) (R : Type) : List (CE R) := [ce30n0 (F30 N) R (fun _ _ => true), ce41n0 (F41 N) R (fun _ _ => true)]
theorem hcsF29 (N : Nat) (R : Type) : AllE (CeOk CX) (csF29 N R) := ⟨okce30n0 (F30 N) (soundF30 N) R (fun _ _ => true), okce41n0 (F41 N) (soundF41 N) R (fun _ _ => true), trivial⟩
inductive OL29a124 where
  | ret (x4 : Int) (x5 : Bool) (b0c0 : List Row) (b0c1 : List Row) (b0c2 : Int) (b0c3 : Int) (b1c0 : Int) (b1c1 : Int) (b1c2 : Int) (b1c3 : Int) (b1c4 : Int) (b1c5 : Int) (b1c6 : List Row)
  | x0 (b0c0 : List Row) (b0c1 : List Row) (b0c2 : Int) (b0c3 : Int) (b1c0 : Int) (b1c1 : Int) (b1c2 : Int) (b1c3 : Int) (b1c4 : Int) (b1c5 : Int) (b1c6 : List Row)
def L29a124 (N : Nat) : Nat → Int → Int → Int → List Row → List Row → Int → Int → Int → Int → Int → Int → Int → Int → List Row → Option OL29a124
  | 0 => fun _ _ _ _ _ _ _ _ _ _ _ _ _ _ => none
  | n + 1 => fun x1 x7 x8 b0c0 b0c1 b0c2 b0c3 b1c0 b1c1 b1c2 b1c3 b1c4 b1c5 b1c6 =>
    match decide (x8 ≤ b1c3) with
    | true =>
      match F41 N b0c0 b0c1 b0c2 b0c3 x1 x8 with
      | none => none
      | some (.r rx0v2 rx1v2) =>
        match !rx1v2 with
        | true =>
          some (.ret 0 false b0c0 b0c1 b0c2 b0c3 b1c0 b1c1 b1c2 b1c3 b1c4 b1c5 b1c6)
        | false =>
          match decide (b1c3 < (IntKind.wrap .i64 (x7 + rx0v2))) with
          | true =>
            some (.ret 0 false b0c0 b0c1 b0c2 b0c3 b1c0 b1c1 b1c2 b1c3 b1c4 b1c5 b1c6)
          | false =>
            match (IntKind.wrap .i64 (x7 + rx0v2)) == x8 with
            | true =>
              some (.ret x8 true b0c0 b0c1 b0c2 b0c3 b1c0 b1c1 b1c2 b1c3 b1c4 b1c5 b1c6)
            | false =>
              L29a124 N n x1 x7 (IntKind.wrap .i64 (x7 + rx0v2)) b0c0 b0c1 b0c2 b0c3 b1c0 b1c1 b1c2 b1c3 b1c4 b1c5 b1c6
    | false =>
      some (.x0 b0c0 b0c1 b0c2 b0c3 b1c0 b1c1 b1c2 b1c3 b1c4 b1c5 b1c6)
def LFL29a124 (N : Nat) (n : Nat) (s : St) : Option OL29a124 := L29a124 N n ((Eng.look s.env 1).toI) ((Eng.look s.env 7).toI) ((Eng.look s.env 8).toI) (((s.mem.getD 0 .dead).cells.getD 0 .top).rows) (((s.mem.getD 0 .dead).cells.getD 1 .top).rows) (((s.mem.getD 0 .dead).cells.getD 2 .top).toI) (((s.mem.getD 0 .dead).cells.getD 3 .top).toI) (((s.mem.getD 1 .dead).cells.getD 0 .top).toI) (((s.mem.getD 1 .dead).cells.getD 1 .top).toI) (((s.mem.getD 1 .dead).cells.getD 2 .top).toI) (((s.mem.getD 1 .dead).cells.getD 3 .top).toI) (((s.mem.getD 1 .dead).cells.getD 4 .top).toI) (((s.mem.getD 1 .dead).cells.getD 5 .top).toI) (((s.mem.getD 1 .dead).cells.getD 6 .top).rows)
def sgL29a124 : LSh := ⟨[(1, .one (.cell (.int .i64))), (2, .one (.ptr 0 0 0)), (6, .one (.ptr 1 0 0)), (7, .one (.cell (.int .i64))), (8, .one (.cell (.int .i64)))], [.var [.any, .any, .int .i64, .int .i64] [.cell (.slice 38), .cell (.slice 3), .cell (.int .i64), .cell (.int .i64)], .var [.int .i64, .int .i64, .int .i64, .int .i64, .int .i64, .int .i64, .any] [.cell (.int .i64), .cell (.int .i64), .cell (.int .i64), .cell (.int .i64), .cell (.int .i64), .cell (.int .i64), .cell (.slice 55)]]⟩
def ceL29a124 : List Cv := []
def seL29a124 : St → List Nat := fun st => [(Eng.look st.env 2).id, (Eng.look st.env 6).id]
def xL29a124wret : XSh OL29a124 := ⟨[], ⟨[(4, .one (.cell (.int .i64))), (5, .one (.cell (.bool)))], [.var [.any, .any, .int .i64, .int .i64] [.cell (.slice 38), .cell (.slice 3), .cell (.int .i64), .cell (.int .i64)], .var [.int .i64, .int .i64, .int .i64, .int .i64, .int .i64, .int .i64, .any] [.cell (.int .i64), .cell (.int .i64), .cell (.int .i64), .cell (.int .i64), .cell (.int .i64), .cell (.int .i64), .cell (.slice 55)]]⟩, fun st => [0, 1], fun s => .ret ((Eng.look s.env 4).toI) ((Eng.look s.env 5).toB) (((s.mem.getD 0 .dead).cells.getD 0 .top).rows) (((s.mem.getD 0 .dead).cells.getD 1 .top).rows) (((s.mem.getD 0 .dead).cells.getD 2 .top).toI) (((s.mem.getD 0 .dead).cells.getD 3 .top).toI) (((s.mem.getD 1 .dead).cells.getD 0 .top).toI) (((s.mem.getD 1 .dead).cells.getD 1 .top).toI) (((s.mem.getD 1 .dead).cells.getD 2 .top).toI) (((s.mem.getD 1 .dead).cells.getD 3 .top).toI) (((s.mem.getD 1 .dead).cells.getD 4 .top).toI) (((s.mem.getD 1 .dead).cells.getD 5 .top).toI) (((s.mem.getD 1 .dead).cells.getD 6 .top).rows)⟩
def xL29a124wx0 : XSh OL29a124 := ⟨[], ⟨[], [.var [.any, .any, .int .i64, .int .i64] [.cell (.slice 38), .cell (.slice 3), .cell (.int .i64), .cell (.int .i64)], .var [.int .i64, .int .i64, .int .i64, .int .i64, .int .i64, .int .i64, .any] [.cell (.int .i64), .cell (.int .i64), .cell (.int .i64), .cell (.int .i64), .cell (.int .i64), .cell (.int .i64), .cell (.slice 55)]]⟩, fun st => [0, 1], fun s => .x0 (((s.mem.getD 0 .dead).cells.getD 0 .top).rows) (((s.mem.getD 0 .dead).cells.getD 1 .top).rows) (((s.mem.getD 0 .dead).cells.getD 2 .top).toI) (((s.mem.getD 0 .dead).cells.getD 3 .top).toI) (((s.mem.getD 1 .dead).cells.getD 0 .top).toI) (((s.mem.getD 1 .dead).cells.getD 1 .top).toI) (((s.mem.getD 1 .dead).cells.getD 2 .top).toI) (((s.mem.getD 1 .dead).cells.getD 3 .top).toI) (((s.mem.getD 1 .dead).cells.getD 4 .top).toI) (((s.mem.getD 1 .dead).cells.getD 5 .top).toI) (((s.mem.getD 1 .dead).cells.getD 6 .top).rows)⟩
def xsL29a124 : Ex → St → Option (XSh OL29a124) := fun e st => match e with
  | .ret => some xL29a124wret
  | .exit 0 => some xL29a124wx0
  | _ => none
def exL29a124 (o : OL29a124) : Ex := match o with | .ret x4 x5 b0c0 b0c1 b0c2 b0c3 b1c0 b1c1 b1c2 b1c3 b1c4 b1c5 b1c6 => .ret | .x0 b0c0 b0c1 b0c2 b0c3 b1c0 b1c1 b1c2 b1c3 b1c4 b1c5 b1c6 => (.exit 0)
def stL29a124 (o : OL29a124) : St := match o with | .ret x4 x5 b0c0 b0c1 b0c2 b0c3 b1c0 b1c1 b1c2 b1c3 b1c4 b1c5 b1c6 => ⟨[(4, .int .i64 x4), (5, .bool x5)], [.var [.any, .any, .int .i64, .int .i64] [.list 38 b0c0, .list 3 b0c1, .int .i64 b0c2, .int .i64 b0c3], .var [.int .i64, .int .i64, .int .i64, .int .i64, .int .i64, .int .i64, .any] [.int .i64 b1c0, .int .i64 b1c1, .int .i64 b1c2, .int .i64 b1c3, .int .i64 b1c4, .int .i64 b1c5, .list 55 b1c6]], [], .unk⟩ | .x0 b0c0 b0c1 b0c2 b0c3 b1c0 b1c1 b1c2 b1c3 b1c4 b1c5 b1c6 => ⟨[], [.var [.any, .any, .int .i64, .int .i64] [.list 38 b0c0, .list 3 b0c1, .int .i64 b0c2, .int .i64 b0c3], .var [.int .i64, .int .i64, .int .i64, .int .i64, .int .i64, .int .i64, .any] [.int .i64 b1c0, .int .i64 b1c1, .int .i64 b1c2, .int .i64 b1c3, .int .i64 b1c4, .int .i64 b1c5, .list 55 b1c6]], [], .unk⟩
def elL29a124 {R : Type} (o : OL29a124) (k : Ex → St → Option R) : Option R := match o with | .ret x4 x5 b0c0 b0c1 b0c2 b0c3 b1c0 b1c1 b1c2 b1c3 b1c4 b1c5 b1c6 => k .ret ⟨[(4, .int .i64 x4), (5, .bool x5)], [.var [.any, .any, .int .i64, .int .i64] [.list 38 b0c0, .list 3 b0c1, .int .i64 b0c2, .int .i64 b0c3], .var [.int .i64, .int .i64, .int .i64, .int .i64, .int .i64, .int .i64, .any] [.int .i64 b1c0, .int .i64 b1c1, .int .i64 b1c2, .int .i64 b1c3, .int .i64 b1c4, .int .i64 b1c5, .list 55 b1c6]], [], .unk⟩ | .x0 b0c0 b0c1 b0c2 b0c3 b1c0 b1c1 b1c2 b1c3 b1c4 b1c5 b1c6 => k (.exit 0) ⟨[], [.var [.any, .any, .int .i64, .int .i64] [.list 38 b0c0, .list 3 b0c1, .int .i64 b0c2, .int .i64 b0c3], .var [.int .i64, .int .i64, .int .i64, .int .i64, .int .i64, .int .i64, .any] [.int .i64 b1c0, .int .i64 b1c1, .int .i64 b1c2, .int .i64 b1c3, .int .i64 b1c4, .int .i64 b1c5, .list 55 b1c6]], [], .unk⟩
theorem heL29a124 {R : Type} (o : OL29a124) (k : Ex → St → Option R) : elL29a124 o k = k (exL29a124 o) (stL29a124 o) := by cases o <;> rfl
theorem hxL29a124 : ∀ e st x, xsL29a124 e st = some x → outOk x e exL29a124 stL29a124 := by
  intro e st x h
  unfold xsL29a124 at h
  repeat' split at h
  all_goals first
    | (injection h with h; subst h; exact fun lk M => ⟨rfl, rfl⟩)
    | cases h
noncomputable def T29ul124 (N : Nat) (R : Type) : LTab R := mkTab ⟨53, 9007199246354224⟩ (csF29 N R) (noY) [] [] []
theorem okT29ul124 (N : Nat) (R : Type) : (T29ul124 N R).Ok CX code29 := mkTab_ok (hcsF29 N R) (noY_ok) (trivial) (trivial) (trivial)
noncomputable def bdL29a124 : Code := match codeAt code29 [false, false, true, true, true, true] with | some (.loop c) => c | _ => .skip
theorem hsL29a124 (N : Nat) : ∀ (n : Nat) (lk : Nat → AV) (M : List Blk), LFL29a124 N (n + 1) (canS sgL29a124 lk M) = evk CX (T29ul124 N OL29a124) bdL29a124 (2 * 124) (canS sgL29a124 lk M) (kont CX 2 [] sgL29a124 (fun st => [0, 1]) xsL29a124 (LFL29a124 N n)) := by intro n lk M; kernel_rfl
noncomputable def T29ur1 (N : Nat) (R : Type) : LTab R := mkTab ⟨53, 9007199254740991⟩ (csF29 N R) (noY) [(124, fun st k => callLoop CX 2 9007199246354224 ceL29a124 sgL29a124 seL29a124 ⟨53, 9007199254740991⟩ (LFL29a124 N N) elL29a124 st k)] [] []
theorem okT29ur1 (N : Nat) (R : Type) : (T29ur1 N R).Ok CX code29 := mkTab_ok (hcsF29 N R) (noY_ok) (⟨loop_ok hX (path := [false, false, true, true, true, true]) (by kernel_rfl) (by rfl) (okT29ul124 N OL29a124) (fun _ _ => rfl) (hsL29a124 N) hxL29a124 rfl heL29a124, trivial⟩) (trivial) (trivial)
def rsF29 : List ResultVar := [.tmp 4, .tmp 5]
def F29 : Nat → TF29
  | 0 => fun _ _ _ _ _ => none
  | N + 1 => fun x0c0 x0c1 x0c2 x0c3 x1 =>
    tst (decide ((0 : Int) ≤ x1) && decide (x1 < ((x0c0.length : Int)))) <|
    match F30 N x0c0 x0c1 x0c2 x0c3 x1 with
    | none => none
    | some (.r rx0v1) =>
      match L29a124 N N x1 (IntKind.wrap .i64 (((((x0c0.getD x1.toNat [])).getD 5 .top).toI) + rx0v1)) (IntKind.wrap .i64 (((((x0c0.getD x1.toNat [])).getD 5 .top).toI) + rx0v1)) x0c0 x0c1 x0c2 x0c3 ((((x0c0.getD x1.toNat [])).getD 0 .top).toI) ((((x0c0.getD x1.toNat [])).getD 1 .top).toI) ((((x0c0.getD x1.toNat [])).getD 2 .top).toI) ((((x0c0.getD x1.toNat [])).getD 3 .top).toI) ((((x0c0.getD x1.toNat [])).getD 4 .top).toI) ((((x0c0.getD x1.toNat [])).getD 5 .top).toI) ((((x0c0.getD x1.toNat [])).getD 6 .top).rows) with
      | none => none
      | some (.ret x4v3 x5v3 b0c0v3 b0c1v3 b0c2v3 b0c3v3 b1c0v3 b1c1v3 b1c2v3 b1c3v3 b1c4v3 b1c5v3 b1c6v3) =>
        some (.r x4v3 x5v3)
      | some (.x0 b0c0v4 b0c1v4 b0c2v4 b0c3v4 b1c0v4 b1c1v4 b1c2v4 b1c3v4 b1c4v4 b1c5v4 b1c6v4) =>
        some (.r 0 false)
def xRF29 : XSh R29 := ⟨[], ⟨[(0, .one (.cell (.int .i64))), (1, .one (.cell (.bool)))], []⟩, fun _ => [], fun s => .r ((Eng.look s.env 0).toI) ((Eng.look s.env 1).toB)⟩
theorem fsF29 : ∀ (N : Nat) (lk : Nat → AV) (M : List Blk), FFF29 (F29 (N + 1)) (canS sgF29 lk M) = evfn CX (T29ur1 N R29) code29 rsF29 (argsE 2 (canS sgF29 lk M).env) (canS sgF29 lk M).mem (goRt CX 0 2 (fun _ => some xRF29)) := by intro N lk M; kernel_rfl
theorem soundF29 : ∀ N, RecOkF29 (F29 N)
  | 0, lk, M, o, h => by cases h
  | N + 1, lk, M, o, h => fn_soundt hX (okT29ur1 N R29) Try.func29 hb29 rfl en29 (by kernel_rfl) (ys := fun _ => some xRF29) (fun st y h => by injection h with h; subst h; exact fun lk M => ⟨rfl, rfl⟩) ((fsF29 N lk M).symm.trans h)
def cvce29n0 : List Cv := []
def selce29n0 : St → List Nat := fun _ => []
noncomputable def ce29n0 (Fx : TF29) (R : Type) (test : List AV → List Blk → Bool) : CE R := ⟨29, test, fun args M => some (selce29n0 ⟨argEnv 0 args, M, [], .unk⟩), fun args M k => tst (Nat.beq args.length 2) (callFn CX 0 cvce29n0 sgF29 selce29n0 (FFF29 Fx) elF29 args M k)⟩
theorem okce29n0 (Fx : TF29) (h : RecOkF29 Fx) (R : Type) (test : List AV → List Blk → Bool) : CeOk CX (ce29n0 Fx R test) := ce_ok hX (fun o k => by cases o; rfl) h en29 (fun args M ids h => by injection h with h; exact ⟨rfl, h.symm⟩)
end Go.Proofs.Ytbgdiljnmifakaa

namespace Go.Proofs.Ytbgdiljnmifakaa
open Go Go.Eng
set_option maxRecDepth 100000

/-! ### F23: ceiling/ceilingref39.Response -/
inductive R23 where
  | r (x0 : Int) (x1 : Bool) (x2 : Int)
abbrev TF23 := List Row → List Row → Int → Int → Int → Option R23
def sgF23 : LSh := ⟨[(0, .agg [.cell (.slice 38), .cell (.slice 3), .cell (.int .i64), .cell (.int .i64)]), (1, .one (.cell (.int .i64)))], []⟩
def FFF23 (Fx : TF23) (s : St) : Option R23 := Fx (((Eng.look s.env 0).cells.getD 0 .top).rows) (((Eng.look s.env 0).cells.getD 1 .top).rows) (((Eng.look s.env 0).cells.getD 2 .top).toI) (((Eng.look s.env 0).cells.getD 3 .top).toI) ((Eng.look s.env 1).toI)
def valF23 (o : R23) : AV := match o with | .r x0 x1 x2 => .tup [.int .i64 x0, .bool x1, .int .i64 x2]
def memF23 (o : R23) : List Blk := match o with | .r x0 x1 x2 => []
def elF23 {R : Type} (o : R23) (k : AV → List Blk → Option R) : Option R := match o with | .r x0 x1 x2 => k (.tup [.int .i64 x0, .bool x1, .int .i64 x2]) []
def RecOkF23 (Fx : TF23) : Prop := ∀ lk M o, FFF23 Fx (canS sgF23 lk M) = some o → FCalls CX 23 0 (argsE 2 (canS sgF23 lk M).env) (canS sgF23 lk M).mem (valF23 o) (memF23 o)
noncomputable def csF23 (N : Nat) (R : Type) : List (CE R) := [ce29n0 (F29 N) R (fun _ _ => true), ce39n0 (F39 N) R (fun _ _ => true)]
theorem hcsF23 (N : Nat) (R : Type) : AllE (CeOk CX) (csF23 N R) := ⟨okce29n0 (F29 N) (soundF29 N) R (fun _ _ => true), okce39n0 (F39 N) (soundF39 N) R (fun _ _ => true), trivial⟩
noncomputable def T23ur1 (N : Nat) (R : Type) : LTab R := mkTab ⟨24, 16777215⟩ (csF23 N R) (noY) [] [] []
theorem okT23ur1 (N : Nat) (R : Type) : (T23ur1 N R).Ok CX code23 := mkTab_ok (hcsF23 N R) (noY_ok) (trivial) (trivial) (trivial)
def rsF23 : List ResultVar := [.tmp 4, .tmp 5, .tmp 6]
def F23 : Nat → TF23
  | 0 => fun _ _ _ _ _ => none
  | N + 1 => fun x0c0 x0c1 x0c2 x0c3 x1 =>
    match F39 N x0c0 x0c1 x0c2 x0c3 x1 with
    | none => none
    | some (.r rx0v1) =>
      match rx0v1 != (0 : Int) with
      | true =>
        some (.r 0 false rx0v1)
      | false =>
        match F29 N x0c0 x0c1 x0c2 x0c3 x1 with
        | none => none
        | some (.r rx0v2 rx1v2) =>
          some (.r rx0v2 rx1v2 0)
def xRF23 : XSh R23 := ⟨[], ⟨[(0, .one (.cell (.int .i64))), (1, .one (.cell (.bool))), (2, .one (.cell (.int .i64)))], []⟩, fun _ => [], fun s => .r ((Eng.look s.env 0).toI) ((Eng.look s.env 1).toB) ((Eng.look s.env 2).toI)⟩
theorem fsF23 : ∀ (N : Nat) (lk : Nat → AV) (M : List Blk), FFF23 (F23 (N + 1)) (canS sgF23 lk M) = evfn CX (T23ur1 N R23) code23 rsF23 (argsE 2 (canS sgF23 lk M).env) (canS sgF23 lk M).mem (goRt CX 0 3 (fun _ => some xRF23)) := by intro N lk M; kernel_rfl
theorem soundF23 : ∀ N, RecOkF23 (F23 N)
  | 0, lk, M, o, h => by cases h
  | N + 1, lk, M, o, h => fn_soundt hX (okT23ur1 N R23) Try.func23 hb23 rfl en23 (by kernel_rfl) (ys := fun _ => some xRF23) (fun st y h => by injection h with h; subst h; exact fun lk M => ⟨rfl, rfl⟩) ((fsF23 N lk M).symm.trans h)
def cvce23n0 : List Cv := []
def selce23n0 : St → List Nat := fun _ => []
noncomputable def ce23n0 (Fx : TF23) (R : Type) (test : List AV → List Blk → Bool) : CE R := ⟨23, test, fun args M => some (selce23n0 ⟨argEnv 0 args, M, [], .unk⟩), fun args M k => tst (Nat.beq args.length 2) (callFn CX 0 cvce23n0 sgF23 selce23n0 (FFF23 Fx) elF23 args M k)⟩
theorem okce23n0 (Fx : TF23) (h : RecOkF23 Fx) (R : Type) (test : List AV → List Blk → Bool) : CeOk CX (ce23n0 Fx R test) := ce_ok hX (fun o k => by cases o; rfl) h en23 (fun args M ids h => by injection h with h; exact ⟨rfl, h.symm⟩)
end Go.Proofs.Ytbgdiljnmifakaa

namespace Go.Proofs.Ytbgdiljnmifakaa
open Go Go.Eng
set_option maxRecDepth 100000

/-! ### F6: ceiling/ceilinglaw39.RespCalls -/
inductive R6 where
  | r (x0 : Bool)
abbrev TF6 := List Row → List Row → Int → Int → Int → Int → Option R6
def sgF6 : LSh := ⟨[(0, .agg [.cell (.slice 38), .cell (.slice 3), .cell (.int .i64), .cell (.int .i64)]), (1, .one (.cell (.int .i64))), (2, .one (.cell (.int .i64)))], []⟩
def FFF6 (Fx : TF6) (s : St) : Option R6 := Fx (((Eng.look s.env 0).cells.getD 0 .top).rows) (((Eng.look s.env 0).cells.getD 1 .top).rows) (((Eng.look s.env 0).cells.getD 2 .top).toI) (((Eng.look s.env 0).cells.getD 3 .top).toI) ((Eng.look s.env 1).toI) ((Eng.look s.env 2).toI)
def valF6 (o : R6) : AV := match o with | .r x0 => .bool x0
def memF6 (o : R6) : List Blk := match o with | .r x0 => []
def elF6 {R : Type} (o : R6) (k : AV → List Blk → Option R) : Option R := match o with | .r x0 => k (.bool x0) []
def RecOkF6 (Fx : TF6) : Prop := ∀ lk M o, FFF6 Fx (canS sgF6 lk M) = some o → FCalls CX 6 0 (argsE 3 (canS sgF6 lk M).env) (canS sgF6 lk M).mem (valF6 o) (memF6 o)
noncomputable def csF6 (N : Nat) (R : Type) : List (CE R) := [ce9n0 (F9 N) R (fun _ _ => true), ce10n0 (F10 N) R (fun _ _ => true), ce17n0 (F17 N) R (fun _ _ => true), ce19n0 (F19 N) R (fun _ _ => true), ce20n0 (F20 N) R (fun _ _ => true), ce21n1 (F21 N) R (fun _ _ => true), ce22n0 (F22 N) R (fun _ _ => true), ce23n0 (F23 N) R (fun _ _ => true)]
theorem hcsF6 (N : Nat) (R : Type) : AllE (CeOk CX) (csF6 N R) := ⟨okce9n0 (F9 N) (soundF9 N) R (fun _ _ => true), okce10n0 (F10 N) (soundF10 N) R (fun _ _ => true), okce17n0 (F17 N) (soundF17 N) R (fun _ _ => true), okce19n0 (F19 N) (soundF19 N) R (fun _ _ => true), okce20n0 (F20 N) (soundF20 N) R (fun _ _ => true), okce21n1 (F21 N) (soundF21 N) R (fun _ _ => true), okce22n0 (F22 N) (soundF22 N) R (fun _ _ => true), okce23n0 (F23 N) (soundF23 N) R (fun _ _ => true), trivial⟩
inductive OJ6a3730 where
  | nx (x8 : Int)
def J6a3730 (N : Nat) : Int → Int → Int → Option OJ6a3730 := fun x1 x7 x8 =>
    match decide (x7 < (0 : Int)) with
    | true =>
      some (.nx x1)
    | false =>
      some (.nx x8)
def LFJ6a3730 (N : Nat) (s : St) : Option OJ6a3730 := J6a3730 N ((Eng.look s.env 1).toI) ((Eng.look s.env 7).toI) ((Eng.look s.env 8).toI)
def sgJ6a3730 : LSh := ⟨[(1, .one (.cell (.int .i64))), (7, .one (.cell (.int .i64))), (8, .one (.cell (.int .i64)))], []⟩
def ceJ6a3730 : List Cv := []
def seJ6a3730 : St → List Nat := fun _ => []
def xJ6a3730wnx : XSh OJ6a3730 := ⟨[], ⟨[(8, .one (.cell (.int .i64)))], []⟩, fun _ => [], fun s => .nx ((Eng.look s.env 8).toI)⟩
def xsJ6a3730 : Ex → St → Option (XSh OJ6a3730) := fun e st => match e with
  | .normal => some xJ6a3730wnx
  | _ => none
def exJ6a3730 (o : OJ6a3730) : Ex := match o with | .nx x8 => .normal
def stJ6a3730 (o : OJ6a3730) : St := match o with | .nx x8 => ⟨[(8, .int .i64 x8)], [], [], .unk⟩
def elJ6a3730 {R : Type} (o : OJ6a3730) (k : Ex → St → Option R) : Option R := match o with | .nx x8 => k .normal ⟨[(8, .int .i64 x8)], [], [], .unk⟩
theorem heJ6a3730 {R : Type} (o : OJ6a3730) (k : Ex → St → Option R) : elJ6a3730 o k = k (exJ6a3730 o) (stJ6a3730 o) := by cases o <;> rfl
theorem hxJ6a3730 : ∀ e st x, xsJ6a3730 e st = some x → outOk x e exJ6a3730 stJ6a3730 := by
  intro e st x h
  unfold xsJ6a3730 at h
  repeat' split at h
  all_goals first
    | (injection h with h; subst h; exact fun lk M => ⟨rfl, rfl⟩)
    | cases h
noncomputable def T6uc3730 (N : Nat) (R : Type) : LTab R := mkTab ⟨111, 120259084544⟩ (csF6 N R) (noY) [] [] []
theorem okT6uc3730 (N : Nat) (R : Type) : (T6uc3730 N R).Ok CX code6 := mkTab_ok (hcsF6 N R) (noY_ok) (trivial) (trivial) (trivial)
noncomputable def bdJ6a3730 : Code := (codeAt code6 [false, true, false, false, true, false, false, true, false, true, true]).getD .skip
theorem hsJ6a3730 (N : Nat) : ∀ (lk : Nat → AV) (M : List Blk), LFJ6a3730 N (canS sgJ6a3730 lk M) = evk CX (T6uc3730 N OJ6a3730) bdJ6a3730 3730 (canS sgJ6a3730 lk M) (kontX CX 0 xsJ6a3730) := by intro lk M; kernel_rfl
inductive OL6a58 where
  | ret (x6 : Bool) (b0c0 : List Row) (b0c1 : List Row) (b0c2 : Int) (b0c3 : Int)
  | x0 (b0c0 : List Row) (b0c1 : List Row) (b0c2 : Int) (b0c3 : Int)
def L6a58 (N : Nat) : Nat → Int → Int → Int → List Row → List Row → Int → Int → Option OL6a58
  | 0 => fun _ _ _ _ _ _ _ => none
  | n + 1 => fun x1 x2 x7 b0c0 b0c1 b0c2 b0c3 =>
    match decide (x7 ≤ ((b0c0.length : Int))) with
    | true =>
      match J6a3730 N x1 x7 x7 with
      | none => none
      | some (.nx x8v3) =>
        match F19 N b0c0 b0c1 b0c2 b0c3 x8v3 with
        | none => none
        | some (.r rx0v4 rx1v4) =>
          match F20 N b0c0 b0c1 b0c2 b0c3 x8v3 with
          | none => none
          | some (.r rx0v5 rx1v5) =>
            match F21 N b0c0 b0c1 b0c2 b0c3 x8v3 x2 with
            | none => none
            | some (.r rx0v6 rx1v6) =>
              match F22 N b0c0 b0c1 b0c2 b0c3 x8v3 x2 with
              | none => none
              | some (.r rx0v7 rx1v7) =>
                match F17 N b0c0 b0c1 b0c2 b0c3 x8v3 with
                | none => none
                | some (.r rx0v8 rx1v8 rx2v8) =>
                  match F23 N b0c0 b0c1 b0c2 b0c3 x8v3 with
                  | none => none
                  | some (.r rx0v9 rx1v9 rx2v9) =>
                    match rx0v4 != rx0v5 with
                    | true =>
                      some (.ret false b0c0 b0c1 b0c2 b0c3)
                    | false =>
                      match rx1v4 != rx1v5 with
                      | true =>
                        some (.ret false b0c0 b0c1 b0c2 b0c3)
                      | false =>
                        match rx0v6 != rx0v7 with
                        | true =>
                          some (.ret false b0c0 b0c1 b0c2 b0c3)
                        | false =>
                          match rx1v6 != rx1v7 with
                          | true =>
                            some (.ret false b0c0 b0c1 b0c2 b0c3)
                          | false =>
                            match rx0v8 != rx0v9 with
                            | true =>
                              some (.ret false b0c0 b0c1 b0c2 b0c3)
                            | false =>
                              match !(rx1v8 == rx1v9) with
                              | true =>
                                some (.ret false b0c0 b0c1 b0c2 b0c3)
                              | false =>
                                match rx2v8 != rx2v9 with
                                | true =>
                                  some (.ret false b0c0 b0c1 b0c2 b0c3)
                                | false =>
                                  L6a58 N n x1 x2 (IntKind.wrap .i64 (x7 + (1 : Int))) b0c0 b0c1 b0c2 b0c3
    | false =>
      some (.x0 b0c0 b0c1 b0c2 b0c3)
def LFL6a58 (N : Nat) (n : Nat) (s : St) : Option OL6a58 := L6a58 N n ((Eng.look s.env 1).toI) ((Eng.look s.env 2).toI) ((Eng.look s.env 7).toI) (((s.mem.getD 0 .dead).cells.getD 0 .top).rows) (((s.mem.getD 0 .dead).cells.getD 1 .top).rows) (((s.mem.getD 0 .dead).cells.getD 2 .top).toI) (((s.mem.getD 0 .dead).cells.getD 3 .top).toI)
def sgL6a58 : LSh := ⟨[(1, .one (.cell (.int .i64))), (2, .one (.cell (.int .i64))), (3, .one (.ptr 0 0 0)), (7, .one (.cell (.int .i64)))], [.var [.any, .any, .int .i64, .int .i64] [.cell (.slice 38), .cell (.slice 3), .cell (.int .i64), .cell (.int .i64)]]⟩
def ceL6a58 : List Cv := []
def seL6a58 : St → List Nat := fun st => [(Eng.look st.env 3).id]
def xL6a58wret : XSh OL6a58 := ⟨[], ⟨[(6, .one (.cell (.bool)))], [.var [.any, .any, .int .i64, .int .i64] [.cell (.slice 38), .cell (.slice 3), .cell (.int .i64), .cell (.int .i64)]]⟩, fun st => [0], fun s => .ret ((Eng.look s.env 6).toB) (((s.mem.getD 0 .dead).cells.getD 0 .top).rows) (((s.mem.getD 0 .dead).cells.getD 1 .top).rows) (((s.mem.getD 0 .dead).cells.getD 2 .top).toI) (((s.mem.getD 0 .dead).cells.getD 3 .top).toI)⟩
def xL6a58wx0 : XSh OL6a58 := ⟨[], ⟨[], [.var [.any, .any, .int .i64, .int .i64] [.cell (.slice 38), .cell (.slice 3), .cell (.int .i64), .cell (.int .i64)]]⟩, fun st => [0], fun s => .x0 (((s.mem.getD 0 .dead).cells.getD 0 .top).rows) (((s.mem.getD 0 .dead).cells.getD 1 .top).rows) (((s.mem.getD 0 .dead).cells.getD 2 .top).toI) (((s.mem.getD 0 .dead).cells.getD 3 .top).toI)⟩
def xsL6a58 : Ex → St → Option (XSh OL6a58) := fun e st => match e with
  | .ret => some xL6a58wret
  | .exit 0 => some xL6a58wx0
  | _ => none
def exL6a58 (o : OL6a58) : Ex := match o with | .ret x6 b0c0 b0c1 b0c2 b0c3 => .ret | .x0 b0c0 b0c1 b0c2 b0c3 => (.exit 0)
def stL6a58 (o : OL6a58) : St := match o with | .ret x6 b0c0 b0c1 b0c2 b0c3 => ⟨[(6, .bool x6)], [.var [.any, .any, .int .i64, .int .i64] [.list 38 b0c0, .list 3 b0c1, .int .i64 b0c2, .int .i64 b0c3]], [], .unk⟩ | .x0 b0c0 b0c1 b0c2 b0c3 => ⟨[], [.var [.any, .any, .int .i64, .int .i64] [.list 38 b0c0, .list 3 b0c1, .int .i64 b0c2, .int .i64 b0c3]], [], .unk⟩
def elL6a58 {R : Type} (o : OL6a58) (k : Ex → St → Option R) : Option R := match o with | .ret x6 b0c0 b0c1 b0c2 b0c3 => k .ret ⟨[(6, .bool x6)], [.var [.any, .any, .int .i64, .int .i64] [.list 38 b0c0, .list 3 b0c1, .int .i64 b0c2, .int .i64 b0c3]], [], .unk⟩ | .x0 b0c0 b0c1 b0c2 b0c3 => k (.exit 0) ⟨[], [.var [.any, .any, .int .i64, .int .i64] [.list 38 b0c0, .list 3 b0c1, .int .i64 b0c2, .int .i64 b0c3]], [], .unk⟩
theorem heL6a58 {R : Type} (o : OL6a58) (k : Ex → St → Option R) : elL6a58 o k = k (exL6a58 o) (stL6a58 o) := by cases o <;> rfl
theorem hxL6a58 : ∀ e st x, xsL6a58 e st = some x → outOk x e exL6a58 stL6a58 := by
  intro e st x h
  unfold xsL6a58 at h
  repeat' split at h
  all_goals first
    | (injection h with h; subst h; exact fun lk M => ⟨rfl, rfl⟩)
    | cases h
noncomputable def T6ul58 (N : Nat) (R : Type) : LTab R := mkTab ⟨111, 1298074214633706907132624023584704⟩ (csF6 N R) (noY) [] [] [(3730, fun st k => callLoop CX 0 120259084544 ceJ6a3730 sgJ6a3730 seJ6a3730 ⟨111, 1298074214633706907132624023584704⟩ (LFJ6a3730 N) elJ6a3730 st k)]
theorem okT6ul58 (N : Nat) (R : Type) : (T6ul58 N R).Ok CX code6 := mkTab_ok (hcsF6 N R) (noY_ok) (trivial) (trivial) (⟨cut_ok hX (path := [false, true, false, false, true, false, false, true, false, true, true]) (by kernel_rfl) (by rfl) (okT6uc3730 N OJ6a3730) (hsJ6a3730 N) hxJ6a3730 rfl heJ6a3730, trivial⟩)
noncomputable def bdL6a58 : Code := match codeAt code6 [false, true, false, true, true] with | some (.loop c) => c | _ => .skip
theorem hsL6a58 (N : Nat) : ∀ (n : Nat) (lk : Nat → AV) (M : List Blk), LFL6a58 N (n + 1) (canS sgL6a58 lk M) = evk CX (T6ul58 N OL6a58) bdL6a58 (2 * 58) (canS sgL6a58 lk M) (kont CX 1 [] sgL6a58 (fun st => [0]) xsL6a58 (LFL6a58 N n)) := by intro n lk M; kernel_rfl
noncomputable def T6ur1 (N : Nat) (R : Type) : LTab R := mkTab ⟨111, 2596148429267413814265248164610047⟩ (csF6 N R) (noY) [(58, fun st k => callLoop CX 1 1298074214633706907132624023584704 ceL6a58 sgL6a58 seL6a58 ⟨111, 2596148429267413814265248164610047⟩ (LFL6a58 N N) elL6a58 st k)] [] []
theorem okT6ur1 (N : Nat) (R : Type) : (T6ur1 N R).Ok CX code6 := mkTab_ok (hcsF6 N R) (noY_ok) (⟨loop_ok hX (path := [false, true, false, true, true]) (by kernel_rfl) (by rfl) (okT6ul58 N OL6a58) (fun _ _ => rfl) (hsL6a58 N) hxL6a58 rfl heL6a58, trivial⟩) (trivial) (trivial)
def rsF6 : List ResultVar := [.tmp 6]
def F6 : Nat → TF6
  | 0 => fun _ _ _ _ _ _ => none
  | N + 1 => fun x0c0 x0c1 x0c2 x0c3 x1 x2 =>
    match F9 N x0c0 x0c1 x0c2 x0c3 with
    | none => none
    | some (.r rx0v1) =>
      match rx0v1 with
      | true =>
        match F10 N  with
        | none => none
        | some (.r rx0v2) =>
          some (.r rx0v2)
      | false =>
        match L6a58 N N x1 x2 ((-1)) x0c0 x0c1 x0c2 x0c3 with
        | none => none
        | some (.ret x6v10 b0c0v10 b0c1v10 b0c2v10 b0c3v10) =>
          some (.r x6v10)
        | some (.x0 b0c0v11 b0c1v11 b0c2v11 b0c3v11) =>
          match F10 N  with
          | none => none
          | some (.r rx0v12) =>
            some (.r rx0v12)
def xRF6 : XSh R6 := ⟨[], ⟨[(0, .one (.cell (.bool)))], []⟩, fun _ => [], fun s => .r ((Eng.look s.env 0).toB)⟩
theorem fsF6 : ∀ (N : Nat) (lk : Nat → AV) (M : List Blk), FFF6 (F6 (N + 1)) (canS sgF6 lk M) = evfn CX (T6ur1 N R6) code6 rsF6 (argsE 3 (canS sgF6 lk M).env) (canS sgF6 lk M).mem (goR CX 0 (fun _ => some xRF6)) := by intro N lk M; kernel_rfl
theorem soundF6 : ∀ N, RecOkF6 (F6 N)
  | 0, lk, M, o, h => by cases h
  | N + 1, lk, M, o, h => fn_sound hX (okT6ur1 N R6) Try.func6 hb6 rfl en6 (by kernel_rfl) (ys := fun _ => some xRF6) (fun st y h => by injection h with h; subst h; exact fun lk M => ⟨rfl, rfl⟩) ((fsF6 N lk M).symm.trans h)
end Go.Proofs.Ytbgdiljnmifakaa

namespace Go.Proofs.Ytbgdiljnmifakaa
open Go Go.Eng
set_option maxRecDepth 100000

/-! ### F12: ceiling/ceilingref39.All -/
inductive R12 where
  | r (x1 : Int) (b0 : List Row)
abbrev TF12 := List Row → List Row → Int → Int → Option R12
def sgF12 : LSh := ⟨[(0, .agg [.cell (.slice 38), .cell (.slice 3), .cell (.int .i64), .cell (.int .i64)])], []⟩
def FFF12 (Fx : TF12) (s : St) : Option R12 := Fx (((Eng.look s.env 0).cells.getD 0 .top).rows) (((Eng.look s.env 0).cells.getD 1 .top).rows) (((Eng.look s.env 0).cells.getD 2 .top).toI) (((Eng.look s.env 0).cells.getD 3 .top).toI)
def valF12 (o : R12) : AV := match o with | .r x1 b0 => .tup [.own 0, .int .i64 x1]
def memF12 (o : R12) : List Blk := match o with | .r x1 b0 => [.row 48 b0]
def elF12 {R : Type} (o : R12) (k : AV → List Blk → Option R) : Option R := match o with | .r x1 b0 => k (.tup [.own 0, .int .i64 x1]) [.row 48 b0]
def RecOkF12 (Fx : TF12) : Prop := ∀ lk M o, FFF12 Fx (canS sgF12 lk M) = some o → FCalls CX 12 0 (argsE 1 (canS sgF12 lk M).env) (canS sgF12 lk M).mem (valF12 o) (memF12 o)
noncomputable def csF12 (N : Nat) (R : Type) : List (CE R) := [ce14n0 (F14 N) R (fun _ _ => true), ce29n0 (F29 N) R (fun _ _ => true), ce30n0 (F30 N) R (fun _ _ => true)]
theorem hcsF12 (N : Nat) (R : Type) : AllE (CeOk CX) (csF12 N R) := ⟨okce14n0 (F14 N) (soundF14 N) R (fun _ _ => true), okce29n0 (F29 N) (soundF29 N) R (fun _ _ => true), okce30n0 (F30 N) (soundF30 N) R (fun _ _ => true), trivial⟩
inductive OL12a122 where
  | x0 (b0c0 : List Row) (b0c1 : List Row) (b0c2 : Int) (b0c3 : Int) (b1 : List Row)
def L12a122 (N : Nat) : Nat → Int → List Row → List Row → Int → Int → List Row → Option OL12a122
  | 0 => fun _ _ _ _ _ _ => none
  | n + 1 => fun x5 b0c0 b0c1 b0c2 b0c3 b1 =>
    match decide (x5 < ((b0c0.length : Int))) with
    | true =>
      match F29 N b0c0 b0c1 b0c2 b0c3 x5 with
      | none => none
      | some (.r rx0v2 rx1v2) =>
        tst (decide ((0 : Int) ≤ x5) && decide (x5 < ((b0c0.length : Int)))) <|
        match F30 N b0c0 b0c1 b0c2 b0c3 x5 with
        | none => none
        | some (.r rx0v3) =>
          tst (decide (((b1.length + 1) * 32) ≤ 140737488355328)) <|
          L12a122 N n (IntKind.wrap .i64 (x5 + (1 : Int))) b0c0 b0c1 b0c2 b0c3 (b1 ++ (([[.int .i64 ((((b0c0.getD x5.toNat [])).getD 0 .top).toI), .int .i64 rx0v3, .int .i64 rx0v2, .bool rx1v2]] : List Row)))
    | false =>
      some (.x0 b0c0 b0c1 b0c2 b0c3 b1)
def LFL12a122 (N : Nat) (n : Nat) (s : St) : Option OL12a122 := L12a122 N n ((Eng.look s.env 5).toI) (((s.mem.getD 0 .dead).cells.getD 0 .top).rows) (((s.mem.getD 0 .dead).cells.getD 1 .top).rows) (((s.mem.getD 0 .dead).cells.getD 2 .top).toI) (((s.mem.getD 0 .dead).cells.getD 3 .top).toI) ((s.mem.getD 1 .dead).rows)
def sgL12a122 : LSh := ⟨[(1, .one (.ptr 0 0 0)), (4, .one (.own 1)), (5, .one (.cell (.int .i64)))], [.var [.any, .any, .int .i64, .int .i64] [.cell (.slice 38), .cell (.slice 3), .cell (.int .i64), .cell (.int .i64)], .row 48]⟩
def ceL12a122 : List Cv := [.mk 4 48]
def seL12a122 : St → List Nat := fun st => [(Eng.look st.env 1).id, (Eng.look st.env 4).id]
def xL12a122wx0 : XSh OL12a122 := ⟨[], ⟨[(4, .one (.own 1))], [.var [.any, .any, .int .i64, .int .i64] [.cell (.slice 38), .cell (.slice 3), .cell (.int .i64), .cell (.int .i64)], .row 48]⟩, fun st => [0, (Eng.look st.env 4).id], fun s => .x0 (((s.mem.getD 0 .dead).cells.getD 0 .top).rows) (((s.mem.getD 0 .dead).cells.getD 1 .top).rows) (((s.mem.getD 0 .dead).cells.getD 2 .top).toI) (((s.mem.getD 0 .dead).cells.getD 3 .top).toI) ((s.mem.getD 1 .dead).rows)⟩
def xsL12a122 : Ex → St → Option (XSh OL12a122) := fun e st => match e with
  | .exit 0 => some xL12a122wx0
  | _ => none
def exL12a122 (o : OL12a122) : Ex := match o with | .x0 b0c0 b0c1 b0c2 b0c3 b1 => (.exit 0)
def stL12a122 (o : OL12a122) : St := match o with | .x0 b0c0 b0c1 b0c2 b0c3 b1 => ⟨[(4, .own 1)], [.var [.any, .any, .int .i64, .int .i64] [.list 38 b0c0, .list 3 b0c1, .int .i64 b0c2, .int .i64 b0c3], .row 48 b1], [], .unk⟩
def elL12a122 {R : Type} (o : OL12a122) (k : Ex → St → Option R) : Option R := match o with | .x0 b0c0 b0c1 b0c2 b0c3 b1 => k (.exit 0) ⟨[(4, .own 1)], [.var [.any, .any, .int .i64, .int .i64] [.list 38 b0c0, .list 3 b0c1, .int .i64 b0c2, .int .i64 b0c3], .row 48 b1], [], .unk⟩
theorem heL12a122 {R : Type} (o : OL12a122) (k : Ex → St → Option R) : elL12a122 o k = k (exL12a122 o) (stL12a122 o) := by cases o <;> rfl
theorem hxL12a122 : ∀ e st x, xsL12a122 e st = some x → outOk x e exL12a122 stL12a122 := by
  intro e st x h
  unfold xsL12a122 at h
  repeat' split at h
  all_goals first
    | (injection h with h; subst h; exact fun lk M => ⟨rfl, rfl⟩)
    | cases h
noncomputable def T12ul122 (N : Nat) (R : Type) : LTab R := mkTab ⟨40, 549755812080⟩ (csF12 N R) (noY) [] [] []
theorem okT12ul122 (N : Nat) (R : Type) : (T12ul122 N R).Ok CX code12 := mkTab_ok (hcsF12 N R) (noY_ok) (trivial) (trivial) (trivial)
noncomputable def bdL12a122 : Code := match codeAt code12 [false, true, false, true, true, true] with | some (.loop c) => c | _ => .skip
theorem hsL12a122 (N : Nat) : ∀ (n : Nat) (lk : Nat → AV) (M : List Blk), LFL12a122 N (n + 1) (canS sgL12a122 lk M) = evk CX (T12ul122 N OL12a122) bdL12a122 (2 * 122) (canS sgL12a122 lk M) (kont CX 1 [] sgL12a122 (fun st => [0, (Eng.look st.env 4).id]) xsL12a122 (LFL12a122 N n)) := by intro n lk M; kernel_rfl
noncomputable def T12ur1 (N : Nat) (R : Type) : LTab R := mkTab ⟨40, 1099511627775⟩ (csF12 N R) (noY) [(122, fun st k => callLoop CX 1 549755812080 ceL12a122 sgL12a122 seL12a122 ⟨40, 1099511627775⟩ (LFL12a122 N N) elL12a122 st k)] [] []
theorem okT12ur1 (N : Nat) (R : Type) : (T12ur1 N R).Ok CX code12 := mkTab_ok (hcsF12 N R) (noY_ok) (⟨loop_ok hX (path := [false, true, false, true, true, true]) (by kernel_rfl) (by rfl) (okT12ul122 N OL12a122) (fun _ _ => rfl) (hsL12a122 N) hxL12a122 rfl heL12a122, trivial⟩) (trivial) (trivial)
def rsF12 : List ResultVar := [.tmp 2, .tmp 3]
def F12 : Nat → TF12
  | 0 => fun _ _ _ _ => none
  | N + 1 => fun x0c0 x0c1 x0c2 x0c3 =>
    match F14 N x0c0 x0c1 x0c2 x0c3 with
    | none => none
    | some (.r rx0v1) =>
      match !rx0v1 with
      | true =>
        some (.r 2 (([] : List Row)))
      | false =>
        match L12a122 N N 0 x0c0 x0c1 x0c2 x0c3 (([] : List Row)) with
        | none => none
        | some (.x0 b0c0v4 b0c1v4 b0c2v4 b0c3v4 b1v4) =>
          some (.r 0 b1v4)
def xRF12 : XSh R12 := ⟨[.mk 0 48], ⟨[(0, .one (.own 0)), (1, .one (.cell (.int .i64)))], [.row 48]⟩, fun st => [(Eng.look st.env 0).id], fun s => .r ((Eng.look s.env 1).toI) ((s.mem.getD 0 .dead).rows)⟩
theorem fsF12 : ∀ (N : Nat) (lk : Nat → AV) (M : List Blk), FFF12 (F12 (N + 1)) (canS sgF12 lk M) = evfn CX (T12ur1 N R12) code12 rsF12 (argsE 1 (canS sgF12 lk M).env) (canS sgF12 lk M).mem (goRt CX 0 2 (fun _ => some xRF12)) := by intro N lk M; kernel_rfl
theorem soundF12 : ∀ N, RecOkF12 (F12 N)
  | 0, lk, M, o, h => by cases h
  | N + 1, lk, M, o, h => fn_soundt hX (okT12ur1 N R12) Try.func12 hb12 rfl en12 (by kernel_rfl) (ys := fun _ => some xRF12) (fun st y h => by injection h with h; subst h; exact fun lk M => ⟨rfl, rfl⟩) ((fsF12 N lk M).symm.trans h)
def cvce12n0 : List Cv := []
def selce12n0 : St → List Nat := fun _ => []
noncomputable def ce12n0 (Fx : TF12) (R : Type) (test : List AV → List Blk → Bool) : CE R := ⟨12, test, fun args M => some (selce12n0 ⟨argEnv 0 args, M, [], .unk⟩), fun args M k => tst (Nat.beq args.length 1) (callFn CX 0 cvce12n0 sgF12 selce12n0 (FFF12 Fx) elF12 args M k)⟩
theorem okce12n0 (Fx : TF12) (h : RecOkF12 Fx) (R : Type) (test : List AV → List Blk → Bool) : CeOk CX (ce12n0 Fx R test) := ce_ok hX (fun o k => by cases o; rfl) h en12 (fun args M ids h => by injection h with h; exact ⟨rfl, h.symm⟩)
end Go.Proofs.Ytbgdiljnmifakaa

namespace Go.Proofs.Ytbgdiljnmifakaa
open Go Go.Eng
set_option maxRecDepth 100000

/-! ### F15: ceiling/ceilingref39.Same -/
inductive R15 where
  | r (x0 : Bool)
abbrev TF15 := List Row → List Row → Option R15
def sgF15 : LSh := ⟨[(0, .one (.cell (.slice 48))), (1, .one (.cell (.slice 48)))], []⟩
def FFF15 (Fx : TF15) (s : St) : Option R15 := Fx ((Eng.look s.env 0).rows) ((Eng.look s.env 1).rows)
def valF15 (o : R15) : AV := match o with | .r x0 => .bool x0
def memF15 (o : R15) : List Blk := match o with | .r x0 => []
def elF15 {R : Type} (o : R15) (k : AV → List Blk → Option R) : Option R := match o with | .r x0 => k (.bool x0) []
def RecOkF15 (Fx : TF15) : Prop := ∀ lk M o, FFF15 Fx (canS sgF15 lk M) = some o → FCalls CX 15 0 (argsE 2 (canS sgF15 lk M).env) (canS sgF15 lk M).mem (valF15 o) (memF15 o)
noncomputable def csF15 (N : Nat) (R : Type) : List (CE R) := []
theorem hcsF15 (N : Nat) (R : Type) : AllE (CeOk CX) (csF15 N R) := trivial
inductive OL15a58 where
  | ret (x4 : Bool)
  | x0
def L15a58 (N : Nat) : Nat → List Row → List Row → Int → Option OL15a58
  | 0 => fun _ _ _ => none
  | n + 1 => fun x0 x1 x5 =>
    match decide (x5 < ((x0.length : Int))) with
    | true =>
      tst (decide ((0 : Int) ≤ x5) && decide (x5 < ((x0.length : Int)))) <|
      tst (decide ((0 : Int) ≤ x5) && decide (x5 < ((x1.length : Int)))) <|
      match !((((((x0.getD x5.toNat [])).getD 0 .top).toI) == ((((x1.getD x5.toNat [])).getD 0 .top).toI)) && ((((((x0.getD x5.toNat [])).getD 1 .top).toI) == ((((x1.getD x5.toNat [])).getD 1 .top).toI)) && ((((((x0.getD x5.toNat [])).getD 2 .top).toI) == ((((x1.getD x5.toNat [])).getD 2 .top).toI)) && ((((((x0.getD x5.toNat [])).getD 3 .top).toB) == ((((x1.getD x5.toNat [])).getD 3 .top).toB)) && true)))) with
      | true =>
        some (.ret false)
      | false =>
        L15a58 N n x0 x1 (IntKind.wrap .i64 (x5 + (1 : Int)))
    | false =>
      some .x0
def LFL15a58 (N : Nat) (n : Nat) (s : St) : Option OL15a58 := L15a58 N n ((Eng.look s.env 0).rows) ((Eng.look s.env 1).rows) ((Eng.look s.env 5).toI)
def sgL15a58 : LSh := ⟨[(0, .one (.cell (.slice 48))), (1, .one (.cell (.slice 48))), (5, .one (.cell (.int .i64)))], []⟩
def ceL15a58 : List Cv := []
def seL15a58 : St → List Nat := fun _ => []
def xL15a58wret : XSh OL15a58 := ⟨[], ⟨[(4, .one (.cell (.bool)))], []⟩, fun _ => [], fun s => .ret ((Eng.look s.env 4).toB)⟩
def xL15a58wx0 : XSh OL15a58 := ⟨[], ⟨[], []⟩, fun _ => [], fun s => .x0 ⟩
def xsL15a58 : Ex → St → Option (XSh OL15a58) := fun e st => match e with
  | .ret => some xL15a58wret
  | .exit 0 => some xL15a58wx0
  | _ => none
def exL15a58 (o : OL15a58) : Ex := match o with | .ret x4 => .ret | .x0 => (.exit 0)
def stL15a58 (o : OL15a58) : St := match o with | .ret x4 => ⟨[(4, .bool x4)], [], [], .unk⟩ | .x0 => ⟨[], [], [], .unk⟩
def elL15a58 {R : Type} (o : OL15a58) (k : Ex → St → Option R) : Option R := match o with | .ret x4 => k .ret ⟨[(4, .bool x4)], [], [], .unk⟩ | .x0 => k (.exit 0) ⟨[], [], [], .unk⟩
theorem heL15a58 {R : Type} (o : OL15a58) (k : Ex → St → Option R) : elL15a58 o k = k (exL15a58 o) (stL15a58 o) := by cases o <;> rfl
theorem hxL15a58 : ∀ e st x, xsL15a58 e st = some x → outOk x e exL15a58 stL15a58 := by
  intro e st x h
  unfold xsL15a58 at h
  repeat' split at h
  all_goals first
    | (injection h with h; subst h; exact fun lk M => ⟨rfl, rfl⟩)
    | cases h
noncomputable def T15ul58 (N : Nat) (R : Type) : LTab R := mkTab ⟨26, 67106864⟩ (csF15 N R) (noY) [] [] []
theorem okT15ul58 (N : Nat) (R : Type) : (T15ul58 N R).Ok CX code15 := mkTab_ok (hcsF15 N R) (noY_ok) (trivial) (trivial) (trivial)
noncomputable def bdL15a58 : Code := match codeAt code15 [false, true, false, true, true] with | some (.loop c) => c | _ => .skip
theorem hsL15a58 (N : Nat) : ∀ (n : Nat) (lk : Nat → AV) (M : List Blk), LFL15a58 N (n + 1) (canS sgL15a58 lk M) = evk CX (T15ul58 N OL15a58) bdL15a58 (2 * 58) (canS sgL15a58 lk M) (kont CX 0 [] sgL15a58 (fun _ => []) xsL15a58 (LFL15a58 N n)) := by intro n lk M; kernel_rfl
noncomputable def T15ur1 (N : Nat) (R : Type) : LTab R := mkTab ⟨26, 67108863⟩ (csF15 N R) (noY) [(58, fun st k => callLoop CX 0 67106864 ceL15a58 sgL15a58 seL15a58 ⟨26, 67108863⟩ (LFL15a58 N N) elL15a58 st k)] [] []
theorem okT15ur1 (N : Nat) (R : Type) : (T15ur1 N R).Ok CX code15 := mkTab_ok (hcsF15 N R) (noY_ok) (⟨loop_ok hX (path := [false, true, false, true, true]) (by kernel_rfl) (by rfl) (okT15ul58 N OL15a58) (fun _ _ => rfl) (hsL15a58 N) hxL15a58 rfl heL15a58, trivial⟩) (trivial) (trivial)
def rsF15 : List ResultVar := [.tmp 4]
def F15 : Nat → TF15
  | 0 => fun _ _ => none
  | N + 1 => fun x0 x1 =>
    match ((x0.length : Int)) != ((x1.length : Int)) with
    | true =>
      some (.r false)
    | false =>
      match L15a58 N N x0 x1 0 with
      | none => none
      | some (.ret x4v1) =>
        some (.r x4v1)
      | some (.x0) =>
        some (.r true)
def xRF15 : XSh R15 := ⟨[], ⟨[(0, .one (.cell (.bool)))], []⟩, fun _ => [], fun s => .r ((Eng.look s.env 0).toB)⟩
theorem fsF15 : ∀ (N : Nat) (lk : Nat → AV) (M : List Blk), FFF15 (F15 (N + 1)) (canS sgF15 lk M) = evfn CX (T15ur1 N R15) code15 rsF15 (argsE 2 (canS sgF15 lk M).env) (canS sgF15 lk M).mem (goR CX 0 (fun _ => some xRF15)) := by intro N lk M; kernel_rfl
theorem soundF15 : ∀ N, RecOkF15 (F15 N)
  | 0, lk, M, o, h => by cases h
  | N + 1, lk, M, o, h => fn_sound hX (okT15ur1 N R15) Try.func15 hb15 rfl en15 (by kernel_rfl) (ys := fun _ => some xRF15) (fun st y h => by injection h with h; subst h; exact fun lk M => ⟨rfl, rfl⟩) ((fsF15 N lk M).symm.trans h)
def cvce15n0 : List Cv := [.frz 0 (.slice 48), .frz 1 (.slice 48)]
def selce15n0 : St → List Nat := fun _ => []
noncomputable def ce15n0 (Fx : TF15) (R : Type) (test : List AV → List Blk → Bool) : CE R := ⟨15, test, fun _ M => some (List.range M.length), fun args M k => tst (Nat.beq args.length 2) (callFn CX 0 cvce15n0 sgF15 selce15n0 (FFF15 Fx) elF15 args M (fun x M' => tst (Nat.ble M.length M'.length) (k x M')))⟩
theorem okce15n0 (Fx : TF15) (h : RecOkF15 Fx) (R : Type) (test : List AV → List Blk → Bool) : CeOk CX (ce15n0 Fx R test) := ce_okc hX (fun o k => by cases o; rfl) h en15
end Go.Proofs.Ytbgdiljnmifakaa

namespace Go.Proofs.Ytbgdiljnmifakaa
open Go Go.Eng
set_option maxRecDepth 100000

/-! ### F3: ceiling/ceilinglaw39.RespAll -/
inductive R3 where
  | r (x0 : Bool)
abbrev TF3 := List Row → List Row → Int → Int → Option R3
def sgF3 : LSh := ⟨[(0, .agg [.cell (.slice 38), .cell (.slice 3), .cell (.int .i64), .cell (.int .i64)])], []⟩
def FFF3 (Fx : TF3) (s : St) : Option R3 := Fx (((Eng.look s.env 0).cells.getD 0 .top).rows) (((Eng.look s.env 0).cells.getD 1 .top).rows) (((Eng.look s.env 0).cells.getD 2 .top).toI) (((Eng.look s.env 0).cells.getD 3 .top).toI)
def valF3 (o : R3) : AV := match o with | .r x0 => .bool x0
def memF3 (o : R3) : List Blk := match o with | .r x0 => []
def elF3 {R : Type} (o : R3) (k : AV → List Blk → Option R) : Option R := match o with | .r x0 => k (.bool x0) []
def RecOkF3 (Fx : TF3) : Prop := ∀ lk M o, FFF3 Fx (canS sgF3 lk M) = some o → FCalls CX 3 0 (argsE 1 (canS sgF3 lk M).env) (canS sgF3 lk M).mem (valF3 o) (memF3 o)
noncomputable def csF3 (N : Nat) (R : Type) : List (CE R) := [ce9n0 (F9 N) R (fun _ _ => true), ce10n0 (F10 N) R (fun _ _ => true), ce11n0 (F11 N) R (fun _ _ => true), ce12n0 (F12 N) R (fun _ _ => true), ce13n0 (F13 N) R (fun _ _ => true), ce14n0 (F14 N) R (fun _ _ => true), ce15n0 (F15 N) R (fun _ _ => true)]
theorem hcsF3 (N : Nat) (R : Type) : AllE (CeOk CX) (csF3 N R) := ⟨okce9n0 (F9 N) (soundF9 N) R (fun _ _ => true), okce10n0 (F10 N) (soundF10 N) R (fun _ _ => true), okce11n0 (F11 N) (soundF11 N) R (fun _ _ => true), okce12n0 (F12 N) (soundF12 N) R (fun _ _ => true), okce13n0 (F13 N) (soundF13 N) R (fun _ _ => true), okce14n0 (F14 N) (soundF14 N) R (fun _ _ => true), okce15n0 (F15 N) (soundF15 N) R (fun _ _ => true), trivial⟩
noncomputable def T3ur1 (N : Nat) (R : Type) : LTab R := mkTab ⟨38, 274877906943⟩ (csF3 N R) (noY) [] [] []
theorem okT3ur1 (N : Nat) (R : Type) : (T3ur1 N R).Ok CX code3 := mkTab_ok (hcsF3 N R) (noY_ok) (trivial) (trivial) (trivial)
def rsF3 : List ResultVar := [.tmp 2]
def F3 : Nat → TF3
  | 0 => fun _ _ _ _ => none
  | N + 1 => fun x0c0 x0c1 x0c2 x0c3 =>
    match F9 N x0c0 x0c1 x0c2 x0c3 with
    | none => none
    | some (.r rx0v1) =>
      match rx0v1 with
      | true =>
        match F10 N  with
        | none => none
        | some (.r rx0v2) =>
          some (.r rx0v2)
      | false =>
        match F11 N x0c0 x0c1 x0c2 x0c3 with
        | none => none
        | some (.r rx1v3 rb0v3) =>
          match F12 N x0c0 x0c1 x0c2 x0c3 with
          | none => none
          | some (.r rx1v4 rb0v4) =>
            match F13 N x0c0 x0c1 x0c2 x0c3 with
            | none => none
            | some (.r rx0v5) =>
              match F14 N x0c0 x0c1 x0c2 x0c3 with
              | none => none
              | some (.r rx0v6) =>
                match rx0v5 == rx0v6 with
                | true =>
                  match F15 N rb0v3 rb0v4 with
                  | none => none
                  | some (.r rx0v7) =>
                    match rx0v7 with
                    | true =>
                      match rx1v3 == rx1v4 with
                      | true =>
                        match F10 N  with
                        | none => none
                        | some (.r rx0v8) =>
                          some (.r rx0v8)
                      | false =>
                        some (.r false)
                    | false =>
                      some (.r false)
                | false =>
                  some (.r false)
def xRF3 : XSh R3 := ⟨[], ⟨[(0, .one (.cell (.bool)))], []⟩, fun _ => [], fun s => .r ((Eng.look s.env 0).toB)⟩
theorem fsF3 : ∀ (N : Nat) (lk : Nat → AV) (M : List Blk), FFF3 (F3 (N + 1)) (canS sgF3 lk M) = evfn CX (T3ur1 N R3) code3 rsF3 (argsE 1 (canS sgF3 lk M).env) (canS sgF3 lk M).mem (goR CX 0 (fun _ => some xRF3)) := by intro N lk M; kernel_rfl
theorem soundF3 : ∀ N, RecOkF3 (F3 N)
  | 0, lk, M, o, h => by cases h
  | N + 1, lk, M, o, h => fn_sound hX (okT3ur1 N R3) Try.func3 hb3 rfl en3 (by kernel_rfl) (ys := fun _ => some xRF3) (fun st y h => by injection h with h; subst h; exact fun lk M => ⟨rfl, rfl⟩) ((fsF3 N lk M).symm.trans h)
end Go.Proofs.Ytbgdiljnmifakaa

namespace Go.Proofs.Ytbgdiljnmifakaa
open Go Go.Eng

/-! ### Cells, numbers -/
def cI (l : List Row) (i : Int) (c : Nat) : Int := ((l.getD i.toNat []).getD c .top).toI
def cL (l : List Row) (i : Int) (c : Nat) : List Row := ((l.getD i.toNat []).getD c .top).rows
theorem wrap_id {n : Int} (h0 : -9223372036854775808 ≤ n) (h1 : n ≤ 9223372036854775807) : IntKind.wrap .i64 n = n := by
  simp [IntKind.wrap, IntKind.bits, IntKind.signed]
  split <;> omega
theorem wrap_succ {i : Nat} (h : i ≤ 1000000) : IntKind.wrap .i64 ((i : Int) + 1) = ((i + 1 : Nat) : Int) := by
  rw [wrap_id (by omega) (by omega)]; omega
theorem dlt {i n : Nat} (h : i < n) : decide ((i : Int) < (n : Int)) = true := decide_eq_true (by omega)
theorem dge {i n : Nat} (h : n ≤ i) : decide ((i : Int) < (n : Int)) = false := decide_eq_false (by omega)
theorem dz (i : Nat) : decide ((0 : Int) ≤ (i : Int)) = true := decide_eq_true (by omega)
def allF (p : Nat → Bool) : Nat → Nat → Bool
  | _, 0 => true
  | i, k + 1 => p i && allF p (i + 1) k
theorem allF_iff {p : Nat → Bool} : ∀ {k i : Nat}, allF p i k = true ↔ ∀ j, i ≤ j → j < i + k → p j = true
  | 0, i => by simp only [allF, true_iff]; intro j h1 h2; omega
  | k + 1, i => by
    simp only [allF, Bool.and_eq_true, allF_iff (k := k) (i := i + 1)]
    constructor
    · rintro ⟨h1, h2⟩ j h3 h4
      by_cases e : j = i
      · subst e; exact h1
      · exact h2 j (by omega) (by omega)
    · intro h
      exact ⟨h i (Nat.le_refl _) (by omega), fun j h1 h2 => h j (by omega) (by omega)⟩

def inR (v lo hi : Int) : Bool := decide (lo ≤ v) && decide (v ≤ hi)
theorem inR_iff {v lo hi : Int} : inR v lo hi = true ↔ lo ≤ v ∧ v ≤ hi := by simp [inR]
theorem F35_eq (N : Nat) (v lo hi : Int) : F35 (N + 1) v lo hi = some (.r (inR v lo hi)) := by
  show (match decide (lo ≤ v) with | true => _ | false => _) = _
  unfold inR
  cases decide (lo ≤ v) <;> rfl
theorem F31_eq (N : Nat) (v lo hi : Int) : F31 (N + 1) v lo hi = some (.r (inR v lo hi)) := by
  show (match decide (lo ≤ v) with | true => _ | false => _) = _
  unfold inR
  cases decide (lo ≤ v) <;> rfl

/-! ### Uses -/
def useF (C : List Row) (cost prio : Int) (us : List Row) : Nat → Nat → Int → Bool
  | _, 0, _ => true
  | i, k + 1, last => !decide (cI us i 0 ≤ last) && (!decide ((C.length : Int) ≤ cI us i 0) && (inR (cI us i 1) 1 cost && (!decide (cI C (cI us i 0) 0 < prio) && useF C cost prio us (i + 1) k (cI us i 0))))
theorem useF_iff {C : List Row} {cost prio : Int} {us : List Row} : ∀ {k i : Nat} {last : Int}, -1 ≤ last → useF C cost prio us i k last = true → ∀ j : Nat, i ≤ j → j < i + k → 0 ≤ cI us j 0 ∧ cI us j 0 < C.length ∧ 1 ≤ cI us j 1 ∧ cI us j 1 ≤ cost ∧ prio ≤ cI C (cI us j 0) 0
  | 0, i, _, _, _, j, h1, h2 => by omega
  | k + 1, i, last, hl, h, j, h1, h2 => by
    simp only [useF, Bool.and_eq_true, Bool.not_eq_true', decide_eq_false_iff_not, inR_iff] at h
    obtain ⟨a1, a2, a3, a4, a5⟩ := h
    by_cases e : j = i
    · subst e; exact ⟨by omega, by omega, a3.1, a3.2, by omega⟩
    · exact useF_iff (by omega) a5 j (by omega) (by omega)

theorem L36_all (N : Nat) (T C : List Row) (sw ins c0 prio c2 c3 c4 cost : Int) (us : List Row) (hu : us.length ≤ 1000) : ∀ (k n i : Nat) (last : Int), -1 ≤ last → i + k = us.length → k < n →
    L36a122 (N + 1) n last i T C sw ins c0 prio c2 c3 c4 cost us = match useF C cost prio us i k last with | true => some (.x0 T C sw ins c0 prio c2 c3 c4 cost us) | false => some (.ret false T C sw ins c0 prio c2 c3 c4 cost us)
  | 0, n + 1, i, last, _, h, _ => by
    show (match decide ((i : Int) < (us.length : Int)) with | true => _ | false => _) = _
    rw [dge (show us.length ≤ i by omega)]; rfl
  | k + 1, n + 1, i, last, hl, h, hn => by
    show (match decide ((i : Int) < (us.length : Int)) with | true => _ | false => _) = _
    simp only [dlt (show i < us.length by omega), dz, Bool.and_self, tst, ← cI.eq_1, F35_eq]
    rw [wrap_succ (by omega)]
    unfold useF
    cases h1 : decide (cI us i 0 ≤ last) with
    | true => rfl
    | false =>
      have h1' := of_decide_eq_false h1
      cases h2 : decide ((C.length : Int) ≤ cI us i 0) with
      | true => rfl
      | false =>
        have h2' := of_decide_eq_false h2
        have e1 : decide ((0 : Int) ≤ cI us i 0) = true := decide_eq_true (by omega)
        have e2 : decide (cI us i 0 < (C.length : Int)) = true := decide_eq_true (by omega)
        simp only [e1, e2, Bool.and_self]
        cases inR (cI us i 1) 1 cost with
        | false => rfl
        | true =>
          cases h3 : decide (cI C (cI us i 0) 0 < prio) with
          | true => rfl
          | false =>
            simp only [Bool.not_false, Bool.not_true, Bool.true_and]
            exact L36_all N T C sw ins c0 prio c2 c3 c4 cost us hu k n (i + 1) _ (by omega) (by omega) (by omega)
  | _, 0, _, _, _, _, h => by omega
theorem L34_all (N : Nat) (T C : List Row) (sw ins c0 prio c2 c3 c4 cost : Int) (us : List Row) (hu : us.length ≤ 1000) : ∀ (k n i : Nat) (last : Int), -1 ≤ last → i + k = us.length → k < n →
    L34a58 (N + 1) n last us us.length i T C sw ins c0 prio c2 c3 c4 cost us = match useF C cost prio us i k last with | true => some (.x0 T C sw ins c0 prio c2 c3 c4 cost us) | false => some (.ret false T C sw ins c0 prio c2 c3 c4 cost us)
  | 0, n + 1, i, last, _, h, _ => by
    show (match decide ((i : Int) < (us.length : Int)) with | true => _ | false => _) = _
    rw [dge (show us.length ≤ i by omega)]; rfl
  | k + 1, n + 1, i, last, hl, h, hn => by
    show (match decide ((i : Int) < (us.length : Int)) with | true => _ | false => _) = _
    simp only [dlt (show i < us.length by omega), dz, Bool.and_self, tst, ← cI.eq_1, F31_eq]
    rw [wrap_succ (by omega)]
    unfold useF
    cases h1 : decide (cI us i 0 ≤ last) with
    | true => rfl
    | false =>
      have h1' := of_decide_eq_false h1
      cases h2 : decide ((C.length : Int) ≤ cI us i 0) with
      | true => rfl
      | false =>
        have h2' := of_decide_eq_false h2
        have e1 : decide ((0 : Int) ≤ cI us i 0) = true := decide_eq_true (by omega)
        have e2 : decide (cI us i 0 < (C.length : Int)) = true := decide_eq_true (by omega)
        simp only [e1, e2, Bool.and_self]
        cases inR (cI us i 1) 1 cost with
        | false => rfl
        | true =>
          cases h3 : decide (cI C (cI us i 0) 0 < prio) with
          | true => rfl
          | false =>
            simp only [Bool.not_false, Bool.not_true, Bool.true_and]
            exact L34_all N T C sw ins c0 prio c2 c3 c4 cost us hu k n (i + 1) _ (by omega) (by omega) (by omega)
  | _, 0, _, _, _, _, h => by omega

/-! ### Tasks -/
def numOk (c0 prio per dl off cost : Int) : Bool :=
  !decide (c0 < 0) && (!decide (prio < 0) && (!decide (31 < prio) && (inR per 1 2147483647 && (inR dl 1 per && (inR off 0 2147483647 && inR cost 1 1073741824)))))
def tkOk (C : List Row) (c0 prio per dl off cost : Int) (us : List Row) : Bool := numOk c0 prio per dl off cost && useF C cost prio us 0 us.length (-1)
theorem F36_eq {N : Nat} (hN : 1100 ≤ N) (T C : List Row) (sw ins c0 prio per dl off cost : Int) (us : List Row) (hu : us.length ≤ 1000) : F36 N T C sw ins c0 prio per dl off cost us = some (.r (tkOk C c0 prio per dl off cost us)) := by
  obtain ⟨M, rfl⟩ : ∃ M, N = M + 2 := ⟨N - 2, by omega⟩
  have hJ : J36a6 (M + 1) c0 prio per dl off cost us = match numOk c0 prio per dl off cost with | true => some (.nx c0 prio per dl off cost us) | false => some (.ret false c0 prio per dl off cost us) := by
    unfold J36a6 numOk
    simp only [F35_eq]
    cases decide (c0 < 0) <;> cases decide (prio < 0) <;> cases decide (31 < prio) <;> cases inR per 1 2147483647 <;> cases inR dl 1 per <;> cases inR off 0 2147483647 <;> cases inR cost 1 1073741824 <;> rfl
  show (match J36a6 (M + 1) c0 prio per dl off cost us with | none => (none : Option R36) | some (.nx a b c d e f g) => _ | some (.ret x _ _ _ _ _ _ _) => some (.r x)) = _
  rw [hJ]
  unfold tkOk
  cases numOk c0 prio per dl off cost with
  | false => rfl
  | true =>
    simp only [Bool.true_and]
    have := L36_all M T C sw ins c0 prio per dl off cost us hu us.length (M + 1) 0 (-1) (by omega) (by omega) (by omega)
    rw [show ((0 : Nat) : Int) = (0 : Int) from rfl] at this
    rw [this]
    cases useF C cost prio us 0 us.length (-1) <;> rfl
theorem F34_eq {N : Nat} (hN : 1100 ≤ N) (T C : List Row) (sw ins c0 prio per dl off cost : Int) (us : List Row) (hu : us.length ≤ 1000) : F34 N T C sw ins c0 prio per dl off cost us = some (.r (useF C cost prio us 0 us.length (-1))) := by
  obtain ⟨M, rfl⟩ : ∃ M, N = M + 2 := ⟨N - 2, by omega⟩
  show (match L34a58 (M + 1) (M + 1) (-1) us us.length 0 T C sw ins c0 prio per dl off cost us with | none => (none : Option R34) | some (.ret x _ _ _ _ _ _ _ _ _ _ _) => some (.r x) | some (.x0 _ _ _ _ _ _ _ _ _ _ _) => some (.r true)) = _
  have := L34_all M T C sw ins c0 prio per dl off cost us hu us.length (M + 1) 0 (-1) (by omega) (by omega) (by omega)
  rw [show ((0 : Nat) : Int) = (0 : Int) from rfl] at this
  rw [this]
  cases useF C cost prio us 0 us.length (-1) <;> rfl

def tk (T C : List Row) (i : Nat) : Bool := tkOk C (cI T i 0) (cI T i 1) (cI T i 2) (cI T i 3) (cI T i 4) (cI T i 5) (cL T i 6)
def dist (T : List Row) (i : Nat) : Bool := allF (fun k => !(cI T k 0 == cI T i 0)) 0 i
def ceilOk (C : List Row) (i : Nat) : Bool := !decide (cI C i 0 < 0) && !decide (31 < cI C i 0)
def head (T C : List Row) (sw ins : Int) : Bool := !decide ((32 : Int) < T.length) && (!decide ((32 : Int) < C.length) && (inR sw 0 268435456 && inR ins 1 1048576))
/-- The task set is right. -/
def may (T C : List Row) (sw ins : Int) : Bool := head T C sw ins && (allF (ceilOk C) 0 C.length && allF (fun i => tk T C i && dist T i) 0 T.length)

structure Small (T C : List Row) : Prop where
  t : T.length ≤ 40
  c : C.length ≤ 40
  u : ∀ i : Nat, i < T.length → (cL T i 6).length ≤ 40

theorem J14_eq (N : Nat) (T C : List Row) (sw ins : Int) : J14a6 (N + 1) T C sw ins = match head T C sw ins with | true => some (.nx T C sw ins) | false => some (.ret false T C sw ins) := by
  unfold J14a6 head
  simp only [F35_eq]
  cases decide ((32 : Int) < T.length) <;> cases decide ((32 : Int) < C.length) <;> cases inR sw 0 268435456 <;> cases inR ins 1 1048576 <;> rfl
theorem L14c_all (N : Nat) (T C : List Row) (sw ins : Int) (hC : C.length ≤ 1000) : ∀ (k n i : Nat), i + k = C.length → k < n → L14a58 N n i T C sw ins = match allF (ceilOk C) i k with | true => some (.x0 T C sw ins) | false => some (.ret false T C sw ins)
  | 0, n + 1, i, h, _ => by
    show (match decide ((i : Int) < (C.length : Int)) with | true => _ | false => _) = _
    rw [dge (show C.length ≤ i by omega)]; rfl
  | k + 1, n + 1, i, h, hn => by
    show (match decide ((i : Int) < (C.length : Int)) with | true => _ | false => _) = _
    simp only [dlt (show i < C.length by omega), dz, Bool.and_self, tst, ← cI.eq_1]
    rw [wrap_succ (by omega)]
    unfold allF ceilOk
    cases decide (cI C i 0 < 0) with
    | true => rfl
    | false =>
      cases decide (31 < cI C i 0) with
      | true => rfl
      | false =>
        simp only [Bool.not_false, Bool.and_self, Bool.true_and]
        exact L14c_all N T C sw ins hC k n (i + 1) (by omega) (by omega)
  | _, 0, _, _, h => by omega
theorem L14d_all (N : Nat) (T C : List Row) (sw ins : Int) (hT : T.length ≤ 1000) (t : Nat) (ht : t < T.length) : ∀ (k n i : Nat), i + k = t → k < n → L14a15654 N n t i T C sw ins = match allF (fun k => !(cI T k 0 == cI T t 0)) i k with | true => some (.x4 T C sw ins) | false => some (.ret false T C sw ins)
  | 0, n + 1, i, h, _ => by
    show (match decide ((i : Int) < (t : Int)) with | true => _ | false => _) = _
    rw [dge (show t ≤ i by omega)]; rfl
  | k + 1, n + 1, i, h, hn => by
    show (match decide ((i : Int) < (t : Int)) with | true => _ | false => _) = _
    simp only [dlt (show i < t by omega), dlt (show i < T.length by omega), dlt ht, dz, Bool.and_self, tst, ← cI.eq_1]
    rw [wrap_succ (by omega)]
    unfold allF
    cases cI T i 0 == cI T t 0 with
    | true => rfl
    | false =>
      simp only [Bool.not_false, Bool.true_and]
      exact L14d_all N T C sw ins hT t ht k n (i + 1) (by omega) (by omega)
  | _, 0, _, _, h => by omega
theorem L14_all {T C : List Row} (hS : Small T C) (N : Nat) (hN : 1200 ≤ N) (sw ins : Int) : ∀ (k n i : Nat), i + k = T.length → k < n → L14a122 N n i T C sw ins = match allF (fun i => tk T C i && dist T i) i k with | true => some (.x2 T C sw ins) | false => some (.ret false T C sw ins)
  | 0, n + 1, i, h, _ => by
    show (match decide ((i : Int) < (T.length : Int)) with | true => _ | false => _) = _
    rw [dge (show T.length ≤ i by omega)]; rfl
  | k + 1, n + 1, i, h, hn => by
    have hu := hS.u i (by omega)
    have ht := hS.t
    show (match decide ((i : Int) < (T.length : Int)) with | true => _ | false => _) = _
    simp only [dlt (show i < T.length by omega), dz, Bool.and_self, tst, ← cI.eq_1, ← cL.eq_1]
    rw [F36_eq (by omega) T C sw ins _ _ _ _ _ _ _ (by omega), wrap_succ (by omega)]
    unfold allF
    rw [show tkOk C (cI T i 0) (cI T i 1) (cI T i 2) (cI T i 3) (cI T i 4) (cI T i 5) (cL T i 6) = tk T C i from rfl]
    cases tk T C i with
    | false => rfl
    | true =>
      simp only [Bool.not_true, Bool.true_and]
      have hd := L14d_all N T C sw ins (by omega) i (by omega) i N 0 (by omega) (by omega)
      rw [show ((0 : Nat) : Int) = (0 : Int) from rfl] at hd
      rw [hd, show allF (fun k => !(cI T k 0 == cI T i 0)) 0 i = dist T i from rfl]
      cases dist T i with
      | false => rfl
      | true => exact L14_all hS N hN sw ins k n (i + 1) (by omega) (by omega)
  | _, 0, _, _, h => by omega
theorem F14_eq {T C : List Row} (hS : Small T C) {N : Nat} (hN : 1300 ≤ N) (sw ins : Int) : F14 N T C sw ins = some (.r (may T C sw ins)) := by
  obtain ⟨M, rfl⟩ : ∃ M, N = M + 2 := ⟨N - 2, by omega⟩
  have h1 := hS.t
  have h2 := hS.c
  show (match J14a6 (M + 1) T C sw ins with | none => (none : Option R14) | some (.nx _ _ _ _) => _ | some (.ret x _ _ _ _) => some (.r x)) = _
  rw [J14_eq]
  unfold may
  cases head T C sw ins with
  | false => rfl
  | true =>
    simp only [Bool.true_and]
    have hc := L14c_all (M + 1) T C sw ins (by omega) C.length (M + 1) 0 (by omega) (by omega)
    have ht := L14_all hS (M + 1) (by omega) sw ins T.length (M + 1) 0 (by omega) (by omega)
    rw [show ((0 : Nat) : Int) = (0 : Int) from rfl] at hc ht
    unfold J14a14
    rw [hc]
    cases allF (ceilOk C) 0 C.length with
    | false => rfl
    | true =>
      simp only [Bool.true_and]
      rw [ht]
      cases allF (fun i => tk T C i && dist T i) 0 T.length <;> rfl

/-! ### The program's text -/
theorem J13_eq (N : Nat) (T C : List Row) (sw ins : Int) : J13a6 (N + 1) T C sw ins = match head T C sw ins with | true => some (.nx T C sw ins) | false => some (.ret false T C sw ins) := by
  unfold J13a6 head
  simp only [F31_eq]
  cases decide ((32 : Int) < T.length) <;> cases decide ((32 : Int) < C.length) <;> cases inR sw 0 268435456 <;> cases inR ins 1 1048576 <;> rfl
theorem F33_eq (N : Nat) (v : Int) : F33 (N + 1) v = some (.r (decide (v < 0) || decide (31 < v))) := by
  show (match decide (v < 0) with | true => _ | false => _) = _
  cases decide (v < 0) <;> rfl
theorem L45_all (N : Nat) (C : List Row) (hC : C.length ≤ 1000) : ∀ (k n i : Nat), i + k = C.length → k < n → (match allF (ceilOk C) i k with | true => L45a26 (N + 1) n C C.length i = some .x0 | false => ∃ j : Nat, L45a26 (N + 1) n C C.length i = some (.ret j))
  | 0, n + 1, i, h, _ => by
    show (match decide ((i : Int) < (C.length : Int)) with | true => _ | false => _) = _
    rw [dge (show C.length ≤ i by omega)]
  | k + 1, n + 1, i, h, hn => by
    have ih := L45_all N C hC k n (i + 1) (by omega) (by omega)
    have e : L45a26 (N + 1) (n + 1) C C.length i = match decide (cI C i 0 < 0) || decide (31 < cI C i 0) with | true => some (.ret i) | false => L45a26 (N + 1) n C C.length ((i + 1 : Nat) : Int) := by
      show (match decide ((i : Int) < (C.length : Int)) with | true => _ | false => _) = _
      simp only [dlt (show i < C.length by omega), dz, Bool.and_self, tst, ← cI.eq_1, F33_eq]
      rw [wrap_succ (by omega)]
      cases decide (cI C i 0 < 0) || decide (31 < cI C i 0) <;> rfl
    rw [e]
    unfold allF ceilOk
    cases decide (cI C i 0 < 0) with
    | true => exact ⟨i, rfl⟩
    | false =>
      cases decide (31 < cI C i 0) with
      | true => exact ⟨i, rfl⟩
      | false =>
        simp only [Bool.not_false, Bool.and_self, Bool.true_and, Bool.or_self]
        exact ih
  | _, 0, _, _, h => by omega
theorem F32_eq {N : Nat} (hN : 1100 ≤ N) (C : List Row) (hC : C.length ≤ 1000) : F32 N C = some (.r (!allF (ceilOk C) 0 C.length)) := by
  obtain ⟨M, rfl⟩ : ∃ M, N = M + 3 := ⟨N - 3, by omega⟩
  have h := L45_all (M) C hC C.length (M + 1) 0 (by omega) (by omega)
  rw [show ((0 : Nat) : Int) = (0 : Int) from rfl] at h
  show (match (match L45a26 (M + 1) (M + 1) C C.length 0 with | none => (none : Option R45) | some (.ret x) => some (.r x) | some .x0 => some (.r (-1))) with | none => none | some (.r x) => some (R32.r (decide ((0 : Int) ≤ x)))) = _
  revert h
  cases allF (ceilOk C) 0 C.length with
  | true => intro h; simp only at h; rw [h]; rfl
  | false => rintro ⟨j, h⟩; rw [h]; simp

/-- The map of the numbers that were met. -/
def seen (T : List Row) : Nat → List (AV × AV)
  | 0 => []
  | i + 1 => Eng.mput (seen T i) (.int .i64 (cI T i 0)) (.bool true)
theorem mfind_mput (es : List (AV × AV)) (a b : Int) (v : AV) : Eng.mfind (Eng.mput es (.int .i64 a) v) (.int .i64 b) = if b = a then some v else Eng.mfind es (.int .i64 b) := by
  induction es with
  | nil =>
    simp only [Eng.mput, Eng.mfind, Eng.keq]
    by_cases h : b = a
    · subst h; simp
    · have : (b == a) = false := by simpa using h
      simp [h, this]
  | cons e es ih =>
    obtain ⟨x, y⟩ := e
    simp only [Eng.mput]
    cases hk : Eng.keq (.int .i64 a) x with
    | true =>
      simp only [Eng.mfind]
      rw [show Eng.keq (.int .i64 b) (.int .i64 a) = (b == a) from rfl]
      by_cases h : b = a
      · subst h; simp
      · have h2 : (b == a) = false := by simpa using h
        have h3 : Eng.keq (.int .i64 b) x = false := by
          cases x <;> simp only [Eng.keq] at hk ⊢ <;> try cases hk
          have := eq_of_beq hk
          subst this
          exact h2
        simp [h, h2, h3]
    | false =>
      simp only [Eng.mfind]
      rw [ih]
      by_cases h : b = a
      · subst h; simp [hk]
      · simp [h]
theorem seen_find (T : List Row) (v : Int) : ∀ i : Nat, Eng.mfind (seen T i) (.int .i64 v) = if allF (fun k => !(cI T k 0 == v)) 0 i = true then none else some (.bool true)
  | 0 => by simp [seen, Eng.mfind, allF]
  | i + 1 => by
    rw [seen, mfind_mput, seen_find T v i]
    by_cases h : v = cI T i 0
    · subst h
      rw [if_pos rfl, if_neg]
      intro h2
      have := allF_iff.1 h2 i (by omega) (by omega)
      simp at this
    · rw [if_neg h]
      have e : allF (fun k => !(cI T k 0 == v)) 0 (i + 1) = allF (fun k => !(cI T k 0 == v)) 0 i := by
        rw [Bool.eq_iff_iff, allF_iff, allF_iff]
        constructor
        · intro h1 j h2 h3; exact h1 j h2 (by omega)
        · intro h1 j h2 h3
          by_cases e : j = i
          · subst e; simp; exact fun e => h e.symm
          · exact h1 j h2 (by omega)
      rw [e]

def times (per dl off cost : Int) : Bool := inR per 1 2147483647 && (inR dl 1 per && (inR off 0 2147483647 && inR cost 1 1073741824))
theorem J13b_eq (N : Nat) (c0 prio per dl off cost : Int) (us : List Row) : J13a32050 (N + 1) c0 prio per dl off cost us = some (.nx (times per dl off cost) c0 prio per dl off cost us) := by
  unfold J13a32050 times
  simp only [F31_eq]
  cases inR per 1 2147483647 <;> cases inR dl 1 per <;> cases inR off 0 2147483647 <;> cases inR cost 1 1073741824 <;> rfl
theorem J13c_eq {N : Nat} (hN : 1100 ≤ N) (T C : List Row) (sw ins c0 prio per dl off cost : Int) (us : List Row) (hu : us.length ≤ 1000) (i : Nat) :
    J13a64102 N (times per dl off cost) T C sw ins (seen T i) c0 prio per dl off cost us = match tkOk C c0 prio per dl off cost us && allF (fun k => !(cI T k 0 == c0)) 0 i with
      | true => some (.nx T C sw ins (seen T i) c0 prio per dl off cost us)
      | false => some (.ret false T C sw ins (seen T i) c0 prio per dl off cost us) := by
  unfold J13a64102
  simp only [seen_find, F34_eq hN T C sw ins c0 prio per dl off cost us hu]
  unfold tkOk numOk
  rw [show (inR per 1 2147483647 && (inR dl 1 per && (inR off 0 2147483647 && inR cost 1 1073741824))) = times per dl off cost from rfl]
  cases times per dl off cost with
  | false => cases decide (c0 < 0) <;> cases decide (prio < 0) <;> cases decide (31 < prio) <;> rfl
  | true =>
    cases decide (c0 < 0) with
    | true => rfl
    | false =>
      cases hs : allF (fun k => !(cI T k 0 == c0)) 0 i with
      | false => simp [AV.toB]
      | true =>
        simp only [if_true]
        cases decide (prio < 0) <;> cases decide (31 < prio) <;> cases useF C cost prio us 0 us.length (-1) <;> rfl
theorem L13_all {T C : List Row} (hS : Small T C) (N : Nat) (hN : 1200 ≤ N) (sw ins : Int) : ∀ (k n i : Nat), i + k = T.length → k < n → (match allF (fun i => tk T C i && dist T i) i k with | true => ∃ b, L13a250 N n T T.length i T C sw ins (seen T i) = some (.x0 T C sw ins b) | false => ∃ b, L13a250 N n T T.length i T C sw ins (seen T i) = some (.ret false T C sw ins b))
  | 0, n + 1, i, h, _ => by
    refine ⟨seen T i, ?_⟩
    show (match decide ((i : Int) < (T.length : Int)) with | true => _ | false => _) = _
    rw [dge (show T.length ≤ i by omega)]
  | k + 1, n + 1, i, h, hn => by
    have hu := hS.u i (by omega)
    have ht := hS.t
    have ih := L13_all hS N hN sw ins k n (i + 1) (by omega) (by omega)
    have e : L13a250 N (n + 1) T T.length i T C sw ins (seen T i) = match tk T C i && dist T i with | true => L13a250 N n T T.length ((i + 1 : Nat) : Int) T C sw ins (seen T (i + 1)) | false => some (.ret false T C sw ins (seen T i)) := by
      obtain ⟨M, rfl⟩ : ∃ M, N = M + 1 := ⟨N - 1, by omega⟩
      show (match decide ((i : Int) < (T.length : Int)) with | true => _ | false => _) = _
      simp only [dlt (show i < T.length by omega), dz, Bool.and_self, tst, ← cI.eq_1, ← cL.eq_1, J13b_eq]
      rw [J13c_eq (by omega) T C sw ins _ _ _ _ _ _ _ (by omega), wrap_succ (by omega)]
      rw [show tkOk C (cI T i 0) (cI T i 1) (cI T i 2) (cI T i 3) (cI T i 4) (cI T i 5) (cL T i 6) = tk T C i from rfl, show allF (fun k => !(cI T k 0 == cI T i 0)) 0 i = dist T i from rfl]
      cases tk T C i && dist T i <;> rfl
    rw [e]
    unfold allF
    cases tk T C i && dist T i with
    | false => exact ⟨_, rfl⟩
    | true => simp only [Bool.true_and]; exact ih
  | _, 0, _, _, h => by omega
theorem F13_eq {T C : List Row} (hS : Small T C) {N : Nat} (hN : 1300 ≤ N) (sw ins : Int) : F13 N T C sw ins = some (.r (may T C sw ins)) := by
  obtain ⟨M, rfl⟩ : ∃ M, N = M + 2 := ⟨N - 2, by omega⟩
  have h1 := hS.t
  have h2 := hS.c
  show (match J13a6 (M + 1) T C sw ins with | none => (none : Option R13) | some (.nx _ _ _ _) => _ | some (.ret x _ _ _ _) => some (.r x)) = _
  rw [J13_eq]
  unfold may
  cases head T C sw ins with
  | false => rfl
  | true =>
    simp only [Bool.true_and]
    rw [F32_eq (by omega) C (by omega)]
    cases allF (ceilOk C) 0 C.length with
    | false => rfl
    | true =>
      simp only [Bool.not_true, Bool.true_and]
      have ht := L13_all hS (M + 1) (by omega) sw ins T.length (M + 1) 0 (by omega) (by omega)
      rw [show ((0 : Nat) : Int) = (0 : Int) from rfl, show seen T 0 = [] from rfl] at ht
      revert ht
      cases allF (fun i => tk T C i && dist T i) 0 T.length with
      | true => rintro ⟨b, h⟩; rw [h]
      | false => rintro ⟨b, h⟩; rw [h]
end Go.Proofs.Ytbgdiljnmifakaa

namespace Go.Proofs.Ytbgdiljnmifakaa
open Go Go.Eng

structure TaskF (T C : List Row) (i : Nat) : Prop where
  p0 : 0 ≤ cI T i 1
  per0 : 1 ≤ cI T i 2
  per1 : cI T i 2 ≤ 2147483647
  dl0 : 1 ≤ cI T i 3
  dl1 : cI T i 3 ≤ cI T i 2
  cost0 : 1 ≤ cI T i 5
  cost1 : cI T i 5 ≤ 1073741824
  use : ∀ j : Nat, j < (cL T i 6).length → 0 ≤ cI (cL T i 6) j 0 ∧ cI (cL T i 6) j 0 < C.length ∧ 1 ≤ cI (cL T i 6) j 1 ∧ cI (cL T i 6) j 1 ≤ 1073741824
structure MayF (T C : List Row) (sw ins : Int) : Prop where
  t : T.length ≤ 32
  c : C.length ≤ 32
  sw0 : 0 ≤ sw
  sw1 : sw ≤ 268435456
  ins0 : 1 ≤ ins
  ins1 : ins ≤ 1048576
  task : ∀ i, i < T.length → TaskF T C i
theorem may_f {T C : List Row} {sw ins : Int} (h : may T C sw ins = true) : MayF T C sw ins := by
  simp only [may, head, Bool.and_eq_true, Bool.not_eq_true', decide_eq_false_iff_not, inR_iff, allF_iff] at h
  obtain ⟨⟨h1, h2, h3, h4⟩, h5, h6⟩ := h
  refine ⟨by omega, by omega, h3.1, h3.2, h4.1, h4.2, fun i hi => ?_⟩
  have := (h6 i (by omega) (by omega)).1
  simp only [tk, tkOk, numOk, Bool.and_eq_true, Bool.not_eq_true', decide_eq_false_iff_not, inR_iff] at this
  obtain ⟨⟨a1, a2, a3, a4, a5, a6, a7⟩, a8⟩ := this
  refine ⟨by omega, a4.1, a4.2, a5.1, a5.2, a7.1, a7.2, fun j hj => ?_⟩
  have := useF_iff (by omega) a8 j (by omega) (by omega)
  exact ⟨this.1, this.2.1, this.2.2.1, by omega⟩

/-! ### Blocking -/
def ub (C : List Row) (p : Int) (us : List Row) : Nat → Nat → Int → Int
  | _, 0, a => a
  | i, k + 1, a => ub C p us (i + 1) k (match decide (p ≤ cI C (cI us i 0) 0) with | true => Eng.imax a (cI us i 1) | false => a)
def tb (T C : List Row) (p : Int) : Nat → Nat → Int → Int
  | _, 0, a => a
  | i, k + 1, a => tb T C p (i + 1) k (match decide (cI T i 1 < p) with | true => ub C p (cL T i 6) 0 (cL T i 6).length a | false => a)
def blk (T C : List Row) (ins : Int) (t : Nat) : Int := tb T C (cI T t 1) 0 T.length (ins - 1)

theorem L30u_all (N : Nat) {T C : List Row} (t : Nat) (ht : t < T.length) (sw ins b0 b1 b2 b3 b4 b5 : Int) (us : List Row) (hu : us.length ≤ 1000) (hp : ∀ j : Nat, j < us.length → 0 ≤ cI us j 0 ∧ cI us j 0 < C.length) : ∀ (k n i : Nat) (a : Int), i + k = us.length → k < n →
    L30a7462 N n t a i T C sw ins b0 b1 b2 b3 b4 b5 us = some (.x2 (match decide (b1 < cI T t 1) with | true => ub C (cI T t 1) us i k a | false => a) T C sw ins b0 b1 b2 b3 b4 b5 us)
  | 0, n + 1, i, a, h, _ => by
    show (match decide ((i : Int) < (us.length : Int)) with | true => _ | false => _) = _
    rw [dge (show us.length ≤ i by omega)]
    cases decide (b1 < cI T t 1) <;> rfl
  | k + 1, n + 1, i, a, h, hn => by
    obtain ⟨h1, h2⟩ := hp i (by omega)
    have e1 : decide ((0 : Int) ≤ cI us i 0) = true := decide_eq_true h1
    have e2 : decide (cI us i 0 < (C.length : Int)) = true := decide_eq_true h2
    have ih := fun a => L30u_all N t ht sw ins b0 b1 b2 b3 b4 b5 us hu hp k n (i + 1) a (by omega) (by omega)
    show (match decide ((i : Int) < (us.length : Int)) with | true => _ | false => _) = _
    simp only [dlt (show i < us.length by omega), dlt ht, dz, Bool.and_self, tst, ← cI.eq_1, e1, e2]
    rw [wrap_succ (by omega)]
    simp only [ih]
    cases decide (b1 < cI T t 1) with
    | false => rfl
    | true =>
      simp only [ub]
      cases decide (cI T t 1 ≤ cI C (cI us i 0) 0) <;> rfl
  | _, 0, _, _, _, h => by omega
theorem L30_all {T C : List Row} {sw ins : Int} (hS : Small T C) (hM : MayF T C sw ins) (N : Nat) (hN : 100 ≤ N) (t : Nat) (ht : t < T.length) : ∀ (k n i : Nat) (a : Int), i + k = T.length → k < n →
    L30a58 N n t a i T C sw ins = some (.x0 (tb T C (cI T t 1) i k a) T C sw ins)
  | 0, n + 1, i, a, h, _ => by
    show (match decide ((i : Int) < (T.length : Int)) with | true => _ | false => _) = _
    rw [dge (show T.length ≤ i by omega)]; rfl
  | k + 1, n + 1, i, a, h, hn => by
    have hl := hM.t
    have hu := hS.u i (by omega)
    have hf := (hM.task i (by omega)).use
    have hi := L30u_all N t ht sw ins (cI T i 0) (cI T i 1) (cI T i 2) (cI T i 3) (cI T i 4) (cI T i 5) (cL T i 6) (C := C) (by omega) (fun j hj => ⟨(hf j hj).1, (hf j hj).2.1⟩) (cL T i 6).length N 0 a (by omega) (by omega)
    rw [show ((0 : Nat) : Int) = (0 : Int) from rfl] at hi
    show (match decide ((i : Int) < (T.length : Int)) with | true => _ | false => _) = _
    simp only [dlt (show i < T.length by omega), dz, Bool.and_self, tst, ← cI.eq_1, ← cL.eq_1]
    rw [hi, wrap_succ (by omega)]
    exact L30_all hS hM N hN t ht k n (i + 1) _ (by omega) (by omega)
  | _, 0, _, _, _, h => by omega
theorem F30_eq {T C : List Row} {sw ins : Int} (hS : Small T C) (hM : MayF T C sw ins) {N : Nat} (hN : 200 ≤ N) (t : Nat) (ht : t < T.length) : F30 N T C sw ins t = some (.r (blk T C ins t)) := by
  obtain ⟨M, rfl⟩ : ∃ M, N = M + 1 := ⟨N - 1, by omega⟩
  have h0 := hM.ins0
  have h1 := hM.ins1
  have hl := hM.t
  show (match L30a58 M M t (IntKind.wrap .i64 (ins - 1)) 0 T C sw ins with | none => (none : Option R30) | some (.x0 a _ _ _ _) => some (.r a)) = _
  have := L30_all hS hM M (by omega) t ht T.length M 0 (ins - 1) (by omega) (by omega)
  rw [show ((0 : Nat) : Int) = (0 : Int) from rfl] at this
  rw [wrap_id (by omega) (by omega), this]
  rfl

/-! ### Blocking, of the program -/
def rowsI (xs : List Int) : List Row := xs.map fun v => [AV.int .i64 v]
theorem rowsI_length (xs : List Int) : (rowsI xs).length = xs.length := by simp [rowsI]
theorem rowsI_append (xs : List Int) (v : Int) : rowsI xs ++ [[AV.int .i64 v]] = rowsI (xs ++ [v]) := by simp [rowsI]
theorem rowsI_get {xs : List Int} {i : Nat} (h : i < xs.length) : cI (rowsI xs) i 0 = xs[i] := by
  unfold cI
  rw [Int.toNat_natCast]
  simp [rowsI, List.getD, List.getElem?_map, List.getElem?_eq_getElem h, AV.toI]
def ul (C : List Row) (p : Int) (us : List Row) : Nat → Nat → List Int
  | _, 0 => []
  | i, k + 1 => match decide (p ≤ cI C (cI us i 0) 0) with | true => cI us i 1 :: ul C p us (i + 1) k | false => ul C p us (i + 1) k
def tl (T C : List Row) (p : Int) : Nat → Nat → List Int
  | _, 0 => []
  | i, k + 1 => match decide (p ≤ cI T i 1) with | true => tl T C p (i + 1) k | false => ul C p (cL T i 6) 0 (cL T i 6).length ++ tl T C p (i + 1) k
theorem ul_len (C : List Row) (p : Int) (us : List Row) : ∀ (k i : Nat), (ul C p us i k).length ≤ k
  | 0, _ => by simp [ul]
  | k + 1, i => by
    have := ul_len C p us k (i + 1)
    simp only [ul]
    cases decide (p ≤ cI C (cI us i 0) 0) <;> simp <;> omega
theorem ul_fold (C : List Row) (p : Int) (us : List Row) : ∀ (k i : Nat) (a : Int), (ul C p us i k).foldl Eng.imax a = ub C p us i k a
  | 0, _, _ => rfl
  | k + 1, i, a => by
    simp only [ul, ub]
    cases decide (p ≤ cI C (cI us i 0) 0) with
    | true => exact ul_fold C p us k (i + 1) _
    | false => exact ul_fold C p us k (i + 1) _
theorem tl_fold (T C : List Row) (p : Int) : ∀ (k i : Nat) (a : Int), (tl T C p i k).foldl Eng.imax a = tb T C p i k a
  | 0, _, _ => rfl
  | k + 1, i, a => by
    simp only [tl, tb]
    by_cases h : p ≤ cI T i 1
    · have e : decide (cI T i 1 < p) = false := decide_eq_false (by omega)
      rw [decide_eq_true h, e]
      exact tl_fold T C p k (i + 1) a
    · have e : decide (cI T i 1 < p) = true := decide_eq_true (by omega)
      rw [decide_eq_false h, e]
      simp only [List.foldl_append, ul_fold]
      exact tl_fold T C p k (i + 1) _

theorem L47u_all (N : Nat) (T C : List Row) (sw ins p : Int) (us : List Row) (hu : us.length ≤ 1000) (hp : ∀ j : Nat, j < us.length → 0 ≤ cI us j 0 ∧ cI us j 0 < C.length) : ∀ (k n i : Nat) (acc : List Int), i + k = us.length → k < n → acc.length ≤ 100000 + i →
    L47i26f48a3278 N n us us.length i T C sw ins p (rowsI acc) = some (.x2 T C sw ins p (rowsI (acc ++ ul C p us i k)))
  | 0, n + 1, i, acc, h, _, _ => by
    show (match decide ((i : Int) < (us.length : Int)) with | true => _ | false => _) = _
    rw [dge (show us.length ≤ i by omega)]; simp [ul]
  | k + 1, n + 1, i, acc, h, hn, ha => by
    obtain ⟨h1, h2⟩ := hp i (by omega)
    have e1 : decide ((0 : Int) ≤ cI us i 0) = true := decide_eq_true h1
    have e2 : decide (cI us i 0 < (C.length : Int)) = true := decide_eq_true h2
    have e4 : decide (((rowsI acc).length + 1) * 8 ≤ 140737488355328) = true := by rw [rowsI_length]; exact decide_eq_true (by omega)
    have ih := L47u_all N T C sw ins p us hu hp k n (i + 1)
    show (match decide ((i : Int) < (us.length : Int)) with | true => _ | false => _) = _
    simp only [dlt (show i < us.length by omega), dz, Bool.and_self, tst, ← cI.eq_1, e1, e2, e4]
    rw [wrap_succ (by omega)]
    unfold ul
    cases decide (p ≤ cI C (cI us i 0) 0) with
    | false => exact ih acc (by omega) (by omega) (by omega)
    | true =>
      simp only
      rw [rowsI_append, ih (acc ++ [cI us i 1]) (by omega) (by omega) (by simp; omega)]
      simp
  | _, 0, _, _, _, h, _ => by omega
theorem L47_all {T C : List Row} {sw ins : Int} (hS : Small T C) (hM : MayF T C sw ins) (N : Nat) (hN : 100 ≤ N) (p : Int) : ∀ (k n i : Nat) (acc : List Int), i + k = T.length → k < n → acc.length ≤ 40 * i →
    L47i26f48a6 N n T T.length i T C sw ins p (rowsI acc) = some (.x0 T C sw ins p (rowsI (acc ++ tl T C p i k)))
  | 0, n + 1, i, acc, h, _, _ => by
    show (match decide ((i : Int) < (T.length : Int)) with | true => _ | false => _) = _
    rw [dge (show T.length ≤ i by omega)]; simp [tl]
  | k + 1, n + 1, i, acc, h, hn, ha => by
    have hl := hM.t
    have hu := hS.u i (by omega)
    have hf := (hM.task i (by omega)).use
    have hul := ul_len C p (cL T i 6) (cL T i 6).length 0
    have ih := L47_all hS hM N hN p k n (i + 1)
    have hi := L47u_all N T C sw ins p (cL T i 6) (by omega) (fun j hj => ⟨(hf j hj).1, (hf j hj).2.1⟩) (cL T i 6).length N 0 acc (by omega) (by omega) (by omega)
    rw [show ((0 : Nat) : Int) = (0 : Int) from rfl] at hi
    show (match decide ((i : Int) < (T.length : Int)) with | true => _ | false => _) = _
    simp only [dlt (show i < T.length by omega), dz, Bool.and_self, tst, ← cI.eq_1, ← cL.eq_1]
    rw [hi, wrap_succ (by omega)]
    unfold tl
    cases decide (p ≤ cI T i 1) with
    | true => exact ih acc (by omega) (by omega) (by omega)
    | false =>
      simp only
      rw [ih (acc ++ ul C p (cL T i 6) 0 (cL T i 6).length) (by omega) (by omega) (by simp; omega)]
      simp
  | _, 0, _, _, _, h, _ => by omega
theorem tl_len {T C : List Row} (hS : Small T C) (p : Int) : ∀ (k i : Nat), i + k ≤ T.length → (tl T C p i k).length ≤ 40 * k
  | 0, _, _ => by simp [tl]
  | k + 1, i, h => by
    have ih := tl_len hS p k (i + 1) (by omega)
    have hu := hS.u i (by omega)
    have hul := ul_len C p (cL T i 6) (cL T i 6).length 0
    simp only [tl]
    cases decide (p ≤ cI T i 1) <;> simp <;> omega
theorem L42_all (N : Nat) (xs : List Int) (hx : xs.length ≤ 100000) : ∀ (k n i : Nat) (a : Int), i + k = xs.length → k < n → L42a26 N n a (rowsI xs) xs.length i = some (.x0 ((xs.drop i).foldl Eng.imax a))
  | 0, n + 1, i, a, h, _ => by
    show (match decide ((i : Int) < (xs.length : Int)) with | true => _ | false => _) = _
    rw [dge (show xs.length ≤ i by omega), List.drop_eq_nil_of_le (by omega)]; rfl
  | k + 1, n + 1, i, a, h, hn => by
    have hi : i < xs.length := by omega
    have e2 : decide ((i : Int) < ((rowsI xs).length : Int)) = true := by rw [rowsI_length]; exact dlt hi
    show (match decide ((i : Int) < (xs.length : Int)) with | true => _ | false => _) = _
    simp only [dlt hi, e2, dz, Bool.and_self, tst, ← cI.eq_1, rowsI_get hi]
    rw [wrap_succ (by omega), List.drop_eq_getElem_cons hi, List.foldl_cons]
    exact L42_all N xs hx k n (i + 1) _ (by omega) (by omega)
  | _, 0, _, _, _, h => by omega
theorem F28_eq {T C : List Row} {sw ins : Int} (hS : Small T C) (hM : MayF T C sw ins) {N : Nat} (hN : 3000 ≤ N) (t : Nat) (ht : t < T.length) : F28 N T C sw ins t = some (.r (blk T C ins t)) := by
  obtain ⟨M, rfl⟩ : ∃ M, N = M + 4 := ⟨N - 4, by omega⟩
  have h0 := hM.ins0
  have h1 := hM.ins1
  have hl := hM.t
  have hlen := tl_len hS (cI T t 1) T.length 0 (by omega)
  have e44 : F44 (M + 3) T C sw ins t = some (.r T C sw ins (cI T t 1)) := by
    show (tst (decide ((0 : Int) ≤ (t : Int)) && decide ((t : Int) < (T.length : Int))) <| _) = _
    simp only [dlt ht, dz, Bool.and_self, tst, ← cI.eq_1]
  have e43 : F43 (M + 3) T C sw ins (cI T t 1) = some (.r T C sw ins (cI T t 1) (rowsI (tl T C (cI T t 1) 0 T.length))) := by
    have := L47_all hS hM (M + 1) (by omega) (cI T t 1) T.length (M + 1) 0 [] (by omega) (by omega) (by simp)
    rw [show ((0 : Nat) : Int) = (0 : Int) from rfl, show rowsI [] = [] from rfl, List.nil_append] at this
    show (match (match L47i26f48a6 (M + 1) (M + 1) T T.length 0 T C sw ins (cI T t 1) [] with | none => (none : Option R47) | some (.x0 a b c d e f) => some (.r a b c d e f)) with | none => (none : Option R43) | some (.r a b c d e f) => some (.r a b c d e f)) = _
    rw [this]
  have e42 : F42 (M + 3) (IntKind.wrap .i64 (ins - 1)) (rowsI (tl T C (cI T t 1) 0 T.length)) = some (.r (blk T C ins t)) := by
    have := L42_all (M + 2) (tl T C (cI T t 1) 0 T.length) (by omega) (tl T C (cI T t 1) 0 T.length).length (M + 2) 0 (ins - 1) (by omega) (by omega)
    rw [show ((0 : Nat) : Int) = (0 : Int) from rfl, List.drop_zero, tl_fold] at this
    show (match L42a26 (M + 2) (M + 2) (IntKind.wrap .i64 (ins - 1)) (rowsI (tl T C (cI T t 1) 0 T.length)) ((rowsI (tl T C (cI T t 1) 0 T.length)).length : Int) 0 with | none => (none : Option R42) | some (.x0 a) => some (.r a)) = _
    rw [wrap_id (by omega) (by omega), rowsI_length, this]
    rfl
  show (match F44 (M + 3) T C sw ins t with | none => none | some (.r _ _ _ _ _) => _) = _
  rw [e44]
  simp only
  rw [e43]
  simp only
  rw [e42]

theorem ub_bounds {C : List Row} {p : Int} {us : List Row} (hp : ∀ j : Nat, j < us.length → 1 ≤ cI us j 1 ∧ cI us j 1 ≤ 1073741824) : ∀ (k i : Nat) (a : Int), i + k ≤ us.length → 0 ≤ a → a ≤ 1073741824 → 0 ≤ ub C p us i k a ∧ ub C p us i k a ≤ 1073741824
  | 0, _, _, _, h0, h1 => ⟨h0, h1⟩
  | k + 1, i, a, h, h0, h1 => by
    have := hp i (by omega)
    simp only [ub]
    refine ub_bounds hp k (i + 1) _ (by omega) ?_ ?_
    · cases decide (p ≤ cI C (cI us i 0) 0) with
      | true => simp only [Eng.imax]; split <;> omega
      | false => exact h0
    · cases decide (p ≤ cI C (cI us i 0) 0) with
      | true => simp only [Eng.imax]; split <;> omega
      | false => exact h1
theorem tb_bounds {T C : List Row} {sw ins : Int} (hM : MayF T C sw ins) (p : Int) : ∀ (k i : Nat) (a : Int), i + k ≤ T.length → 0 ≤ a → a ≤ 1073741824 → 0 ≤ tb T C p i k a ∧ tb T C p i k a ≤ 1073741824
  | 0, _, _, _, h0, h1 => ⟨h0, h1⟩
  | k + 1, i, a, h, h0, h1 => by
    have hf := (hM.task i (by omega)).use
    simp only [tb]
    have := ub_bounds (C := C) (p := p) (fun j hj => ⟨(hf j hj).2.2.1, (hf j hj).2.2.2⟩) (cL T i 6).length 0 a (by omega) h0 h1
    cases decide (cI T i 1 < p) with
    | true => exact tb_bounds hM p k (i + 1) _ (by omega) this.1 this.2
    | false => exact tb_bounds hM p k (i + 1) _ (by omega) h0 h1
theorem blk_bounds {T C : List Row} {sw ins : Int} (hM : MayF T C sw ins) (t : Nat) : 0 ≤ blk T C ins t ∧ blk T C ins t ≤ 1073741824 := by
  have h0 := hM.ins0
  have h1 := hM.ins1
  exact tb_bounds hM _ T.length 0 _ (by omega) (by omega) (by omega)

/-! ### Demand -/
def dt (T : List Row) (sw r : Int) (i : Nat) : Int := (r + cI T i 2 - 1) / cI T i 2 * (cI T i 5 + 2 * sw)
def hi (T : List Row) (t i : Nat) : Bool := !((i : Int) == (t : Int)) && !decide (cI T i 1 < cI T t 1)
def ds (T : List Row) (sw : Int) (t : Nat) (r : Int) : Nat → Nat → Int → Int
  | _, 0, a => a
  | i, k + 1, a => ds T sw t r (i + 1) k (match hi T t i with | true => a + dt T sw r i | false => a)
/-- The demand in a stretch. -/
def dem (T : List Row) (sw : Int) (t : Nat) (r : Int) : Int := ds T sw t r 0 T.length 0

theorem ceil_eq {r p : Int} (h0 : 0 ≤ r) (hp : 1 ≤ p) : (r + p - 1) / p = if 0 < r % p then r / p + 1 else r / p := by
  have h1 := Int.emod_add_mul_ediv r p
  have h2 := Int.emod_nonneg r (show p ≠ 0 by omega)
  have h3 := Int.emod_lt_of_pos r (show 0 < p by omega)
  split
  · have e : r + p - 1 = (r % p - 1) + p * (r / p + 1) := by rw [Int.mul_add]; omega
    rw [e, Int.add_mul_ediv_left _ _ (show p ≠ 0 by omega), Int.ediv_eq_zero_of_lt (by omega) (by omega)]; omega
  · have e : r + p - 1 = (p - 1) + p * (r / p) := by omega
    rw [e, Int.add_mul_ediv_left _ _ (show p ≠ 0 by omega), Int.ediv_eq_zero_of_lt (by omega) (by omega)]; omega
theorem ceil_bounds {r p : Int} (h0 : 0 ≤ r) (h1 : r ≤ 2147483647) (hp : 1 ≤ p) : 0 ≤ (r + p - 1) / p ∧ (r + p - 1) / p ≤ 2147483647 := by
  refine ⟨Int.ediv_nonneg (by omega) (by omega), ?_⟩
  apply Int.ediv_le_of_le_mul (by omega)
  have : 2147483647 * p ≥ 2147483647 + (p - 1) := by omega
  omega
theorem dt_bounds {T C : List Row} {sw ins : Int} (hM : MayF T C sw ins) {r : Int} (h0 : 0 ≤ r) (h1 : r ≤ 2147483647) {i : Nat} (hi : i < T.length) : 0 ≤ dt T sw r i ∧ dt T sw r i ≤ 3458764513000000000 := by
  have hf := hM.task i hi
  have hs0 := hM.sw0
  have hs1 := hM.sw1
  have c0 := hf.cost0
  have c1 := hf.cost1
  obtain ⟨a0, a1⟩ := ceil_bounds h0 h1 hf.per0
  unfold dt
  refine ⟨Int.mul_nonneg a0 (by omega), ?_⟩
  have : (r + cI T i 2 - 1) / cI T i 2 * (cI T i 5 + 2 * sw) ≤ 2147483647 * 1610612736 := Int.mul_le_mul a1 (by omega) (by omega) (by omega)
  omega
theorem dt_mono {T C : List Row} {sw ins : Int} (hM : MayF T C sw ins) {r r' : Int} (h : r ≤ r') {i : Nat} (hi : i < T.length) : dt T sw r i ≤ dt T sw r' i := by
  have hf := hM.task i hi
  have hs0 := hM.sw0
  have c0 := hf.cost0
  have p0 := hf.per0
  unfold dt
  exact Int.mul_le_mul_of_nonneg_right (Int.ediv_le_ediv (by omega) (by omega)) (by omega)
theorem ds_ge {T C : List Row} {sw ins : Int} (hM : MayF T C sw ins) (t : Nat) {r : Int} (h0 : 0 ≤ r) (h1 : r ≤ 2147483647) : ∀ (k i : Nat) (a : Int), i + k ≤ T.length → a ≤ ds T sw t r i k a
  | 0, _, _, _ => Int.le_refl _
  | k + 1, i, a, h => by
    have hd := dt_bounds hM h0 h1 (show i < T.length by omega)
    simp only [ds]
    refine Int.le_trans ?_ (ds_ge hM t h0 h1 k (i + 1) _ (by omega))
    cases hi T t i with
    | true => simp only; omega
    | false => exact Int.le_refl _
theorem ds_mono {T C : List Row} {sw ins : Int} (hM : MayF T C sw ins) (t : Nat) {r r' : Int} (h : r ≤ r') : ∀ (k i : Nat) (a a' : Int), i + k ≤ T.length → a ≤ a' → ds T sw t r i k a ≤ ds T sw t r' i k a'
  | 0, _, _, _, _, ha => ha
  | k + 1, i, a, a', hk, ha => by
    have hd := dt_mono hM h (show i < T.length by omega)
    simp only [ds]
    refine ds_mono hM t h k (i + 1) _ _ (by omega) ?_
    cases hi T t i with
    | true => simp only; omega
    | false => exact ha
theorem dem_mono {T C : List Row} {sw ins : Int} (hM : MayF T C sw ins) (t : Nat) {r r' : Int} (h : r ≤ r') : dem T sw t r ≤ dem T sw t r' := ds_mono hM t h _ _ _ _ (by omega) (Int.le_refl _)
theorem dem_nonneg {T C : List Row} {sw ins : Int} (hM : MayF T C sw ins) (t : Nat) {r : Int} (h0 : 0 ≤ r) (h1 : r ≤ 2147483647) : 0 ≤ dem T sw t r := ds_ge hM t h0 h1 _ _ _ (by omega)

/-- The document's term, cut to 64 bits, is the term. -/
theorem ref_term {T C : List Row} {sw ins : Int} (hM : MayF T C sw ins) {r : Int} (h0 : 0 ≤ r) (h1 : r ≤ 2147483647) {i : Nat} (hi : i < T.length) {a : Int} (ha0 : 0 ≤ a) (ha1 : a ≤ 1152921504606846976) :
    (0 < Int.tmod r (cI T i 2) → IntKind.wrap .i64 (a + IntKind.wrap .i64 (IntKind.wrap .i64 (IntKind.wrap .i64 (Int.tdiv r (cI T i 2)) + 1) * IntKind.wrap .i64 (cI T i 5 + IntKind.wrap .i64 (2 * sw)))) = a + dt T sw r i) ∧
    (¬ 0 < Int.tmod r (cI T i 2) → IntKind.wrap .i64 (a + IntKind.wrap .i64 (IntKind.wrap .i64 (Int.tdiv r (cI T i 2)) * IntKind.wrap .i64 (cI T i 5 + IntKind.wrap .i64 (2 * sw)))) = a + dt T sw r i) := by
  have hf := hM.task i hi
  have hs0 := hM.sw0
  have hs1 := hM.sw1
  have c0 := hf.cost0
  have c1 := hf.cost1
  have p0 := hf.per0
  have hd := dt_bounds hM h0 h1 hi
  obtain ⟨a0, a1⟩ := ceil_bounds h0 h1 p0
  have hc := ceil_eq h0 p0
  have hq0 : 0 ≤ r / cI T i 2 := Int.ediv_nonneg h0 (by omega)
  have hq1 : r / cI T i 2 ≤ 2147483647 := Int.le_trans (Int.ediv_le_self _ h0) h1
  rw [Int.tdiv_eq_ediv_of_nonneg h0, Int.tmod_eq_emod_of_nonneg h0]
  have w2 : IntKind.wrap .i64 (2 * sw) = 2 * sw := wrap_id (by omega) (by omega)
  have w3 : IntKind.wrap .i64 (cI T i 5 + 2 * sw) = cI T i 5 + 2 * sw := wrap_id (by omega) (by omega)
  have w1 : IntKind.wrap .i64 (r / cI T i 2) = r / cI T i 2 := wrap_id (by omega) (by omega)
  rw [w2, w3, w1]
  constructor
  · intro hm
    rw [if_pos hm] at hc
    have w4 : IntKind.wrap .i64 (r / cI T i 2 + 1) = r / cI T i 2 + 1 := wrap_id (by omega) (by omega)
    have e : (r / cI T i 2 + 1) * (cI T i 5 + 2 * sw) = dt T sw r i := by unfold dt; rw [hc]
    rw [w4, e, wrap_id (n := dt T sw r i) (by omega) (by omega), wrap_id (by omega) (by omega)]
  · intro hm
    rw [if_neg hm] at hc
    have e : (r / cI T i 2) * (cI T i 5 + 2 * sw) = dt T sw r i := by unfold dt; rw [hc]
    rw [e, wrap_id (n := dt T sw r i) (by omega) (by omega), wrap_id (by omega) (by omega)]
theorem prog_term {T C : List Row} {sw ins : Int} (hM : MayF T C sw ins) {r : Int} (h0 : 0 ≤ r) (h1 : r ≤ 2147483647) {i : Nat} (hi : i < T.length) {a : Int} (ha0 : 0 ≤ a) (ha1 : a ≤ 1152921504606846976) :
    IntKind.wrap .i64 (a + IntKind.wrap .i64 (IntKind.wrap .i64 (Int.tdiv (IntKind.wrap .i64 (IntKind.wrap .i64 (r + cI T i 2) - 1)) (cI T i 2)) * IntKind.wrap .i64 (cI T i 5 + IntKind.wrap .i64 (2 * sw)))) = a + dt T sw r i := by
  have hf := hM.task i hi
  have hs0 := hM.sw0
  have hs1 := hM.sw1
  have c0 := hf.cost0
  have c1 := hf.cost1
  have p0 := hf.per0
  have p1 := hf.per1
  have hd := dt_bounds hM h0 h1 hi
  obtain ⟨a0, a1⟩ := ceil_bounds h0 h1 p0
  have w2 : IntKind.wrap .i64 (2 * sw) = 2 * sw := wrap_id (by omega) (by omega)
  have w3 : IntKind.wrap .i64 (cI T i 5 + 2 * sw) = cI T i 5 + 2 * sw := wrap_id (by omega) (by omega)
  have w1 : IntKind.wrap .i64 (r + cI T i 2) = r + cI T i 2 := wrap_id (by omega) (by omega)
  have w0 : IntKind.wrap .i64 (r + cI T i 2 - 1) = r + cI T i 2 - 1 := wrap_id (by omega) (by omega)
  rw [w2, w3, w1, w0, Int.tdiv_eq_ediv_of_nonneg (by omega), wrap_id (n := (r + cI T i 2 - 1) / cI T i 2) (by omega) (by omega)]
  rw [show (r + cI T i 2 - 1) / cI T i 2 * (cI T i 5 + 2 * sw) = dt T sw r i from rfl, wrap_id (n := dt T sw r i) (by omega) (by omega), wrap_id (by omega) (by omega)]

theorem L41_all {T C : List Row} {sw ins : Int} (hM : MayF T C sw ins) (N : Nat) (t : Nat) (ht : t < T.length) {r : Int} (h0 : 0 ≤ r) (h1 : r ≤ 2147483647) : ∀ (k n i : Nat) (a : Int), i + k = T.length → k < n → 0 ≤ a → a ≤ 1152921504606846976 →
    L41a58 N n t r a i T C sw ins = match decide (1152921504606846976 < ds T sw t r i k a) with | true => some (.ret 0 false T C sw ins) | false => some (.x0 (ds T sw t r i k a) T C sw ins)
  | 0, n + 1, i, a, h, _, _, ha => by
    have e : decide (1152921504606846976 < ds T sw t r i 0 a) = false := decide_eq_false (by simp only [ds]; omega)
    show (match decide ((i : Int) < (T.length : Int)) with | true => _ | false => _) = _
    rw [dge (show T.length ≤ i by omega), e]; rfl
  | k + 1, n + 1, i, a, h, hn, ha0, ha1 => by
    have hl := hM.t
    have hd := dt_bounds hM h0 h1 (show i < T.length by omega)
    have ih := fun a h h' => L41_all hM N t ht h0 h1 k n (i + 1) a (by omega) (by omega) h h'
    have hp : (cI T i 2 == 0) = false := by have := (hM.task i (by omega)).per0; simp; omega
    obtain ⟨hr1, hr2⟩ := ref_term hM h0 h1 (show i < T.length by omega) ha0 ha1
    show (match decide ((i : Int) < (T.length : Int)) with | true => _ | false => _) = _
    simp only [dlt (show i < T.length by omega), dz, Bool.and_self, tst, ← cI.eq_1, ← cL.eq_1]
    rw [wrap_succ (by omega)]
    have hJ : J41a3730 N t i T C sw ins (cI T i 0) (cI T i 1) (cI T i 2) (cI T i 3) (cI T i 4) (cI T i 5) (cL T i 6) = match hi T t i with | true => some (.nx T C sw ins (cI T i 0) (cI T i 1) (cI T i 2) (cI T i 3) (cI T i 4) (cI T i 5) (cL T i 6)) | false => some (.x1 T C sw ins (cI T i 0) (cI T i 1) (cI T i 2) (cI T i 3) (cI T i 4) (cI T i 5) (cL T i 6)) := by
      unfold J41a3730 hi
      simp only [dlt ht, dz, Bool.and_self, tst, ← cI.eq_1]
      cases ((i : Int) == (t : Int)) <;> cases decide (cI T i 1 < cI T t 1) <;> rfl
    rw [hJ]
    unfold ds
    cases hi T t i with
    | false => exact ih a ha0 ha1
    | true =>
      simp only [hp, Bool.not_false]
      have step : (match decide (1152921504606846976 < a + dt T sw r i) with | true => (some (OL41a58.ret 0 false T C sw ins) : Option OL41a58) | false => L41a58 N n t r (a + dt T sw r i) ((i + 1 : Nat) : Int) T C sw ins) = match decide (1152921504606846976 < ds T sw t r (i + 1) k (a + dt T sw r i)) with | true => some (.ret 0 false T C sw ins) | false => some (.x0 (ds T sw t r (i + 1) k (a + dt T sw r i)) T C sw ins) := by
        by_cases hb : 1152921504606846976 < a + dt T sw r i
        · have := ds_ge hM t h0 h1 k (i + 1) (a + dt T sw r i) (by omega)
          rw [decide_eq_true hb, decide_eq_true (show 1152921504606846976 < ds T sw t r (i + 1) k (a + dt T sw r i) by omega)]
        · rw [decide_eq_false hb]
          exact ih _ (by omega) (by omega)
      by_cases hm : 0 < Int.tmod r (cI T i 2)
      · simp only [decide_eq_true hm, hr1 hm]; exact step
      · simp only [decide_eq_false hm, hr2 hm]; exact step
  | _, 0, _, _, _, h, _, _ => by omega
theorem F41_eq {T C : List Row} {sw ins : Int} (hM : MayF T C sw ins) {N : Nat} (hN : 100 ≤ N) (t : Nat) (ht : t < T.length) {r : Int} (h0 : 0 ≤ r) (h1 : r ≤ 2147483647) :
    F41 N T C sw ins t r = match decide (1152921504606846976 < dem T sw t r) with | true => some (.r 0 false) | false => some (.r (dem T sw t r) true) := by
  obtain ⟨M, rfl⟩ : ∃ M, N = M + 1 := ⟨N - 1, by omega⟩
  have hl := hM.t
  have := L41_all hM M t ht h0 h1 T.length M 0 0 (by omega) (by omega) (by omega) (by omega)
  rw [show ((0 : Nat) : Int) = (0 : Int) from rfl] at this
  show (match L41a58 M M t r 0 0 T C sw ins with | none => (none : Option R41) | some (.ret a b _ _ _ _) => some (.r a b) | some (.x0 a _ _ _ _) => some (.r a true)) = _
  rw [this]
  unfold dem
  cases decide (1152921504606846976 < ds T sw t r 0 T.length 0) <;> rfl

theorem L40_all {T C : List Row} {sw ins : Int} (hM : MayF T C sw ins) (N : Nat) (t : Nat) (ht : t < T.length) {r : Int} (h0 : 0 ≤ r) (h1 : r ≤ 2147483647) {lim : Int} (hlim : lim ≤ 1152921504606846976) : ∀ (k n i : Nat) (a : Int), i + k = T.length → k < n → 0 ≤ a → a ≤ lim →
    ∃ v : Int, L40i58f49a6 N n T T.length i T C sw ins t T C sw ins r lim 0 false a = match decide (lim < ds T sw t r i k a) with | true => some (.ret T C sw ins t T C sw ins r lim 0 false v) | false => some (.x0 T C sw ins t T C sw ins r lim 0 false (ds T sw t r i k a))
  | 0, n + 1, i, a, h, _, _, ha => by
    have e : decide (lim < ds T sw t r i 0 a) = false := decide_eq_false (by simp only [ds]; omega)
    refine ⟨0, ?_⟩
    show (match decide ((i : Int) < (T.length : Int)) with | true => _ | false => _) = _
    rw [dge (show T.length ≤ i by omega), e]; rfl
  | k + 1, n + 1, i, a, h, hn, ha0, ha1 => by
    have hl := hM.t
    have hd := dt_bounds hM h0 h1 (show i < T.length by omega)
    have ih := fun a h h' => L40_all hM N t ht h0 h1 hlim k n (i + 1) a (by omega) (by omega) h h'
    have hp : (cI T i 2 == 0) = false := by have := (hM.task i (by omega)).per0; simp; omega
    have hr := prog_term hM h0 h1 (show i < T.length by omega) ha0 (show a ≤ 1152921504606846976 by omega)
    have e : L40i58f49a6 N (n + 1) T T.length i T C sw ins t T C sw ins r lim 0 false a = match hi T t i with
        | true => (match decide (lim < a + dt T sw r i) with | true => some (.ret T C sw ins t T C sw ins r lim 0 false (a + dt T sw r i)) | false => L40i58f49a6 N n T T.length ((i + 1 : Nat) : Int) T C sw ins t T C sw ins r lim 0 false (a + dt T sw r i))
        | false => L40i58f49a6 N n T T.length ((i + 1 : Nat) : Int) T C sw ins t T C sw ins r lim 0 false a := by
      show (match decide ((i : Int) < (T.length : Int)) with | true => _ | false => _) = _
      simp only [dlt (show i < T.length by omega), dlt ht, dz, Bool.and_self, tst, ← cI.eq_1, ← cL.eq_1, hp, Bool.not_false, hr]
      rw [wrap_succ (by omega)]
      have e1 : ((i : Int) != (t : Int)) = !((i : Int) == (t : Int)) := rfl
      have e2 : decide (cI T t 1 ≤ cI T i 1) = !decide (cI T i 1 < cI T t 1) := by
        by_cases hc : cI T i 1 < cI T t 1
        · rw [decide_eq_true hc, decide_eq_false (by omega)]; rfl
        · rw [decide_eq_false hc, decide_eq_true (by omega)]; rfl
      rw [e1, e2]
      unfold hi
      cases ((i : Int) == (t : Int)) <;> cases decide (cI T i 1 < cI T t 1) <;> rfl
    rw [e]
    unfold ds
    cases hi T t i with
    | false => exact ih a ha0 ha1
    | true =>
      simp only
      by_cases hb : lim < a + dt T sw r i
      · have := ds_ge hM t h0 h1 k (i + 1) (a + dt T sw r i) (by omega)
        rw [decide_eq_true hb, decide_eq_true (show lim < ds T sw t r (i + 1) k (a + dt T sw r i) by omega)]
        exact ⟨_, rfl⟩
      · rw [decide_eq_false hb]
        exact ih _ (by omega) (by omega)
  | _, 0, _, _, _, h, _, _ => by omega
theorem F40_eq {T C : List Row} {sw ins : Int} (hM : MayF T C sw ins) {N : Nat} (hN : 100 ≤ N) (t : Nat) (ht : t < T.length) {r : Int} (h0 : 0 ≤ r) (h1 : r ≤ 2147483647) {lim : Int} (hl0 : 0 ≤ lim) (hlim : lim ≤ 1152921504606846976) :
    F40 N T C sw ins t r lim = match decide (lim < dem T sw t r) with | true => some (.r 0 false) | false => some (.r (dem T sw t r) true) := by
  obtain ⟨M, rfl⟩ : ∃ M, N = M + 2 := ⟨N - 2, by omega⟩
  have hl := hM.t
  obtain ⟨v, this⟩ := L40_all hM (M + 1) t ht h0 h1 hlim T.length (M + 1) 0 0 (by omega) (by omega) (by omega) (by omega)
  rw [show ((0 : Nat) : Int) = (0 : Int) from rfl] at this
  show (match L40i58f49a6 (M + 1) (M + 1) T T.length 0 T C sw ins t T C sw ins r lim 0 false 0 with | none => (none : Option R40) | some (.ret _ _ _ _ _ _ _ _ _ _ _ a b _) => some (.r a b) | some (.x0 _ _ _ _ _ _ _ _ _ _ _ _ _ a) => some (.r a true)) = _
  rw [this]
  unfold dem
  cases decide (lim < ds T sw t r 0 T.length 0) <;> rfl

end Go.Proofs.Ytbgdiljnmifakaa

namespace Go.Proofs.Ytbgdiljnmifakaa
open Go Go.Eng

structure Res (T : List Row) (sw : Int) (t : Nat) (least dl v : Int) (b : Bool) : Prop where
  met : b = true → least ≤ v ∧ v ≤ dl ∧ least + dem T sw t v = v ∧ ∀ x, least ≤ x → x < v → least + dem T sw t x ≠ x
  not : b = false → v = 0 ∧ ∀ x, least ≤ x → x ≤ dl → least + dem T sw t x ≠ x

theorem L2_all {T C : List Row} {sw ins : Int} (hM : MayF T C sw ins) (N : Nat) (hN : 100 ≤ N) (t : Nat) (ht : t < T.length) {least dl : Int} (hl0 : 1 ≤ least) (hl1 : least ≤ 2147483648) (hd0 : 1 ≤ dl) (hd1 : dl ≤ 2147483647) (a0 a1 a2 a4 a5 : Int) (us : List Row) :
    ∀ (n : Nat) (r : Int), 1 ≤ n → dl + 2 - r ≤ n → least ≤ r → (r ≤ dl → r ≤ least + dem T sw t r) → (∀ x, least ≤ x → x < r → x ≤ dl → least + dem T sw t x ≠ x) →
    ∃ v b, Res T sw t least dl v b ∧ (L29a124 N n t least r T C sw ins a0 a1 a2 dl a4 a5 us = some (.ret v b T C sw ins a0 a1 a2 dl a4 a5 us) ∨ (v = 0 ∧ b = false ∧ L29a124 N n t least r T C sw ins a0 a1 a2 dl a4 a5 us = some (.x0 T C sw ins a0 a1 a2 dl a4 a5 us))) ∧
      (L27a444 N n t least r T C sw ins a0 a1 a2 dl a4 a5 us = some (.ret v b T C sw ins a0 a1 a2 dl a4 a5 us) ∨ (v = 0 ∧ b = false ∧ L27a444 N n t least r T C sw ins a0 a1 a2 dl a4 a5 us = some (.x0 T C sw ins a0 a1 a2 dl a4 a5 us))) := by
  intro n
  induction n with
  | zero => intro r h; omega
  | succ n ih =>
    intro r _ hn hr hup hno
    have e29 : L29a124 N (n + 1) t least r T C sw ins a0 a1 a2 dl a4 a5 us = match decide (r ≤ dl) with
        | true => (match F41 N T C sw ins t r with
          | none => none
          | some (.r s ok) => match !ok with
            | true => some (.ret 0 false T C sw ins a0 a1 a2 dl a4 a5 us)
            | false => match decide (dl < IntKind.wrap .i64 (least + s)) with
              | true => some (.ret 0 false T C sw ins a0 a1 a2 dl a4 a5 us)
              | false => match IntKind.wrap .i64 (least + s) == r with
                | true => some (.ret r true T C sw ins a0 a1 a2 dl a4 a5 us)
                | false => L29a124 N n t least (IntKind.wrap .i64 (least + s)) T C sw ins a0 a1 a2 dl a4 a5 us)
        | false => some (.x0 T C sw ins a0 a1 a2 dl a4 a5 us) := rfl
    have e27 : ∀ n r, L27a444 N (n + 1) t least r T C sw ins a0 a1 a2 dl a4 a5 us = match decide (dl < r) with
        | true => some (.x0 T C sw ins a0 a1 a2 dl a4 a5 us)
        | false => (match F40 N T C sw ins t r dl with
          | none => none
          | some (.r s ok) => match !ok with
            | true => some (.x0 T C sw ins a0 a1 a2 dl a4 a5 us)
            | false => match IntKind.wrap .i64 (least + s) == r with
              | true => some (.ret r true T C sw ins a0 a1 a2 dl a4 a5 us)
              | false => L27a444 N n t least (IntKind.wrap .i64 (least + s)) T C sw ins a0 a1 a2 dl a4 a5 us) := fun n r => rfl
    by_cases hrd : dl < r
    · refine ⟨0, false, ⟨fun h => (by cases h), fun _ => ⟨rfl, fun x h1 h2 => hno x h1 (by omega) h2⟩⟩, .inr ⟨rfl, rfl, ?_⟩, .inr ⟨rfl, rfl, ?_⟩⟩
      · rw [e29, decide_eq_false (show ¬ r ≤ dl by omega)]
      · rw [e27, decide_eq_true hrd]
    · have hdn := dem_nonneg hM t (show 0 ≤ r by omega) (show r ≤ 2147483647 by omega)
      have h41 := F41_eq hM hN t ht (show 0 ≤ r by omega) (show r ≤ 2147483647 by omega)
      have h40 := F40_eq hM hN t ht (show 0 ≤ r by omega) (show r ≤ 2147483647 by omega) (show 0 ≤ dl by omega) (show dl ≤ 1152921504606846976 by omega)
      rw [decide_eq_true (show r ≤ dl by omega), h41] at e29
      have e27' := e27 n r
      rw [decide_eq_false hrd, h40] at e27'
      have hmono : ∀ x, r ≤ x → dem T sw t r ≤ dem T sw t x := fun x hx => dem_mono hM t hx
      obtain ⟨d, hd⟩ : ∃ d, d = dem T sw t r := ⟨_, rfl⟩
      rw [← hd] at e29 e27' hdn hmono hup
      have hw : d ≤ 1152921504606846976 → IntKind.wrap .i64 (least + d) = least + d := fun h => wrap_id (by omega) (by omega)
      by_cases hA : dl < least + d
      · refine ⟨0, false, ⟨fun h => (by cases h), fun _ => ⟨rfl, fun x h1 h2 => ?_⟩⟩, .inl ?_, .inr ⟨rfl, rfl, ?_⟩⟩
        · by_cases hx : x < r
          · exact hno x h1 hx h2
          · have := hmono x (by omega)
            omega
        · rw [e29]
          by_cases hb : 1152921504606846976 < d
          · rw [decide_eq_true hb]
            rfl
          · rw [decide_eq_false hb]
            simp only [Bool.not_true, hw (by omega), decide_eq_true hA]
        · rw [e27']
          by_cases hb : dl < d
          · rw [decide_eq_true hb]
            rfl
          · have e1 : (least + d == r) = false := by simp; omega
            rw [decide_eq_false hb]
            simp only [Bool.not_true, hw (by omega), e1]
            obtain ⟨m, rfl⟩ : ∃ m, n = m + 1 := ⟨n - 1, by omega⟩
            rw [e27, decide_eq_true hA]
      · have hb1 : decide (1152921504606846976 < d) = false := decide_eq_false (by omega)
        have hb2 : decide (dl < d) = false := decide_eq_false (by omega)
        have hb3 : decide (dl < least + d) = false := decide_eq_false (by omega)
        rw [hb1] at e29
        rw [hb2] at e27'
        simp only [Bool.not_true, hw (show d ≤ 1152921504606846976 by omega), hb3] at e29 e27'
        by_cases heq : least + d = r
        · have e1 : (least + d == r) = true := by simpa using heq
          simp only [e1] at e29 e27'
          exact ⟨r, true, ⟨fun _ => ⟨hr, by omega, by rw [← hd]; omega, fun x h1 h2 => hno x h1 h2 (by omega)⟩, fun h => (by cases h)⟩, .inl e29, .inl e27'⟩
        · have e1 : (least + d == r) = false := by simpa using heq
          simp only [e1] at e29 e27'
          have hgt : r < least + d := by have := hup (by omega); omega
          rw [e29, e27']
          refine ih (least + d) (by omega) (by omega) (by omega) (fun h => ?_) (fun x h1 h2 h3 => ?_)
          · have := hmono (least + d) (by omega); omega
          · by_cases hx : x < r
            · exact hno x h1 hx h3
            · have := hmono x (by omega)
              omega
end Go.Proofs.Ytbgdiljnmifakaa

namespace Go.Proofs.Ytbgdiljnmifakaa
open Go Go.Eng
theorem works_true : F10 4294967295 = some (.r true) := by kernel_rfl
theorem works_true2 : F10 4294967294 = some (.r true) := by kernel_rfl
end Go.Proofs.Ytbgdiljnmifakaa

namespace Go.Proofs.Ytbgdiljnmifakaa
open Go Go.Eng

/-! ### Response times -/
theorem F2_eq {T C : List Row} {sw ins : Int} (hS : Small T C) (hM : MayF T C sw ins) {N : Nat} (hN : 2147490000 ≤ N) (t : Nat) (ht : t < T.length) :
    ∃ v b, Res T sw t (cI T t 5 + blk T C ins t) (cI T t 3) v b ∧ F29 N T C sw ins t = some (.r v b) ∧ F27 N T C sw ins t = some (.r v b) := by
  obtain ⟨M, rfl⟩ : ∃ M, N = M + 1 := ⟨N - 1, by omega⟩
  have hf := hM.task t ht
  have c0 := hf.cost0
  have c1 := hf.cost1
  have d0 := hf.dl0
  have d1 := hf.dl1
  have p1 := hf.per1
  have hb := blk_bounds hM t
  have hw : IntKind.wrap .i64 (cI T t 5 + blk T C ins t) = cI T t 5 + blk T C ins t := wrap_id (by omega) (by omega)
  obtain ⟨v, b, h1, h2, h3⟩ := L2_all hM M (by omega) t ht (least := cI T t 5 + blk T C ins t) (dl := cI T t 3) (by omega) (by omega) (by omega) (by omega) (cI T t 0) (cI T t 1) (cI T t 2) (cI T t 4) (cI T t 5) (cL T t 6) M (cI T t 5 + blk T C ins t) (by omega) (by omega) (by omega)
    (fun h => by have := dem_nonneg hM t (r := cI T t 5 + blk T C ins t) (by omega) (by omega); omega) (fun x h1 h2 => by omega)
  refine ⟨v, b, h1, ?_, ?_⟩
  · show (tst (decide ((0 : Int) ≤ (t : Int)) && decide ((t : Int) < (T.length : Int))) <| _) = _
    simp only [dlt ht, dz, Bool.and_self, tst, ← cI.eq_1, ← cL.eq_1]
    rw [F30_eq hS hM (by omega) t ht]
    simp only [hw]
    rcases h2 with h2 | ⟨rfl, rfl, h2⟩
    · rw [h2]
    · rw [h2]
  · show (tst (decide ((0 : Int) ≤ (t : Int)) && decide ((t : Int) < (T.length : Int))) <| _) = _
    simp only [dlt ht, dz, Bool.and_self, tst, ← cI.eq_1, ← cL.eq_1]
    rw [F28_eq hS hM (by omega) t ht]
    simp only [hw]
    rcases h3 with h3 | ⟨rfl, rfl, h3⟩
    · rw [h3]
    · rw [h3]

/-! ### Errors -/
def err (T C : List Row) (sw ins k : Int) : Int := match !may T C sw ins with | true => 2 | false => match decide (k < 0) with | true => 4 | false => match decide ((T.length : Int) ≤ k) with | true => 4 | false => 0
theorem F39_eq {T C : List Row} (hS : Small T C) {N : Nat} (hN : 1400 ≤ N) (sw ins k : Int) : F39 N T C sw ins k = some (.r (err T C sw ins k)) := by
  obtain ⟨M, rfl⟩ : ∃ M, N = M + 1 := ⟨N - 1, by omega⟩
  show (match F14 M T C sw ins with | none => none | some (.r x) => _) = _
  rw [F14_eq hS (by omega)]
  unfold err
  cases may T C sw ins <;> cases decide (k < 0) <;> cases decide ((T.length : Int) ≤ k) <;> rfl
theorem F38_eq {T C : List Row} (hS : Small T C) {N : Nat} (hN : 1400 ≤ N) (sw ins k : Int) : F38 N T C sw ins k = some (.r (err T C sw ins k)) := by
  obtain ⟨M, rfl⟩ : ∃ M, N = M + 1 := ⟨N - 1, by omega⟩
  show (match F13 M T C sw ins with | none => none | some (.r x) => _) = _
  rw [F13_eq hS (by omega)]
  unfold err
  cases may T C sw ins <;> cases decide (k < 0) <;> cases decide ((T.length : Int) ≤ k) <;> rfl
theorem err_ok {T C : List Row} {sw ins k : Int} (h : err T C sw ins k = 0) : may T C sw ins = true ∧ ∃ t : Nat, k = t ∧ t < T.length := by
  unfold err at h
  cases hm : may T C sw ins with
  | false => rw [hm] at h; cases h
  | true =>
    rw [hm] at h
    by_cases h1 : k < 0
    · rw [decide_eq_true h1] at h; cases h
    · by_cases h2 : (T.length : Int) ≤ k
      · rw [decide_eq_false h1, decide_eq_true h2] at h; cases h
      · exact ⟨rfl, k.toNat, by omega, by omega⟩

/-! ### What the laws call -/
theorem F19_20 {T C : List Row} (hS : Small T C) {N : Nat} (hN : 4000 ≤ N) (sw ins k : Int) : ∃ b e, F19 N T C sw ins k = some (.r b e) ∧ F20 N T C sw ins k = some (.r b e) ∧ e = err T C sw ins k ∧ (∀ t : Nat, e = 0 → k = t → b = blk T C ins t) := by
  obtain ⟨M, rfl⟩ : ∃ M, N = M + 1 := ⟨N - 1, by omega⟩
  have e1 : F19 (M + 1) T C sw ins k = match err T C sw ins k != 0 with | true => some (.r 0 (err T C sw ins k)) | false => match F28 M T C sw ins k with | none => none | some (.r x) => some (.r x 0) := by
    show (match F38 M T C sw ins k with | none => none | some (.r x) => _) = _
    rw [F38_eq hS (by omega)]
    all_goals (try dsimp only)
    all_goals (cases err T C sw ins k != 0 <;> rfl)
  have e2 : F20 (M + 1) T C sw ins k = match err T C sw ins k != 0 with | true => some (.r 0 (err T C sw ins k)) | false => match F30 M T C sw ins k with | none => none | some (.r x) => some (.r x 0) := by
    show (match F39 M T C sw ins k with | none => none | some (.r x) => _) = _
    rw [F39_eq hS (by omega)]
    all_goals (try dsimp only)
    all_goals (cases err T C sw ins k != 0 <;> rfl)
  rw [e1, e2]
  cases he : err T C sw ins k != 0 with
  | true => exact ⟨_, _, rfl, rfl, rfl, fun t h => by rw [h] at he; cases he⟩
  | false =>
    have he0 : err T C sw ins k = 0 := by simpa using he
    obtain ⟨hm, t, rfl, ht⟩ := err_ok he0
    have hM := may_f hm
    rw [F28_eq hS hM (by omega) t ht, F30_eq hS hM (by omega) t ht]
    refine ⟨_, _, rfl, rfl, he0.symm, fun u _ hu => ?_⟩
    have : t = u := by omega
    rw [this]
theorem F17_23 {T C : List Row} (hS : Small T C) {N : Nat} (hN : 2147490001 ≤ N) (sw ins k : Int) : ∃ v b e, F17 N T C sw ins k = some (.r v b e) ∧ F23 N T C sw ins k = some (.r v b e) ∧ e = err T C sw ins k ∧ (∀ t : Nat, e = 0 → k = t → Res T sw t (cI T t 5 + blk T C ins t) (cI T t 3) v b) := by
  obtain ⟨M, rfl⟩ : ∃ M, N = M + 1 := ⟨N - 1, by omega⟩
  have e1 : F17 (M + 1) T C sw ins k = match err T C sw ins k != 0 with | true => some (.r 0 false (err T C sw ins k)) | false => match F27 M T C sw ins k with | none => none | some (.r x y) => some (.r x y 0) := by
    show (match F38 M T C sw ins k with | none => none | some (.r x) => _) = _
    rw [F38_eq hS (by omega)]
    all_goals (try dsimp only)
    all_goals (cases err T C sw ins k != 0 <;> rfl)
  have e2 : F23 (M + 1) T C sw ins k = match err T C sw ins k != 0 with | true => some (.r 0 false (err T C sw ins k)) | false => match F29 M T C sw ins k with | none => none | some (.r x y) => some (.r x y 0) := by
    show (match F39 M T C sw ins k with | none => none | some (.r x) => _) = _
    rw [F39_eq hS (by omega)]
    all_goals (try dsimp only)
    all_goals (cases err T C sw ins k != 0 <;> rfl)
  rw [e1, e2]
  cases he : err T C sw ins k != 0 with
  | true => exact ⟨_, _, _, rfl, rfl, rfl, fun t h => by rw [h] at he; cases he⟩
  | false =>
    have he0 : err T C sw ins k = 0 := by simpa using he
    obtain ⟨hm, t, rfl, ht⟩ := err_ok he0
    have hM := may_f hm
    obtain ⟨v, b, h1, h2, h3⟩ := F2_eq hS hM (show 2147490000 ≤ M by omega) t ht
    rw [h2, h3]
    refine ⟨_, _, _, rfl, rfl, he0.symm, fun u _ hu => ?_⟩
    have : t = u := by omega
    rw [← this]; exact h1
theorem F21_22 {T C : List Row} (hS : Small T C) {N : Nat} (hN : 4000 ≤ N) (sw ins k r : Int) : ∃ d e, F21 N T C sw ins k r = some (.r d e) ∧ F22 N T C sw ins k r = some (.r d e) ∧ (∀ t : Nat, err T C sw ins k = 0 → k = t → 0 ≤ r → r ≤ 2147483647 → (e = 0 ∧ d = dem T sw t r ∨ e = 3 ∧ 1152921504606846976 < dem T sw t r)) := by
  obtain ⟨M, rfl⟩ : ∃ M, N = M + 2 := ⟨N - 2, by omega⟩
  have e1 : F21 (M + 2) T C sw ins k r = match !may T C sw ins || !inR r 0 2147483647 with | true => some (.r 0 2) | false => match err T C sw ins k != 0 with | true => some (.r 0 (err T C sw ins k)) | false => match F40 (M + 1) T C sw ins k r 1152921504606846976 with | none => none | some (.r d ok) => match !ok with | true => some (.r 0 3) | false => some (.r d 0) := by
    show (match J21a6 (M + 1) r T C sw ins with | none => (none : Option R21) | some (.nx _ _ _ _) => _ | some (.ret a b _ _ _ _) => some (.r a b)) = _
    unfold J21a6
    rw [F13_eq hS (by omega), F31_eq]
    cases may T C sw ins with
    | false => rfl
    | true =>
      cases inR r 0 2147483647 with
      | false => rfl
      | true =>
        simp only [Bool.not_true, Bool.or_self]
        rw [F38_eq hS (by omega)]
        all_goals
          dsimp only
          cases err T C sw ins k != 0 with
          | true => rfl
          | false =>
            cases F40 (M + 1) T C sw ins k r 1152921504606846976 with
            | none => rfl
            | some q => cases q with | r d ok => cases ok <;> rfl
  have e2 : F22 (M + 2) T C sw ins k r = match !may T C sw ins || !inR r 0 2147483647 with | true => some (.r 0 2) | false => match err T C sw ins k != 0 with | true => some (.r 0 (err T C sw ins k)) | false => match F41 (M + 1) T C sw ins k r with | none => none | some (.r d ok) => match !ok with | true => some (.r 0 3) | false => some (.r d 0) := by
    show (match J22a6 (M + 1) r T C sw ins with | none => (none : Option R22) | some (.nx _ _ _ _) => _ | some (.ret a b _ _ _ _) => some (.r a b)) = _
    unfold J22a6
    rw [F14_eq hS (by omega), F35_eq]
    cases may T C sw ins with
    | false => rfl
    | true =>
      cases inR r 0 2147483647 with
      | false => rfl
      | true =>
        simp only [Bool.not_true, Bool.or_self]
        rw [F39_eq hS (by omega)]
        all_goals
          dsimp only
          cases err T C sw ins k != 0 with
          | true => rfl
          | false =>
            cases F41 (M + 1) T C sw ins k r with
            | none => rfl
            | some q => cases q with | r d ok => cases ok <;> rfl
  rw [e1, e2]
  cases hg : !may T C sw ins || !inR r 0 2147483647 with
  | true =>
    refine ⟨_, _, rfl, rfl, fun t he _ h0 h1 => ?_⟩
    obtain ⟨hm, _⟩ := err_ok he
    rw [hm, inR_iff.2 ⟨h0, h1⟩] at hg
    cases hg
  | false =>
    cases he : err T C sw ins k != 0 with
    | true => exact ⟨_, _, rfl, rfl, fun t h => by rw [h] at he; cases he⟩
    | false =>
      have he0 : err T C sw ins k = 0 := by simpa using he
      obtain ⟨hm, t, rfl, ht⟩ := err_ok he0
      have hM := may_f hm
      simp only [Bool.or_eq_false_iff, Bool.not_eq_false', inR_iff] at hg
      rw [F40_eq hM (by omega) t ht hg.2.1 hg.2.2 (by omega) (by omega), F41_eq hM (by omega) t ht hg.2.1 hg.2.2]
      by_cases hb : 1152921504606846976 < dem T sw t r
      · rw [decide_eq_true hb]
        refine ⟨_, _, rfl, rfl, fun u _ hu _ _ => .inr ⟨rfl, ?_⟩⟩
        have : t = u := by omega
        rw [← this]; exact hb
      · rw [decide_eq_false hb]
        refine ⟨_, _, rfl, rfl, fun u _ hu _ _ => .inl ⟨rfl, ?_⟩⟩
        have : t = u := by omega
        rw [← this]

/-! ### Sizes -/
theorem L26_all (N : Nat) {T C : List Row} (sw ins : Int) (hT : T.length ≤ 1000) : ∀ (k n i : Nat) (a b : Int), i + k = T.length → k < n → ∃ a' b', L26a58 N n a b T.length i T C sw ins = some (.x0 a' b' T C sw ins)
  | 0, n + 1, i, a, b, h, _ => by
    refine ⟨a, b, ?_⟩
    show (match decide ((i : Int) < (T.length : Int)) with | true => _ | false => _) = _
    rw [dge (show T.length ≤ i by omega)]
  | k + 1, n + 1, i, a, b, h, hn => by
    obtain ⟨a', b', h'⟩ := L26_all N (C := C) sw ins hT k n (i + 1) (Eng.imin a (cI T i 5)) (Eng.imax b (cI T i 3)) (by omega) (by omega)
    refine ⟨a', b', ?_⟩
    show (match decide ((i : Int) < (T.length : Int)) with | true => _ | false => _) = _
    simp only [dlt (show i < T.length by omega), dz, Bool.and_self, tst, ← cI.eq_1]
    rw [wrap_succ (by omega), h']
  | _, 0, _, _, _, _, h => by omega
theorem L9_all (N : Nat) {T C : List Row} (sw ins : Int) (hT : T.length ≤ 1000) : ∀ (k n i : Nat), i + k = T.length → k < n → (L9a58 N n T.length i T C sw ins = some (.ret true T C sw ins) ∨ L9a58 N n T.length i T C sw ins = some (.x0 T C sw ins) ∧ ∀ j : Nat, i ≤ j → j < T.length → (cL T j 6).length ≤ 40)
  | 0, n + 1, i, h, _ => by
    refine .inr ⟨?_, fun j h1 h2 => by omega⟩
    show (match decide ((i : Int) < (T.length : Int)) with | true => _ | false => _) = _
    rw [dge (show T.length ≤ i by omega)]
  | k + 1, n + 1, i, h, hn => by
    have ih := L9_all N (C := C) sw ins hT k n (i + 1) (by omega) (by omega)
    have e : L9a58 N (n + 1) T.length i T C sw ins = match decide ((40 : Int) < ((cL T i 6).length : Int)) with | true => some (.ret true T C sw ins) | false => L9a58 N n T.length ((i + 1 : Nat) : Int) T C sw ins := by
      show (match decide ((i : Int) < (T.length : Int)) with | true => _ | false => _) = _
      simp only [dlt (show i < T.length by omega), dz, Bool.and_self, tst, ← cL.eq_1]
      rw [wrap_succ (by omega)]
      cases decide ((40 : Int) < ((cL T i 6).length : Int)) <;> rfl
    rw [e]
    by_cases h4 : (40 : Int) < ((cL T i 6).length : Int)
    · rw [decide_eq_true h4]; exact .inl rfl
    · rw [decide_eq_false h4]
      rcases ih with ih | ⟨ih, hj⟩
      · exact .inl ih
      · refine .inr ⟨ih, fun j h1 h2 => ?_⟩
        by_cases e : j = i
        · subst e; omega
        · exact hj j (by omega) h2
  | _, 0, _, h, _ => by omega
theorem F9_eq {N : Nat} (hN : 2000 ≤ N) (T C : List Row) (sw ins : Int) : F9 N T C sw ins = some (.r true) ∨ (F9 N T C sw ins = some (.r false) ∧ Small T C) := by
  obtain ⟨M, rfl⟩ : ∃ M, N = M + 2 := ⟨N - 2, by omega⟩
  have e1 : F9 (M + 2) T C sw ins = match decide ((40 : Int) < (T.length : Int)) || decide ((40 : Int) < (C.length : Int)) with
      | true => some (.r true)
      | false => (match L9a58 (M + 1) (M + 1) T.length 0 T C sw ins with
        | none => none
        | some (.ret x _ _ _ _) => some (.r x)
        | some (.x0 a b c d) => (match F14 (M + 1) a b c d with
          | none => none
          | some (.r y) => match y with
            | true => (match F26 (M + 1) a b c d with | none => none | some (.r z) => some (.r (decide ((100000 : Int) < z))))
            | false => some (.r false))) := by
    show (match J9a6 (M + 1) T C sw ins with | none => (none : Option R9) | some (.nx _ _ _ _) => _ | some (.ret x _ _ _ _) => some (.r x)) = _
    unfold J9a6
    cases decide ((40 : Int) < (T.length : Int)) <;> cases decide ((40 : Int) < (C.length : Int)) <;> rfl
  rw [e1]
  cases hl : decide ((40 : Int) < (T.length : Int)) || decide ((40 : Int) < (C.length : Int)) with
  | true => exact .inl rfl
  | false =>
    simp only [Bool.or_eq_false_iff, decide_eq_false_iff_not] at hl
    have h9 := L9_all (M + 1) (T := T) (C := C) sw ins (by omega) T.length (M + 1) 0 (by omega) (by omega)
    rw [show ((0 : Nat) : Int) = (0 : Int) from rfl] at h9
    rcases h9 with h9 | ⟨h9, hu⟩
    · rw [h9]; exact .inl rfl
    · have hS : Small T C := ⟨by omega, by omega, fun i hi => hu i (by omega) hi⟩
      rw [h9]
      simp only
      rw [F14_eq hS (by omega)]
      cases may T C sw ins with
      | false => exact .inr ⟨rfl, hS⟩
      | true =>
        obtain ⟨a', b', h26⟩ := L26_all M (T := T) (C := C) sw ins (by omega) T.length M 0 1099511627776 0 (by omega) (by omega)
        rw [show ((0 : Nat) : Int) = (0 : Int) from rfl] at h26
        have e26 : ∃ z, F26 (M + 1) T C sw ins = some (.r z) := by
          refine ⟨IntKind.wrap .i64 (Int.tdiv b' (Eng.imax a' 1)), ?_⟩
          show (match L26a58 M M 1099511627776 0 T.length 0 T C sw ins with | none => (none : Option R26) | some (.x0 x3 x4 _ _ _ _) => (tst (!((Eng.imax x3 1) == 0)) <| some (.r (IntKind.wrap .i64 (Int.tdiv x4 (Eng.imax x3 1)))))) = _
          rw [h26]
          have : (Eng.imax a' 1 == 0) = false := by
            unfold Eng.imax; split <;> simp <;> omega
          simp only [this, tst, Bool.not_false]
        obtain ⟨z, e26⟩ := e26
        simp only [e26]
        cases decide ((100000 : Int) < z) with
        | true => exact .inl rfl
        | false => exact .inr ⟨rfl, hS⟩

/-! ### RespCalls -/
theorem L6_all {T C : List Row} (hS : Small T C) {N : Nat} (hN : 2147490001 ≤ N) (sw ins task stretch : Int) : ∀ (k n : Nat) (i : Int), i + k = T.length + 1 → -1 ≤ i → k < n → L6a58 N n task stretch i T C sw ins = some (.x0 T C sw ins)
  | 0, n + 1, i, h, h0, _ => by
    show (match decide (i ≤ (T.length : Int)) with | true => _ | false => _) = _
    rw [decide_eq_false (show ¬ i ≤ (T.length : Int) by omega)]
  | k + 1, n + 1, i, h, h0, hn => by
    have hT := hS.t
    have ih := L6_all hS hN sw ins task stretch k n (i + 1) (by omega) (by omega) (by omega)
    show (match decide (i ≤ (T.length : Int)) with | true => _ | false => _) = _
    rw [decide_eq_true (show i ≤ (T.length : Int) by omega)]
    have hJ : ∃ u, J6a3730 N task i i = some (.nx u) := by
      unfold J6a3730
      cases decide (i < 0) <;> exact ⟨_, rfl⟩
    obtain ⟨u, hJ⟩ := hJ
    obtain ⟨b, e, h1, h2, _⟩ := F19_20 hS (show 4000 ≤ N by omega) sw ins u
    obtain ⟨d, f, h3, h4, _⟩ := F21_22 hS (show 4000 ≤ N by omega) sw ins u stretch
    obtain ⟨v, m, g, h5, h6, _⟩ := F17_23 hS hN sw ins u
    simp only [hJ, h1, h2, h3, h4, h5, h6, bne_self_eq_false, beq_self_eq_true, Bool.not_true]
    rw [wrap_id (by omega) (by omega)]
    exact ih
  | _, 0, _, _, _, h => by omega
theorem calls_true (T C : List Row) (sw ins task stretch : Int) : F6 4294967296 T C sw ins task stretch = some (.r true) := by
  show (match F9 4294967295 T C sw ins with | none => (none : Option R6) | some (.r x) => match x with | true => (match F10 4294967295 with | none => none | some (.r y) => some (.r y)) | false => (match L6a58 4294967295 4294967295 task stretch (-1) T C sw ins with | none => none | some (.ret x _ _ _ _) => some (.r x) | some (.x0 _ _ _ _) => (match F10 4294967295 with | none => none | some (.r y) => some (.r y)))) = _
  rcases F9_eq (N := 4294967295) (by omega) T C sw ins with h | ⟨h, hS⟩
  · rw [h]; simp only [works_true]
  · rw [h]
    have hT := hS.t
    have := L6_all hS (N := 4294967295) (by omega) sw ins task stretch (T.length + 2) 4294967295 (-1) (by omega) (by omega) (by omega)
    simp only [this, works_true]
end Go.Proofs.Ytbgdiljnmifakaa

namespace Go.Proofs.Ytbgdiljnmifakaa
open Go Go.Eng

theorem L1112_all {T C : List Row} {sw ins : Int} (hS : Small T C) (hM : MayF T C sw ins) {N : Nat} (hN : 2147490000 ≤ N) : ∀ (k n i : Nat) (acc : List Row), i + k = T.length → k < n → acc.length ≤ i →
    ∃ b, L11a122 N n T T.length i T C sw ins acc = some (.x0 T C sw ins b) ∧ L12a122 N n i T C sw ins acc = some (.x0 T C sw ins b) ∧ b.length ≤ T.length
  | 0, n + 1, i, acc, h, _, ha => by
    refine ⟨acc, ?_, ?_, by omega⟩
    · show (match decide ((i : Int) < (T.length : Int)) with | true => _ | false => _) = _
      rw [dge (show T.length ≤ i by omega)]
    · show (match decide ((i : Int) < (T.length : Int)) with | true => _ | false => _) = _
      rw [dge (show T.length ≤ i by omega)]
  | k + 1, n + 1, i, acc, h, hn, ha => by
    have hl := hM.t
    have hi : i < T.length := by omega
    obtain ⟨v, m, _, h29, h27⟩ := F2_eq hS hM hN i hi
    have e4 : decide ((acc.length + 1) * 32 ≤ 140737488355328) = true := decide_eq_true (by omega)
    obtain ⟨b, h1, h2, h3⟩ := L1112_all hS hM hN k n (i + 1) (acc ++ [[.int .i64 (cI T i 0), .int .i64 (blk T C ins i), .int .i64 v, .bool m]]) (by omega) (by omega) (by simp; omega)
    refine ⟨b, ?_, ?_, h3⟩
    · show (match decide ((i : Int) < (T.length : Int)) with | true => _ | false => _) = _
      simp only [dlt hi, dz, Bool.and_self, tst, ← cI.eq_1, h27, F28_eq hS hM (show 3000 ≤ N by omega) i hi, e4]
      rw [wrap_succ (by omega)]
      exact h1
    · show (match decide ((i : Int) < (T.length : Int)) with | true => _ | false => _) = _
      simp only [dlt hi, dz, Bool.and_self, tst, ← cI.eq_1, h29, F30_eq hS hM (show 200 ≤ N by omega) i hi, e4]
      rw [wrap_succ (by omega)]
      exact h2
  | _, 0, _, _, _, h, _ => by omega
theorem L15_same (N : Nat) (xs : List Row) (hx : xs.length ≤ 1000) : ∀ (k n i : Nat), i + k = xs.length → k < n → L15a58 N n xs xs i = some .x0
  | 0, n + 1, i, h, _ => by
    show (match decide ((i : Int) < (xs.length : Int)) with | true => _ | false => _) = _
    rw [dge (show xs.length ≤ i by omega)]
  | k + 1, n + 1, i, h, hn => by
    show (match decide ((i : Int) < (xs.length : Int)) with | true => _ | false => _) = _
    simp only [dlt (show i < xs.length by omega), dz, Bool.and_self, tst, beq_self_eq_true, Bool.not_true]
    rw [wrap_succ (by omega)]
    exact L15_same N xs hx k n (i + 1) (by omega) (by omega)
  | _, 0, _, _, h => by omega
theorem F15_same {N : Nat} (hN : 1100 ≤ N) {xs : List Row} (hx : xs.length ≤ 1000) : F15 N xs xs = some (.r true) := by
  obtain ⟨M, rfl⟩ : ∃ M, N = M + 1 := ⟨N - 1, by omega⟩
  have := L15_same M xs hx xs.length M 0 (by omega) (by omega)
  rw [show ((0 : Nat) : Int) = (0 : Int) from rfl] at this
  show (match (xs.length : Int) != (xs.length : Int) with | true => _ | false => _) = _
  simp only [bne_self_eq_false, this]
theorem F11_12 {T C : List Row} (hS : Small T C) {N : Nat} (hN : 2147490001 ≤ N) (sw ins : Int) : ∃ e b, F11 N T C sw ins = some (.r e b) ∧ F12 N T C sw ins = some (.r e b) ∧ b.length ≤ 40 := by
  obtain ⟨M, rfl⟩ : ∃ M, N = M + 1 := ⟨N - 1, by omega⟩
  have hT := hS.t
  cases hm : may T C sw ins with
  | false =>
    refine ⟨2, [], ?_, ?_, by simp⟩
    · show (match F13 M T C sw ins with | none => none | some (.r x) => _) = _
      rw [F13_eq hS (by omega), hm]
      all_goals rfl
    · show (match F14 M T C sw ins with | none => none | some (.r x) => _) = _
      rw [F14_eq hS (by omega), hm]
      all_goals rfl
  | true =>
    have hM := may_f hm
    obtain ⟨b, h1, h2, h3⟩ := L1112_all hS hM (show 2147490000 ≤ M by omega) T.length M 0 [] (by omega) (by omega) (by simp)
    rw [show ((0 : Nat) : Int) = (0 : Int) from rfl] at h1 h2
    refine ⟨0, b, ?_, ?_, by omega⟩
    · show (match F13 M T C sw ins with | none => none | some (.r x) => _) = _
      rw [F13_eq hS (by omega), hm]
      simp only [Bool.not_true, h1]
    · show (match F14 M T C sw ins with | none => none | some (.r x) => _) = _
      rw [F14_eq hS (by omega), hm]
      simp only [Bool.not_true, h2]
theorem all_true (T C : List Row) (sw ins : Int) : F3 4294967296 T C sw ins = some (.r true) := by
  show (match F9 4294967295 T C sw ins with | none => none | some (.r x) => _) = _
  rcases F9_eq (N := 4294967295) (by omega) T C sw ins with h | ⟨h, hS⟩
  · rw [h]; simp only [works_true]
  · rw [h]
    obtain ⟨e, b, h1, h2, h3⟩ := F11_12 hS (N := 4294967295) (by omega) sw ins
    simp only [h1, h2, F13_eq hS (show 1300 ≤ 4294967295 by omega), F14_eq hS (show 1300 ≤ 4294967295 by omega), beq_self_eq_true, F15_same (show 1100 ≤ 4294967295 by omega) (show b.length ≤ 1000 by omega), works_true]
end Go.Proofs.Ytbgdiljnmifakaa

namespace Go.Proofs.Ytbgdiljnmifakaa
open Go Go.Eng Go.ChangeShapes Go.WideShapes Go.ChangeAt Go.RowKit

theorem own : ownKnob Try.prog.godebug = none := by kernel_rfl
theorem laidOut : laidOutB Try.prog = true := by kernel_rfl

theorem set_of_arg {x : AV} (ha : (CX.ti 25).u.agg = true) (hk : (CX.ti 25).ks = [.slice 38, .slice 3, .int .i64, .int .i64]) (h : ArgAV CX 25 x) : ∃ T C sw ins, x = .agg [.list 38 T, .list 3 C, .int .i64 sw, .int .i64 ins] := by
  rcases h with ⟨_, row, rfl, h2, _⟩ | ⟨h1, _⟩
  · rw [hk] at h2
    match row, h2 with
    | [], h2 => simp [koks] at h2
    | [_], h2 => simp [koks] at h2
    | [_, _], h2 => simp [koks] at h2
    | [_, _, _], h2 => simp [koks] at h2
    | a :: b :: c :: d :: e :: r, h2 => simp [koks] at h2
    | [a, b, c, d], h2 =>
      simp only [koks, Bool.and_eq_true] at h2
      obtain ⟨k1, k2, k3, k4, _⟩ := h2
      cases a <;> simp only [kok, Bool.false_eq_true] at k1
      cases b <;> simp only [kok, Bool.false_eq_true] at k2
      cases c <;> simp only [kok, Bool.false_eq_true] at k3
      cases d <;> simp only [kok, Bool.false_eq_true] at k4
      have e1 := eq_of_beq k1
      have e2 := eq_of_beq k2
      have e3 := eq_of_beq k3
      have e4 := eq_of_beq k4
      subst e1 e2 e3 e4
      exact ⟨_, _, _, _, rfl⟩
  · rw [ha] at h1; cases h1
theorem int_of_arg {t : TypeId} {x : AV} (ha : (CX.ti t).u.agg = false) (hk : (CX.ti t).ks = [.int .i64]) (h : ArgAV CX t x) : ∃ v, x = .int .i64 v := by
  rcases h with ⟨h1, _⟩ | ⟨_, h2, _⟩
  · rw [ha] at h1; cases h1
  · rw [hk] at h2
    simp only [koks, Bool.and_true] at h2
    cases x <;> simp only [kok, Bool.false_eq_true] at h2
    have e := eq_of_beq h2
    subst e
    exact ⟨_, rfl⟩

theorem law3 (xs : List AV) (h : ArgsAV CX [25] xs) : ∃ m M', FCalls CX 3 m xs [] (.bool true) M' := by
  match xs, h with
  | [x0], ⟨hx0, _⟩ =>
    obtain ⟨T, C, sw, ins, rfl⟩ := set_of_arg (by kernel_rfl) (by kernel_rfl) hx0
    exact ⟨_, _, soundF3 4294967296 (fun _ => .agg [.list 38 T, .list 3 C, .int .i64 sw, .int .i64 ins]) [] (.r true) (all_true T C sw ins )⟩

set_option maxRecDepth 100000 in
theorem lifted3 (os : Os) (started : os.Started) (H : Type) (enc : TypeId × Value → H) :
    ReturnsInHanded {} Try.checked os 3 .any (Rows.respAllSpec.pre6 enc Try.prog Try.f3 Rows.respAllRow.domain false) (Rows.respAllSpec.post enc Try.prog Try.f3 false true false false) := by
  refine returnsInHanded_of_change (C := Try.checked) own started (by kernel_rfl) Try.func3
    (ChangeSpec.witness6 (enc := enc) (C := Try.checked) false { blocks := #[], args := #[.agg #[.slice none 0 0, .slice none 0 0, .int .i64 0, .int .i64 0]], vars := [] } 8 (by kernel_rfl) (by kernel_rfl) (by kernel_rfl) (by kernel_rfl)) ?_
  intro W base args ds gs before hval hW _ _
  exact law_contract (X := CX) hX (fun _ => rfl) laidOut (ts := [25]) (tb := 4) (n := 8) (by kernel_rfl) (by kernel_rfl) Try.underlying4 (by kernel_rfl) (by kernel_rfl) rfl
    (fun ds hds => by match ds, hds with | [d0], _ => rfl) law3 W base args ds gs before hval hW

theorem respAll_holds : Rows.RespAllSaid :=
  OpenClaim.holds_of_wide 3 Try.f3 rfl rfl rfl rfl rfl rfl rfl ⟨rfl, rfl, rfl, rfl, rfl⟩ rfl rfl rfl rfl rfl (by kernel_rfl) Try.func3 (by kernel_rfl)
    (of_decide_eq_true (by kernel_rfl)) (by unfold Func.isWrapper; first | (rw [if_pos (by decide +kernel)]; kernel_rfl) | (rw [if_neg (by decide +kernel)]; exact ⟨rfl, rfl⟩))
    (fun os started H enc _ => lifted3 os started H enc)

#print axioms respAll_holds
end Go.Proofs.Ytbgdiljnmifakaa
