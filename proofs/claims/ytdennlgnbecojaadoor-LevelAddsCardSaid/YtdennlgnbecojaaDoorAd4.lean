/-
  The functions of the code as typed functions, and that the code runs so. Printed by gen2.py.
  The functions of the code as typed functions, and that the code runs so. Printed by gen2.py.
  The functions of the code as typed functions, and that the code runs so. Printed by gen2.py.
  The functions of the code as typed functions, and that the code runs so. Printed by gen2.py.
  The functions of the code as typed functions, and that the code runs so. Printed by gen2.py.
  The functions of the code as typed functions, and that the code runs so. Printed by gen2.py.
  The functions of the code as typed functions, and that the code runs so. Printed by gen2.py.
  The functions of the code as typed functions, and that the code runs so. Printed by gen2.py.
  The functions of the code as typed functions, and that the code runs so. Printed by gen2.py.
  The functions of the code as typed functions, and that the code runs so. Printed by gen2.py.
  The functions of the code as typed functions, and that the code runs so. Printed by gen2.py.
  The functions of the code as typed functions, and that the code runs so. Printed by gen2.py.
  The functions of the code as typed functions, and that the code runs so. Printed by gen2.py.
  The functions of the code as typed functions, and that the code runs so. Printed by gen2.py.
  The functions of the code as typed functions, and that the code runs so. Printed by gen2.py.
  The functions of the code as typed functions, and that the code runs so. Printed by gen2.py.
  The functions of the code as typed functions, and that the code runs so. Printed by gen2.py.
  The functions of the code as typed functions, and that the code runs so. Printed by gen2.py.
  The functions of the code as typed functions, and that the code runs so. Printed by gen2.py.
  The functions of the code as typed functions, and that the code runs so. Printed by gen2.py.
  The functions of the code as typed functions, and that the code runs so. Printed by gen2.py.
  The functions of the code as typed functions, and that the code runs so. Printed by gen2.py.
  The functions of the code as typed functions, and that the code runs so. Printed by gen2.py.
  The functions of the code as typed functions, and that the code runs so. Printed by gen2.py.
-/
import Derived.Test.YtdennlgnbecojaaDoorAd3
import Derived.KernelRfl
set_option linter.all false
set_option linter.deprecated false
namespace Go.Proofs.YtdennlgnbecojaaDoor
open Go Go.Eng
set_option maxRecDepth 100000

/-! ### F30: ceiling/level.Access.2 -/
inductive R30 where
  | r (x0 : Bool) (b0c3 : List Row) (b0c4 : List Row) (b1c0 : Int) (b2c0 : Int) (b3 : List Row) (b4 : List Row) (b5 : List Row)
abbrev TF30 := List Row → List Row → Int → Int → List Row → List Row → List Row → Option R30
def sgF30 : LSh := ⟨[(0, .one (.ptr 0 0 0)), (1, .one (.ptr 1 0 0)), (2, .one (.ptr 2 0 0))], [.var [.any, .any, .any, .any, .any] [.own 3, .own 4, .own 5, .cell (.slice 113), .cell (.slice 117)], .var [.int .i64] [.cell (.int .i64)], .var [.int .i64] [.cell (.int .i64)], .row 58, .row 74, .row 45]⟩
def FFF30 (Fx : TF30) (s : St) : Option R30 := Fx (((s.mem.getD 0 .dead).cells.getD 3 .top).rows) (((s.mem.getD 0 .dead).cells.getD 4 .top).rows) (((s.mem.getD 1 .dead).cells.getD 0 .top).toI) (((s.mem.getD 2 .dead).cells.getD 0 .top).toI) ((s.mem.getD 3 .dead).rows) ((s.mem.getD 4 .dead).rows) ((s.mem.getD 5 .dead).rows)
def valF30 (o : R30) : AV := match o with | .r x0 b0c3 b0c4 b1c0 b2c0 b3 b4 b5 => .bool x0
def memF30 (o : R30) : List Blk := match o with | .r x0 b0c3 b0c4 b1c0 b2c0 b3 b4 b5 => [.var [.any, .any, .any, .any, .any] [.own 3, .own 4, .own 5, .list 113 b0c3, .list 117 b0c4], .var [.int .i64] [.int .i64 b1c0], .var [.int .i64] [.int .i64 b2c0], .row 58 b3, .row 74 b4, .row 45 b5]
def elF30 {R : Type} (o : R30) (k : AV → List Blk → Option R) : Option R := match o with | .r x0 b0c3 b0c4 b1c0 b2c0 b3 b4 b5 => k (.bool x0) [.var [.any, .any, .any, .any, .any] [.own 3, .own 4, .own 5, .list 113 b0c3, .list 117 b0c4], .var [.int .i64] [.int .i64 b1c0], .var [.int .i64] [.int .i64 b2c0], .row 58 b3, .row 74 b4, .row 45 b5]
def RecOkF30 (Fx : TF30) : Prop := ∀ lk M o, FFF30 Fx (canS sgF30 lk M) = some o → FCalls CX 30 6 (argsE 3 (canS sgF30 lk M).env) (canS sgF30 lk M).mem (valF30 o) (memF30 o)
noncomputable def csF30 (N : Nat) (R : Type) : List (CE R) := [ce31n0 (F31 N) R (fun _ _ => true)]
theorem hcsF30 (N : Nat) (R : Type) : AllE (CeOk CX) (csF30 N R) := ⟨okce31n0 (F31 N) (soundF31 N) R (fun _ _ => true), trivial⟩
noncomputable def T30ur1 (N : Nat) (R : Type) : LTab R := mkTab ⟨27, 134217727⟩ (csF30 N R) (noY) [] [] []
theorem okT30ur1 (N : Nat) (R : Type) : (T30ur1 N R).Ok CX code30 := mkTab_ok (hcsF30 N R) (noY_ok) (trivial) (trivial) (trivial)
def rsF30 : List ResultVar := [.tmp 3]
def F30 : Nat → TF30
  | 0 => fun _ _ _ _ _ _ _ => none
  | N + 1 => fun b0c3 b0c4 b1c0 b2c0 b3 b4 b5 =>
    tst (decide ((0 : Int) ≤ b1c0) && decide (b1c0 < ((b3.length : Int)))) <|
    tst (decide (b1c0.toNat < b3.length)) <|
    match ((((b3.getD b1c0.toNat [])).getD 0 .top).toI) == (6 : Int) with
    | true =>
      tst (decide ((0 : Int) ≤ b2c0) && decide (b2c0 < ((b5.length : Int)))) <|
      tst (decide (b2c0.toNat < b5.length)) <|
      tst (decide ((0 : Int) ≤ b1c0) && decide (b1c0 < ((b3.length : Int)))) <|
      tst (decide (b1c0.toNat < b3.length)) <|
      match F31 N b0c3 b0c4 ((((b5.getD b2c0.toNat [])).getD 5 .top).toI) ((((b3.getD b1c0.toNat [])).getD 12 .top).toI) b3 b4 b5 with
      | none => none
      | some (.r rx0v1 rb0v1 rb1v1 rb2v1) =>
        some (.r rx0v1 b0c3 b0c4 b1c0 b2c0 rb0v1 rb1v1 rb2v1)
    | false =>
      some (.r false b0c3 b0c4 b1c0 b2c0 b3 b4 b5)
def xRF30 : XSh R30 := ⟨[], ⟨[(0, .one (.cell (.bool)))], [.var [.any, .any, .any, .any, .any] [.own 3, .own 4, .own 5, .cell (.slice 113), .cell (.slice 117)], .var [.int .i64] [.cell (.int .i64)], .var [.int .i64] [.cell (.int .i64)], .row 58, .row 74, .row 45]⟩, fun st => [0, 1, 2, 3, 4, 5], fun s => .r ((Eng.look s.env 0).toB) (((s.mem.getD 0 .dead).cells.getD 3 .top).rows) (((s.mem.getD 0 .dead).cells.getD 4 .top).rows) (((s.mem.getD 1 .dead).cells.getD 0 .top).toI) (((s.mem.getD 2 .dead).cells.getD 0 .top).toI) ((s.mem.getD 3 .dead).rows) ((s.mem.getD 4 .dead).rows) ((s.mem.getD 5 .dead).rows)⟩
theorem fsF30 : ∀ (N : Nat) (lk : Nat → AV) (M : List Blk), FFF30 (F30 (N + 1)) (canS sgF30 lk M) = evfn CX (T30ur1 N R30) code30 rsF30 (argsE 3 (canS sgF30 lk M).env) (canS sgF30 lk M).mem (goR CX 6 (fun _ => some xRF30)) := by intro N lk M; kernel_rfl
theorem soundF30 : ∀ N, RecOkF30 (F30 N)
  | 0, lk, M, o, h => by cases h
  | N + 1, lk, M, o, h => fn_sound hX (okT30ur1 N R30) Tryd.func30 hb30 rfl en30 (by kernel_rfl) (ys := fun _ => some xRF30) (fun st y h => by injection h with h; subst h; exact fun lk M => ⟨rfl, rfl⟩) ((fsF30 N lk M).symm.trans h)
def cvce30n0 : List Cv := []
def selce30n0 : St → List Nat := fun st => [(Eng.look st.env 0).id, (Eng.look st.env 1).id, (Eng.look st.env 2).id, ((st.mem.getD ((Eng.look st.env 0).id) .dead).cells.getD 0 .top).id, ((st.mem.getD ((Eng.look st.env 0).id) .dead).cells.getD 1 .top).id, ((st.mem.getD ((Eng.look st.env 0).id) .dead).cells.getD 2 .top).id]
noncomputable def ce30n0 (Fx : TF30) (R : Type) (test : List AV → List Blk → Bool) : CE R := ⟨30, test, fun args M => some (selce30n0 ⟨argEnv 0 args, M, [], .unk⟩), fun args M k => tst (Nat.beq args.length 3) (callFn CX 6 cvce30n0 sgF30 selce30n0 (FFF30 Fx) elF30 args M k)⟩
theorem okce30n0 (Fx : TF30) (h : RecOkF30 Fx) (R : Type) (test : List AV → List Blk → Bool) : CeOk CX (ce30n0 Fx R test) := ce_ok hX (fun o k => by cases o; rfl) h en30 (fun args M ids h => by injection h with h; exact ⟨rfl, h.symm⟩)
end Go.Proofs.YtdennlgnbecojaaDoor

namespace Go.Proofs.YtdennlgnbecojaaDoor
open Go Go.Eng
set_option maxRecDepth 100000

/-! ### F32: ceiling/level.Access.3 -/
inductive R32 where
  | r (x0 : Bool) (b0c3 : List Row) (b0c4 : List Row) (b1c0 : Int) (b2 : List Row) (b3 : List Row) (b4 : List Row)
abbrev TF32 := List Row → List Row → Int → List Row → List Row → List Row → Option R32
def sgF32 : LSh := ⟨[(0, .one (.ptr 0 0 0)), (1, .one (.ptr 1 0 0))], [.var [.any, .any, .any, .any, .any] [.own 2, .own 3, .own 4, .cell (.slice 113), .cell (.slice 117)], .var [.int .i64] [.cell (.int .i64)], .row 58, .row 74, .row 45]⟩
def FFF32 (Fx : TF32) (s : St) : Option R32 := Fx (((s.mem.getD 0 .dead).cells.getD 3 .top).rows) (((s.mem.getD 0 .dead).cells.getD 4 .top).rows) (((s.mem.getD 1 .dead).cells.getD 0 .top).toI) ((s.mem.getD 2 .dead).rows) ((s.mem.getD 3 .dead).rows) ((s.mem.getD 4 .dead).rows)
def valF32 (o : R32) : AV := match o with | .r x0 b0c3 b0c4 b1c0 b2 b3 b4 => .bool x0
def memF32 (o : R32) : List Blk := match o with | .r x0 b0c3 b0c4 b1c0 b2 b3 b4 => [.var [.any, .any, .any, .any, .any] [.own 2, .own 3, .own 4, .list 113 b0c3, .list 117 b0c4], .var [.int .i64] [.int .i64 b1c0], .row 58 b2, .row 74 b3, .row 45 b4]
def elF32 {R : Type} (o : R32) (k : AV → List Blk → Option R) : Option R := match o with | .r x0 b0c3 b0c4 b1c0 b2 b3 b4 => k (.bool x0) [.var [.any, .any, .any, .any, .any] [.own 2, .own 3, .own 4, .list 113 b0c3, .list 117 b0c4], .var [.int .i64] [.int .i64 b1c0], .row 58 b2, .row 74 b3, .row 45 b4]
def RecOkF32 (Fx : TF32) : Prop := ∀ lk M o, FFF32 Fx (canS sgF32 lk M) = some o → FCalls CX 32 5 (argsE 2 (canS sgF32 lk M).env) (canS sgF32 lk M).mem (valF32 o) (memF32 o)
noncomputable def csF32 (N : Nat) (R : Type) : List (CE R) := []
theorem hcsF32 (N : Nat) (R : Type) : AllE (CeOk CX) (csF32 N R) := trivial
noncomputable def T32ur1 (N : Nat) (R : Type) : LTab R := mkTab ⟨18, 262143⟩ (csF32 N R) (noY) [] [] []
theorem okT32ur1 (N : Nat) (R : Type) : (T32ur1 N R).Ok CX code32 := mkTab_ok (hcsF32 N R) (noY_ok) (trivial) (trivial) (trivial)
def rsF32 : List ResultVar := [.tmp 2]
def F32 : Nat → TF32
  | 0 => fun _ _ _ _ _ _ => none
  | N + 1 => fun b0c3 b0c4 b1c0 b2 b3 b4 =>
    tst (decide ((0 : Int) ≤ b1c0) && decide (b1c0 < ((b4.length : Int)))) <|
    tst (decide (b1c0.toNat < b4.length)) <|
    match ((((b4.getD b1c0.toNat [])).getD 0 .top).toI) == (7 : Int) with
    | true =>
      tst (decide ((0 : Int) ≤ b1c0) && decide (b1c0 < ((b4.length : Int)))) <|
      tst (decide (b1c0.toNat < b4.length)) <|
      some (.r ((((b4.getD b1c0.toNat [])).getD 12 .top).toB) b0c3 b0c4 b1c0 b2 b3 b4)
    | false =>
      some (.r false b0c3 b0c4 b1c0 b2 b3 b4)
def xRF32 : XSh R32 := ⟨[], ⟨[(0, .one (.cell (.bool)))], [.var [.any, .any, .any, .any, .any] [.own 2, .own 3, .own 4, .cell (.slice 113), .cell (.slice 117)], .var [.int .i64] [.cell (.int .i64)], .row 58, .row 74, .row 45]⟩, fun st => [0, 1, 2, 3, 4], fun s => .r ((Eng.look s.env 0).toB) (((s.mem.getD 0 .dead).cells.getD 3 .top).rows) (((s.mem.getD 0 .dead).cells.getD 4 .top).rows) (((s.mem.getD 1 .dead).cells.getD 0 .top).toI) ((s.mem.getD 2 .dead).rows) ((s.mem.getD 3 .dead).rows) ((s.mem.getD 4 .dead).rows)⟩
theorem fsF32 : ∀ (N : Nat) (lk : Nat → AV) (M : List Blk), FFF32 (F32 (N + 1)) (canS sgF32 lk M) = evfn CX (T32ur1 N R32) code32 rsF32 (argsE 2 (canS sgF32 lk M).env) (canS sgF32 lk M).mem (goR CX 5 (fun _ => some xRF32)) := by intro N lk M; kernel_rfl
theorem soundF32 : ∀ N, RecOkF32 (F32 N)
  | 0, lk, M, o, h => by cases h
  | N + 1, lk, M, o, h => fn_sound hX (okT32ur1 N R32) Tryd.func32 hb32 rfl en32 (by kernel_rfl) (ys := fun _ => some xRF32) (fun st y h => by injection h with h; subst h; exact fun lk M => ⟨rfl, rfl⟩) ((fsF32 N lk M).symm.trans h)
def cvce32n0 : List Cv := []
def selce32n0 : St → List Nat := fun st => [(Eng.look st.env 0).id, (Eng.look st.env 1).id, ((st.mem.getD ((Eng.look st.env 0).id) .dead).cells.getD 0 .top).id, ((st.mem.getD ((Eng.look st.env 0).id) .dead).cells.getD 1 .top).id, ((st.mem.getD ((Eng.look st.env 0).id) .dead).cells.getD 2 .top).id]
noncomputable def ce32n0 (Fx : TF32) (R : Type) (test : List AV → List Blk → Bool) : CE R := ⟨32, test, fun args M => some (selce32n0 ⟨argEnv 0 args, M, [], .unk⟩), fun args M k => tst (Nat.beq args.length 2) (callFn CX 5 cvce32n0 sgF32 selce32n0 (FFF32 Fx) elF32 args M k)⟩
theorem okce32n0 (Fx : TF32) (h : RecOkF32 Fx) (R : Type) (test : List AV → List Blk → Bool) : CeOk CX (ce32n0 Fx R test) := ce_ok hX (fun o k => by cases o; rfl) h en32 (fun args M ids h => by injection h with h; exact ⟨rfl, h.symm⟩)
end Go.Proofs.YtdennlgnbecojaaDoor

namespace Go.Proofs.YtdennlgnbecojaaDoor
open Go Go.Eng
set_option maxRecDepth 100000

/-! ### F33: ceiling/level.Access.4 -/
inductive R33 where
  | r (x0 : Bool) (b0c3 : List Row) (b0c4 : List Row) (b1c0 : Int) (b2c0 : Int) (b3 : List Row) (b4 : List Row) (b5 : List Row)
abbrev TF33 := List Row → List Row → Int → Int → List Row → List Row → List Row → Option R33
def sgF33 : LSh := ⟨[(0, .one (.ptr 0 0 0)), (1, .one (.ptr 1 0 0)), (2, .one (.ptr 2 0 0))], [.var [.any, .any, .any, .any, .any] [.own 3, .own 4, .own 5, .cell (.slice 113), .cell (.slice 117)], .var [.int .i64] [.cell (.int .i64)], .var [.int .i64] [.cell (.int .i64)], .row 58, .row 74, .row 45]⟩
def FFF33 (Fx : TF33) (s : St) : Option R33 := Fx (((s.mem.getD 0 .dead).cells.getD 3 .top).rows) (((s.mem.getD 0 .dead).cells.getD 4 .top).rows) (((s.mem.getD 1 .dead).cells.getD 0 .top).toI) (((s.mem.getD 2 .dead).cells.getD 0 .top).toI) ((s.mem.getD 3 .dead).rows) ((s.mem.getD 4 .dead).rows) ((s.mem.getD 5 .dead).rows)
def valF33 (o : R33) : AV := match o with | .r x0 b0c3 b0c4 b1c0 b2c0 b3 b4 b5 => .bool x0
def memF33 (o : R33) : List Blk := match o with | .r x0 b0c3 b0c4 b1c0 b2c0 b3 b4 b5 => [.var [.any, .any, .any, .any, .any] [.own 3, .own 4, .own 5, .list 113 b0c3, .list 117 b0c4], .var [.int .i64] [.int .i64 b1c0], .var [.int .i64] [.int .i64 b2c0], .row 58 b3, .row 74 b4, .row 45 b5]
def elF33 {R : Type} (o : R33) (k : AV → List Blk → Option R) : Option R := match o with | .r x0 b0c3 b0c4 b1c0 b2c0 b3 b4 b5 => k (.bool x0) [.var [.any, .any, .any, .any, .any] [.own 3, .own 4, .own 5, .list 113 b0c3, .list 117 b0c4], .var [.int .i64] [.int .i64 b1c0], .var [.int .i64] [.int .i64 b2c0], .row 58 b3, .row 74 b4, .row 45 b5]
def RecOkF33 (Fx : TF33) : Prop := ∀ lk M o, FFF33 Fx (canS sgF33 lk M) = some o → FCalls CX 33 6 (argsE 3 (canS sgF33 lk M).env) (canS sgF33 lk M).mem (valF33 o) (memF33 o)
noncomputable def csF33 (N : Nat) (R : Type) : List (CE R) := []
theorem hcsF33 (N : Nat) (R : Type) : AllE (CeOk CX) (csF33 N R) := trivial
noncomputable def T33ur1 (N : Nat) (R : Type) : LTab R := mkTab ⟨17, 131071⟩ (csF33 N R) (noY) [] [] []
theorem okT33ur1 (N : Nat) (R : Type) : (T33ur1 N R).Ok CX code33 := mkTab_ok (hcsF33 N R) (noY_ok) (trivial) (trivial) (trivial)
def rsF33 : List ResultVar := [.tmp 3]
def F33 : Nat → TF33
  | 0 => fun _ _ _ _ _ _ _ => none
  | N + 1 => fun b0c3 b0c4 b1c0 b2c0 b3 b4 b5 =>
    tst (decide ((0 : Int) ≤ b1c0) && decide (b1c0 < ((b5.length : Int)))) <|
    tst (decide (b1c0.toNat < b5.length)) <|
    tst (decide ((0 : Int) ≤ b2c0) && decide (b2c0 < ((b3.length : Int)))) <|
    tst (decide (b2c0.toNat < b3.length)) <|
    some (.r (decide (((((b5.getD b1c0.toNat [])).getD 9 .top).toI) ≤ ((((b3.getD b2c0.toNat [])).getD 17 .top).toI))) b0c3 b0c4 b1c0 b2c0 b3 b4 b5)
def xRF33 : XSh R33 := ⟨[], ⟨[(0, .one (.cell (.bool)))], [.var [.any, .any, .any, .any, .any] [.own 3, .own 4, .own 5, .cell (.slice 113), .cell (.slice 117)], .var [.int .i64] [.cell (.int .i64)], .var [.int .i64] [.cell (.int .i64)], .row 58, .row 74, .row 45]⟩, fun st => [0, 1, 2, 3, 4, 5], fun s => .r ((Eng.look s.env 0).toB) (((s.mem.getD 0 .dead).cells.getD 3 .top).rows) (((s.mem.getD 0 .dead).cells.getD 4 .top).rows) (((s.mem.getD 1 .dead).cells.getD 0 .top).toI) (((s.mem.getD 2 .dead).cells.getD 0 .top).toI) ((s.mem.getD 3 .dead).rows) ((s.mem.getD 4 .dead).rows) ((s.mem.getD 5 .dead).rows)⟩
theorem fsF33 : ∀ (N : Nat) (lk : Nat → AV) (M : List Blk), FFF33 (F33 (N + 1)) (canS sgF33 lk M) = evfn CX (T33ur1 N R33) code33 rsF33 (argsE 3 (canS sgF33 lk M).env) (canS sgF33 lk M).mem (goR CX 6 (fun _ => some xRF33)) := by intro N lk M; kernel_rfl
theorem soundF33 : ∀ N, RecOkF33 (F33 N)
  | 0, lk, M, o, h => by cases h
  | N + 1, lk, M, o, h => fn_sound hX (okT33ur1 N R33) Tryd.func33 hb33 rfl en33 (by kernel_rfl) (ys := fun _ => some xRF33) (fun st y h => by injection h with h; subst h; exact fun lk M => ⟨rfl, rfl⟩) ((fsF33 N lk M).symm.trans h)
def cvce33n0 : List Cv := []
def selce33n0 : St → List Nat := fun st => [(Eng.look st.env 0).id, (Eng.look st.env 1).id, (Eng.look st.env 2).id, ((st.mem.getD ((Eng.look st.env 0).id) .dead).cells.getD 0 .top).id, ((st.mem.getD ((Eng.look st.env 0).id) .dead).cells.getD 1 .top).id, ((st.mem.getD ((Eng.look st.env 0).id) .dead).cells.getD 2 .top).id]
noncomputable def ce33n0 (Fx : TF33) (R : Type) (test : List AV → List Blk → Bool) : CE R := ⟨33, test, fun args M => some (selce33n0 ⟨argEnv 0 args, M, [], .unk⟩), fun args M k => tst (Nat.beq args.length 3) (callFn CX 6 cvce33n0 sgF33 selce33n0 (FFF33 Fx) elF33 args M k)⟩
theorem okce33n0 (Fx : TF33) (h : RecOkF33 Fx) (R : Type) (test : List AV → List Blk → Bool) : CeOk CX (ce33n0 Fx R test) := ce_ok hX (fun o k => by cases o; rfl) h en33 (fun args M ids h => by injection h with h; exact ⟨rfl, h.symm⟩)
end Go.Proofs.YtdennlgnbecojaaDoor

namespace Go.Proofs.YtdennlgnbecojaaDoor
open Go Go.Eng
set_option maxRecDepth 100000

/-! ### F16: ceiling/level.Access -/
inductive R16 where
  | r (x0 : Int) (b0 : List Row) (b1 : List Row) (b2 : List Row)
abbrev TF16 := List Row → List Row → Int → Int → List Row → List Row → List Row → Option R16
def sgF16 : LSh := ⟨[(0, .agg [.own 0, .own 1, .own 2, .cell (.slice 113), .cell (.slice 117)]), (1, .one (.cell (.int .i64))), (2, .one (.cell (.int .i64)))], [.row 58, .row 74, .row 45]⟩
def FFF16 (Fx : TF16) (s : St) : Option R16 := Fx (((Eng.look s.env 0).cells.getD 3 .top).rows) (((Eng.look s.env 0).cells.getD 4 .top).rows) ((Eng.look s.env 1).toI) ((Eng.look s.env 2).toI) ((s.mem.getD 0 .dead).rows) ((s.mem.getD 1 .dead).rows) ((s.mem.getD 2 .dead).rows)
def valF16 (o : R16) : AV := match o with | .r x0 b0 b1 b2 => .int .i64 x0
def memF16 (o : R16) : List Blk := match o with | .r x0 b0 b1 b2 => [.row 58 b0, .row 74 b1, .row 45 b2]
def elF16 {R : Type} (o : R16) (k : AV → List Blk → Option R) : Option R := match o with | .r x0 b0 b1 b2 => k (.int .i64 x0) [.row 58 b0, .row 74 b1, .row 45 b2]
def RecOkF16 (Fx : TF16) : Prop := ∀ lk M o, FFF16 Fx (canS sgF16 lk M) = some o → FCalls CX 16 3 (argsE 3 (canS sgF16 lk M).env) (canS sgF16 lk M).mem (valF16 o) (memF16 o)
noncomputable def csF16b (N : Nat) (R : Type) : List (CE R) := [ce26n0 (F26 N) R (fun _ _ => true), ce28n0 (F28 N) R (fun _ _ => true), ce30n0 (F30 N) R (fun _ _ => true), ce32n0 (F32 N) R (fun _ _ => true), ce33n0 (F33 N) R (fun _ _ => true)]
theorem hcsF16b (N : Nat) (R : Type) : AllE (CeOk CX) (csF16b N R) := ⟨okce26n0 (F26 N) (soundF26 N) R (fun _ _ => true), okce28n0 (F28 N) (soundF28 N) R (fun _ _ => true), okce30n0 (F30 N) (soundF30 N) R (fun _ _ => true), okce32n0 (F32 N) (soundF32 N) R (fun _ _ => true), okce33n0 (F33 N) (soundF33 N) R (fun _ _ => true), trivial⟩
def rs16n27 : List ResultVar := [.tmp 2]
noncomputable def bd16n27ul26 : Code := match codeAt code27 [false, true, false, true] with | some (.loop c) => c | _ => .skip
noncomputable def T16n27ul26 (N : Nat) (R : Type) : LTab R := mkTab ⟨18, 262143⟩ (csF16b N R) (noY) [] [] []
theorem okT16n27ul26 (N : Nat) (R : Type) : (T16n27ul26 N R).Ok CX code27 := mkTab_ok (hcsF16b N R) (noY_ok) (trivial) (trivial) (trivial)
noncomputable def T16n27ur1 (N : Nat) (R : Type) : LTab R := mkTab ⟨18, 262143⟩ (csF16b N R) (noY) [(26, fun st k => unroll CX (T16n27ul26 N R) bd16n27ul26 (2 * 26) 5 st k)] [] []
theorem okT16n27ur1 (N : Nat) (R : Type) : (T16n27ur1 N R).Ok CX code27 := mkTab_ok (hcsF16b N R) (noY_ok) (⟨unroll_ok hX (path := [false, true, false, true]) (by kernel_rfl) (by rfl) (okT16n27ul26 N R) rfl, trivial⟩) (trivial) (trivial)
noncomputable def csF16 (N : Nat) (R : Type) : List (CE R) := ⟨27, fun _ _ => true, fun _ M => some (List.range M.length), fun args M k => evfn CX (T16n27ur1 N R) code27 rs16n27 args M fun x M' => tst (Nat.ble M.length M'.length) (k x M')⟩ :: csF16b N R
theorem hcsF16 (N : Nat) (R : Type) : AllE (CeOk CX) (csF16 N R) := ⟨inl1_ok (run := fun args M k => evfn CX (T16n27ur1 N R) code27 rs16n27 args M k) fun {args M k r} h => evfn_sound hX (okT16n27ur1 N R) Tryd.func27 hb27 rfl en27 (by kernel_rfl) h, hcsF16b N R⟩
noncomputable def T16ur1 (N : Nat) (R : Type) : LTab R := mkTab ⟨21, 2097151⟩ (csF16 N R) (noY) [] [] []
theorem okT16ur1 (N : Nat) (R : Type) : (T16ur1 N R).Ok CX code16 := mkTab_ok (hcsF16 N R) (noY_ok) (trivial) (trivial) (trivial)
def rsF16 : List ResultVar := [.tmp 6]
def F16 : Nat → TF16
  | 0 => fun _ _ _ _ _ _ _ => none
  | N + 1 => fun x0c3 x0c4 x1 x2 b0 b1 b2 =>
    match F26 N x0c3 x0c4 x1 b0 b1 b2 with
    | none => none
    | some (.r rx0v1 rb0v1 rb1v1 rb2v1) =>
      match F28 N rx0v1 x0c3 x0c4 x2 rb0v1 rb1v1 rb2v1 with
      | none => none
      | some (.r rx0v2 rb0c0v2 rb1c3v2 rb1c4v2 rb2c0v2 rb3v2 rb4v2 rb5v2) =>
        match !rx0v2 with
        | true =>
          some (.r 2 rb3v2 rb4v2 rb5v2)
        | false =>
          match F30 N rb1c3v2 rb1c4v2 rb2c0v2 rb0c0v2 rb3v2 rb4v2 rb5v2 with
          | none => none
          | some (.r rx0v3 rb0c3v3 rb0c4v3 rb1c0v3 rb2c0v3 rb3v3 rb4v3 rb5v3) =>
            match !rx0v3 with
            | true =>
              some (.r 90 rb3v3 rb4v3 rb5v3)
            | false =>
              match F32 N rb0c3v3 rb0c4v3 rb2c0v3 rb3v3 rb4v3 rb5v3 with
              | none => none
              | some (.r rx0v4 rb0c3v4 rb0c4v4 rb1c0v4 rb2v4 rb3v4 rb4v4) =>
                match !rx0v4 with
                | true =>
                  some (.r 121 rb2v4 rb3v4 rb4v4)
                | false =>
                  match F33 N rb0c3v4 rb0c4v4 rb1c0v4 rb1c0v3 rb2v4 rb3v4 rb4v4 with
                  | none => none
                  | some (.r rx0v5 rb0c3v5 rb0c4v5 rb1c0v5 rb2c0v5 rb3v5 rb4v5 rb5v5) =>
                    match !rx0v5 with
                    | true =>
                      some (.r 120 rb3v5 rb4v5 rb5v5)
                    | false =>
                      some (.r 0 rb3v5 rb4v5 rb5v5)
def xRF16 : XSh R16 := ⟨[], ⟨[(0, .one (.cell (.int .i64)))], [.row 58, .row 74, .row 45]⟩, fun st => [0, 1, 2], fun s => .r ((Eng.look s.env 0).toI) ((s.mem.getD 0 .dead).rows) ((s.mem.getD 1 .dead).rows) ((s.mem.getD 2 .dead).rows)⟩
theorem fsF16 : ∀ (N : Nat) (lk : Nat → AV) (M : List Blk), FFF16 (F16 (N + 1)) (canS sgF16 lk M) = evfn CX (T16ur1 N R16) code16 rsF16 (argsE 3 (canS sgF16 lk M).env) (canS sgF16 lk M).mem (goR CX 3 (fun _ => some xRF16)) := by intro N lk M; kernel_rfl
theorem soundF16 : ∀ N, RecOkF16 (F16 N)
  | 0, lk, M, o, h => by cases h
  | N + 1, lk, M, o, h => fn_sound hX (okT16ur1 N R16) Tryd.func16 hb16 rfl en16 (by kernel_rfl) (ys := fun _ => some xRF16) (fun st y h => by injection h with h; subst h; exact fun lk M => ⟨rfl, rfl⟩) ((fsF16 N lk M).symm.trans h)
def cvce16n0 : List Cv := []
def selce16n0 : St → List Nat := fun st => [((Eng.look st.env 0).cells.getD 0 .top).id, ((Eng.look st.env 0).cells.getD 1 .top).id, ((Eng.look st.env 0).cells.getD 2 .top).id]
noncomputable def ce16n0 (Fx : TF16) (R : Type) (test : List AV → List Blk → Bool) : CE R := ⟨16, test, fun args M => some (selce16n0 ⟨argEnv 0 args, M, [], .unk⟩), fun args M k => tst (Nat.beq args.length 3) (callFn CX 3 cvce16n0 sgF16 selce16n0 (FFF16 Fx) elF16 args M k)⟩
theorem okce16n0 (Fx : TF16) (h : RecOkF16 Fx) (R : Type) (test : List AV → List Blk → Bool) : CeOk CX (ce16n0 Fx R test) := ce_ok hX (fun o k => by cases o; rfl) h en16 (fun args M ids h => by injection h with h; exact ⟨rfl, h.symm⟩)
end Go.Proofs.YtdennlgnbecojaaDoor

namespace Go.Proofs.YtdennlgnbecojaaDoor
open Go Go.Eng
set_option maxRecDepth 100000

/-! ### F37: ceiling/level.Convert.1 -/
inductive R37 where
  | r (x0 : Bool) (b0c3 : List Row) (b0c4 : List Row) (b1c0 : Int) (b2c0 : Int) (b3 : List Row) (b4 : List Row) (b5 : List Row)
abbrev TF37 := List Row → List Row → Int → Int → List Row → List Row → List Row → Option R37
def sgF37 : LSh := ⟨[(0, .one (.ptr 0 0 0)), (1, .one (.ptr 1 0 0)), (2, .one (.ptr 2 0 0))], [.var [.any, .any, .any, .any, .any] [.own 3, .own 4, .own 5, .cell (.slice 113), .cell (.slice 117)], .var [.int .i64] [.cell (.int .i64)], .var [.int .i64] [.cell (.int .i64)], .row 58, .row 74, .row 45]⟩
def FFF37 (Fx : TF37) (s : St) : Option R37 := Fx (((s.mem.getD 0 .dead).cells.getD 3 .top).rows) (((s.mem.getD 0 .dead).cells.getD 4 .top).rows) (((s.mem.getD 1 .dead).cells.getD 0 .top).toI) (((s.mem.getD 2 .dead).cells.getD 0 .top).toI) ((s.mem.getD 3 .dead).rows) ((s.mem.getD 4 .dead).rows) ((s.mem.getD 5 .dead).rows)
def valF37 (o : R37) : AV := match o with | .r x0 b0c3 b0c4 b1c0 b2c0 b3 b4 b5 => .bool x0
def memF37 (o : R37) : List Blk := match o with | .r x0 b0c3 b0c4 b1c0 b2c0 b3 b4 b5 => [.var [.any, .any, .any, .any, .any] [.own 3, .own 4, .own 5, .list 113 b0c3, .list 117 b0c4], .var [.int .i64] [.int .i64 b1c0], .var [.int .i64] [.int .i64 b2c0], .row 58 b3, .row 74 b4, .row 45 b5]
def elF37 {R : Type} (o : R37) (k : AV → List Blk → Option R) : Option R := match o with | .r x0 b0c3 b0c4 b1c0 b2c0 b3 b4 b5 => k (.bool x0) [.var [.any, .any, .any, .any, .any] [.own 3, .own 4, .own 5, .list 113 b0c3, .list 117 b0c4], .var [.int .i64] [.int .i64 b1c0], .var [.int .i64] [.int .i64 b2c0], .row 58 b3, .row 74 b4, .row 45 b5]
def RecOkF37 (Fx : TF37) : Prop := ∀ lk M o, FFF37 Fx (canS sgF37 lk M) = some o → FCalls CX 37 6 (argsE 3 (canS sgF37 lk M).env) (canS sgF37 lk M).mem (valF37 o) (memF37 o)
noncomputable def csF37 (N : Nat) (R : Type) : List (CE R) := [ce29n0 (F29 N) R (fun _ _ => true)]
theorem hcsF37 (N : Nat) (R : Type) : AllE (CeOk CX) (csF37 N R) := ⟨okce29n0 (F29 N) (soundF29 N) R (fun _ _ => true), trivial⟩
noncomputable def T37ur1 (N : Nat) (R : Type) : LTab R := mkTab ⟨12, 4095⟩ (csF37 N R) (noY) [] [] []
theorem okT37ur1 (N : Nat) (R : Type) : (T37ur1 N R).Ok CX code37 := mkTab_ok (hcsF37 N R) (noY_ok) (trivial) (trivial) (trivial)
def rsF37 : List ResultVar := [.tmp 3]
def F37 : Nat → TF37
  | 0 => fun _ _ _ _ _ _ _ => none
  | N + 1 => fun b0c3 b0c4 b1c0 b2c0 b3 b4 b5 =>
    match F29 N b0c3 b0c4 b1c0 b3 b4 b5 with
    | none => none
    | some (.r rx0v1 rb0v1 rb1v1 rb2v1) =>
      match rx0v1 with
      | true =>
        match F29 N b0c3 b0c4 b2c0 rb0v1 rb1v1 rb2v1 with
        | none => none
        | some (.r rx0v2 rb0v2 rb1v2 rb2v2) =>
          some (.r rx0v2 b0c3 b0c4 b1c0 b2c0 rb0v2 rb1v2 rb2v2)
      | false =>
        some (.r false b0c3 b0c4 b1c0 b2c0 rb0v1 rb1v1 rb2v1)
def xRF37 : XSh R37 := ⟨[], ⟨[(0, .one (.cell (.bool)))], [.var [.any, .any, .any, .any, .any] [.own 3, .own 4, .own 5, .cell (.slice 113), .cell (.slice 117)], .var [.int .i64] [.cell (.int .i64)], .var [.int .i64] [.cell (.int .i64)], .row 58, .row 74, .row 45]⟩, fun st => [0, 1, 2, 3, 4, 5], fun s => .r ((Eng.look s.env 0).toB) (((s.mem.getD 0 .dead).cells.getD 3 .top).rows) (((s.mem.getD 0 .dead).cells.getD 4 .top).rows) (((s.mem.getD 1 .dead).cells.getD 0 .top).toI) (((s.mem.getD 2 .dead).cells.getD 0 .top).toI) ((s.mem.getD 3 .dead).rows) ((s.mem.getD 4 .dead).rows) ((s.mem.getD 5 .dead).rows)⟩
theorem fsF37 : ∀ (N : Nat) (lk : Nat → AV) (M : List Blk), FFF37 (F37 (N + 1)) (canS sgF37 lk M) = evfn CX (T37ur1 N R37) code37 rsF37 (argsE 3 (canS sgF37 lk M).env) (canS sgF37 lk M).mem (goR CX 6 (fun _ => some xRF37)) := by intro N lk M; kernel_rfl
theorem soundF37 : ∀ N, RecOkF37 (F37 N)
  | 0, lk, M, o, h => by cases h
  | N + 1, lk, M, o, h => fn_sound hX (okT37ur1 N R37) Tryd.func37 hb37 rfl en37 (by kernel_rfl) (ys := fun _ => some xRF37) (fun st y h => by injection h with h; subst h; exact fun lk M => ⟨rfl, rfl⟩) ((fsF37 N lk M).symm.trans h)
def cvce37n0 : List Cv := []
def selce37n0 : St → List Nat := fun st => [(Eng.look st.env 0).id, (Eng.look st.env 1).id, (Eng.look st.env 2).id, ((st.mem.getD ((Eng.look st.env 0).id) .dead).cells.getD 0 .top).id, ((st.mem.getD ((Eng.look st.env 0).id) .dead).cells.getD 1 .top).id, ((st.mem.getD ((Eng.look st.env 0).id) .dead).cells.getD 2 .top).id]
noncomputable def ce37n0 (Fx : TF37) (R : Type) (test : List AV → List Blk → Bool) : CE R := ⟨37, test, fun args M => some (selce37n0 ⟨argEnv 0 args, M, [], .unk⟩), fun args M k => tst (Nat.beq args.length 3) (callFn CX 6 cvce37n0 sgF37 selce37n0 (FFF37 Fx) elF37 args M k)⟩
theorem okce37n0 (Fx : TF37) (h : RecOkF37 Fx) (R : Type) (test : List AV → List Blk → Bool) : CeOk CX (ce37n0 Fx R test) := ce_ok hX (fun o k => by cases o; rfl) h en37 (fun args M ids h => by injection h with h; exact ⟨rfl, h.symm⟩)
end Go.Proofs.YtdennlgnbecojaaDoor

namespace Go.Proofs.YtdennlgnbecojaaDoor
open Go Go.Eng
set_option maxRecDepth 100000

/-! ### F50: ceiling/table.at[ceiling/api.Ty] -/
inductive R50 where
  | r (x0c0 : Int) (x0c1 : ByteArray) (x0c2 : Int) (x0c3 : Int) (x0c4 : List Row) (x0c5 : Int) (x0c6 : Int) (x0c7 : Int) (x0c8 : ByteArray) (x0c9 : Bool) (x0c10 : Int) (x0c11 : List Row) (x0c12 : Int) (x0c13 : Int) (x0c14 : Bool) (x0c15 : Int) (x0c16 : Int) (x0c17 : Int) (x1 : Bool) (b0 : List Row)
abbrev TF50 := Int → List Row → Option R50
def sgF50 : LSh := ⟨[(0, .one (.own 0)), (1, .one (.cell (.int .i64)))], [.row 58]⟩
def FFF50 (Fx : TF50) (s : St) : Option R50 := Fx ((Eng.look s.env 1).toI) ((s.mem.getD 0 .dead).rows)
def valF50 (o : R50) : AV := match o with | .r x0c0 x0c1 x0c2 x0c3 x0c4 x0c5 x0c6 x0c7 x0c8 x0c9 x0c10 x0c11 x0c12 x0c13 x0c14 x0c15 x0c16 x0c17 x1 b0 => .tup [.agg [.int .u8 x0c0, .str x0c1, .int .i64 x0c2, .int .i64 x0c3, .list 9 x0c4, .int .i64 x0c5, .int .i64 x0c6, .int .i64 x0c7, .str x0c8, .bool x0c9, .int .i64 x0c10, .list 120 x0c11, .int .i64 x0c12, .int .u8 x0c13, .bool x0c14, .int .i64 x0c15, .int .i64 x0c16, .int .i64 x0c17], .bool x1]
def memF50 (o : R50) : List Blk := match o with | .r x0c0 x0c1 x0c2 x0c3 x0c4 x0c5 x0c6 x0c7 x0c8 x0c9 x0c10 x0c11 x0c12 x0c13 x0c14 x0c15 x0c16 x0c17 x1 b0 => [.row 58 b0]
def elF50 {R : Type} (o : R50) (k : AV → List Blk → Option R) : Option R := match o with | .r x0c0 x0c1 x0c2 x0c3 x0c4 x0c5 x0c6 x0c7 x0c8 x0c9 x0c10 x0c11 x0c12 x0c13 x0c14 x0c15 x0c16 x0c17 x1 b0 => k (.tup [.agg [.int .u8 x0c0, .str x0c1, .int .i64 x0c2, .int .i64 x0c3, .list 9 x0c4, .int .i64 x0c5, .int .i64 x0c6, .int .i64 x0c7, .str x0c8, .bool x0c9, .int .i64 x0c10, .list 120 x0c11, .int .i64 x0c12, .int .u8 x0c13, .bool x0c14, .int .i64 x0c15, .int .i64 x0c16, .int .i64 x0c17], .bool x1]) [.row 58 b0]
def RecOkF50 (Fx : TF50) : Prop := ∀ lk M o, FFF50 Fx (canS sgF50 lk M) = some o → FCalls CX 50 1 (argsE 2 (canS sgF50 lk M).env) (canS sgF50 lk M).mem (valF50 o) (memF50 o)
noncomputable def csF50 (N : Nat) (R : Type) : List (CE R) := []
theorem hcsF50 (N : Nat) (R : Type) : AllE (CeOk CX) (csF50 N R) := trivial
noncomputable def T50ur1 (N : Nat) (R : Type) : LTab R := mkTab ⟨19, 524287⟩ (csF50 N R) (noY) [] [] []
theorem okT50ur1 (N : Nat) (R : Type) : (T50ur1 N R).Ok CX code50 := mkTab_ok (hcsF50 N R) (noY_ok) (trivial) (trivial) (trivial)
def rsF50 : List ResultVar := [.cell 4 58, .tmp 5]
def F50 : Nat → TF50
  | 0 => fun _ _ => none
  | N + 1 => fun x1 b0 =>
    match decide (x1 < (0 : Int)) with
    | true =>
      some (.r 0 ByteArray.empty 0 0 ([]) 0 0 0 ByteArray.empty false 0 ([]) 0 0 false 0 0 0 false b0)
    | false =>
      match decide (((b0.length : Int)) ≤ x1) with
      | true =>
        some (.r 0 ByteArray.empty 0 0 ([]) 0 0 0 ByteArray.empty false 0 ([]) 0 0 false 0 0 0 false b0)
      | false =>
        tst (decide ((0 : Int) ≤ x1) && decide (x1 < ((b0.length : Int)))) <|
        tst (decide (x1.toNat < b0.length)) <|
        some (.r ((((b0.getD x1.toNat [])).getD 0 .top).toI) ((((b0.getD x1.toNat [])).getD 1 .top).toS) ((((b0.getD x1.toNat [])).getD 2 .top).toI) ((((b0.getD x1.toNat [])).getD 3 .top).toI) ((((b0.getD x1.toNat [])).getD 4 .top).rows) ((((b0.getD x1.toNat [])).getD 5 .top).toI) ((((b0.getD x1.toNat [])).getD 6 .top).toI) ((((b0.getD x1.toNat [])).getD 7 .top).toI) ((((b0.getD x1.toNat [])).getD 8 .top).toS) ((((b0.getD x1.toNat [])).getD 9 .top).toB) ((((b0.getD x1.toNat [])).getD 10 .top).toI) ((((b0.getD x1.toNat [])).getD 11 .top).rows) ((((b0.getD x1.toNat [])).getD 12 .top).toI) ((((b0.getD x1.toNat [])).getD 13 .top).toI) ((((b0.getD x1.toNat [])).getD 14 .top).toB) ((((b0.getD x1.toNat [])).getD 15 .top).toI) ((((b0.getD x1.toNat [])).getD 16 .top).toI) ((((b0.getD x1.toNat [])).getD 17 .top).toI) true b0)
def xRF50 : XSh R50 := ⟨[.frza 0 [.raw, .raw, .raw, .raw, .slice 9, .raw, .raw, .raw, .raw, .raw, .raw, .slice 120, .raw, .raw, .raw, .raw, .raw, .raw]], ⟨[(0, .agg [.cell (.int .u8), .cell (.str), .cell (.int .i64), .cell (.int .i64), .cell (.slice 9), .cell (.int .i64), .cell (.int .i64), .cell (.int .i64), .cell (.str), .cell (.bool), .cell (.int .i64), .cell (.slice 120), .cell (.int .i64), .cell (.int .u8), .cell (.bool), .cell (.int .i64), .cell (.int .i64), .cell (.int .i64)]), (1, .one (.cell (.bool)))], [.row 58]⟩, fun st => [0], fun s => .r (((Eng.look s.env 0).cells.getD 0 .top).toI) (((Eng.look s.env 0).cells.getD 1 .top).toS) (((Eng.look s.env 0).cells.getD 2 .top).toI) (((Eng.look s.env 0).cells.getD 3 .top).toI) (((Eng.look s.env 0).cells.getD 4 .top).rows) (((Eng.look s.env 0).cells.getD 5 .top).toI) (((Eng.look s.env 0).cells.getD 6 .top).toI) (((Eng.look s.env 0).cells.getD 7 .top).toI) (((Eng.look s.env 0).cells.getD 8 .top).toS) (((Eng.look s.env 0).cells.getD 9 .top).toB) (((Eng.look s.env 0).cells.getD 10 .top).toI) (((Eng.look s.env 0).cells.getD 11 .top).rows) (((Eng.look s.env 0).cells.getD 12 .top).toI) (((Eng.look s.env 0).cells.getD 13 .top).toI) (((Eng.look s.env 0).cells.getD 14 .top).toB) (((Eng.look s.env 0).cells.getD 15 .top).toI) (((Eng.look s.env 0).cells.getD 16 .top).toI) (((Eng.look s.env 0).cells.getD 17 .top).toI) ((Eng.look s.env 1).toB) ((s.mem.getD 0 .dead).rows)⟩
theorem fsF50 : ∀ (N : Nat) (lk : Nat → AV) (M : List Blk), FFF50 (F50 (N + 1)) (canS sgF50 lk M) = evfn CX (T50ur1 N R50) code50 rsF50 (argsE 2 (canS sgF50 lk M).env) (canS sgF50 lk M).mem (goRt CX 1 2 (fun _ => some xRF50)) := by intro N lk M; kernel_rfl
theorem soundF50 : ∀ N, RecOkF50 (F50 N)
  | 0, lk, M, o, h => by cases h
  | N + 1, lk, M, o, h => fn_soundt hX (okT50ur1 N R50) Tryd.func50 hb50 rfl en50 (by kernel_rfl) (ys := fun _ => some xRF50) (fun st y h => by injection h with h; subst h; exact fun lk M => ⟨rfl, rfl⟩) ((fsF50 N lk M).symm.trans h)
def cvce50n0 : List Cv := []
def selce50n0 : St → List Nat := fun st => [(Eng.look st.env 0).id]
noncomputable def ce50n0 (Fx : TF50) (R : Type) (test : List AV → List Blk → Bool) : CE R := ⟨50, test, fun args M => some (selce50n0 ⟨argEnv 0 args, M, [], .unk⟩), fun args M k => tst (Nat.beq args.length 2) (callFn CX 1 cvce50n0 sgF50 selce50n0 (FFF50 Fx) elF50 args M k)⟩
theorem okce50n0 (Fx : TF50) (h : RecOkF50 Fx) (R : Type) (test : List AV → List Blk → Bool) : CeOk CX (ce50n0 Fx R test) := ce_ok hX (fun o k => by cases o; rfl) h en50 (fun args M ids h => by injection h with h; exact ⟨rfl, h.symm⟩)
end Go.Proofs.YtdennlgnbecojaaDoor

namespace Go.Proofs.YtdennlgnbecojaaDoor
open Go Go.Eng
set_option maxRecDepth 100000

/-! ### F51: ceiling/table.Root -/
inductive R51 where
  | r (x0 : Int) (b0 : List Row) (b1 : List Row) (b2 : List Row)
abbrev TF51 := List Row → List Row → Int → List Row → List Row → List Row → Option R51
def sgF51 : LSh := ⟨[(0, .agg [.own 0, .own 1, .own 2, .cell (.slice 113), .cell (.slice 117)]), (1, .one (.cell (.int .i64)))], [.row 58, .row 74, .row 45]⟩
def FFF51 (Fx : TF51) (s : St) : Option R51 := Fx (((Eng.look s.env 0).cells.getD 3 .top).rows) (((Eng.look s.env 0).cells.getD 4 .top).rows) ((Eng.look s.env 1).toI) ((s.mem.getD 0 .dead).rows) ((s.mem.getD 1 .dead).rows) ((s.mem.getD 2 .dead).rows)
def valF51 (o : R51) : AV := match o with | .r x0 b0 b1 b2 => .int .i64 x0
def memF51 (o : R51) : List Blk := match o with | .r x0 b0 b1 b2 => [.row 58 b0, .row 74 b1, .row 45 b2]
def elF51 {R : Type} (o : R51) (k : AV → List Blk → Option R) : Option R := match o with | .r x0 b0 b1 b2 => k (.int .i64 x0) [.row 58 b0, .row 74 b1, .row 45 b2]
def RecOkF51 (Fx : TF51) : Prop := ∀ lk M o, FFF51 Fx (canS sgF51 lk M) = some o → FCalls CX 51 3 (argsE 2 (canS sgF51 lk M).env) (canS sgF51 lk M).mem (valF51 o) (memF51 o)
noncomputable def csF51 (N : Nat) (R : Type) : List (CE R) := [ce50n0 (F50 N) R (fun _ _ => true)]
theorem hcsF51 (N : Nat) (R : Type) : AllE (CeOk CX) (csF51 N R) := ⟨okce50n0 (F50 N) (soundF50 N) R (fun _ _ => true), trivial⟩
inductive OL51a58 where
  | x0 (x1 : Int) (b0 : List Row) (b1 : List Row) (b2 : List Row) (b3c3 : List Row) (b3c4 : List Row)
def L51a58 (N : Nat) : Nat → Int → Int → List Row → List Row → List Row → List Row → List Row → Option OL51a58
  | 0 => fun _ _ _ _ _ _ _ => none
  | n + 1 => fun x1 x7 b0 b1 b2 b3c3 b3c4 =>
    match decide ((0 : Int) ≤ x7) with
    | true =>
      match decide (x7 < x1) with
      | true =>
        tst (decide ((0 : Int) ≤ x7) && decide (x7 < ((b0.length : Int)))) <|
        tst (decide (x7.toNat < b0.length)) <|
        L51a58 N n x7 ((((b0.getD x7.toNat [])).getD 2 .top).toI) b0 b1 b2 b3c3 b3c4
      | false =>
        some (.x0 x1 b0 b1 b2 b3c3 b3c4)
    | false =>
      some (.x0 x1 b0 b1 b2 b3c3 b3c4)
def LFL51a58 (N : Nat) (n : Nat) (s : St) : Option OL51a58 := L51a58 N n ((Eng.look s.env 1).toI) ((Eng.look s.env 7).toI) ((s.mem.getD 0 .dead).rows) ((s.mem.getD 1 .dead).rows) ((s.mem.getD 2 .dead).rows) (((s.mem.getD 3 .dead).cells.getD 3 .top).rows) (((s.mem.getD 3 .dead).cells.getD 4 .top).rows)
def sgL51a58 : LSh := ⟨[(1, .one (.cell (.int .i64))), (2, .one (.ptr 3 0 0)), (7, .one (.cell (.int .i64)))], [.row 58, .row 74, .row 45, .var [.any, .any, .any, .any, .any] [.own 0, .own 1, .own 2, .cell (.slice 113), .cell (.slice 117)]]⟩
def ceL51a58 : List Cv := []
def seL51a58 : St → List Nat := fun st => [0, 1, 2, (Eng.look st.env 2).id]
def xL51a58wx0 : XSh OL51a58 := ⟨[], ⟨[(1, .one (.cell (.int .i64)))], [.row 58, .row 74, .row 45, .var [.any, .any, .any, .any, .any] [.own 0, .own 1, .own 2, .cell (.slice 113), .cell (.slice 117)]]⟩, fun st => [0, 1, 2, 3], fun s => .x0 ((Eng.look s.env 1).toI) ((s.mem.getD 0 .dead).rows) ((s.mem.getD 1 .dead).rows) ((s.mem.getD 2 .dead).rows) (((s.mem.getD 3 .dead).cells.getD 3 .top).rows) (((s.mem.getD 3 .dead).cells.getD 4 .top).rows)⟩
def xsL51a58 : Ex → St → Option (XSh OL51a58) := fun e st => match e with
  | .exit 0 => some xL51a58wx0
  | _ => none
def exL51a58 (o : OL51a58) : Ex := match o with | .x0 x1 b0 b1 b2 b3c3 b3c4 => (.exit 0)
def stL51a58 (o : OL51a58) : St := match o with | .x0 x1 b0 b1 b2 b3c3 b3c4 => ⟨[(1, .int .i64 x1)], [.row 58 b0, .row 74 b1, .row 45 b2, .var [.any, .any, .any, .any, .any] [.own 0, .own 1, .own 2, .list 113 b3c3, .list 117 b3c4]], [], .unk⟩
def elL51a58 {R : Type} (o : OL51a58) (k : Ex → St → Option R) : Option R := match o with | .x0 x1 b0 b1 b2 b3c3 b3c4 => k (.exit 0) ⟨[(1, .int .i64 x1)], [.row 58 b0, .row 74 b1, .row 45 b2, .var [.any, .any, .any, .any, .any] [.own 0, .own 1, .own 2, .list 113 b3c3, .list 117 b3c4]], [], .unk⟩
theorem heL51a58 {R : Type} (o : OL51a58) (k : Ex → St → Option R) : elL51a58 o k = k (exL51a58 o) (stL51a58 o) := by cases o <;> rfl
theorem hxL51a58 : ∀ e st x, xsL51a58 e st = some x → outOk x e exL51a58 stL51a58 := by
  intro e st x h
  unfold xsL51a58 at h
  repeat' split at h
  all_goals first
    | (injection h with h; subst h; exact fun lk M => ⟨rfl, rfl⟩)
    | cases h
noncomputable def T51ul58 (N : Nat) (R : Type) : LTab R := mkTab ⟨38, 137430564994⟩ (csF51 N R) (noY) [] [] []
theorem okT51ul58 (N : Nat) (R : Type) : (T51ul58 N R).Ok CX code51 := mkTab_ok (hcsF51 N R) (noY_ok) (trivial) (trivial) (trivial)
noncomputable def bdL51a58 : Code := match codeAt code51 [false, true, false, true, true] with | some (.loop c) => c | _ => .skip
theorem hsL51a58 (N : Nat) : ∀ (n : Nat) (lk : Nat → AV) (M : List Blk), LFL51a58 N (n + 1) (canS sgL51a58 lk M) = evk CX (T51ul58 N OL51a58) bdL51a58 (2 * 58) (canS sgL51a58 lk M) (kont CX 4 [] sgL51a58 (fun st => [0, 1, 2, 3]) xsL51a58 (LFL51a58 N n)) := by intro n lk M; kernel_rfl
noncomputable def T51ur1 (N : Nat) (R : Type) : LTab R := mkTab ⟨38, 274877906943⟩ (csF51 N R) (noY) [(58, fun st k => callLoop CX 4 137430564994 ceL51a58 sgL51a58 seL51a58 ⟨38, 274877906943⟩ (LFL51a58 N N) elL51a58 st k)] [] []
theorem okT51ur1 (N : Nat) (R : Type) : (T51ur1 N R).Ok CX code51 := mkTab_ok (hcsF51 N R) (noY_ok) (⟨loop_ok hX (path := [false, true, false, true, true]) (by kernel_rfl) (by rfl) (okT51ul58 N OL51a58) (fun _ _ => rfl) (hsL51a58 N) hxL51a58 rfl heL51a58, trivial⟩) (trivial) (trivial)
def rsF51 : List ResultVar := [.tmp 4]
def F51 : Nat → TF51
  | 0 => fun _ _ _ _ _ _ => none
  | N + 1 => fun x0c3 x0c4 x1 b0 b1 b2 =>
    match F50 N x1 b0 with
    | none => none
    | some (.r rx0c0v1 rx0c1v1 rx0c2v1 rx0c3v1 rx0c4v1 rx0c5v1 rx0c6v1 rx0c7v1 rx0c8v1 rx0c9v1 rx0c10v1 rx0c11v1 rx0c12v1 rx0c13v1 rx0c14v1 rx0c15v1 rx0c16v1 rx0c17v1 rx1v1 rb0v1) =>
      match !rx1v1 with
      | true =>
        some (.r ((-1)) rb0v1 b1 b2)
      | false =>
        tst (decide ((0 : Int) ≤ x1) && decide (x1 < ((rb0v1.length : Int)))) <|
        tst (decide (x1.toNat < rb0v1.length)) <|
        match L51a58 N N x1 ((((rb0v1.getD x1.toNat [])).getD 2 .top).toI) rb0v1 b1 b2 x0c3 x0c4 with
        | none => none
        | some (.x0 x1v2 b0v2 b1v2 b2v2 b3c3v2 b3c4v2) =>
          some (.r x1v2 b0v2 b1v2 b2v2)
def xRF51 : XSh R51 := ⟨[], ⟨[(0, .one (.cell (.int .i64)))], [.row 58, .row 74, .row 45]⟩, fun st => [0, 1, 2], fun s => .r ((Eng.look s.env 0).toI) ((s.mem.getD 0 .dead).rows) ((s.mem.getD 1 .dead).rows) ((s.mem.getD 2 .dead).rows)⟩
theorem fsF51 : ∀ (N : Nat) (lk : Nat → AV) (M : List Blk), FFF51 (F51 (N + 1)) (canS sgF51 lk M) = evfn CX (T51ur1 N R51) code51 rsF51 (argsE 2 (canS sgF51 lk M).env) (canS sgF51 lk M).mem (goR CX 3 (fun _ => some xRF51)) := by intro N lk M; kernel_rfl
theorem soundF51 : ∀ N, RecOkF51 (F51 N)
  | 0, lk, M, o, h => by cases h
  | N + 1, lk, M, o, h => fn_sound hX (okT51ur1 N R51) Tryd.func51 hb51 rfl en51 (by kernel_rfl) (ys := fun _ => some xRF51) (fun st y h => by injection h with h; subst h; exact fun lk M => ⟨rfl, rfl⟩) ((fsF51 N lk M).symm.trans h)
def cvce51n0 : List Cv := []
def selce51n0 : St → List Nat := fun st => [((Eng.look st.env 0).cells.getD 0 .top).id, ((Eng.look st.env 0).cells.getD 1 .top).id, ((Eng.look st.env 0).cells.getD 2 .top).id]
noncomputable def ce51n0 (Fx : TF51) (R : Type) (test : List AV → List Blk → Bool) : CE R := ⟨51, test, fun args M => some (selce51n0 ⟨argEnv 0 args, M, [], .unk⟩), fun args M k => tst (Nat.beq args.length 2) (callFn CX 3 cvce51n0 sgF51 selce51n0 (FFF51 Fx) elF51 args M k)⟩
theorem okce51n0 (Fx : TF51) (h : RecOkF51 Fx) (R : Type) (test : List AV → List Blk → Bool) : CeOk CX (ce51n0 Fx R test) := ce_ok hX (fun o k => by cases o; rfl) h en51 (fun args M ids h => by injection h with h; exact ⟨rfl, h.symm⟩)
end Go.Proofs.YtdennlgnbecojaaDoor

namespace Go.Proofs.YtdennlgnbecojaaDoor
open Go Go.Eng
set_option maxRecDepth 100000

/-! ### F52: ceiling/table.Converts.1 -/
inductive R52 where
  | r (x0 : Bool)
abbrev TF52 := Int → Option R52
def sgF52 : LSh := ⟨[(0, .one (.cell (.int .u8)))], []⟩
def FFF52 (Fx : TF52) (s : St) : Option R52 := Fx ((Eng.look s.env 0).toI)
def valF52 (o : R52) : AV := match o with | .r x0 => .bool x0
def memF52 (o : R52) : List Blk := match o with | .r x0 => []
def elF52 {R : Type} (o : R52) (k : AV → List Blk → Option R) : Option R := match o with | .r x0 => k (.bool x0) []
def RecOkF52 (Fx : TF52) : Prop := ∀ lk M o, FFF52 Fx (canS sgF52 lk M) = some o → FCalls CX 52 0 (argsE 1 (canS sgF52 lk M).env) (canS sgF52 lk M).mem (valF52 o) (memF52 o)
noncomputable def csF52 (N : Nat) (R : Type) : List (CE R) := []
theorem hcsF52 (N : Nat) (R : Type) : AllE (CeOk CX) (csF52 N R) := trivial
noncomputable def T52ur1 (N : Nat) (R : Type) : LTab R := mkTab ⟨9, 511⟩ (csF52 N R) (noY) [] [] []
theorem okT52ur1 (N : Nat) (R : Type) : (T52ur1 N R).Ok CX code52 := mkTab_ok (hcsF52 N R) (noY_ok) (trivial) (trivial) (trivial)
def rsF52 : List ResultVar := [.tmp 2]
def F52 : Nat → TF52
  | 0 => fun _ => none
  | N + 1 => fun x0 =>
    match x0 == (1 : Int) with
    | true =>
      some (.r true)
    | false =>
      some (.r (x0 == (2 : Int)))
def xRF52 : XSh R52 := ⟨[], ⟨[(0, .one (.cell (.bool)))], []⟩, fun _ => [], fun s => .r ((Eng.look s.env 0).toB)⟩
theorem fsF52 : ∀ (N : Nat) (lk : Nat → AV) (M : List Blk), FFF52 (F52 (N + 1)) (canS sgF52 lk M) = evfn CX (T52ur1 N R52) code52 rsF52 (argsE 1 (canS sgF52 lk M).env) (canS sgF52 lk M).mem (goR CX 0 (fun _ => some xRF52)) := by intro N lk M; kernel_rfl
theorem soundF52 : ∀ N, RecOkF52 (F52 N)
  | 0, lk, M, o, h => by cases h
  | N + 1, lk, M, o, h => fn_sound hX (okT52ur1 N R52) Tryd.func52 hb52 rfl en52 (by kernel_rfl) (ys := fun _ => some xRF52) (fun st y h => by injection h with h; subst h; exact fun lk M => ⟨rfl, rfl⟩) ((fsF52 N lk M).symm.trans h)
def cvce52n0 : List Cv := []
def selce52n0 : St → List Nat := fun _ => []
noncomputable def ce52n0 (Fx : TF52) (R : Type) (test : List AV → List Blk → Bool) : CE R := ⟨52, test, fun args M => some (selce52n0 ⟨argEnv 0 args, M, [], .unk⟩), fun args M k => tst (Nat.beq args.length 1) (callFn CX 0 cvce52n0 sgF52 selce52n0 (FFF52 Fx) elF52 args M k)⟩
theorem okce52n0 (Fx : TF52) (h : RecOkF52 Fx) (R : Type) (test : List AV → List Blk → Bool) : CeOk CX (ce52n0 Fx R test) := ce_ok hX (fun o k => by cases o; rfl) h en52 (fun args M ids h => by injection h with h; exact ⟨rfl, h.symm⟩)
end Go.Proofs.YtdennlgnbecojaaDoor

namespace Go.Proofs.YtdennlgnbecojaaDoor
open Go Go.Eng
set_option maxRecDepth 100000

/-! ### F39: ceiling/table.Converts -/
inductive R39 where
  | r (x0 : Bool) (b0 : List Row) (b1 : List Row) (b2 : List Row)
abbrev TF39 := List Row → List Row → Int → Int → List Row → List Row → List Row → Option R39
def sgF39 : LSh := ⟨[(0, .agg [.own 0, .own 1, .own 2, .cell (.slice 113), .cell (.slice 117)]), (1, .one (.cell (.int .i64))), (2, .one (.cell (.int .i64)))], [.row 58, .row 74, .row 45]⟩
def FFF39 (Fx : TF39) (s : St) : Option R39 := Fx (((Eng.look s.env 0).cells.getD 3 .top).rows) (((Eng.look s.env 0).cells.getD 4 .top).rows) ((Eng.look s.env 1).toI) ((Eng.look s.env 2).toI) ((s.mem.getD 0 .dead).rows) ((s.mem.getD 1 .dead).rows) ((s.mem.getD 2 .dead).rows)
def valF39 (o : R39) : AV := match o with | .r x0 b0 b1 b2 => .bool x0
def memF39 (o : R39) : List Blk := match o with | .r x0 b0 b1 b2 => [.row 58 b0, .row 74 b1, .row 45 b2]
def elF39 {R : Type} (o : R39) (k : AV → List Blk → Option R) : Option R := match o with | .r x0 b0 b1 b2 => k (.bool x0) [.row 58 b0, .row 74 b1, .row 45 b2]
def RecOkF39 (Fx : TF39) : Prop := ∀ lk M o, FFF39 Fx (canS sgF39 lk M) = some o → FCalls CX 39 3 (argsE 3 (canS sgF39 lk M).env) (canS sgF39 lk M).mem (valF39 o) (memF39 o)
noncomputable def csF39 (N : Nat) (R : Type) : List (CE R) := [ce31n0 (F31 N) R (fun _ _ => true), ce50n0 (F50 N) R (fun _ _ => true), ce51n0 (F51 N) R (fun _ _ => true), ce52n0 (F52 N) R (fun _ _ => true)]
theorem hcsF39 (N : Nat) (R : Type) : AllE (CeOk CX) (csF39 N R) := ⟨okce31n0 (F31 N) (soundF31 N) R (fun _ _ => true), okce50n0 (F50 N) (soundF50 N) R (fun _ _ => true), okce51n0 (F51 N) (soundF51 N) R (fun _ _ => true), okce52n0 (F52 N) (soundF52 N) R (fun _ _ => true), trivial⟩
inductive OJ39a120 where
  | nx (x26 : Bool) (b0 : List Row) (b1 : List Row) (b2 : List Row)
def J39a120 (N : Nat) : Bool → Bool → List Row → List Row → List Row → Option OJ39a120 := fun x8 x10 b0 b1 b2 =>
    match !x8 with
    | true =>
      some (.nx true b0 b1 b2)
    | false =>
      some (.nx (!x10) b0 b1 b2)
def LFJ39a120 (N : Nat) (s : St) : Option OJ39a120 := J39a120 N ((Eng.look s.env 8).toB) ((Eng.look s.env 10).toB) ((s.mem.getD 0 .dead).rows) ((s.mem.getD 1 .dead).rows) ((s.mem.getD 2 .dead).rows)
def sgJ39a120 : LSh := ⟨[(8, .one (.cell (.bool))), (10, .one (.cell (.bool)))], [.row 58, .row 74, .row 45]⟩
def ceJ39a120 : List Cv := []
def seJ39a120 : St → List Nat := fun st => [0, 1, 2]
def xJ39a120wnx : XSh OJ39a120 := ⟨[], ⟨[(26, .one (.cell (.bool)))], [.row 58, .row 74, .row 45]⟩, fun st => [0, 1, 2], fun s => .nx ((Eng.look s.env 26).toB) ((s.mem.getD 0 .dead).rows) ((s.mem.getD 1 .dead).rows) ((s.mem.getD 2 .dead).rows)⟩
def xsJ39a120 : Ex → St → Option (XSh OJ39a120) := fun e st => match e with
  | .normal => some xJ39a120wnx
  | _ => none
def exJ39a120 (o : OJ39a120) : Ex := match o with | .nx x26 b0 b1 b2 => .normal
def stJ39a120 (o : OJ39a120) : St := match o with | .nx x26 b0 b1 b2 => ⟨[(26, .bool x26)], [.row 58 b0, .row 74 b1, .row 45 b2], [], .unk⟩
def elJ39a120 {R : Type} (o : OJ39a120) (k : Ex → St → Option R) : Option R := match o with | .nx x26 b0 b1 b2 => k .normal ⟨[(26, .bool x26)], [.row 58 b0, .row 74 b1, .row 45 b2], [], .unk⟩
theorem heJ39a120 {R : Type} (o : OJ39a120) (k : Ex → St → Option R) : elJ39a120 o k = k (exJ39a120 o) (stJ39a120 o) := by cases o <;> rfl
theorem hxJ39a120 : ∀ e st x, xsJ39a120 e st = some x → outOk x e exJ39a120 stJ39a120 := by
  intro e st x h
  unfold xsJ39a120 at h
  repeat' split at h
  all_goals first
    | (injection h with h; subst h; exact fun lk M => ⟨rfl, rfl⟩)
    | cases h
noncomputable def T39uc120 (N : Nat) (R : Type) : LTab R := mkTab ⟨78, 8522825728⟩ (csF39 N R) (noY) [] [] []
theorem okT39uc120 (N : Nat) (R : Type) : (T39uc120 N R).Ok CX code39 := mkTab_ok (hcsF39 N R) (noY_ok) (trivial) (trivial) (trivial)
noncomputable def bdJ39a120 : Code := (codeAt code39 [false, false, false, true, true, true]).getD .skip
theorem hsJ39a120 (N : Nat) : ∀ (lk : Nat → AV) (M : List Blk), LFJ39a120 N (canS sgJ39a120 lk M) = evk CX (T39uc120 N OJ39a120) bdJ39a120 120 (canS sgJ39a120 lk M) (kontX CX 3 xsJ39a120) := by intro lk M; kernel_rfl
inductive OJ39a30 where
  | nx (b0 : List Row) (b1 : List Row) (b2 : List Row) (b3c3 : List Row) (b3c4 : List Row) (b4c0 : Int) (b4c1 : ByteArray) (b4c2 : Int) (b4c3 : Int) (b4c4 : List Row) (b4c5 : Int) (b4c6 : Int) (b4c7 : Int) (b4c8 : ByteArray) (b4c9 : Bool) (b4c10 : Int) (b4c11 : List Row) (b4c12 : Int) (b4c13 : Int) (b4c14 : Bool) (b4c15 : Int) (b4c16 : Int) (b4c17 : Int) (b5c0 : Int) (b5c1 : ByteArray) (b5c2 : Int) (b5c3 : Int) (b5c4 : List Row) (b5c5 : Int) (b5c6 : Int) (b5c7 : Int) (b5c8 : ByteArray) (b5c9 : Bool) (b5c10 : Int) (b5c11 : List Row) (b5c12 : Int) (b5c13 : Int) (b5c14 : Bool) (b5c15 : Int) (b5c16 : Int) (b5c17 : Int)
  | ret (x6 : Bool) (b0 : List Row) (b1 : List Row) (b2 : List Row) (b3c3 : List Row) (b3c4 : List Row) (b4c0 : Int) (b4c1 : ByteArray) (b4c2 : Int) (b4c3 : Int) (b4c4 : List Row) (b4c5 : Int) (b4c6 : Int) (b4c7 : Int) (b4c8 : ByteArray) (b4c9 : Bool) (b4c10 : Int) (b4c11 : List Row) (b4c12 : Int) (b4c13 : Int) (b4c14 : Bool) (b4c15 : Int) (b4c16 : Int) (b4c17 : Int) (b5c0 : Int) (b5c1 : ByteArray) (b5c2 : Int) (b5c3 : Int) (b5c4 : List Row) (b5c5 : Int) (b5c6 : Int) (b5c7 : Int) (b5c8 : ByteArray) (b5c9 : Bool) (b5c10 : Int) (b5c11 : List Row) (b5c12 : Int) (b5c13 : Int) (b5c14 : Bool) (b5c15 : Int) (b5c16 : Int) (b5c17 : Int)
def J39a30 (N : Nat) : Int → Int → Bool → Bool → List Row → List Row → List Row → List Row → List Row → Int → ByteArray → Int → Int → List Row → Int → Int → Int → ByteArray → Bool → Int → List Row → Int → Int → Bool → Int → Int → Int → Int → ByteArray → Int → Int → List Row → Int → Int → Int → ByteArray → Bool → Int → List Row → Int → Int → Bool → Int → Int → Int → Option OJ39a30 := fun x1 x2 x8 x10 b0 b1 b2 b3c3 b3c4 b4c0 b4c1 b4c2 b4c3 b4c4 b4c5 b4c6 b4c7 b4c8 b4c9 b4c10 b4c11 b4c12 b4c13 b4c14 b4c15 b4c16 b4c17 b5c0 b5c1 b5c2 b5c3 b5c4 b5c5 b5c6 b5c7 b5c8 b5c9 b5c10 b5c11 b5c12 b5c13 b5c14 b5c15 b5c16 b5c17 =>
    match J39a120 N x8 x10 b0 b1 b2 with
    | none => none
    | some (.nx x26v3 b0v3 b1v3 b2v3) =>
      match x26v3 with
      | true =>
        some (.ret false b0v3 b1v3 b2v3 b3c3 b3c4 b4c0 b4c1 b4c2 b4c3 b4c4 b4c5 b4c6 b4c7 b4c8 b4c9 b4c10 b4c11 b4c12 b4c13 b4c14 b4c15 b4c16 b4c17 b5c0 b5c1 b5c2 b5c3 b5c4 b5c5 b5c6 b5c7 b5c8 b5c9 b5c10 b5c11 b5c12 b5c13 b5c14 b5c15 b5c16 b5c17)
      | false =>
        match x1 == x2 with
        | true =>
          some (.ret true b0v3 b1v3 b2v3 b3c3 b3c4 b4c0 b4c1 b4c2 b4c3 b4c4 b4c5 b4c6 b4c7 b4c8 b4c9 b4c10 b4c11 b4c12 b4c13 b4c14 b4c15 b4c16 b4c17 b5c0 b5c1 b5c2 b5c3 b5c4 b5c5 b5c6 b5c7 b5c8 b5c9 b5c10 b5c11 b5c12 b5c13 b5c14 b5c15 b5c16 b5c17)
        | false =>
          match b4c0 == (3 : Int) with
          | true =>
            match b5c0 == (3 : Int) with
            | true =>
              match F51 N b3c3 b3c4 x1 b0v3 b1v3 b2v3 with
              | none => none
              | some (.r rx0v4 rb0v4 rb1v4 rb2v4) =>
                match F51 N b3c3 b3c4 x2 rb0v4 rb1v4 rb2v4 with
                | none => none
                | some (.r rx0v5 rb0v5 rb1v5 rb2v5) =>
                  some (.ret (rx0v4 == rx0v5) rb0v5 rb1v5 rb2v5 b3c3 b3c4 b4c0 b4c1 b4c2 b4c3 b4c4 b4c5 b4c6 b4c7 b4c8 b4c9 b4c10 b4c11 b4c12 b4c13 b4c14 b4c15 b4c16 b4c17 b5c0 b5c1 b5c2 b5c3 b5c4 b5c5 b5c6 b5c7 b5c8 b5c9 b5c10 b5c11 b5c12 b5c13 b5c14 b5c15 b5c16 b5c17)
            | false =>
              match b4c0 == (6 : Int) with
              | true =>
                match b5c0 == (6 : Int) with
                | true =>
                  match F31 N b3c3 b3c4 b4c12 b5c12 b0v3 b1v3 b2v3 with
                  | none => none
                  | some (.r rx0v6 rb0v6 rb1v6 rb2v6) =>
                    some (.ret rx0v6 rb0v6 rb1v6 rb2v6 b3c3 b3c4 b4c0 b4c1 b4c2 b4c3 b4c4 b4c5 b4c6 b4c7 b4c8 b4c9 b4c10 b4c11 b4c12 b4c13 b4c14 b4c15 b4c16 b4c17 b5c0 b5c1 b5c2 b5c3 b5c4 b5c5 b5c6 b5c7 b5c8 b5c9 b5c10 b5c11 b5c12 b5c13 b5c14 b5c15 b5c16 b5c17)
                | false =>
                  some (.nx b0v3 b1v3 b2v3 b3c3 b3c4 b4c0 b4c1 b4c2 b4c3 b4c4 b4c5 b4c6 b4c7 b4c8 b4c9 b4c10 b4c11 b4c12 b4c13 b4c14 b4c15 b4c16 b4c17 b5c0 b5c1 b5c2 b5c3 b5c4 b5c5 b5c6 b5c7 b5c8 b5c9 b5c10 b5c11 b5c12 b5c13 b5c14 b5c15 b5c16 b5c17)
              | false =>
                some (.nx b0v3 b1v3 b2v3 b3c3 b3c4 b4c0 b4c1 b4c2 b4c3 b4c4 b4c5 b4c6 b4c7 b4c8 b4c9 b4c10 b4c11 b4c12 b4c13 b4c14 b4c15 b4c16 b4c17 b5c0 b5c1 b5c2 b5c3 b5c4 b5c5 b5c6 b5c7 b5c8 b5c9 b5c10 b5c11 b5c12 b5c13 b5c14 b5c15 b5c16 b5c17)
          | false =>
            match b4c0 == (6 : Int) with
            | true =>
              match b5c0 == (6 : Int) with
              | true =>
                match F31 N b3c3 b3c4 b4c12 b5c12 b0v3 b1v3 b2v3 with
                | none => none
                | some (.r rx0v7 rb0v7 rb1v7 rb2v7) =>
                  some (.ret rx0v7 rb0v7 rb1v7 rb2v7 b3c3 b3c4 b4c0 b4c1 b4c2 b4c3 b4c4 b4c5 b4c6 b4c7 b4c8 b4c9 b4c10 b4c11 b4c12 b4c13 b4c14 b4c15 b4c16 b4c17 b5c0 b5c1 b5c2 b5c3 b5c4 b5c5 b5c6 b5c7 b5c8 b5c9 b5c10 b5c11 b5c12 b5c13 b5c14 b5c15 b5c16 b5c17)
              | false =>
                some (.nx b0v3 b1v3 b2v3 b3c3 b3c4 b4c0 b4c1 b4c2 b4c3 b4c4 b4c5 b4c6 b4c7 b4c8 b4c9 b4c10 b4c11 b4c12 b4c13 b4c14 b4c15 b4c16 b4c17 b5c0 b5c1 b5c2 b5c3 b5c4 b5c5 b5c6 b5c7 b5c8 b5c9 b5c10 b5c11 b5c12 b5c13 b5c14 b5c15 b5c16 b5c17)
            | false =>
              some (.nx b0v3 b1v3 b2v3 b3c3 b3c4 b4c0 b4c1 b4c2 b4c3 b4c4 b4c5 b4c6 b4c7 b4c8 b4c9 b4c10 b4c11 b4c12 b4c13 b4c14 b4c15 b4c16 b4c17 b5c0 b5c1 b5c2 b5c3 b5c4 b5c5 b5c6 b5c7 b5c8 b5c9 b5c10 b5c11 b5c12 b5c13 b5c14 b5c15 b5c16 b5c17)
def LFJ39a30 (N : Nat) (s : St) : Option OJ39a30 := J39a30 N ((Eng.look s.env 1).toI) ((Eng.look s.env 2).toI) ((Eng.look s.env 8).toB) ((Eng.look s.env 10).toB) ((s.mem.getD 0 .dead).rows) ((s.mem.getD 1 .dead).rows) ((s.mem.getD 2 .dead).rows) (((s.mem.getD 3 .dead).cells.getD 3 .top).rows) (((s.mem.getD 3 .dead).cells.getD 4 .top).rows) (((s.mem.getD 4 .dead).cells.getD 0 .top).toI) (((s.mem.getD 4 .dead).cells.getD 1 .top).toS) (((s.mem.getD 4 .dead).cells.getD 2 .top).toI) (((s.mem.getD 4 .dead).cells.getD 3 .top).toI) (((s.mem.getD 4 .dead).cells.getD 4 .top).rows) (((s.mem.getD 4 .dead).cells.getD 5 .top).toI) (((s.mem.getD 4 .dead).cells.getD 6 .top).toI) (((s.mem.getD 4 .dead).cells.getD 7 .top).toI) (((s.mem.getD 4 .dead).cells.getD 8 .top).toS) (((s.mem.getD 4 .dead).cells.getD 9 .top).toB) (((s.mem.getD 4 .dead).cells.getD 10 .top).toI) (((s.mem.getD 4 .dead).cells.getD 11 .top).rows) (((s.mem.getD 4 .dead).cells.getD 12 .top).toI) (((s.mem.getD 4 .dead).cells.getD 13 .top).toI) (((s.mem.getD 4 .dead).cells.getD 14 .top).toB) (((s.mem.getD 4 .dead).cells.getD 15 .top).toI) (((s.mem.getD 4 .dead).cells.getD 16 .top).toI) (((s.mem.getD 4 .dead).cells.getD 17 .top).toI) (((s.mem.getD 5 .dead).cells.getD 0 .top).toI) (((s.mem.getD 5 .dead).cells.getD 1 .top).toS) (((s.mem.getD 5 .dead).cells.getD 2 .top).toI) (((s.mem.getD 5 .dead).cells.getD 3 .top).toI) (((s.mem.getD 5 .dead).cells.getD 4 .top).rows) (((s.mem.getD 5 .dead).cells.getD 5 .top).toI) (((s.mem.getD 5 .dead).cells.getD 6 .top).toI) (((s.mem.getD 5 .dead).cells.getD 7 .top).toI) (((s.mem.getD 5 .dead).cells.getD 8 .top).toS) (((s.mem.getD 5 .dead).cells.getD 9 .top).toB) (((s.mem.getD 5 .dead).cells.getD 10 .top).toI) (((s.mem.getD 5 .dead).cells.getD 11 .top).rows) (((s.mem.getD 5 .dead).cells.getD 12 .top).toI) (((s.mem.getD 5 .dead).cells.getD 13 .top).toI) (((s.mem.getD 5 .dead).cells.getD 14 .top).toB) (((s.mem.getD 5 .dead).cells.getD 15 .top).toI) (((s.mem.getD 5 .dead).cells.getD 16 .top).toI) (((s.mem.getD 5 .dead).cells.getD 17 .top).toI)
def sgJ39a30 : LSh := ⟨[(1, .one (.cell (.int .i64))), (2, .one (.cell (.int .i64))), (3, .one (.ptr 3 0 0)), (7, .one (.ptr 4 0 0)), (8, .one (.cell (.bool))), (9, .one (.ptr 5 0 0)), (10, .one (.cell (.bool)))], [.row 58, .row 74, .row 45, .var [.any, .any, .any, .any, .any] [.own 0, .own 1, .own 2, .cell (.slice 113), .cell (.slice 117)], .var [.int .u8, .str, .int .i64, .int .i64, .any, .int .i64, .int .i64, .int .i64, .str, .bool, .int .i64, .any, .int .i64, .int .u8, .bool, .int .i64, .int .i64, .int .i64] [.cell (.int .u8), .cell (.str), .cell (.int .i64), .cell (.int .i64), .cell (.slice 9), .cell (.int .i64), .cell (.int .i64), .cell (.int .i64), .cell (.str), .cell (.bool), .cell (.int .i64), .cell (.slice 120), .cell (.int .i64), .cell (.int .u8), .cell (.bool), .cell (.int .i64), .cell (.int .i64), .cell (.int .i64)], .var [.int .u8, .str, .int .i64, .int .i64, .any, .int .i64, .int .i64, .int .i64, .str, .bool, .int .i64, .any, .int .i64, .int .u8, .bool, .int .i64, .int .i64, .int .i64] [.cell (.int .u8), .cell (.str), .cell (.int .i64), .cell (.int .i64), .cell (.slice 9), .cell (.int .i64), .cell (.int .i64), .cell (.int .i64), .cell (.str), .cell (.bool), .cell (.int .i64), .cell (.slice 120), .cell (.int .i64), .cell (.int .u8), .cell (.bool), .cell (.int .i64), .cell (.int .i64), .cell (.int .i64)]]⟩
def ceJ39a30 : List Cv := []
def seJ39a30 : St → List Nat := fun st => [0, 1, 2, (Eng.look st.env 3).id, (Eng.look st.env 7).id, (Eng.look st.env 9).id]
def xJ39a30wnx : XSh OJ39a30 := ⟨[], ⟨[], [.row 58, .row 74, .row 45, .var [.any, .any, .any, .any, .any] [.own 0, .own 1, .own 2, .cell (.slice 113), .cell (.slice 117)], .var [.int .u8, .str, .int .i64, .int .i64, .any, .int .i64, .int .i64, .int .i64, .str, .bool, .int .i64, .any, .int .i64, .int .u8, .bool, .int .i64, .int .i64, .int .i64] [.cell (.int .u8), .cell (.str), .cell (.int .i64), .cell (.int .i64), .cell (.slice 9), .cell (.int .i64), .cell (.int .i64), .cell (.int .i64), .cell (.str), .cell (.bool), .cell (.int .i64), .cell (.slice 120), .cell (.int .i64), .cell (.int .u8), .cell (.bool), .cell (.int .i64), .cell (.int .i64), .cell (.int .i64)], .var [.int .u8, .str, .int .i64, .int .i64, .any, .int .i64, .int .i64, .int .i64, .str, .bool, .int .i64, .any, .int .i64, .int .u8, .bool, .int .i64, .int .i64, .int .i64] [.cell (.int .u8), .cell (.str), .cell (.int .i64), .cell (.int .i64), .cell (.slice 9), .cell (.int .i64), .cell (.int .i64), .cell (.int .i64), .cell (.str), .cell (.bool), .cell (.int .i64), .cell (.slice 120), .cell (.int .i64), .cell (.int .u8), .cell (.bool), .cell (.int .i64), .cell (.int .i64), .cell (.int .i64)]]⟩, fun st => [0, 1, 2, 3, 4, 5], fun s => .nx ((s.mem.getD 0 .dead).rows) ((s.mem.getD 1 .dead).rows) ((s.mem.getD 2 .dead).rows) (((s.mem.getD 3 .dead).cells.getD 3 .top).rows) (((s.mem.getD 3 .dead).cells.getD 4 .top).rows) (((s.mem.getD 4 .dead).cells.getD 0 .top).toI) (((s.mem.getD 4 .dead).cells.getD 1 .top).toS) (((s.mem.getD 4 .dead).cells.getD 2 .top).toI) (((s.mem.getD 4 .dead).cells.getD 3 .top).toI) (((s.mem.getD 4 .dead).cells.getD 4 .top).rows) (((s.mem.getD 4 .dead).cells.getD 5 .top).toI) (((s.mem.getD 4 .dead).cells.getD 6 .top).toI) (((s.mem.getD 4 .dead).cells.getD 7 .top).toI) (((s.mem.getD 4 .dead).cells.getD 8 .top).toS) (((s.mem.getD 4 .dead).cells.getD 9 .top).toB) (((s.mem.getD 4 .dead).cells.getD 10 .top).toI) (((s.mem.getD 4 .dead).cells.getD 11 .top).rows) (((s.mem.getD 4 .dead).cells.getD 12 .top).toI) (((s.mem.getD 4 .dead).cells.getD 13 .top).toI) (((s.mem.getD 4 .dead).cells.getD 14 .top).toB) (((s.mem.getD 4 .dead).cells.getD 15 .top).toI) (((s.mem.getD 4 .dead).cells.getD 16 .top).toI) (((s.mem.getD 4 .dead).cells.getD 17 .top).toI) (((s.mem.getD 5 .dead).cells.getD 0 .top).toI) (((s.mem.getD 5 .dead).cells.getD 1 .top).toS) (((s.mem.getD 5 .dead).cells.getD 2 .top).toI) (((s.mem.getD 5 .dead).cells.getD 3 .top).toI) (((s.mem.getD 5 .dead).cells.getD 4 .top).rows) (((s.mem.getD 5 .dead).cells.getD 5 .top).toI) (((s.mem.getD 5 .dead).cells.getD 6 .top).toI) (((s.mem.getD 5 .dead).cells.getD 7 .top).toI) (((s.mem.getD 5 .dead).cells.getD 8 .top).toS) (((s.mem.getD 5 .dead).cells.getD 9 .top).toB) (((s.mem.getD 5 .dead).cells.getD 10 .top).toI) (((s.mem.getD 5 .dead).cells.getD 11 .top).rows) (((s.mem.getD 5 .dead).cells.getD 12 .top).toI) (((s.mem.getD 5 .dead).cells.getD 13 .top).toI) (((s.mem.getD 5 .dead).cells.getD 14 .top).toB) (((s.mem.getD 5 .dead).cells.getD 15 .top).toI) (((s.mem.getD 5 .dead).cells.getD 16 .top).toI) (((s.mem.getD 5 .dead).cells.getD 17 .top).toI)⟩
def xJ39a30wret : XSh OJ39a30 := ⟨[], ⟨[(6, .one (.cell (.bool)))], [.row 58, .row 74, .row 45, .var [.any, .any, .any, .any, .any] [.own 0, .own 1, .own 2, .cell (.slice 113), .cell (.slice 117)], .var [.int .u8, .str, .int .i64, .int .i64, .any, .int .i64, .int .i64, .int .i64, .str, .bool, .int .i64, .any, .int .i64, .int .u8, .bool, .int .i64, .int .i64, .int .i64] [.cell (.int .u8), .cell (.str), .cell (.int .i64), .cell (.int .i64), .cell (.slice 9), .cell (.int .i64), .cell (.int .i64), .cell (.int .i64), .cell (.str), .cell (.bool), .cell (.int .i64), .cell (.slice 120), .cell (.int .i64), .cell (.int .u8), .cell (.bool), .cell (.int .i64), .cell (.int .i64), .cell (.int .i64)], .var [.int .u8, .str, .int .i64, .int .i64, .any, .int .i64, .int .i64, .int .i64, .str, .bool, .int .i64, .any, .int .i64, .int .u8, .bool, .int .i64, .int .i64, .int .i64] [.cell (.int .u8), .cell (.str), .cell (.int .i64), .cell (.int .i64), .cell (.slice 9), .cell (.int .i64), .cell (.int .i64), .cell (.int .i64), .cell (.str), .cell (.bool), .cell (.int .i64), .cell (.slice 120), .cell (.int .i64), .cell (.int .u8), .cell (.bool), .cell (.int .i64), .cell (.int .i64), .cell (.int .i64)]]⟩, fun st => [0, 1, 2, 3, 4, 5], fun s => .ret ((Eng.look s.env 6).toB) ((s.mem.getD 0 .dead).rows) ((s.mem.getD 1 .dead).rows) ((s.mem.getD 2 .dead).rows) (((s.mem.getD 3 .dead).cells.getD 3 .top).rows) (((s.mem.getD 3 .dead).cells.getD 4 .top).rows) (((s.mem.getD 4 .dead).cells.getD 0 .top).toI) (((s.mem.getD 4 .dead).cells.getD 1 .top).toS) (((s.mem.getD 4 .dead).cells.getD 2 .top).toI) (((s.mem.getD 4 .dead).cells.getD 3 .top).toI) (((s.mem.getD 4 .dead).cells.getD 4 .top).rows) (((s.mem.getD 4 .dead).cells.getD 5 .top).toI) (((s.mem.getD 4 .dead).cells.getD 6 .top).toI) (((s.mem.getD 4 .dead).cells.getD 7 .top).toI) (((s.mem.getD 4 .dead).cells.getD 8 .top).toS) (((s.mem.getD 4 .dead).cells.getD 9 .top).toB) (((s.mem.getD 4 .dead).cells.getD 10 .top).toI) (((s.mem.getD 4 .dead).cells.getD 11 .top).rows) (((s.mem.getD 4 .dead).cells.getD 12 .top).toI) (((s.mem.getD 4 .dead).cells.getD 13 .top).toI) (((s.mem.getD 4 .dead).cells.getD 14 .top).toB) (((s.mem.getD 4 .dead).cells.getD 15 .top).toI) (((s.mem.getD 4 .dead).cells.getD 16 .top).toI) (((s.mem.getD 4 .dead).cells.getD 17 .top).toI) (((s.mem.getD 5 .dead).cells.getD 0 .top).toI) (((s.mem.getD 5 .dead).cells.getD 1 .top).toS) (((s.mem.getD 5 .dead).cells.getD 2 .top).toI) (((s.mem.getD 5 .dead).cells.getD 3 .top).toI) (((s.mem.getD 5 .dead).cells.getD 4 .top).rows) (((s.mem.getD 5 .dead).cells.getD 5 .top).toI) (((s.mem.getD 5 .dead).cells.getD 6 .top).toI) (((s.mem.getD 5 .dead).cells.getD 7 .top).toI) (((s.mem.getD 5 .dead).cells.getD 8 .top).toS) (((s.mem.getD 5 .dead).cells.getD 9 .top).toB) (((s.mem.getD 5 .dead).cells.getD 10 .top).toI) (((s.mem.getD 5 .dead).cells.getD 11 .top).rows) (((s.mem.getD 5 .dead).cells.getD 12 .top).toI) (((s.mem.getD 5 .dead).cells.getD 13 .top).toI) (((s.mem.getD 5 .dead).cells.getD 14 .top).toB) (((s.mem.getD 5 .dead).cells.getD 15 .top).toI) (((s.mem.getD 5 .dead).cells.getD 16 .top).toI) (((s.mem.getD 5 .dead).cells.getD 17 .top).toI)⟩
def xsJ39a30 : Ex → St → Option (XSh OJ39a30) := fun e st => match e with
  | .normal => some xJ39a30wnx
  | .ret => some xJ39a30wret
  | _ => none
def exJ39a30 (o : OJ39a30) : Ex := match o with | .nx b0 b1 b2 b3c3 b3c4 b4c0 b4c1 b4c2 b4c3 b4c4 b4c5 b4c6 b4c7 b4c8 b4c9 b4c10 b4c11 b4c12 b4c13 b4c14 b4c15 b4c16 b4c17 b5c0 b5c1 b5c2 b5c3 b5c4 b5c5 b5c6 b5c7 b5c8 b5c9 b5c10 b5c11 b5c12 b5c13 b5c14 b5c15 b5c16 b5c17 => .normal | .ret x6 b0 b1 b2 b3c3 b3c4 b4c0 b4c1 b4c2 b4c3 b4c4 b4c5 b4c6 b4c7 b4c8 b4c9 b4c10 b4c11 b4c12 b4c13 b4c14 b4c15 b4c16 b4c17 b5c0 b5c1 b5c2 b5c3 b5c4 b5c5 b5c6 b5c7 b5c8 b5c9 b5c10 b5c11 b5c12 b5c13 b5c14 b5c15 b5c16 b5c17 => .ret
def stJ39a30 (o : OJ39a30) : St := match o with | .nx b0 b1 b2 b3c3 b3c4 b4c0 b4c1 b4c2 b4c3 b4c4 b4c5 b4c6 b4c7 b4c8 b4c9 b4c10 b4c11 b4c12 b4c13 b4c14 b4c15 b4c16 b4c17 b5c0 b5c1 b5c2 b5c3 b5c4 b5c5 b5c6 b5c7 b5c8 b5c9 b5c10 b5c11 b5c12 b5c13 b5c14 b5c15 b5c16 b5c17 => ⟨[], [.row 58 b0, .row 74 b1, .row 45 b2, .var [.any, .any, .any, .any, .any] [.own 0, .own 1, .own 2, .list 113 b3c3, .list 117 b3c4], .var [.int .u8, .str, .int .i64, .int .i64, .any, .int .i64, .int .i64, .int .i64, .str, .bool, .int .i64, .any, .int .i64, .int .u8, .bool, .int .i64, .int .i64, .int .i64] [.int .u8 b4c0, .str b4c1, .int .i64 b4c2, .int .i64 b4c3, .list 9 b4c4, .int .i64 b4c5, .int .i64 b4c6, .int .i64 b4c7, .str b4c8, .bool b4c9, .int .i64 b4c10, .list 120 b4c11, .int .i64 b4c12, .int .u8 b4c13, .bool b4c14, .int .i64 b4c15, .int .i64 b4c16, .int .i64 b4c17], .var [.int .u8, .str, .int .i64, .int .i64, .any, .int .i64, .int .i64, .int .i64, .str, .bool, .int .i64, .any, .int .i64, .int .u8, .bool, .int .i64, .int .i64, .int .i64] [.int .u8 b5c0, .str b5c1, .int .i64 b5c2, .int .i64 b5c3, .list 9 b5c4, .int .i64 b5c5, .int .i64 b5c6, .int .i64 b5c7, .str b5c8, .bool b5c9, .int .i64 b5c10, .list 120 b5c11, .int .i64 b5c12, .int .u8 b5c13, .bool b5c14, .int .i64 b5c15, .int .i64 b5c16, .int .i64 b5c17]], [], .unk⟩ | .ret x6 b0 b1 b2 b3c3 b3c4 b4c0 b4c1 b4c2 b4c3 b4c4 b4c5 b4c6 b4c7 b4c8 b4c9 b4c10 b4c11 b4c12 b4c13 b4c14 b4c15 b4c16 b4c17 b5c0 b5c1 b5c2 b5c3 b5c4 b5c5 b5c6 b5c7 b5c8 b5c9 b5c10 b5c11 b5c12 b5c13 b5c14 b5c15 b5c16 b5c17 => ⟨[(6, .bool x6)], [.row 58 b0, .row 74 b1, .row 45 b2, .var [.any, .any, .any, .any, .any] [.own 0, .own 1, .own 2, .list 113 b3c3, .list 117 b3c4], .var [.int .u8, .str, .int .i64, .int .i64, .any, .int .i64, .int .i64, .int .i64, .str, .bool, .int .i64, .any, .int .i64, .int .u8, .bool, .int .i64, .int .i64, .int .i64] [.int .u8 b4c0, .str b4c1, .int .i64 b4c2, .int .i64 b4c3, .list 9 b4c4, .int .i64 b4c5, .int .i64 b4c6, .int .i64 b4c7, .str b4c8, .bool b4c9, .int .i64 b4c10, .list 120 b4c11, .int .i64 b4c12, .int .u8 b4c13, .bool b4c14, .int .i64 b4c15, .int .i64 b4c16, .int .i64 b4c17], .var [.int .u8, .str, .int .i64, .int .i64, .any, .int .i64, .int .i64, .int .i64, .str, .bool, .int .i64, .any, .int .i64, .int .u8, .bool, .int .i64, .int .i64, .int .i64] [.int .u8 b5c0, .str b5c1, .int .i64 b5c2, .int .i64 b5c3, .list 9 b5c4, .int .i64 b5c5, .int .i64 b5c6, .int .i64 b5c7, .str b5c8, .bool b5c9, .int .i64 b5c10, .list 120 b5c11, .int .i64 b5c12, .int .u8 b5c13, .bool b5c14, .int .i64 b5c15, .int .i64 b5c16, .int .i64 b5c17]], [], .unk⟩
def elJ39a30 {R : Type} (o : OJ39a30) (k : Ex → St → Option R) : Option R := match o with | .nx b0 b1 b2 b3c3 b3c4 b4c0 b4c1 b4c2 b4c3 b4c4 b4c5 b4c6 b4c7 b4c8 b4c9 b4c10 b4c11 b4c12 b4c13 b4c14 b4c15 b4c16 b4c17 b5c0 b5c1 b5c2 b5c3 b5c4 b5c5 b5c6 b5c7 b5c8 b5c9 b5c10 b5c11 b5c12 b5c13 b5c14 b5c15 b5c16 b5c17 => k .normal ⟨[], [.row 58 b0, .row 74 b1, .row 45 b2, .var [.any, .any, .any, .any, .any] [.own 0, .own 1, .own 2, .list 113 b3c3, .list 117 b3c4], .var [.int .u8, .str, .int .i64, .int .i64, .any, .int .i64, .int .i64, .int .i64, .str, .bool, .int .i64, .any, .int .i64, .int .u8, .bool, .int .i64, .int .i64, .int .i64] [.int .u8 b4c0, .str b4c1, .int .i64 b4c2, .int .i64 b4c3, .list 9 b4c4, .int .i64 b4c5, .int .i64 b4c6, .int .i64 b4c7, .str b4c8, .bool b4c9, .int .i64 b4c10, .list 120 b4c11, .int .i64 b4c12, .int .u8 b4c13, .bool b4c14, .int .i64 b4c15, .int .i64 b4c16, .int .i64 b4c17], .var [.int .u8, .str, .int .i64, .int .i64, .any, .int .i64, .int .i64, .int .i64, .str, .bool, .int .i64, .any, .int .i64, .int .u8, .bool, .int .i64, .int .i64, .int .i64] [.int .u8 b5c0, .str b5c1, .int .i64 b5c2, .int .i64 b5c3, .list 9 b5c4, .int .i64 b5c5, .int .i64 b5c6, .int .i64 b5c7, .str b5c8, .bool b5c9, .int .i64 b5c10, .list 120 b5c11, .int .i64 b5c12, .int .u8 b5c13, .bool b5c14, .int .i64 b5c15, .int .i64 b5c16, .int .i64 b5c17]], [], .unk⟩ | .ret x6 b0 b1 b2 b3c3 b3c4 b4c0 b4c1 b4c2 b4c3 b4c4 b4c5 b4c6 b4c7 b4c8 b4c9 b4c10 b4c11 b4c12 b4c13 b4c14 b4c15 b4c16 b4c17 b5c0 b5c1 b5c2 b5c3 b5c4 b5c5 b5c6 b5c7 b5c8 b5c9 b5c10 b5c11 b5c12 b5c13 b5c14 b5c15 b5c16 b5c17 => k .ret ⟨[(6, .bool x6)], [.row 58 b0, .row 74 b1, .row 45 b2, .var [.any, .any, .any, .any, .any] [.own 0, .own 1, .own 2, .list 113 b3c3, .list 117 b3c4], .var [.int .u8, .str, .int .i64, .int .i64, .any, .int .i64, .int .i64, .int .i64, .str, .bool, .int .i64, .any, .int .i64, .int .u8, .bool, .int .i64, .int .i64, .int .i64] [.int .u8 b4c0, .str b4c1, .int .i64 b4c2, .int .i64 b4c3, .list 9 b4c4, .int .i64 b4c5, .int .i64 b4c6, .int .i64 b4c7, .str b4c8, .bool b4c9, .int .i64 b4c10, .list 120 b4c11, .int .i64 b4c12, .int .u8 b4c13, .bool b4c14, .int .i64 b4c15, .int .i64 b4c16, .int .i64 b4c17], .var [.int .u8, .str, .int .i64, .int .i64, .any, .int .i64, .int .i64, .int .i64, .str, .bool, .int .i64, .any, .int .i64, .int .u8, .bool, .int .i64, .int .i64, .int .i64] [.int .u8 b5c0, .str b5c1, .int .i64 b5c2, .int .i64 b5c3, .list 9 b5c4, .int .i64 b5c5, .int .i64 b5c6, .int .i64 b5c7, .str b5c8, .bool b5c9, .int .i64 b5c10, .list 120 b5c11, .int .i64 b5c12, .int .u8 b5c13, .bool b5c14, .int .i64 b5c15, .int .i64 b5c16, .int .i64 b5c17]], [], .unk⟩
theorem heJ39a30 {R : Type} (o : OJ39a30) (k : Ex → St → Option R) : elJ39a30 o k = k (exJ39a30 o) (stJ39a30 o) := by cases o <;> rfl
theorem hxJ39a30 : ∀ e st x, xsJ39a30 e st = some x → outOk x e exJ39a30 stJ39a30 := by
  intro e st x h
  unfold xsJ39a30 at h
  repeat' split at h
  all_goals first
    | (injection h with h; subst h; exact fun lk M => ⟨rfl, rfl⟩)
    | cases h
noncomputable def T39uc30 (N : Nat) (R : Type) : LTab R := mkTab ⟨78, 295147905179285717056⟩ (csF39 N R) (noY) [] [] [(120, fun st k => callLoop CX 3 8522825728 ceJ39a120 sgJ39a120 seJ39a120 ⟨78, 295147905179285717056⟩ (LFJ39a120 N) elJ39a120 st k)]
theorem okT39uc30 (N : Nat) (R : Type) : (T39uc30 N R).Ok CX code39 := mkTab_ok (hcsF39 N R) (noY_ok) (trivial) (trivial) (⟨cut_ok hX (path := [false, false, false, true, true, true]) (by kernel_rfl) (by rfl) (okT39uc120 N OJ39a120) (hsJ39a120 N) hxJ39a120 rfl heJ39a120, trivial⟩)
noncomputable def bdJ39a30 : Code := (codeAt code39 [false, true, true, true]).getD .skip
theorem hsJ39a30 (N : Nat) : ∀ (lk : Nat → AV) (M : List Blk), LFJ39a30 N (canS sgJ39a30 lk M) = evk CX (T39uc30 N OJ39a30) bdJ39a30 30 (canS sgJ39a30 lk M) (kontX CX 6 xsJ39a30) := by intro lk M; kernel_rfl
noncomputable def T39ur1 (N : Nat) (R : Type) : LTab R := mkTab ⟨78, 302231454903657293676543⟩ (csF39 N R) (noY) [] [] [(30, fun st k => callLoop CX 6 295147905179285717056 ceJ39a30 sgJ39a30 seJ39a30 ⟨78, 302231454903657293676543⟩ (LFJ39a30 N) elJ39a30 st k)]
theorem okT39ur1 (N : Nat) (R : Type) : (T39ur1 N R).Ok CX code39 := mkTab_ok (hcsF39 N R) (noY_ok) (trivial) (trivial) (⟨cut_ok hX (path := [false, true, true, true]) (by kernel_rfl) (by rfl) (okT39uc30 N OJ39a30) (hsJ39a30 N) hxJ39a30 rfl heJ39a30, trivial⟩)
def rsF39 : List ResultVar := [.tmp 6]
def F39 : Nat → TF39
  | 0 => fun _ _ _ _ _ _ _ => none
  | N + 1 => fun x0c3 x0c4 x1 x2 b0 b1 b2 =>
    match F50 N x1 b0 with
    | none => none
    | some (.r rx0c0v1 rx0c1v1 rx0c2v1 rx0c3v1 rx0c4v1 rx0c5v1 rx0c6v1 rx0c7v1 rx0c8v1 rx0c9v1 rx0c10v1 rx0c11v1 rx0c12v1 rx0c13v1 rx0c14v1 rx0c15v1 rx0c16v1 rx0c17v1 rx1v1 rb0v1) =>
      match F50 N x2 rb0v1 with
      | none => none
      | some (.r rx0c0v2 rx0c1v2 rx0c2v2 rx0c3v2 rx0c4v2 rx0c5v2 rx0c6v2 rx0c7v2 rx0c8v2 rx0c9v2 rx0c10v2 rx0c11v2 rx0c12v2 rx0c13v2 rx0c14v2 rx0c15v2 rx0c16v2 rx0c17v2 rx1v2 rb0v2) =>
        match J39a30 N x1 x2 rx1v1 rx1v2 rb0v2 b1 b2 x0c3 x0c4 rx0c0v1 rx0c1v1 rx0c2v1 rx0c3v1 rx0c4v1 rx0c5v1 rx0c6v1 rx0c7v1 rx0c8v1 rx0c9v1 rx0c10v1 rx0c11v1 rx0c12v1 rx0c13v1 rx0c14v1 rx0c15v1 rx0c16v1 rx0c17v1 rx0c0v2 rx0c1v2 rx0c2v2 rx0c3v2 rx0c4v2 rx0c5v2 rx0c6v2 rx0c7v2 rx0c8v2 rx0c9v2 rx0c10v2 rx0c11v2 rx0c12v2 rx0c13v2 rx0c14v2 rx0c15v2 rx0c16v2 rx0c17v2 with
        | none => none
        | some (.nx b0v8 b1v8 b2v8 b3c3v8 b3c4v8 b4c0v8 b4c1v8 b4c2v8 b4c3v8 b4c4v8 b4c5v8 b4c6v8 b4c7v8 b4c8v8 b4c9v8 b4c10v8 b4c11v8 b4c12v8 b4c13v8 b4c14v8 b4c15v8 b4c16v8 b4c17v8 b5c0v8 b5c1v8 b5c2v8 b5c3v8 b5c4v8 b5c5v8 b5c6v8 b5c7v8 b5c8v8 b5c9v8 b5c10v8 b5c11v8 b5c12v8 b5c13v8 b5c14v8 b5c15v8 b5c16v8 b5c17v8) =>
          match F52 N b4c0v8 with
          | none => none
          | some (.r rx0v9) =>
            match rx0v9 with
            | true =>
              match F52 N b5c0v8 with
              | none => none
              | some (.r rx0v10) =>
                some (.r rx0v10 b0v8 b1v8 b2v8)
            | false =>
              some (.r false b0v8 b1v8 b2v8)
        | some (.ret x6v11 b0v11 b1v11 b2v11 b3c3v11 b3c4v11 b4c0v11 b4c1v11 b4c2v11 b4c3v11 b4c4v11 b4c5v11 b4c6v11 b4c7v11 b4c8v11 b4c9v11 b4c10v11 b4c11v11 b4c12v11 b4c13v11 b4c14v11 b4c15v11 b4c16v11 b4c17v11 b5c0v11 b5c1v11 b5c2v11 b5c3v11 b5c4v11 b5c5v11 b5c6v11 b5c7v11 b5c8v11 b5c9v11 b5c10v11 b5c11v11 b5c12v11 b5c13v11 b5c14v11 b5c15v11 b5c16v11 b5c17v11) =>
          some (.r x6v11 b0v11 b1v11 b2v11)
def xRF39 : XSh R39 := ⟨[], ⟨[(0, .one (.cell (.bool)))], [.row 58, .row 74, .row 45]⟩, fun st => [0, 1, 2], fun s => .r ((Eng.look s.env 0).toB) ((s.mem.getD 0 .dead).rows) ((s.mem.getD 1 .dead).rows) ((s.mem.getD 2 .dead).rows)⟩
theorem fsF39 : ∀ (N : Nat) (lk : Nat → AV) (M : List Blk), FFF39 (F39 (N + 1)) (canS sgF39 lk M) = evfn CX (T39ur1 N R39) code39 rsF39 (argsE 3 (canS sgF39 lk M).env) (canS sgF39 lk M).mem (goR CX 3 (fun _ => some xRF39)) := by intro N lk M; kernel_rfl
theorem soundF39 : ∀ N, RecOkF39 (F39 N)
  | 0, lk, M, o, h => by cases h
  | N + 1, lk, M, o, h => fn_sound hX (okT39ur1 N R39) Tryd.func39 hb39 rfl en39 (by kernel_rfl) (ys := fun _ => some xRF39) (fun st y h => by injection h with h; subst h; exact fun lk M => ⟨rfl, rfl⟩) ((fsF39 N lk M).symm.trans h)
def cvce39n0 : List Cv := []
def selce39n0 : St → List Nat := fun st => [((Eng.look st.env 0).cells.getD 0 .top).id, ((Eng.look st.env 0).cells.getD 1 .top).id, ((Eng.look st.env 0).cells.getD 2 .top).id]
noncomputable def ce39n0 (Fx : TF39) (R : Type) (test : List AV → List Blk → Bool) : CE R := ⟨39, test, fun args M => some (selce39n0 ⟨argEnv 0 args, M, [], .unk⟩), fun args M k => tst (Nat.beq args.length 3) (callFn CX 3 cvce39n0 sgF39 selce39n0 (FFF39 Fx) elF39 args M k)⟩
theorem okce39n0 (Fx : TF39) (h : RecOkF39 Fx) (R : Type) (test : List AV → List Blk → Bool) : CeOk CX (ce39n0 Fx R test) := ce_ok hX (fun o k => by cases o; rfl) h en39 (fun args M ids h => by injection h with h; exact ⟨rfl, h.symm⟩)
end Go.Proofs.YtdennlgnbecojaaDoor

namespace Go.Proofs.YtdennlgnbecojaaDoor
open Go Go.Eng
set_option maxRecDepth 100000

/-! ### F38: ceiling/level.Convert.2 -/
inductive R38 where
  | r (x0 : Bool) (b0c3 : List Row) (b0c4 : List Row) (b1c0 : Int) (b2c0 : Int) (b3 : List Row) (b4 : List Row) (b5 : List Row)
abbrev TF38 := List Row → List Row → Int → Int → List Row → List Row → List Row → Option R38
def sgF38 : LSh := ⟨[(0, .one (.ptr 0 0 0)), (1, .one (.ptr 1 0 0)), (2, .one (.ptr 2 0 0))], [.var [.any, .any, .any, .any, .any] [.own 3, .own 4, .own 5, .cell (.slice 113), .cell (.slice 117)], .var [.int .i64] [.cell (.int .i64)], .var [.int .i64] [.cell (.int .i64)], .row 58, .row 74, .row 45]⟩
def FFF38 (Fx : TF38) (s : St) : Option R38 := Fx (((s.mem.getD 0 .dead).cells.getD 3 .top).rows) (((s.mem.getD 0 .dead).cells.getD 4 .top).rows) (((s.mem.getD 1 .dead).cells.getD 0 .top).toI) (((s.mem.getD 2 .dead).cells.getD 0 .top).toI) ((s.mem.getD 3 .dead).rows) ((s.mem.getD 4 .dead).rows) ((s.mem.getD 5 .dead).rows)
def valF38 (o : R38) : AV := match o with | .r x0 b0c3 b0c4 b1c0 b2c0 b3 b4 b5 => .bool x0
def memF38 (o : R38) : List Blk := match o with | .r x0 b0c3 b0c4 b1c0 b2c0 b3 b4 b5 => [.var [.any, .any, .any, .any, .any] [.own 3, .own 4, .own 5, .list 113 b0c3, .list 117 b0c4], .var [.int .i64] [.int .i64 b1c0], .var [.int .i64] [.int .i64 b2c0], .row 58 b3, .row 74 b4, .row 45 b5]
def elF38 {R : Type} (o : R38) (k : AV → List Blk → Option R) : Option R := match o with | .r x0 b0c3 b0c4 b1c0 b2c0 b3 b4 b5 => k (.bool x0) [.var [.any, .any, .any, .any, .any] [.own 3, .own 4, .own 5, .list 113 b0c3, .list 117 b0c4], .var [.int .i64] [.int .i64 b1c0], .var [.int .i64] [.int .i64 b2c0], .row 58 b3, .row 74 b4, .row 45 b5]
def RecOkF38 (Fx : TF38) : Prop := ∀ lk M o, FFF38 Fx (canS sgF38 lk M) = some o → FCalls CX 38 6 (argsE 3 (canS sgF38 lk M).env) (canS sgF38 lk M).mem (valF38 o) (memF38 o)
noncomputable def csF38 (N : Nat) (R : Type) : List (CE R) := [ce39n0 (F39 N) R (fun _ _ => true)]
theorem hcsF38 (N : Nat) (R : Type) : AllE (CeOk CX) (csF38 N R) := ⟨okce39n0 (F39 N) (soundF39 N) R (fun _ _ => true), trivial⟩
noncomputable def T38ur1 (N : Nat) (R : Type) : LTab R := mkTab ⟨26, 67108863⟩ (csF38 N R) (noY) [] [] []
theorem okT38ur1 (N : Nat) (R : Type) : (T38ur1 N R).Ok CX code38 := mkTab_ok (hcsF38 N R) (noY_ok) (trivial) (trivial) (trivial)
def rsF38 : List ResultVar := [.tmp 3]
def F38 : Nat → TF38
  | 0 => fun _ _ _ _ _ _ _ => none
  | N + 1 => fun b0c3 b0c4 b1c0 b2c0 b3 b4 b5 =>
    tst (decide ((0 : Int) ≤ b1c0) && decide (b1c0 < ((b3.length : Int)))) <|
    tst (decide (b1c0.toNat < b3.length)) <|
    match ((((b3.getD b1c0.toNat [])).getD 0 .top).toI) == (6 : Int) with
    | true =>
      tst (decide ((0 : Int) ≤ b2c0) && decide (b2c0 < ((b3.length : Int)))) <|
      tst (decide (b2c0.toNat < b3.length)) <|
      match ((((b3.getD b2c0.toNat [])).getD 0 .top).toI) == (6 : Int) with
      | true =>
        match F39 N b0c3 b0c4 b1c0 b2c0 b3 b4 b5 with
        | none => none
        | some (.r rx0v1 rb0v1 rb1v1 rb2v1) =>
          some (.r rx0v1 b0c3 b0c4 b1c0 b2c0 rb0v1 rb1v1 rb2v1)
      | false =>
        some (.r false b0c3 b0c4 b1c0 b2c0 b3 b4 b5)
    | false =>
      some (.r false b0c3 b0c4 b1c0 b2c0 b3 b4 b5)
def xRF38 : XSh R38 := ⟨[], ⟨[(0, .one (.cell (.bool)))], [.var [.any, .any, .any, .any, .any] [.own 3, .own 4, .own 5, .cell (.slice 113), .cell (.slice 117)], .var [.int .i64] [.cell (.int .i64)], .var [.int .i64] [.cell (.int .i64)], .row 58, .row 74, .row 45]⟩, fun st => [0, 1, 2, 3, 4, 5], fun s => .r ((Eng.look s.env 0).toB) (((s.mem.getD 0 .dead).cells.getD 3 .top).rows) (((s.mem.getD 0 .dead).cells.getD 4 .top).rows) (((s.mem.getD 1 .dead).cells.getD 0 .top).toI) (((s.mem.getD 2 .dead).cells.getD 0 .top).toI) ((s.mem.getD 3 .dead).rows) ((s.mem.getD 4 .dead).rows) ((s.mem.getD 5 .dead).rows)⟩
theorem fsF38 : ∀ (N : Nat) (lk : Nat → AV) (M : List Blk), FFF38 (F38 (N + 1)) (canS sgF38 lk M) = evfn CX (T38ur1 N R38) code38 rsF38 (argsE 3 (canS sgF38 lk M).env) (canS sgF38 lk M).mem (goR CX 6 (fun _ => some xRF38)) := by intro N lk M; kernel_rfl
theorem soundF38 : ∀ N, RecOkF38 (F38 N)
  | 0, lk, M, o, h => by cases h
  | N + 1, lk, M, o, h => fn_sound hX (okT38ur1 N R38) Tryd.func38 hb38 rfl en38 (by kernel_rfl) (ys := fun _ => some xRF38) (fun st y h => by injection h with h; subst h; exact fun lk M => ⟨rfl, rfl⟩) ((fsF38 N lk M).symm.trans h)
def cvce38n0 : List Cv := []
def selce38n0 : St → List Nat := fun st => [(Eng.look st.env 0).id, (Eng.look st.env 1).id, (Eng.look st.env 2).id, ((st.mem.getD ((Eng.look st.env 0).id) .dead).cells.getD 0 .top).id, ((st.mem.getD ((Eng.look st.env 0).id) .dead).cells.getD 1 .top).id, ((st.mem.getD ((Eng.look st.env 0).id) .dead).cells.getD 2 .top).id]
noncomputable def ce38n0 (Fx : TF38) (R : Type) (test : List AV → List Blk → Bool) : CE R := ⟨38, test, fun args M => some (selce38n0 ⟨argEnv 0 args, M, [], .unk⟩), fun args M k => tst (Nat.beq args.length 3) (callFn CX 6 cvce38n0 sgF38 selce38n0 (FFF38 Fx) elF38 args M k)⟩
theorem okce38n0 (Fx : TF38) (h : RecOkF38 Fx) (R : Type) (test : List AV → List Blk → Bool) : CeOk CX (ce38n0 Fx R test) := ce_ok hX (fun o k => by cases o; rfl) h en38 (fun args M ids h => by injection h with h; exact ⟨rfl, h.symm⟩)
end Go.Proofs.YtdennlgnbecojaaDoor

namespace Go.Proofs.YtdennlgnbecojaaDoor
open Go Go.Eng
set_option maxRecDepth 100000

/-! ### F40: ceiling/level.Convert.3 -/
inductive R40 where
  | r (x0 : Bool) (b0c3 : List Row) (b0c4 : List Row) (b1c0 : Int) (b2c0 : Int) (b3 : List Row) (b4 : List Row) (b5 : List Row)
abbrev TF40 := List Row → List Row → Int → Int → List Row → List Row → List Row → Option R40
def sgF40 : LSh := ⟨[(0, .one (.ptr 0 0 0)), (1, .one (.ptr 1 0 0)), (2, .one (.ptr 2 0 0))], [.var [.any, .any, .any, .any, .any] [.own 3, .own 4, .own 5, .cell (.slice 113), .cell (.slice 117)], .var [.int .i64] [.cell (.int .i64)], .var [.int .i64] [.cell (.int .i64)], .row 58, .row 74, .row 45]⟩
def FFF40 (Fx : TF40) (s : St) : Option R40 := Fx (((s.mem.getD 0 .dead).cells.getD 3 .top).rows) (((s.mem.getD 0 .dead).cells.getD 4 .top).rows) (((s.mem.getD 1 .dead).cells.getD 0 .top).toI) (((s.mem.getD 2 .dead).cells.getD 0 .top).toI) ((s.mem.getD 3 .dead).rows) ((s.mem.getD 4 .dead).rows) ((s.mem.getD 5 .dead).rows)
def valF40 (o : R40) : AV := match o with | .r x0 b0c3 b0c4 b1c0 b2c0 b3 b4 b5 => .bool x0
def memF40 (o : R40) : List Blk := match o with | .r x0 b0c3 b0c4 b1c0 b2c0 b3 b4 b5 => [.var [.any, .any, .any, .any, .any] [.own 3, .own 4, .own 5, .list 113 b0c3, .list 117 b0c4], .var [.int .i64] [.int .i64 b1c0], .var [.int .i64] [.int .i64 b2c0], .row 58 b3, .row 74 b4, .row 45 b5]
def elF40 {R : Type} (o : R40) (k : AV → List Blk → Option R) : Option R := match o with | .r x0 b0c3 b0c4 b1c0 b2c0 b3 b4 b5 => k (.bool x0) [.var [.any, .any, .any, .any, .any] [.own 3, .own 4, .own 5, .list 113 b0c3, .list 117 b0c4], .var [.int .i64] [.int .i64 b1c0], .var [.int .i64] [.int .i64 b2c0], .row 58 b3, .row 74 b4, .row 45 b5]
def RecOkF40 (Fx : TF40) : Prop := ∀ lk M o, FFF40 Fx (canS sgF40 lk M) = some o → FCalls CX 40 6 (argsE 3 (canS sgF40 lk M).env) (canS sgF40 lk M).mem (valF40 o) (memF40 o)
noncomputable def csF40 (N : Nat) (R : Type) : List (CE R) := []
theorem hcsF40 (N : Nat) (R : Type) : AllE (CeOk CX) (csF40 N R) := trivial
noncomputable def T40ur1 (N : Nat) (R : Type) : LTab R := mkTab ⟨17, 131071⟩ (csF40 N R) (noY) [] [] []
theorem okT40ur1 (N : Nat) (R : Type) : (T40ur1 N R).Ok CX code40 := mkTab_ok (hcsF40 N R) (noY_ok) (trivial) (trivial) (trivial)
def rsF40 : List ResultVar := [.tmp 3]
def F40 : Nat → TF40
  | 0 => fun _ _ _ _ _ _ _ => none
  | N + 1 => fun b0c3 b0c4 b1c0 b2c0 b3 b4 b5 =>
    tst (decide ((0 : Int) ≤ b1c0) && decide (b1c0 < ((b3.length : Int)))) <|
    tst (decide (b1c0.toNat < b3.length)) <|
    tst (decide ((0 : Int) ≤ b2c0) && decide (b2c0 < ((b3.length : Int)))) <|
    tst (decide (b2c0.toNat < b3.length)) <|
    some (.r (decide (((((b3.getD b1c0.toNat [])).getD 17 .top).toI) ≤ ((((b3.getD b2c0.toNat [])).getD 17 .top).toI))) b0c3 b0c4 b1c0 b2c0 b3 b4 b5)
def xRF40 : XSh R40 := ⟨[], ⟨[(0, .one (.cell (.bool)))], [.var [.any, .any, .any, .any, .any] [.own 3, .own 4, .own 5, .cell (.slice 113), .cell (.slice 117)], .var [.int .i64] [.cell (.int .i64)], .var [.int .i64] [.cell (.int .i64)], .row 58, .row 74, .row 45]⟩, fun st => [0, 1, 2, 3, 4, 5], fun s => .r ((Eng.look s.env 0).toB) (((s.mem.getD 0 .dead).cells.getD 3 .top).rows) (((s.mem.getD 0 .dead).cells.getD 4 .top).rows) (((s.mem.getD 1 .dead).cells.getD 0 .top).toI) (((s.mem.getD 2 .dead).cells.getD 0 .top).toI) ((s.mem.getD 3 .dead).rows) ((s.mem.getD 4 .dead).rows) ((s.mem.getD 5 .dead).rows)⟩
theorem fsF40 : ∀ (N : Nat) (lk : Nat → AV) (M : List Blk), FFF40 (F40 (N + 1)) (canS sgF40 lk M) = evfn CX (T40ur1 N R40) code40 rsF40 (argsE 3 (canS sgF40 lk M).env) (canS sgF40 lk M).mem (goR CX 6 (fun _ => some xRF40)) := by intro N lk M; kernel_rfl
theorem soundF40 : ∀ N, RecOkF40 (F40 N)
  | 0, lk, M, o, h => by cases h
  | N + 1, lk, M, o, h => fn_sound hX (okT40ur1 N R40) Tryd.func40 hb40 rfl en40 (by kernel_rfl) (ys := fun _ => some xRF40) (fun st y h => by injection h with h; subst h; exact fun lk M => ⟨rfl, rfl⟩) ((fsF40 N lk M).symm.trans h)
def cvce40n0 : List Cv := []
def selce40n0 : St → List Nat := fun st => [(Eng.look st.env 0).id, (Eng.look st.env 1).id, (Eng.look st.env 2).id, ((st.mem.getD ((Eng.look st.env 0).id) .dead).cells.getD 0 .top).id, ((st.mem.getD ((Eng.look st.env 0).id) .dead).cells.getD 1 .top).id, ((st.mem.getD ((Eng.look st.env 0).id) .dead).cells.getD 2 .top).id]
noncomputable def ce40n0 (Fx : TF40) (R : Type) (test : List AV → List Blk → Bool) : CE R := ⟨40, test, fun args M => some (selce40n0 ⟨argEnv 0 args, M, [], .unk⟩), fun args M k => tst (Nat.beq args.length 3) (callFn CX 6 cvce40n0 sgF40 selce40n0 (FFF40 Fx) elF40 args M k)⟩
theorem okce40n0 (Fx : TF40) (h : RecOkF40 Fx) (R : Type) (test : List AV → List Blk → Bool) : CeOk CX (ce40n0 Fx R test) := ce_ok hX (fun o k => by cases o; rfl) h en40 (fun args M ids h => by injection h with h; exact ⟨rfl, h.symm⟩)
end Go.Proofs.YtdennlgnbecojaaDoor

namespace Go.Proofs.YtdennlgnbecojaaDoor
open Go Go.Eng
set_option maxRecDepth 100000

/-! ### F18: ceiling/level.Convert -/
inductive R18 where
  | r (x0 : Int) (b0 : List Row) (b1 : List Row) (b2 : List Row)
abbrev TF18 := List Row → List Row → Int → Int → List Row → List Row → List Row → Option R18
def sgF18 : LSh := ⟨[(0, .agg [.own 0, .own 1, .own 2, .cell (.slice 113), .cell (.slice 117)]), (1, .one (.cell (.int .i64))), (2, .one (.cell (.int .i64)))], [.row 58, .row 74, .row 45]⟩
def FFF18 (Fx : TF18) (s : St) : Option R18 := Fx (((Eng.look s.env 0).cells.getD 3 .top).rows) (((Eng.look s.env 0).cells.getD 4 .top).rows) ((Eng.look s.env 1).toI) ((Eng.look s.env 2).toI) ((s.mem.getD 0 .dead).rows) ((s.mem.getD 1 .dead).rows) ((s.mem.getD 2 .dead).rows)
def valF18 (o : R18) : AV := match o with | .r x0 b0 b1 b2 => .int .i64 x0
def memF18 (o : R18) : List Blk := match o with | .r x0 b0 b1 b2 => [.row 58 b0, .row 74 b1, .row 45 b2]
def elF18 {R : Type} (o : R18) (k : AV → List Blk → Option R) : Option R := match o with | .r x0 b0 b1 b2 => k (.int .i64 x0) [.row 58 b0, .row 74 b1, .row 45 b2]
def RecOkF18 (Fx : TF18) : Prop := ∀ lk M o, FFF18 Fx (canS sgF18 lk M) = some o → FCalls CX 18 3 (argsE 3 (canS sgF18 lk M).env) (canS sgF18 lk M).mem (valF18 o) (memF18 o)
noncomputable def csF18b (N : Nat) (R : Type) : List (CE R) := [ce37n0 (F37 N) R (fun _ _ => true), ce38n0 (F38 N) R (fun _ _ => true), ce40n0 (F40 N) R (fun _ _ => true)]
theorem hcsF18b (N : Nat) (R : Type) : AllE (CeOk CX) (csF18b N R) := ⟨okce37n0 (F37 N) (soundF37 N) R (fun _ _ => true), okce38n0 (F38 N) (soundF38 N) R (fun _ _ => true), okce40n0 (F40 N) (soundF40 N) R (fun _ _ => true), trivial⟩
def rs18n27 : List ResultVar := [.tmp 2]
noncomputable def bd18n27ul26 : Code := match codeAt code27 [false, true, false, true] with | some (.loop c) => c | _ => .skip
noncomputable def T18n27ul26 (N : Nat) (R : Type) : LTab R := mkTab ⟨18, 262143⟩ (csF18b N R) (noY) [] [] []
theorem okT18n27ul26 (N : Nat) (R : Type) : (T18n27ul26 N R).Ok CX code27 := mkTab_ok (hcsF18b N R) (noY_ok) (trivial) (trivial) (trivial)
noncomputable def T18n27ur1 (N : Nat) (R : Type) : LTab R := mkTab ⟨18, 262143⟩ (csF18b N R) (noY) [(26, fun st k => unroll CX (T18n27ul26 N R) bd18n27ul26 (2 * 26) 4 st k)] [] []
theorem okT18n27ur1 (N : Nat) (R : Type) : (T18n27ur1 N R).Ok CX code27 := mkTab_ok (hcsF18b N R) (noY_ok) (⟨unroll_ok hX (path := [false, true, false, true]) (by kernel_rfl) (by rfl) (okT18n27ul26 N R) rfl, trivial⟩) (trivial) (trivial)
noncomputable def csF18 (N : Nat) (R : Type) : List (CE R) := ⟨27, fun _ _ => true, fun _ M => some (List.range M.length), fun args M k => evfn CX (T18n27ur1 N R) code27 rs18n27 args M fun x M' => tst (Nat.ble M.length M'.length) (k x M')⟩ :: csF18b N R
theorem hcsF18 (N : Nat) (R : Type) : AllE (CeOk CX) (csF18 N R) := ⟨inl1_ok (run := fun args M k => evfn CX (T18n27ur1 N R) code27 rs18n27 args M k) fun {args M k r} h => evfn_sound hX (okT18n27ur1 N R) Tryd.func27 hb27 rfl en27 (by kernel_rfl) h, hcsF18b N R⟩
noncomputable def T18ur1 (N : Nat) (R : Type) : LTab R := mkTab ⟨15, 32767⟩ (csF18 N R) (noY) [] [] []
theorem okT18ur1 (N : Nat) (R : Type) : (T18ur1 N R).Ok CX code18 := mkTab_ok (hcsF18 N R) (noY_ok) (trivial) (trivial) (trivial)
def rsF18 : List ResultVar := [.tmp 6]
def F18 : Nat → TF18
  | 0 => fun _ _ _ _ _ _ _ => none
  | N + 1 => fun x0c3 x0c4 x1 x2 b0 b1 b2 =>
    match F37 N x0c3 x0c4 x1 x2 b0 b1 b2 with
    | none => none
    | some (.r rx0v1 rb0c3v1 rb0c4v1 rb1c0v1 rb2c0v1 rb3v1 rb4v1 rb5v1) =>
      match !rx0v1 with
      | true =>
        some (.r 2 rb3v1 rb4v1 rb5v1)
      | false =>
        match F38 N rb0c3v1 rb0c4v1 rb1c0v1 rb2c0v1 rb3v1 rb4v1 rb5v1 with
        | none => none
        | some (.r rx0v2 rb0c3v2 rb0c4v2 rb1c0v2 rb2c0v2 rb3v2 rb4v2 rb5v2) =>
          match !rx0v2 with
          | true =>
            some (.r 90 rb3v2 rb4v2 rb5v2)
          | false =>
            match F40 N rb0c3v2 rb0c4v2 rb1c0v2 rb2c0v2 rb3v2 rb4v2 rb5v2 with
            | none => none
            | some (.r rx0v3 rb0c3v3 rb0c4v3 rb1c0v3 rb2c0v3 rb3v3 rb4v3 rb5v3) =>
              match !rx0v3 with
              | true =>
                some (.r 120 rb3v3 rb4v3 rb5v3)
              | false =>
                some (.r 0 rb3v3 rb4v3 rb5v3)
def xRF18 : XSh R18 := ⟨[], ⟨[(0, .one (.cell (.int .i64)))], [.row 58, .row 74, .row 45]⟩, fun st => [0, 1, 2], fun s => .r ((Eng.look s.env 0).toI) ((s.mem.getD 0 .dead).rows) ((s.mem.getD 1 .dead).rows) ((s.mem.getD 2 .dead).rows)⟩
theorem fsF18 : ∀ (N : Nat) (lk : Nat → AV) (M : List Blk), FFF18 (F18 (N + 1)) (canS sgF18 lk M) = evfn CX (T18ur1 N R18) code18 rsF18 (argsE 3 (canS sgF18 lk M).env) (canS sgF18 lk M).mem (goR CX 3 (fun _ => some xRF18)) := by intro N lk M; kernel_rfl
theorem soundF18 : ∀ N, RecOkF18 (F18 N)
  | 0, lk, M, o, h => by cases h
  | N + 1, lk, M, o, h => fn_sound hX (okT18ur1 N R18) Tryd.func18 hb18 rfl en18 (by kernel_rfl) (ys := fun _ => some xRF18) (fun st y h => by injection h with h; subst h; exact fun lk M => ⟨rfl, rfl⟩) ((fsF18 N lk M).symm.trans h)
def cvce18n0 : List Cv := []
def selce18n0 : St → List Nat := fun st => [((Eng.look st.env 0).cells.getD 0 .top).id, ((Eng.look st.env 0).cells.getD 1 .top).id, ((Eng.look st.env 0).cells.getD 2 .top).id]
noncomputable def ce18n0 (Fx : TF18) (R : Type) (test : List AV → List Blk → Bool) : CE R := ⟨18, test, fun args M => some (selce18n0 ⟨argEnv 0 args, M, [], .unk⟩), fun args M k => tst (Nat.beq args.length 3) (callFn CX 3 cvce18n0 sgF18 selce18n0 (FFF18 Fx) elF18 args M k)⟩
theorem okce18n0 (Fx : TF18) (h : RecOkF18 Fx) (R : Type) (test : List AV → List Blk → Bool) : CeOk CX (ce18n0 Fx R test) := ce_ok hX (fun o k => by cases o; rfl) h en18 (fun args M ids h => by injection h with h; exact ⟨rfl, h.symm⟩)
end Go.Proofs.YtdennlgnbecojaaDoor

namespace Go.Proofs.YtdennlgnbecojaaDoor
open Go Go.Eng
set_option maxRecDepth 100000

/-! ### F9: ceiling/ceilinglaw12.head -/
inductive R9 where
  | r (x0 : Bool)
abbrev TF9 := Option R9
def sgF9 : LSh := ⟨[], []⟩
def FFF9 (Fx : TF9) (s : St) : Option R9 := Fx 
def valF9 (o : R9) : AV := match o with | .r x0 => .bool x0
def memF9 (o : R9) : List Blk := match o with | .r x0 => []
def elF9 {R : Type} (o : R9) (k : AV → List Blk → Option R) : Option R := match o with | .r x0 => k (.bool x0) []
def RecOkF9 (Fx : TF9) : Prop := ∀ lk M o, FFF9 Fx (canS sgF9 lk M) = some o → FCalls CX 9 0 (argsE 0 (canS sgF9 lk M).env) (canS sgF9 lk M).mem (valF9 o) (memF9 o)
noncomputable def csF9 (N : Nat) (R : Type) : List (CE R) := [ce10n0 (F10 N) R (fun _ _ => true), ce12n0 (F12 N) R (fun _ _ => true), ce14n0 (F14 N) R (fun _ _ => true), ce16n0 (F16 N) R (fun _ _ => true), ce18n0 (F18 N) R (fun _ _ => true), ce22n0 (F22 N) R (fun _ _ => true)]
theorem hcsF9 (N : Nat) (R : Type) : AllE (CeOk CX) (csF9 N R) := ⟨okce10n0 (F10 N) (soundF10 N) R (fun _ _ => true), okce12n0 (F12 N) (soundF12 N) R (fun _ _ => true), okce14n0 (F14 N) (soundF14 N) R (fun _ _ => true), okce16n0 (F16 N) (soundF16 N) R (fun _ _ => true), okce18n0 (F18 N) (soundF18 N) R (fun _ _ => true), okce22n0 (F22 N) (soundF22 N) R (fun _ _ => true), trivial⟩
inductive OJ9a14 where
  | nx (x2 : Bool) (b0c3 : List Row) (b0c4 : List Row) (b1 : List Row) (b2 : List Row) (b3 : List Row)
def J9a14 (N : Nat) : List Row → List Row → List Row → List Row → List Row → Option OJ9a14 := fun b0c3 b0c4 b1 b2 b3 =>
    match F10 N b0c3 b0c4 15 b1 b2 b3 with
    | none => none
    | some (.r rx0v2 rb0v2 rb1v2 rb2v2) =>
      match rx0v2 == (0 : Int) with
      | true =>
        match F10 N b0c3 b0c4 18 rb0v2 rb1v2 rb2v2 with
        | none => none
        | some (.r rx0v3 rb0v3 rb1v3 rb2v3) =>
          match rx0v3 == (1 : Int) with
          | true =>
            match F10 N b0c3 b0c4 17 rb0v3 rb1v3 rb2v3 with
            | none => none
            | some (.r rx0v4 rb0v4 rb1v4 rb2v4) =>
              match rx0v4 == (-1 : Int) with
              | true =>
                match F12 N b0c3 b0c4 15 rb0v4 rb1v4 rb2v4 with
                | none => none
                | some (.r rx0v5 rb0v5 rb1v5 rb2v5) =>
                  match rx0v5 == (0 : Int) with
                  | true =>
                    match F12 N b0c3 b0c4 18 rb0v5 rb1v5 rb2v5 with
                    | none => none
                    | some (.r rx0v6 rb0v6 rb1v6 rb2v6) =>
                      match rx0v6 == (18 : Int) with
                      | true =>
                        match F14 N b0c3 b0c4 rb0v6 rb1v6 rb2v6 with
                        | none => none
                        | some (.r rx0v7 rb0v7 rb1v7 rb2v7) =>
                          some (.nx rx0v7 b0c3 b0c4 rb0v7 rb1v7 rb2v7)
                      | false =>
                        some (.nx false b0c3 b0c4 rb0v6 rb1v6 rb2v6)
                  | false =>
                    some (.nx false b0c3 b0c4 rb0v5 rb1v5 rb2v5)
              | false =>
                some (.nx false b0c3 b0c4 rb0v4 rb1v4 rb2v4)
          | false =>
            some (.nx false b0c3 b0c4 rb0v3 rb1v3 rb2v3)
      | false =>
        some (.nx false b0c3 b0c4 rb0v2 rb1v2 rb2v2)
def LFJ9a14 (N : Nat) (s : St) : Option OJ9a14 := J9a14 N (((s.mem.getD 0 .dead).cells.getD 3 .top).rows) (((s.mem.getD 0 .dead).cells.getD 4 .top).rows) ((s.mem.getD 1 .dead).rows) ((s.mem.getD 2 .dead).rows) ((s.mem.getD 3 .dead).rows)
def sgJ9a14 : LSh := ⟨[(1, .one (.ptr 0 0 0))], [.var [.any, .any, .any, .any, .any] [.own 1, .own 2, .own 3, .cell (.slice 113), .cell (.slice 117)], .row 58, .row 74, .row 45]⟩
def ceJ9a14 : List Cv := []
def seJ9a14 : St → List Nat := fun st => [(Eng.look st.env 1).id, ((st.mem.getD ((Eng.look st.env 1).id) .dead).cells.getD 0 .top).id, ((st.mem.getD ((Eng.look st.env 1).id) .dead).cells.getD 1 .top).id, ((st.mem.getD ((Eng.look st.env 1).id) .dead).cells.getD 2 .top).id]
def xJ9a14wnx : XSh OJ9a14 := ⟨[], ⟨[(2, .one (.cell (.bool)))], [.var [.any, .any, .any, .any, .any] [.own 1, .own 2, .own 3, .cell (.slice 113), .cell (.slice 117)], .row 58, .row 74, .row 45]⟩, fun st => [0, ((st.mem.getD 0 .dead).cells.getD 0 .top).id, ((st.mem.getD 0 .dead).cells.getD 1 .top).id, ((st.mem.getD 0 .dead).cells.getD 2 .top).id], fun s => .nx ((Eng.look s.env 2).toB) (((s.mem.getD 0 .dead).cells.getD 3 .top).rows) (((s.mem.getD 0 .dead).cells.getD 4 .top).rows) ((s.mem.getD 1 .dead).rows) ((s.mem.getD 2 .dead).rows) ((s.mem.getD 3 .dead).rows)⟩
def xsJ9a14 : Ex → St → Option (XSh OJ9a14) := fun e st => match e with
  | .normal => some xJ9a14wnx
  | _ => none
def exJ9a14 (o : OJ9a14) : Ex := match o with | .nx x2 b0c3 b0c4 b1 b2 b3 => .normal
def stJ9a14 (o : OJ9a14) : St := match o with | .nx x2 b0c3 b0c4 b1 b2 b3 => ⟨[(2, .bool x2)], [.var [.any, .any, .any, .any, .any] [.own 1, .own 2, .own 3, .list 113 b0c3, .list 117 b0c4], .row 58 b1, .row 74 b2, .row 45 b3], [], .unk⟩
def elJ9a14 {R : Type} (o : OJ9a14) (k : Ex → St → Option R) : Option R := match o with | .nx x2 b0c3 b0c4 b1 b2 b3 => k .normal ⟨[(2, .bool x2)], [.var [.any, .any, .any, .any, .any] [.own 1, .own 2, .own 3, .list 113 b0c3, .list 117 b0c4], .row 58 b1, .row 74 b2, .row 45 b3], [], .unk⟩
theorem heJ9a14 {R : Type} (o : OJ9a14) (k : Ex → St → Option R) : elJ9a14 o k = k (exJ9a14 o) (stJ9a14 o) := by cases o <;> rfl
theorem hxJ9a14 : ∀ e st x, xsJ9a14 e st = some x → outOk x e exJ9a14 stJ9a14 := by
  intro e st x h
  unfold xsJ9a14 at h
  repeat' split at h
  all_goals first
    | (injection h with h; subst h; exact fun lk M => ⟨rfl, rfl⟩)
    | cases h
noncomputable def T9uc14 (N : Nat) (R : Type) : LTab R := mkTab ⟨98, 4294967268⟩ (csF9 N R) (noY) [] [] []
theorem okT9uc14 (N : Nat) (R : Type) : (T9uc14 N R).Ok CX code9 := mkTab_ok (hcsF9 N R) (noY_ok) (trivial) (trivial) (trivial)
noncomputable def bdJ9a14 : Code := (codeAt code9 [false, true, true]).getD .skip
theorem hsJ9a14 (N : Nat) : ∀ (lk : Nat → AV) (M : List Blk), LFJ9a14 N (canS sgJ9a14 lk M) = evk CX (T9uc14 N OJ9a14) bdJ9a14 14 (canS sgJ9a14 lk M) (kontX CX 1 xsJ9a14) := by intro lk M; kernel_rfl
inductive OJ9a30 where
  | nx (x3 : Bool) (b0c3 : List Row) (b0c4 : List Row) (b1 : List Row) (b2 : List Row) (b3 : List Row)
def J9a30 (N : Nat) : List Row → List Row → List Row → List Row → List Row → Option OJ9a30 := fun b0c3 b0c4 b1 b2 b3 =>
    match F16 N b0c3 b0c4 17 4 b1 b2 b3 with
    | none => none
    | some (.r rx0v9 rb0v9 rb1v9 rb2v9) =>
      match rx0v9 == (0 : Int) with
      | true =>
        match F16 N b0c3 b0c4 20 5 rb0v9 rb1v9 rb2v9 with
        | none => none
        | some (.r rx0v10 rb0v10 rb1v10 rb2v10) =>
          match rx0v10 == (0 : Int) with
          | true =>
            match F16 N b0c3 b0c4 17 5 rb0v10 rb1v10 rb2v10 with
            | none => none
            | some (.r rx0v11 rb0v11 rb1v11 rb2v11) =>
              match rx0v11 == (0 : Int) with
              | true =>
                match F16 N b0c3 b0c4 20 4 rb0v11 rb1v11 rb2v11 with
                | none => none
                | some (.r rx0v12 rb0v12 rb1v12 rb2v12) =>
                  match rx0v12 == (120 : Int) with
                  | true =>
                    match F16 N b0c3 b0c4 21 5 rb0v12 rb1v12 rb2v12 with
                    | none => none
                    | some (.r rx0v13 rb0v13 rb1v13 rb2v13) =>
                      match rx0v13 == (121 : Int) with
                      | true =>
                        match F16 N b0c3 b0c4 17 1 rb0v13 rb1v13 rb2v13 with
                        | none => none
                        | some (.r rx0v14 rb0v14 rb1v14 rb2v14) =>
                          match rx0v14 == (90 : Int) with
                          | true =>
                            match F16 N b0c3 b0c4 22 4 rb0v14 rb1v14 rb2v14 with
                            | none => none
                            | some (.r rx0v15 rb0v15 rb1v15 rb2v15) =>
                              some (.nx (rx0v15 == (2 : Int)) b0c3 b0c4 rb0v15 rb1v15 rb2v15)
                          | false =>
                            some (.nx false b0c3 b0c4 rb0v14 rb1v14 rb2v14)
                      | false =>
                        some (.nx false b0c3 b0c4 rb0v13 rb1v13 rb2v13)
                  | false =>
                    some (.nx false b0c3 b0c4 rb0v12 rb1v12 rb2v12)
              | false =>
                some (.nx false b0c3 b0c4 rb0v11 rb1v11 rb2v11)
          | false =>
            some (.nx false b0c3 b0c4 rb0v10 rb1v10 rb2v10)
      | false =>
        some (.nx false b0c3 b0c4 rb0v9 rb1v9 rb2v9)
def LFJ9a30 (N : Nat) (s : St) : Option OJ9a30 := J9a30 N (((s.mem.getD 0 .dead).cells.getD 3 .top).rows) (((s.mem.getD 0 .dead).cells.getD 4 .top).rows) ((s.mem.getD 1 .dead).rows) ((s.mem.getD 2 .dead).rows) ((s.mem.getD 3 .dead).rows)
def sgJ9a30 : LSh := ⟨[(1, .one (.ptr 0 0 0))], [.var [.any, .any, .any, .any, .any] [.own 1, .own 2, .own 3, .cell (.slice 113), .cell (.slice 117)], .row 58, .row 74, .row 45]⟩
def ceJ9a30 : List Cv := []
def seJ9a30 : St → List Nat := fun st => [(Eng.look st.env 1).id, ((st.mem.getD ((Eng.look st.env 1).id) .dead).cells.getD 0 .top).id, ((st.mem.getD ((Eng.look st.env 1).id) .dead).cells.getD 1 .top).id, ((st.mem.getD ((Eng.look st.env 1).id) .dead).cells.getD 2 .top).id]
def xJ9a30wnx : XSh OJ9a30 := ⟨[], ⟨[(3, .one (.cell (.bool)))], [.var [.any, .any, .any, .any, .any] [.own 1, .own 2, .own 3, .cell (.slice 113), .cell (.slice 117)], .row 58, .row 74, .row 45]⟩, fun st => [0, ((st.mem.getD 0 .dead).cells.getD 0 .top).id, ((st.mem.getD 0 .dead).cells.getD 1 .top).id, ((st.mem.getD 0 .dead).cells.getD 2 .top).id], fun s => .nx ((Eng.look s.env 3).toB) (((s.mem.getD 0 .dead).cells.getD 3 .top).rows) (((s.mem.getD 0 .dead).cells.getD 4 .top).rows) ((s.mem.getD 1 .dead).rows) ((s.mem.getD 2 .dead).rows) ((s.mem.getD 3 .dead).rows)⟩
def xsJ9a30 : Ex → St → Option (XSh OJ9a30) := fun e st => match e with
  | .normal => some xJ9a30wnx
  | _ => none
def exJ9a30 (o : OJ9a30) : Ex := match o with | .nx x3 b0c3 b0c4 b1 b2 b3 => .normal
def stJ9a30 (o : OJ9a30) : St := match o with | .nx x3 b0c3 b0c4 b1 b2 b3 => ⟨[(3, .bool x3)], [.var [.any, .any, .any, .any, .any] [.own 1, .own 2, .own 3, .list 113 b0c3, .list 117 b0c4], .row 58 b1, .row 74 b2, .row 45 b3], [], .unk⟩
def elJ9a30 {R : Type} (o : OJ9a30) (k : Ex → St → Option R) : Option R := match o with | .nx x3 b0c3 b0c4 b1 b2 b3 => k .normal ⟨[(3, .bool x3)], [.var [.any, .any, .any, .any, .any] [.own 1, .own 2, .own 3, .list 113 b0c3, .list 117 b0c4], .row 58 b1, .row 74 b2, .row 45 b3], [], .unk⟩
theorem heJ9a30 {R : Type} (o : OJ9a30) (k : Ex → St → Option R) : elJ9a30 o k = k (exJ9a30 o) (stJ9a30 o) := by cases o <;> rfl
theorem hxJ9a30 : ∀ e st x, xsJ9a30 e st = some x → outOk x e exJ9a30 stJ9a30 := by
  intro e st x h
  unfold xsJ9a30 at h
  repeat' split at h
  all_goals first
    | (injection h with h; subst h; exact fun lk M => ⟨rfl, rfl⟩)
    | cases h
noncomputable def T9uc30 (N : Nat) (R : Type) : LTab R := mkTab ⟨98, 36893488143124135944⟩ (csF9 N R) (noY) [] [] []
theorem okT9uc30 (N : Nat) (R : Type) : (T9uc30 N R).Ok CX code9 := mkTab_ok (hcsF9 N R) (noY_ok) (trivial) (trivial) (trivial)
noncomputable def bdJ9a30 : Code := (codeAt code9 [false, true, true, true]).getD .skip
theorem hsJ9a30 (N : Nat) : ∀ (lk : Nat → AV) (M : List Blk), LFJ9a30 N (canS sgJ9a30 lk M) = evk CX (T9uc30 N OJ9a30) bdJ9a30 30 (canS sgJ9a30 lk M) (kontX CX 1 xsJ9a30) := by intro lk M; kernel_rfl
noncomputable def T9ur1 (N : Nat) (R : Type) : LTab R := mkTab ⟨98, 316912650057057350374175801343⟩ (csF9 N R) (noY) [] [] [(14, fun st k => callLoop CX 1 4294967268 ceJ9a14 sgJ9a14 seJ9a14 ⟨98, 316912650057057350374175801343⟩ (LFJ9a14 N) elJ9a14 st k), (30, fun st k => callLoop CX 1 36893488143124135944 ceJ9a30 sgJ9a30 seJ9a30 ⟨98, 316912650057057350374175801343⟩ (LFJ9a30 N) elJ9a30 st k)]
theorem okT9ur1 (N : Nat) (R : Type) : (T9ur1 N R).Ok CX code9 := mkTab_ok (hcsF9 N R) (noY_ok) (trivial) (trivial) (⟨cut_ok hX (path := [false, true, true]) (by kernel_rfl) (by rfl) (okT9uc14 N OJ9a14) (hsJ9a14 N) hxJ9a14 rfl heJ9a14, cut_ok hX (path := [false, true, true, true]) (by kernel_rfl) (by rfl) (okT9uc30 N OJ9a30) (hsJ9a30 N) hxJ9a30 rfl heJ9a30, trivial⟩)
def rsF9 : List ResultVar := [.tmp 0]
def F9 : Nat → TF9
  | 0 => none
  | N + 1 => 
    match F22 N  with
    | none => none
    | some (.r rx0c3v1 rx0c4v1 rb0v1 rb1v1 rb2v1) =>
      match J9a14 N rx0c3v1 rx0c4v1 rb0v1 rb1v1 rb2v1 with
      | none => none
      | some (.nx x2v8 b0c3v8 b0c4v8 b1v8 b2v8 b3v8) =>
        match J9a30 N b0c3v8 b0c4v8 b1v8 b2v8 b3v8 with
        | none => none
        | some (.nx x3v16 b0c3v16 b0c4v16 b1v16 b2v16 b3v16) =>
          tst (decide ((17 : Int) < ((b3v16.length : Int)))) <|
          tst (decide (17 < b3v16.length)) <|
          match x2v8 with
          | true =>
            match x3v16 with
            | true =>
              match F18 N b0c3v16 b0c4v16 4 5 b1v16 b2v16 (b3v16.set 17 (Eng.setAt ((b3v16.getD 17 [])) 9 [.int .i64 1])) with
              | none => none
              | some (.r rx0v17 rb0v17 rb1v17 rb2v17) =>
                match rx0v17 == (0 : Int) with
                | true =>
                  match F18 N b0c3v16 b0c4v16 5 4 rb0v17 rb1v17 rb2v17 with
                  | none => none
                  | some (.r rx0v18 rb0v18 rb1v18 rb2v18) =>
                    match rx0v18 == (120 : Int) with
                    | true =>
                      match F18 N b0c3v16 b0c4v16 4 1 rb0v18 rb1v18 rb2v18 with
                      | none => none
                      | some (.r rx0v19 rb0v19 rb1v19 rb2v19) =>
                        match rx0v19 == (90 : Int) with
                        | true =>
                          match F18 N b0c3v16 b0c4v16 6 4 rb0v19 rb1v19 rb2v19 with
                          | none => none
                          | some (.r rx0v20 rb0v20 rb1v20 rb2v20) =>
                            match rx0v20 == (2 : Int) with
                            | true =>
                              match F14 N b0c3v16 b0c4v16 rb0v20 rb1v20 rb2v20 with
                              | none => none
                              | some (.r rx0v21 rb0v21 rb1v21 rb2v21) =>
                                some (.r (!rx0v21))
                            | false =>
                              some (.r false)
                        | false =>
                          some (.r false)
                    | false =>
                      some (.r false)
                | false =>
                  some (.r false)
            | false =>
              some (.r false)
          | false =>
            some (.r false)
def xRF9 : XSh R9 := ⟨[], ⟨[(0, .one (.cell (.bool)))], []⟩, fun _ => [], fun s => .r ((Eng.look s.env 0).toB)⟩
theorem fsF9 : ∀ (N : Nat) (lk : Nat → AV) (M : List Blk), FFF9 (F9 (N + 1)) (canS sgF9 lk M) = evfn CX (T9ur1 N R9) code9 rsF9 (argsE 0 (canS sgF9 lk M).env) (canS sgF9 lk M).mem (goR CX 0 (fun _ => some xRF9)) := by intro N lk M; kernel_rfl
theorem soundF9 : ∀ N, RecOkF9 (F9 N)
  | 0, lk, M, o, h => by cases h
  | N + 1, lk, M, o, h => fn_sound hX (okT9ur1 N R9) Tryd.func9 hb9 rfl en9 (by kernel_rfl) (ys := fun _ => some xRF9) (fun st y h => by injection h with h; subst h; exact fun lk M => ⟨rfl, rfl⟩) ((fsF9 N lk M).symm.trans h)
def cvce9n0 : List Cv := []
def selce9n0 : St → List Nat := fun _ => []
noncomputable def ce9n0 (Fx : TF9) (R : Type) (test : List AV → List Blk → Bool) : CE R := ⟨9, test, fun args M => some (selce9n0 ⟨argEnv 0 args, M, [], .unk⟩), fun args M k => tst (Nat.beq args.length 0) (callFn CX 0 cvce9n0 sgF9 selce9n0 (FFF9 Fx) elF9 args M k)⟩
theorem okce9n0 (Fx : TF9) (h : RecOkF9 Fx) (R : Type) (test : List AV → List Blk → Bool) : CeOk CX (ce9n0 Fx R test) := ce_ok hX (fun o k => by cases o; rfl) h en9 (fun args M ids h => by injection h with h; exact ⟨rfl, h.symm⟩)
end Go.Proofs.YtdennlgnbecojaaDoor

namespace Go.Proofs.YtdennlgnbecojaaDoor
open Go Go.Eng
set_option maxRecDepth 100000

/-! ### F23v1: ceiling/level.outwards -/
inductive R23v1 where
  | r (b0c0 : Int) (b1c0 : List Row) (b1c1 : List Row) (b1c2 : List Row) (b1c3 : List Row) (b1c4 : List Row)
abbrev TF23v1 := List Row → List Row → List Row → List Row → List Row → Int → Option R23v1
def sgF23v1 : LSh := ⟨[(0, .agg [.cell (.slice 58), .cell (.slice 74), .cell (.slice 45), .cell (.slice 113), .cell (.slice 117)]), (1, .one (.cell (.int .i64)))], []⟩
def FFF23v1 (Fx : TF23v1) (s : St) : Option R23v1 := Fx (((Eng.look s.env 0).cells.getD 0 .top).rows) (((Eng.look s.env 0).cells.getD 1 .top).rows) (((Eng.look s.env 0).cells.getD 2 .top).rows) (((Eng.look s.env 0).cells.getD 3 .top).rows) (((Eng.look s.env 0).cells.getD 4 .top).rows) ((Eng.look s.env 1).toI)
def valF23v1 (o : R23v1) : AV := match o with | .r b0c0 b1c0 b1c1 b1c2 b1c3 b1c4 => .clos 45 [] [.ptr 0 0 0, .ptr 1 0 0]
def memF23v1 (o : R23v1) : List Blk := match o with | .r b0c0 b1c0 b1c1 b1c2 b1c3 b1c4 => [.var [.int .i64] [.int .i64 b0c0], .var [.any, .any, .any, .any, .any] [.list 58 b1c0, .list 74 b1c1, .list 45 b1c2, .list 113 b1c3, .list 117 b1c4]]
def elF23v1 {R : Type} (o : R23v1) (k : AV → List Blk → Option R) : Option R := match o with | .r b0c0 b1c0 b1c1 b1c2 b1c3 b1c4 => k (.clos 45 [] [.ptr 0 0 0, .ptr 1 0 0]) [.var [.int .i64] [.int .i64 b0c0], .var [.any, .any, .any, .any, .any] [.list 58 b1c0, .list 74 b1c1, .list 45 b1c2, .list 113 b1c3, .list 117 b1c4]]
def RecOkF23v1 (Fx : TF23v1) : Prop := ∀ lk M o, FFF23v1 Fx (canS sgF23v1 lk M) = some o → FCalls CX 23 0 (argsE 2 (canS sgF23v1 lk M).env) (canS sgF23v1 lk M).mem (valF23v1 o) (memF23v1 o)
noncomputable def csF23v1 (N : Nat) (R : Type) : List (CE R) := []
theorem hcsF23v1 (N : Nat) (R : Type) : AllE (CeOk CX) (csF23v1 N R) := trivial
noncomputable def T23v1ur1 (N : Nat) (R : Type) : LTab R := mkTab ⟨6, 63⟩ (csF23v1 N R) (noY) [] [] []
theorem okT23v1ur1 (N : Nat) (R : Type) : (T23v1ur1 N R).Ok CX code23 := mkTab_ok (hcsF23v1 N R) (noY_ok) (trivial) (trivial) (trivial)
def rsF23v1 : List ResultVar := [.tmp 4]
def F23v1 : Nat → TF23v1
  | 0 => fun _ _ _ _ _ _ => none
  | N + 1 => fun x0c0 x0c1 x0c2 x0c3 x0c4 x1 =>
    some (.r x1 x0c0 x0c1 x0c2 x0c3 x0c4)
def xRF23v1 : XSh R23v1 := ⟨[], ⟨[(0, .one (.cl 45 [(0, 0, 0), (1, 0, 0)]))], [.var [.int .i64] [.cell (.int .i64)], .var [.any, .any, .any, .any, .any] [.cell (.slice 58), .cell (.slice 74), .cell (.slice 45), .cell (.slice 113), .cell (.slice 117)]]⟩, fun st => [((Eng.look st.env 0).caps.getD 0 .top).id, ((Eng.look st.env 0).caps.getD 1 .top).id], fun s => .r (((s.mem.getD 0 .dead).cells.getD 0 .top).toI) (((s.mem.getD 1 .dead).cells.getD 0 .top).rows) (((s.mem.getD 1 .dead).cells.getD 1 .top).rows) (((s.mem.getD 1 .dead).cells.getD 2 .top).rows) (((s.mem.getD 1 .dead).cells.getD 3 .top).rows) (((s.mem.getD 1 .dead).cells.getD 4 .top).rows)⟩
theorem fsF23v1 : ∀ (N : Nat) (lk : Nat → AV) (M : List Blk), FFF23v1 (F23v1 (N + 1)) (canS sgF23v1 lk M) = evfn CX (T23v1ur1 N R23v1) code23 rsF23v1 (argsE 2 (canS sgF23v1 lk M).env) (canS sgF23v1 lk M).mem (goR CX 0 (fun _ => some xRF23v1)) := by intro N lk M; kernel_rfl
theorem soundF23v1 : ∀ N, RecOkF23v1 (F23v1 N)
  | 0, lk, M, o, h => by cases h
  | N + 1, lk, M, o, h => fn_sound hX (okT23v1ur1 N R23v1) Tryd.func23 hb23 rfl en23 (by kernel_rfl) (ys := fun _ => some xRF23v1) (fun st y h => by injection h with h; subst h; exact fun lk M => ⟨rfl, rfl⟩) ((fsF23v1 N lk M).symm.trans h)
def cvce23v1n0 : List Cv := []
def selce23v1n0 : St → List Nat := fun _ => []
noncomputable def ce23v1n0 (Fx : TF23v1) (R : Type) (test : List AV → List Blk → Bool) : CE R := ⟨23, test, fun args M => some (selce23v1n0 ⟨argEnv 0 args, M, [], .unk⟩), fun args M k => tst (Nat.beq args.length 2) (callFn CX 0 cvce23v1n0 sgF23v1 selce23v1n0 (FFF23v1 Fx) elF23v1 args M k)⟩
theorem okce23v1n0 (Fx : TF23v1) (h : RecOkF23v1 Fx) (R : Type) (test : List AV → List Blk → Bool) : CeOk CX (ce23v1n0 Fx R test) := ce_ok hX (fun o k => by cases o; rfl) h en23 (fun args M ids h => by injection h with h; exact ⟨rfl, h.symm⟩)
end Go.Proofs.YtdennlgnbecojaaDoor

namespace Go.Proofs.YtdennlgnbecojaaDoor
open Go Go.Eng
set_option maxRecDepth 100000

/-! ### F10v1: ceiling/level.Region -/
inductive R10v1 where
  | r (x0 : Int)
abbrev TF10v1 := List Row → List Row → List Row → List Row → List Row → Int → Option R10v1
def sgF10v1 : LSh := ⟨[(0, .agg [.cell (.slice 58), .cell (.slice 74), .cell (.slice 45), .cell (.slice 113), .cell (.slice 117)]), (1, .one (.cell (.int .i64)))], []⟩
def FFF10v1 (Fx : TF10v1) (s : St) : Option R10v1 := Fx (((Eng.look s.env 0).cells.getD 0 .top).rows) (((Eng.look s.env 0).cells.getD 1 .top).rows) (((Eng.look s.env 0).cells.getD 2 .top).rows) (((Eng.look s.env 0).cells.getD 3 .top).rows) (((Eng.look s.env 0).cells.getD 4 .top).rows) ((Eng.look s.env 1).toI)
def valF10v1 (o : R10v1) : AV := match o with | .r x0 => .int .i64 x0
def memF10v1 (o : R10v1) : List Blk := match o with | .r x0 => []
def elF10v1 {R : Type} (o : R10v1) (k : AV → List Blk → Option R) : Option R := match o with | .r x0 => k (.int .i64 x0) []
def RecOkF10v1 (Fx : TF10v1) : Prop := ∀ lk M o, FFF10v1 Fx (canS sgF10v1 lk M) = some o → FCalls CX 10 0 (argsE 2 (canS sgF10v1 lk M).env) (canS sgF10v1 lk M).mem (valF10v1 o) (memF10v1 o)
noncomputable def csF10v1 (N : Nat) (R : Type) : List (CE R) := [ce23v1n0 (F23v1 N) R (fun _ _ => true)]
theorem hcsF10v1 (N : Nat) (R : Type) : AllE (CeOk CX) (csF10v1 N R) := ⟨okce23v1n0 (F23v1 N) (soundF23v1 N) R (fun _ _ => true), trivial⟩
noncomputable def T10v1us58 (N : Nat) (R : Type) : LTab R := mkTab ⟨31, 2147483647⟩ (csF10v1 N R) (noY) [] [] []
theorem okT10v1us58 (N : Nat) (R : Type) : (T10v1us58 N R).Ok CX code10 := mkTab_ok (hcsF10v1 N R) (noY_ok) (trivial) (trivial) (trivial)
def rs10v1i58f45 : List ResultVar := []
inductive OJ10v1i58f45a24 where
  | nx
  | x0
def J10v1i58f45a24 (N : Nat) : Int → Int → Option OJ10v1i58f45a24 := fun x4 x5 =>
    match decide ((0 : Int) ≤ x4) with
    | true =>
      match decide (x4 < x5) with
      | true =>
        some .nx
      | false =>
        some .x0
    | false =>
      some .x0
def LFJ10v1i58f45a24 (N : Nat) (s : St) : Option OJ10v1i58f45a24 := J10v1i58f45a24 N ((Eng.look s.env 4).toI) ((Eng.look s.env 5).toI)
def sgJ10v1i58f45a24 : LSh := ⟨[(4, .one (.cell (.int .i64))), (5, .one (.cell (.int .i64)))], []⟩
def ceJ10v1i58f45a24 : List Cv := []
def seJ10v1i58f45a24 : St → List Nat := fun _ => []
def xJ10v1i58f45a24wnx : XSh OJ10v1i58f45a24 := ⟨[], ⟨[], []⟩, fun _ => [], fun s => .nx ⟩
def xJ10v1i58f45a24wx0 : XSh OJ10v1i58f45a24 := ⟨[], ⟨[], []⟩, fun _ => [], fun s => .x0 ⟩
def xsJ10v1i58f45a24 : Ex → St → Option (XSh OJ10v1i58f45a24) := fun e st => match e with
  | .normal => some xJ10v1i58f45a24wnx
  | .exit 0 => some xJ10v1i58f45a24wx0
  | _ => none
def exJ10v1i58f45a24 (o : OJ10v1i58f45a24) : Ex := match o with | .nx => .normal | .x0 => (.exit 0)
def stJ10v1i58f45a24 (o : OJ10v1i58f45a24) : St := match o with | .nx => ⟨[], [], [], .unk⟩ | .x0 => ⟨[], [], [], .unk⟩
def elJ10v1i58f45a24 {R : Type} (o : OJ10v1i58f45a24) (k : Ex → St → Option R) : Option R := match o with | .nx => k .normal ⟨[], [], [], .unk⟩ | .x0 => k (.exit 0) ⟨[], [], [], .unk⟩
theorem heJ10v1i58f45a24 {R : Type} (o : OJ10v1i58f45a24) (k : Ex → St → Option R) : elJ10v1i58f45a24 o k = k (exJ10v1i58f45a24 o) (stJ10v1i58f45a24 o) := by cases o <;> rfl
theorem hxJ10v1i58f45a24 : ∀ e st x, xsJ10v1i58f45a24 e st = some x → outOk x e exJ10v1i58f45a24 stJ10v1i58f45a24 := by
  intro e st x h
  unfold xsJ10v1i58f45a24 at h
  repeat' split at h
  all_goals first
    | (injection h with h; subst h; exact fun lk M => ⟨rfl, rfl⟩)
    | cases h
noncomputable def T10v1i58f45uc24 (N : Nat) (R : Type) : LTab R := mkTab ⟨47, 260096⟩ (csF10v1 N R) (pickY [(2, fun id args M k => evyield CX (T10v1us58 N R) 2 58 id args M k)]) [] [] []
theorem okT10v1i58f45uc24 (N : Nat) (R : Type) : (T10v1i58f45uc24 N R).Ok CX code45 := mkTab_ok (hcsF10v1 N R) (pickY_ok (es := [(2, fun id args M k => evyield CX (T10v1us58 N R) 2 58 id args M k)]) ⟨fun {id args M k r} h => evyield_sound hX (okT10v1us58 N R) (g := nd2.1) (ps := nd2.2.1) ⟨[false, true, false, true, true], by rfl, by kernel_rfl⟩ h, trivial⟩) (trivial) (trivial) (trivial)
noncomputable def bdJ10v1i58f45a24 : Code := (codeAt code45 [false, false, false, true]).getD .skip
theorem hsJ10v1i58f45a24 (N : Nat) : ∀ (lk : Nat → AV) (M : List Blk), LFJ10v1i58f45a24 N (canS sgJ10v1i58f45a24 lk M) = evk CX (T10v1i58f45uc24 N OJ10v1i58f45a24) bdJ10v1i58f45a24 24 (canS sgJ10v1i58f45a24 lk M) (kontX CX 0 xsJ10v1i58f45a24) := by intro lk M; kernel_rfl
inductive OJ10v1i58f45a50 where
  | nx (b1c0 : List Row) (b1c1 : List Row) (b1c2 : List Row) (b1c3 : List Row) (b1c4 : List Row) (b2c0 : Int) (b3c0 : Int)
  | ret (b1c0 : List Row) (b1c1 : List Row) (b1c2 : List Row) (b1c3 : List Row) (b1c4 : List Row) (b2c0 : Int) (b3c0 : Int)
  | retw2 (b1c0 : List Row) (b1c1 : List Row) (b1c2 : List Row) (b1c3 : List Row) (b1c4 : List Row) (b2c0 : Int) (b3c0 : Int)
def J10v1i58f45a50 (N : Nat) : Int → List Row → List Row → List Row → List Row → List Row → Int → Int → Option OJ10v1i58f45a50 := fun x4 b1c0 b1c1 b1c2 b1c3 b1c4 b2c0 b3c0 =>
    tst (decide ((0 : Int) ≤ x4) && decide (x4 < ((b1c2.length : Int)))) <|
    match ((((b1c2.getD x4.toNat [])).getD 0 .top).toI) == (1 : Int) with
    | true =>
      some (.ret b1c0 b1c1 b1c2 b1c3 b1c4 b3c0 b3c0)
    | false =>
      tst (decide ((0 : Int) ≤ ((((b1c2.getD x4.toNat [])).getD 0 .top).toI)) && decide ((((b1c2.getD x4.toNat [])).getD 0 .top).toI < (256 : Int))) <|
      tst (decide (((0 + ((((((b1c2.getD x4.toNat [])).getD 0 .top).toI).toNat) * 1)) + 1) ≤ 256)) <|
      match ((gl0.getD (0 + ((((((b1c2.getD x4.toNat [])).getD 0 .top).toI).toNat) * 1)) .top).toI) == (0 : Int) with
      | true =>
        some (.ret b1c0 b1c1 b1c2 b1c3 b1c4 ((-1)) b3c0)
      | false =>
        tst (decide ((0 : Int) ≤ ((((b1c2.getD x4.toNat [])).getD 0 .top).toI)) && decide ((((b1c2.getD x4.toNat [])).getD 0 .top).toI < (256 : Int))) <|
        tst (decide (((0 + ((((((b1c2.getD x4.toNat [])).getD 0 .top).toI).toNat) * 1)) + 1) ≤ 256)) <|
        match ((((b1c2.getD x4.toNat [])).getD 0 .top).toI) == (1 : Int) with
        | true =>
          some (.retw2 b1c0 b1c1 b1c2 b1c3 b1c4 b2c0 (IntKind.wrap .i64 (b3c0 + (IntKind.wrap .i64 (((gl0.getD (0 + ((((((b1c2.getD x4.toNat [])).getD 0 .top).toI).toNat) * 1)) .top).toI) - (1 : Int))))))
        | false =>
          tst (decide ((0 : Int) ≤ ((((b1c2.getD x4.toNat [])).getD 0 .top).toI)) && decide ((((b1c2.getD x4.toNat [])).getD 0 .top).toI < (256 : Int))) <|
          tst (decide (((0 + ((((((b1c2.getD x4.toNat [])).getD 0 .top).toI).toNat) * 1)) + 1) ≤ 256)) <|
          match ((gl0.getD (0 + ((((((b1c2.getD x4.toNat [])).getD 0 .top).toI).toNat) * 1)) .top).toI) == (0 : Int) with
          | true =>
            some (.retw2 b1c0 b1c1 b1c2 b1c3 b1c4 b2c0 (IntKind.wrap .i64 (b3c0 + (IntKind.wrap .i64 (((gl0.getD (0 + ((((((b1c2.getD x4.toNat [])).getD 0 .top).toI).toNat) * 1)) .top).toI) - (1 : Int))))))
          | false =>
            some (.nx b1c0 b1c1 b1c2 b1c3 b1c4 b2c0 (IntKind.wrap .i64 (b3c0 + (IntKind.wrap .i64 (((gl0.getD (0 + ((((((b1c2.getD x4.toNat [])).getD 0 .top).toI).toNat) * 1)) .top).toI) - (1 : Int))))))
def LFJ10v1i58f45a50 (N : Nat) (s : St) : Option OJ10v1i58f45a50 := J10v1i58f45a50 N ((Eng.look s.env 4).toI) (((s.mem.getD 1 .dead).cells.getD 0 .top).rows) (((s.mem.getD 1 .dead).cells.getD 1 .top).rows) (((s.mem.getD 1 .dead).cells.getD 2 .top).rows) (((s.mem.getD 1 .dead).cells.getD 3 .top).rows) (((s.mem.getD 1 .dead).cells.getD 4 .top).rows) (((s.mem.getD 2 .dead).cells.getD 0 .top).toI) (((s.mem.getD 3 .dead).cells.getD 0 .top).toI)
def sgJ10v1i58f45a50 : LSh := ⟨[(0, .one (.yld 0)), (2, .one (.ptr 1 0 0)), (4, .one (.cell (.int .i64)))], [.loop 2 [(4, .one (.ptr 2 0 0)), (5, .one (.ptr 3 0 0))] none, .var [.any, .any, .any, .any, .any] [.cell (.slice 58), .cell (.slice 74), .cell (.slice 45), .cell (.slice 113), .cell (.slice 117)], .var [.int .i64] [.cell (.int .i64)], .var [.int .i64] [.cell (.int .i64)]]⟩
def ceJ10v1i58f45a50 : List Cv := []
def seJ10v1i58f45a50 : St → List Nat := fun st => [(Eng.look st.env 0).id, (Eng.look st.env 2).id, ((st.mem.getD ((Eng.look st.env 0).id) .dead).lenv.getD 0 (0, .top)).2.id, ((st.mem.getD ((Eng.look st.env 0).id) .dead).lenv.getD 1 (0, .top)).2.id]
def xJ10v1i58f45a50wnx : XSh OJ10v1i58f45a50 := ⟨[], ⟨[], [.loop 2 [(4, .one (.ptr 2 0 0)), (5, .one (.ptr 3 0 0))] none, .var [.any, .any, .any, .any, .any] [.cell (.slice 58), .cell (.slice 74), .cell (.slice 45), .cell (.slice 113), .cell (.slice 117)], .var [.int .i64] [.cell (.int .i64)], .var [.int .i64] [.cell (.int .i64)]]⟩, fun st => [0, 1, 2, 3], fun s => .nx (((s.mem.getD 1 .dead).cells.getD 0 .top).rows) (((s.mem.getD 1 .dead).cells.getD 1 .top).rows) (((s.mem.getD 1 .dead).cells.getD 2 .top).rows) (((s.mem.getD 1 .dead).cells.getD 3 .top).rows) (((s.mem.getD 1 .dead).cells.getD 4 .top).rows) (((s.mem.getD 2 .dead).cells.getD 0 .top).toI) (((s.mem.getD 3 .dead).cells.getD 0 .top).toI)⟩
def xJ10v1i58f45a50wret : XSh OJ10v1i58f45a50 := ⟨[], ⟨[], [.loop 2 [(4, .one (.ptr 2 0 0)), (5, .one (.ptr 3 0 0))] (some .ret), .var [.any, .any, .any, .any, .any] [.cell (.slice 58), .cell (.slice 74), .cell (.slice 45), .cell (.slice 113), .cell (.slice 117)], .var [.int .i64] [.cell (.int .i64)], .var [.int .i64] [.cell (.int .i64)]]⟩, fun st => [0, 1, 2, 3], fun s => .ret (((s.mem.getD 1 .dead).cells.getD 0 .top).rows) (((s.mem.getD 1 .dead).cells.getD 1 .top).rows) (((s.mem.getD 1 .dead).cells.getD 2 .top).rows) (((s.mem.getD 1 .dead).cells.getD 3 .top).rows) (((s.mem.getD 1 .dead).cells.getD 4 .top).rows) (((s.mem.getD 2 .dead).cells.getD 0 .top).toI) (((s.mem.getD 3 .dead).cells.getD 0 .top).toI)⟩
def xJ10v1i58f45a50wretw2 : XSh OJ10v1i58f45a50 := ⟨[], ⟨[], [.loop 2 [(4, .one (.ptr 2 0 0)), (5, .one (.ptr 3 0 0))] none, .var [.any, .any, .any, .any, .any] [.cell (.slice 58), .cell (.slice 74), .cell (.slice 45), .cell (.slice 113), .cell (.slice 117)], .var [.int .i64] [.cell (.int .i64)], .var [.int .i64] [.cell (.int .i64)]]⟩, fun st => [0, 1, 2, 3], fun s => .retw2 (((s.mem.getD 1 .dead).cells.getD 0 .top).rows) (((s.mem.getD 1 .dead).cells.getD 1 .top).rows) (((s.mem.getD 1 .dead).cells.getD 2 .top).rows) (((s.mem.getD 1 .dead).cells.getD 3 .top).rows) (((s.mem.getD 1 .dead).cells.getD 4 .top).rows) (((s.mem.getD 2 .dead).cells.getD 0 .top).toI) (((s.mem.getD 3 .dead).cells.getD 0 .top).toI)⟩
def xsJ10v1i58f45a50 : Ex → St → Option (XSh OJ10v1i58f45a50) := fun e st => match e with
  | .normal => some xJ10v1i58f45a50wnx
  | .ret => (match (okX ((st.mem.getD 0 .dead).pend) (some .ret)) with | true => some xJ10v1i58f45a50wret | false => some xJ10v1i58f45a50wretw2)
  | _ => none
def exJ10v1i58f45a50 (o : OJ10v1i58f45a50) : Ex := match o with | .nx b1c0 b1c1 b1c2 b1c3 b1c4 b2c0 b3c0 => .normal | .ret b1c0 b1c1 b1c2 b1c3 b1c4 b2c0 b3c0 => .ret | .retw2 b1c0 b1c1 b1c2 b1c3 b1c4 b2c0 b3c0 => .ret
def stJ10v1i58f45a50 (o : OJ10v1i58f45a50) : St := match o with | .nx b1c0 b1c1 b1c2 b1c3 b1c4 b2c0 b3c0 => ⟨[], [.loop 2 [(4, .ptr 2 0 0), (5, .ptr 3 0 0)] false none, .var [.any, .any, .any, .any, .any] [.list 58 b1c0, .list 74 b1c1, .list 45 b1c2, .list 113 b1c3, .list 117 b1c4], .var [.int .i64] [.int .i64 b2c0], .var [.int .i64] [.int .i64 b3c0]], [], .unk⟩ | .ret b1c0 b1c1 b1c2 b1c3 b1c4 b2c0 b3c0 => ⟨[], [.loop 2 [(4, .ptr 2 0 0), (5, .ptr 3 0 0)] false (some .ret), .var [.any, .any, .any, .any, .any] [.list 58 b1c0, .list 74 b1c1, .list 45 b1c2, .list 113 b1c3, .list 117 b1c4], .var [.int .i64] [.int .i64 b2c0], .var [.int .i64] [.int .i64 b3c0]], [], .unk⟩ | .retw2 b1c0 b1c1 b1c2 b1c3 b1c4 b2c0 b3c0 => ⟨[], [.loop 2 [(4, .ptr 2 0 0), (5, .ptr 3 0 0)] false none, .var [.any, .any, .any, .any, .any] [.list 58 b1c0, .list 74 b1c1, .list 45 b1c2, .list 113 b1c3, .list 117 b1c4], .var [.int .i64] [.int .i64 b2c0], .var [.int .i64] [.int .i64 b3c0]], [], .unk⟩
def elJ10v1i58f45a50 {R : Type} (o : OJ10v1i58f45a50) (k : Ex → St → Option R) : Option R := match o with | .nx b1c0 b1c1 b1c2 b1c3 b1c4 b2c0 b3c0 => k .normal ⟨[], [.loop 2 [(4, .ptr 2 0 0), (5, .ptr 3 0 0)] false none, .var [.any, .any, .any, .any, .any] [.list 58 b1c0, .list 74 b1c1, .list 45 b1c2, .list 113 b1c3, .list 117 b1c4], .var [.int .i64] [.int .i64 b2c0], .var [.int .i64] [.int .i64 b3c0]], [], .unk⟩ | .ret b1c0 b1c1 b1c2 b1c3 b1c4 b2c0 b3c0 => k .ret ⟨[], [.loop 2 [(4, .ptr 2 0 0), (5, .ptr 3 0 0)] false (some .ret), .var [.any, .any, .any, .any, .any] [.list 58 b1c0, .list 74 b1c1, .list 45 b1c2, .list 113 b1c3, .list 117 b1c4], .var [.int .i64] [.int .i64 b2c0], .var [.int .i64] [.int .i64 b3c0]], [], .unk⟩ | .retw2 b1c0 b1c1 b1c2 b1c3 b1c4 b2c0 b3c0 => k .ret ⟨[], [.loop 2 [(4, .ptr 2 0 0), (5, .ptr 3 0 0)] false none, .var [.any, .any, .any, .any, .any] [.list 58 b1c0, .list 74 b1c1, .list 45 b1c2, .list 113 b1c3, .list 117 b1c4], .var [.int .i64] [.int .i64 b2c0], .var [.int .i64] [.int .i64 b3c0]], [], .unk⟩
theorem heJ10v1i58f45a50 {R : Type} (o : OJ10v1i58f45a50) (k : Ex → St → Option R) : elJ10v1i58f45a50 o k = k (exJ10v1i58f45a50 o) (stJ10v1i58f45a50 o) := by cases o <;> rfl
theorem hxJ10v1i58f45a50 : ∀ e st x, xsJ10v1i58f45a50 e st = some x → outOk x e exJ10v1i58f45a50 stJ10v1i58f45a50 := by
  intro e st x h
  unfold xsJ10v1i58f45a50 at h
  repeat' split at h
  all_goals first
    | (injection h with h; subst h; exact fun lk M => ⟨rfl, rfl⟩)
    | cases h
noncomputable def T10v1i58f45uc50 (N : Nat) (R : Type) : LTab R := mkTab ⟨47, 140737454800960⟩ (csF10v1 N R) (pickY [(2, fun id args M k => evyield CX (T10v1us58 N R) 2 58 id args M k)]) [] [] []
theorem okT10v1i58f45uc50 (N : Nat) (R : Type) : (T10v1i58f45uc50 N R).Ok CX code45 := mkTab_ok (hcsF10v1 N R) (pickY_ok (es := [(2, fun id args M k => evyield CX (T10v1us58 N R) 2 58 id args M k)]) ⟨fun {id args M k r} h => evyield_sound hX (okT10v1us58 N R) (g := nd2.1) (ps := nd2.2.1) ⟨[false, true, false, true, true], by rfl, by kernel_rfl⟩ h, trivial⟩) (trivial) (trivial) (trivial)
noncomputable def bdJ10v1i58f45a50 : Code := (codeAt code45 [false, true, false, false, true]).getD .skip
theorem hsJ10v1i58f45a50 (N : Nat) : ∀ (lk : Nat → AV) (M : List Blk), LFJ10v1i58f45a50 N (canS sgJ10v1i58f45a50 lk M) = evk CX (T10v1i58f45uc50 N OJ10v1i58f45a50) bdJ10v1i58f45a50 50 (canS sgJ10v1i58f45a50 lk M) (kontX CX 4 xsJ10v1i58f45a50) := by intro lk M; kernel_rfl
inductive OL10v1i58f45a6 where
  | ret (b1c0 : List Row) (b1c1 : List Row) (b1c2 : List Row) (b1c3 : List Row) (b1c4 : List Row) (b2c0 : Int) (b3c0 : Int)
  | retw2 (b1c0 : List Row) (b1c1 : List Row) (b1c2 : List Row) (b1c3 : List Row) (b1c4 : List Row) (b2c0 : Int) (b3c0 : Int)
  | x0 (b1c0 : List Row) (b1c1 : List Row) (b1c2 : List Row) (b1c3 : List Row) (b1c4 : List Row) (b2c0 : Int) (b3c0 : Int)
def L10v1i58f45a6 (N : Nat) : Nat → Int → Int → List Row → List Row → List Row → List Row → List Row → Int → Int → Option OL10v1i58f45a6
  | 0 => fun _ _ _ _ _ _ _ _ _ => none
  | n + 1 => fun x4 x5 b1c0 b1c1 b1c2 b1c3 b1c4 b2c0 b3c0 =>
    match J10v1i58f45a24 N x4 x5 with
    | none => none
    | some (.nx) =>
      match J10v1i58f45a50 N x4 b1c0 b1c1 b1c2 b1c3 b1c4 b2c0 b3c0 with
      | none => none
      | some (.nx b1c0v3 b1c1v3 b1c2v3 b1c3v3 b1c4v3 b2c0v3 b3c0v3) =>
        tst (decide ((0 : Int) ≤ x4) && decide (x4 < ((b1c2v3.length : Int)))) <|
        L10v1i58f45a6 N n ((((b1c2v3.getD x4.toNat [])).getD 2 .top).toI) x4 b1c0v3 b1c1v3 b1c2v3 b1c3v3 b1c4v3 b2c0v3 b3c0v3
      | some (.ret b1c0v4 b1c1v4 b1c2v4 b1c3v4 b1c4v4 b2c0v4 b3c0v4) =>
        some (.ret b1c0v4 b1c1v4 b1c2v4 b1c3v4 b1c4v4 b2c0v4 b3c0v4)
      | some (.retw2 b1c0v5 b1c1v5 b1c2v5 b1c3v5 b1c4v5 b2c0v5 b3c0v5) =>
        some (.retw2 b1c0v5 b1c1v5 b1c2v5 b1c3v5 b1c4v5 b2c0v5 b3c0v5)
    | some (.x0) =>
      some (.x0 b1c0 b1c1 b1c2 b1c3 b1c4 b2c0 b3c0)
def LFL10v1i58f45a6 (N : Nat) (n : Nat) (s : St) : Option OL10v1i58f45a6 := L10v1i58f45a6 N n ((Eng.look s.env 4).toI) ((Eng.look s.env 5).toI) (((s.mem.getD 1 .dead).cells.getD 0 .top).rows) (((s.mem.getD 1 .dead).cells.getD 1 .top).rows) (((s.mem.getD 1 .dead).cells.getD 2 .top).rows) (((s.mem.getD 1 .dead).cells.getD 3 .top).rows) (((s.mem.getD 1 .dead).cells.getD 4 .top).rows) (((s.mem.getD 2 .dead).cells.getD 0 .top).toI) (((s.mem.getD 3 .dead).cells.getD 0 .top).toI)
def sgL10v1i58f45a6 : LSh := ⟨[(0, .one (.yld 0)), (2, .one (.ptr 1 0 0)), (4, .one (.cell (.int .i64))), (5, .one (.cell (.int .i64)))], [.loop 2 [(4, .one (.ptr 2 0 0)), (5, .one (.ptr 3 0 0))] none, .var [.any, .any, .any, .any, .any] [.cell (.slice 58), .cell (.slice 74), .cell (.slice 45), .cell (.slice 113), .cell (.slice 117)], .var [.int .i64] [.cell (.int .i64)], .var [.int .i64] [.cell (.int .i64)]]⟩
def ceL10v1i58f45a6 : List Cv := []
def seL10v1i58f45a6 : St → List Nat := fun st => [(Eng.look st.env 0).id, (Eng.look st.env 2).id, ((st.mem.getD ((Eng.look st.env 0).id) .dead).lenv.getD 0 (0, .top)).2.id, ((st.mem.getD ((Eng.look st.env 0).id) .dead).lenv.getD 1 (0, .top)).2.id]
def xL10v1i58f45a6wret : XSh OL10v1i58f45a6 := ⟨[], ⟨[], [.loop 2 [(4, .one (.ptr 2 0 0)), (5, .one (.ptr 3 0 0))] (some .ret), .var [.any, .any, .any, .any, .any] [.cell (.slice 58), .cell (.slice 74), .cell (.slice 45), .cell (.slice 113), .cell (.slice 117)], .var [.int .i64] [.cell (.int .i64)], .var [.int .i64] [.cell (.int .i64)]]⟩, fun st => [0, 1, 2, 3], fun s => .ret (((s.mem.getD 1 .dead).cells.getD 0 .top).rows) (((s.mem.getD 1 .dead).cells.getD 1 .top).rows) (((s.mem.getD 1 .dead).cells.getD 2 .top).rows) (((s.mem.getD 1 .dead).cells.getD 3 .top).rows) (((s.mem.getD 1 .dead).cells.getD 4 .top).rows) (((s.mem.getD 2 .dead).cells.getD 0 .top).toI) (((s.mem.getD 3 .dead).cells.getD 0 .top).toI)⟩
def xL10v1i58f45a6wretw2 : XSh OL10v1i58f45a6 := ⟨[], ⟨[], [.loop 2 [(4, .one (.ptr 2 0 0)), (5, .one (.ptr 3 0 0))] none, .var [.any, .any, .any, .any, .any] [.cell (.slice 58), .cell (.slice 74), .cell (.slice 45), .cell (.slice 113), .cell (.slice 117)], .var [.int .i64] [.cell (.int .i64)], .var [.int .i64] [.cell (.int .i64)]]⟩, fun st => [0, 1, 2, 3], fun s => .retw2 (((s.mem.getD 1 .dead).cells.getD 0 .top).rows) (((s.mem.getD 1 .dead).cells.getD 1 .top).rows) (((s.mem.getD 1 .dead).cells.getD 2 .top).rows) (((s.mem.getD 1 .dead).cells.getD 3 .top).rows) (((s.mem.getD 1 .dead).cells.getD 4 .top).rows) (((s.mem.getD 2 .dead).cells.getD 0 .top).toI) (((s.mem.getD 3 .dead).cells.getD 0 .top).toI)⟩
def xL10v1i58f45a6wx0 : XSh OL10v1i58f45a6 := ⟨[], ⟨[], [.loop 2 [(4, .one (.ptr 2 0 0)), (5, .one (.ptr 3 0 0))] none, .var [.any, .any, .any, .any, .any] [.cell (.slice 58), .cell (.slice 74), .cell (.slice 45), .cell (.slice 113), .cell (.slice 117)], .var [.int .i64] [.cell (.int .i64)], .var [.int .i64] [.cell (.int .i64)]]⟩, fun st => [0, 1, 2, 3], fun s => .x0 (((s.mem.getD 1 .dead).cells.getD 0 .top).rows) (((s.mem.getD 1 .dead).cells.getD 1 .top).rows) (((s.mem.getD 1 .dead).cells.getD 2 .top).rows) (((s.mem.getD 1 .dead).cells.getD 3 .top).rows) (((s.mem.getD 1 .dead).cells.getD 4 .top).rows) (((s.mem.getD 2 .dead).cells.getD 0 .top).toI) (((s.mem.getD 3 .dead).cells.getD 0 .top).toI)⟩
def xsL10v1i58f45a6 : Ex → St → Option (XSh OL10v1i58f45a6) := fun e st => match e with
  | .ret => (match (okX ((st.mem.getD 0 .dead).pend) (some .ret)) with | true => some xL10v1i58f45a6wret | false => some xL10v1i58f45a6wretw2)
  | .exit 0 => some xL10v1i58f45a6wx0
  | _ => none
def exL10v1i58f45a6 (o : OL10v1i58f45a6) : Ex := match o with | .ret b1c0 b1c1 b1c2 b1c3 b1c4 b2c0 b3c0 => .ret | .retw2 b1c0 b1c1 b1c2 b1c3 b1c4 b2c0 b3c0 => .ret | .x0 b1c0 b1c1 b1c2 b1c3 b1c4 b2c0 b3c0 => (.exit 0)
def stL10v1i58f45a6 (o : OL10v1i58f45a6) : St := match o with | .ret b1c0 b1c1 b1c2 b1c3 b1c4 b2c0 b3c0 => ⟨[], [.loop 2 [(4, .ptr 2 0 0), (5, .ptr 3 0 0)] false (some .ret), .var [.any, .any, .any, .any, .any] [.list 58 b1c0, .list 74 b1c1, .list 45 b1c2, .list 113 b1c3, .list 117 b1c4], .var [.int .i64] [.int .i64 b2c0], .var [.int .i64] [.int .i64 b3c0]], [], .unk⟩ | .retw2 b1c0 b1c1 b1c2 b1c3 b1c4 b2c0 b3c0 => ⟨[], [.loop 2 [(4, .ptr 2 0 0), (5, .ptr 3 0 0)] false none, .var [.any, .any, .any, .any, .any] [.list 58 b1c0, .list 74 b1c1, .list 45 b1c2, .list 113 b1c3, .list 117 b1c4], .var [.int .i64] [.int .i64 b2c0], .var [.int .i64] [.int .i64 b3c0]], [], .unk⟩ | .x0 b1c0 b1c1 b1c2 b1c3 b1c4 b2c0 b3c0 => ⟨[], [.loop 2 [(4, .ptr 2 0 0), (5, .ptr 3 0 0)] false none, .var [.any, .any, .any, .any, .any] [.list 58 b1c0, .list 74 b1c1, .list 45 b1c2, .list 113 b1c3, .list 117 b1c4], .var [.int .i64] [.int .i64 b2c0], .var [.int .i64] [.int .i64 b3c0]], [], .unk⟩
def elL10v1i58f45a6 {R : Type} (o : OL10v1i58f45a6) (k : Ex → St → Option R) : Option R := match o with | .ret b1c0 b1c1 b1c2 b1c3 b1c4 b2c0 b3c0 => k .ret ⟨[], [.loop 2 [(4, .ptr 2 0 0), (5, .ptr 3 0 0)] false (some .ret), .var [.any, .any, .any, .any, .any] [.list 58 b1c0, .list 74 b1c1, .list 45 b1c2, .list 113 b1c3, .list 117 b1c4], .var [.int .i64] [.int .i64 b2c0], .var [.int .i64] [.int .i64 b3c0]], [], .unk⟩ | .retw2 b1c0 b1c1 b1c2 b1c3 b1c4 b2c0 b3c0 => k .ret ⟨[], [.loop 2 [(4, .ptr 2 0 0), (5, .ptr 3 0 0)] false none, .var [.any, .any, .any, .any, .any] [.list 58 b1c0, .list 74 b1c1, .list 45 b1c2, .list 113 b1c3, .list 117 b1c4], .var [.int .i64] [.int .i64 b2c0], .var [.int .i64] [.int .i64 b3c0]], [], .unk⟩ | .x0 b1c0 b1c1 b1c2 b1c3 b1c4 b2c0 b3c0 => k (.exit 0) ⟨[], [.loop 2 [(4, .ptr 2 0 0), (5, .ptr 3 0 0)] false none, .var [.any, .any, .any, .any, .any] [.list 58 b1c0, .list 74 b1c1, .list 45 b1c2, .list 113 b1c3, .list 117 b1c4], .var [.int .i64] [.int .i64 b2c0], .var [.int .i64] [.int .i64 b3c0]], [], .unk⟩
theorem heL10v1i58f45a6 {R : Type} (o : OL10v1i58f45a6) (k : Ex → St → Option R) : elL10v1i58f45a6 o k = k (exL10v1i58f45a6 o) (stL10v1i58f45a6 o) := by cases o <;> rfl
theorem hxL10v1i58f45a6 : ∀ e st x, xsL10v1i58f45a6 e st = some x → outOk x e exL10v1i58f45a6 stL10v1i58f45a6 := by
  intro e st x h
  unfold xsL10v1i58f45a6 at h
  repeat' split at h
  all_goals first
    | (injection h with h; subst h; exact fun lk M => ⟨rfl, rfl⟩)
    | cases h
noncomputable def T10v1i58f45ul6 (N : Nat) (R : Type) : LTab R := mkTab ⟨47, 140737488353392⟩ (csF10v1 N R) (pickY [(2, fun id args M k => evyield CX (T10v1us58 N R) 2 58 id args M k)]) [] [] [(24, fun st k => callLoop CX 0 260096 ceJ10v1i58f45a24 sgJ10v1i58f45a24 seJ10v1i58f45a24 ⟨47, 140737488353392⟩ (LFJ10v1i58f45a24 N) elJ10v1i58f45a24 st k), (50, fun st k => callLoop CX 4 140737454800960 ceJ10v1i58f45a50 sgJ10v1i58f45a50 seJ10v1i58f45a50 ⟨47, 140737488353392⟩ (LFJ10v1i58f45a50 N) elJ10v1i58f45a50 st k)]
theorem okT10v1i58f45ul6 (N : Nat) (R : Type) : (T10v1i58f45ul6 N R).Ok CX code45 := mkTab_ok (hcsF10v1 N R) (pickY_ok (es := [(2, fun id args M k => evyield CX (T10v1us58 N R) 2 58 id args M k)]) ⟨fun {id args M k r} h => evyield_sound hX (okT10v1us58 N R) (g := nd2.1) (ps := nd2.2.1) ⟨[false, true, false, true, true], by rfl, by kernel_rfl⟩ h, trivial⟩) (trivial) (trivial) (⟨cut_ok hX (path := [false, false, false, true]) (by kernel_rfl) (by rfl) (okT10v1i58f45uc24 N OJ10v1i58f45a24) (hsJ10v1i58f45a24 N) hxJ10v1i58f45a24 rfl heJ10v1i58f45a24, cut_ok hX (path := [false, true, false, false, true]) (by kernel_rfl) (by rfl) (okT10v1i58f45uc50 N OJ10v1i58f45a50) (hsJ10v1i58f45a50 N) hxJ10v1i58f45a50 rfl heJ10v1i58f45a50, trivial⟩)
noncomputable def bdL10v1i58f45a6 : Code := match codeAt code45 [false, true] with | some (.loop c) => c | _ => .skip
theorem hsL10v1i58f45a6 (N : Nat) : ∀ (n : Nat) (lk : Nat → AV) (M : List Blk), LFL10v1i58f45a6 N (n + 1) (canS sgL10v1i58f45a6 lk M) = evk CX (T10v1i58f45ul6 N OL10v1i58f45a6) bdL10v1i58f45a6 (2 * 6) (canS sgL10v1i58f45a6 lk M) (kont CX 4 [] sgL10v1i58f45a6 (fun st => [0, 1, 2, 3]) xsL10v1i58f45a6 (LFL10v1i58f45a6 N n)) := by intro n lk M; kernel_rfl
noncomputable def T10v1i58f45ur1 (N : Nat) (R : Type) : LTab R := mkTab ⟨47, 140737488355327⟩ (csF10v1 N R) (pickY [(2, fun id args M k => evyield CX (T10v1us58 N R) 2 58 id args M k)]) [(6, fun st k => callLoop CX 4 140737488353392 ceL10v1i58f45a6 sgL10v1i58f45a6 seL10v1i58f45a6 ⟨47, 140737488355327⟩ (LFL10v1i58f45a6 N N) elL10v1i58f45a6 st k)] [] []
theorem okT10v1i58f45ur1 (N : Nat) (R : Type) : (T10v1i58f45ur1 N R).Ok CX code45 := mkTab_ok (hcsF10v1 N R) (pickY_ok (es := [(2, fun id args M k => evyield CX (T10v1us58 N R) 2 58 id args M k)]) ⟨fun {id args M k r} h => evyield_sound hX (okT10v1us58 N R) (g := nd2.1) (ps := nd2.2.1) ⟨[false, true, false, true, true], by rfl, by kernel_rfl⟩ h, trivial⟩) (⟨loop_ok hX (path := [false, true]) (by kernel_rfl) (by rfl) (okT10v1i58f45ul6 N OL10v1i58f45a6) (fun _ _ => rfl) (hsL10v1i58f45a6 N) hxL10v1i58f45a6 rfl heL10v1i58f45a6, trivial⟩) (trivial) (trivial)
noncomputable def T10v1ur1 (N : Nat) (R : Type) : LTab R := mkTab ⟨31, 2147483647⟩ (csF10v1 N R) (noY) [] [(58, fun st k => evrange CX (oneTab ⟨31, 2147483647⟩ (inl 45 (fun args M k => evfn CX (T10v1i58f45ur1 N R) code45 rs10v1i58f45 args M k))) 2 [4, 5] (.tmp 10) st k)] []
theorem okT10v1ur1 (N : Nat) (R : Type) : (T10v1ur1 N R).Ok CX code10 := mkTab_ok (hcsF10v1 N R) (noY_ok) (trivial) (⟨range_ok hX (path := [false, true, false, true, true]) (ps0 := nd2.2.1) (a0 := nd2.2.2.1) (b0 := nd2.2.2.2) (by kernel_rfl) (by rfl) (inl_ok fun {args M k r} h => evfn_sound hX (okT10v1i58f45ur1 N R) Tryd.func45 hb45 rfl en45 (by kernel_rfl) h) (by kernel_rfl), trivial⟩) (trivial)
def rsF10v1 : List ResultVar := [.cell 4 3]
def F10v1 : Nat → TF10v1
  | 0 => fun _ _ _ _ _ _ => none
  | N + 1 => fun x0c0 x0c1 x0c2 x0c3 x0c4 x1 =>
    match F23v1 N x0c0 x0c1 x0c2 x0c3 x0c4 x1 with
    | none => none
    | some (.r rb0c0v1 rb1c0v1 rb1c1v1 rb1c2v1 rb1c3v1 rb1c4v1) =>
      match L10v1i58f45a6 N N rb0c0v1 ((rb1c2v1.length : Int)) rb1c0v1 rb1c1v1 rb1c2v1 rb1c3v1 rb1c4v1 0 0 with
      | none => none
      | some (.ret b1c0v7 b1c1v7 b1c2v7 b1c3v7 b1c4v7 b2c0v7 b3c0v7) =>
        some (.r b2c0v7)
      | some (.retw2 b1c0v8 b1c1v8 b1c2v8 b1c3v8 b1c4v8 b2c0v8 b3c0v8) =>
        some (.r ((-1)))
      | some (.x0 b1c0v9 b1c1v9 b1c2v9 b1c3v9 b1c4v9 b2c0v9 b3c0v9) =>
        some (.r ((-1)))
def xRF10v1 : XSh R10v1 := ⟨[], ⟨[(0, .one (.cell (.int .i64)))], []⟩, fun _ => [], fun s => .r ((Eng.look s.env 0).toI)⟩
theorem fsF10v1 : ∀ (N : Nat) (lk : Nat → AV) (M : List Blk), FFF10v1 (F10v1 (N + 1)) (canS sgF10v1 lk M) = evfn CX (T10v1ur1 N R10v1) code10 rsF10v1 (argsE 2 (canS sgF10v1 lk M).env) (canS sgF10v1 lk M).mem (goR CX 0 (fun _ => some xRF10v1)) := by intro N lk M; kernel_rfl
theorem soundF10v1 : ∀ N, RecOkF10v1 (F10v1 N)
  | 0, lk, M, o, h => by cases h
  | N + 1, lk, M, o, h => fn_sound hX (okT10v1ur1 N R10v1) Tryd.func10 hb10 rfl en10 (by kernel_rfl) (ys := fun _ => some xRF10v1) (fun st y h => by injection h with h; subst h; exact fun lk M => ⟨rfl, rfl⟩) ((fsF10v1 N lk M).symm.trans h)
def cvce10v1n0 : List Cv := []
def selce10v1n0 : St → List Nat := fun _ => []
noncomputable def ce10v1n0 (Fx : TF10v1) (R : Type) (test : List AV → List Blk → Bool) : CE R := ⟨10, test, fun args M => some (selce10v1n0 ⟨argEnv 0 args, M, [], .unk⟩), fun args M k => tst (Nat.beq args.length 2) (callFn CX 0 cvce10v1n0 sgF10v1 selce10v1n0 (FFF10v1 Fx) elF10v1 args M k)⟩
theorem okce10v1n0 (Fx : TF10v1) (h : RecOkF10v1 Fx) (R : Type) (test : List AV → List Blk → Bool) : CeOk CX (ce10v1n0 Fx R test) := ce_ok hX (fun o k => by cases o; rfl) h en10 (fun args M ids h => by injection h with h; exact ⟨rfl, h.symm⟩)
end Go.Proofs.YtdennlgnbecojaaDoor

namespace Go.Proofs.YtdennlgnbecojaaDoor
open Go Go.Eng
set_option maxRecDepth 100000

/-! ### F24: ceiling/ceilingref12.is -/
inductive R24 where
  | r (x0 : Bool)
abbrev TF24 := List Row → List Row → List Row → List Row → List Row → Int → Option R24
def sgF24 : LSh := ⟨[(0, .agg [.cell (.slice 58), .cell (.slice 74), .cell (.slice 45), .cell (.slice 113), .cell (.slice 117)]), (1, .one (.cell (.int .i64)))], []⟩
def FFF24 (Fx : TF24) (s : St) : Option R24 := Fx (((Eng.look s.env 0).cells.getD 0 .top).rows) (((Eng.look s.env 0).cells.getD 1 .top).rows) (((Eng.look s.env 0).cells.getD 2 .top).rows) (((Eng.look s.env 0).cells.getD 3 .top).rows) (((Eng.look s.env 0).cells.getD 4 .top).rows) ((Eng.look s.env 1).toI)
def valF24 (o : R24) : AV := match o with | .r x0 => .bool x0
def memF24 (o : R24) : List Blk := match o with | .r x0 => []
def elF24 {R : Type} (o : R24) (k : AV → List Blk → Option R) : Option R := match o with | .r x0 => k (.bool x0) []
def RecOkF24 (Fx : TF24) : Prop := ∀ lk M o, FFF24 Fx (canS sgF24 lk M) = some o → FCalls CX 24 0 (argsE 2 (canS sgF24 lk M).env) (canS sgF24 lk M).mem (valF24 o) (memF24 o)
noncomputable def csF24 (N : Nat) (R : Type) : List (CE R) := []
theorem hcsF24 (N : Nat) (R : Type) : AllE (CeOk CX) (csF24 N R) := trivial
noncomputable def T24ur1 (N : Nat) (R : Type) : LTab R := mkTab ⟨14, 16383⟩ (csF24 N R) (noY) [] [] []
theorem okT24ur1 (N : Nat) (R : Type) : (T24ur1 N R).Ok CX code24 := mkTab_ok (hcsF24 N R) (noY_ok) (trivial) (trivial) (trivial)
def rsF24 : List ResultVar := [.tmp 4]
def F24 : Nat → TF24
  | 0 => fun _ _ _ _ _ _ => none
  | N + 1 => fun x0c0 x0c1 x0c2 x0c3 x0c4 x1 =>
    match decide ((0 : Int) ≤ x1) with
    | true =>
      some (.r (decide (x1 < ((x0c2.length : Int)))))
    | false =>
      some (.r false)
def xRF24 : XSh R24 := ⟨[], ⟨[(0, .one (.cell (.bool)))], []⟩, fun _ => [], fun s => .r ((Eng.look s.env 0).toB)⟩
theorem fsF24 : ∀ (N : Nat) (lk : Nat → AV) (M : List Blk), FFF24 (F24 (N + 1)) (canS sgF24 lk M) = evfn CX (T24ur1 N R24) code24 rsF24 (argsE 2 (canS sgF24 lk M).env) (canS sgF24 lk M).mem (goR CX 0 (fun _ => some xRF24)) := by intro N lk M; kernel_rfl
theorem soundF24 : ∀ N, RecOkF24 (F24 N)
  | 0, lk, M, o, h => by cases h
  | N + 1, lk, M, o, h => fn_sound hX (okT24ur1 N R24) Tryd.func24 hb24 rfl en24 (by kernel_rfl) (ys := fun _ => some xRF24) (fun st y h => by injection h with h; subst h; exact fun lk M => ⟨rfl, rfl⟩) ((fsF24 N lk M).symm.trans h)
def cvce24n0 : List Cv := []
def selce24n0 : St → List Nat := fun _ => []
noncomputable def ce24n0 (Fx : TF24) (R : Type) (test : List AV → List Blk → Bool) : CE R := ⟨24, test, fun args M => some (selce24n0 ⟨argEnv 0 args, M, [], .unk⟩), fun args M k => tst (Nat.beq args.length 2) (callFn CX 0 cvce24n0 sgF24 selce24n0 (FFF24 Fx) elF24 args M k)⟩
theorem okce24n0 (Fx : TF24) (h : RecOkF24 Fx) (R : Type) (test : List AV → List Blk → Bool) : CeOk CX (ce24n0 Fx R test) := ce_ok hX (fun o k => by cases o; rfl) h en24 (fun args M ids h => by injection h with h; exact ⟨rfl, h.symm⟩)
end Go.Proofs.YtdennlgnbecojaaDoor

namespace Go.Proofs.YtdennlgnbecojaaDoor
open Go Go.Eng
set_option maxRecDepth 100000

/-! ### F25: ceiling/ceilingref12.plain -/
inductive R25 where
  | r (x0 : Bool)
abbrev TF25 := Int → Option R25
def sgF25 : LSh := ⟨[(0, .one (.cell (.int .u8)))], []⟩
def FFF25 (Fx : TF25) (s : St) : Option R25 := Fx ((Eng.look s.env 0).toI)
def valF25 (o : R25) : AV := match o with | .r x0 => .bool x0
def memF25 (o : R25) : List Blk := match o with | .r x0 => []
def elF25 {R : Type} (o : R25) (k : AV → List Blk → Option R) : Option R := match o with | .r x0 => k (.bool x0) []
def RecOkF25 (Fx : TF25) : Prop := ∀ lk M o, FFF25 Fx (canS sgF25 lk M) = some o → FCalls CX 25 0 (argsE 1 (canS sgF25 lk M).env) (canS sgF25 lk M).mem (valF25 o) (memF25 o)
noncomputable def csF25 (N : Nat) (R : Type) : List (CE R) := []
theorem hcsF25 (N : Nat) (R : Type) : AllE (CeOk CX) (csF25 N R) := trivial
noncomputable def T25ur1 (N : Nat) (R : Type) : LTab R := mkTab ⟨25, 33554431⟩ (csF25 N R) (noY) [] [] []
theorem okT25ur1 (N : Nat) (R : Type) : (T25ur1 N R).Ok CX code25 := mkTab_ok (hcsF25 N R) (noY_ok) (trivial) (trivial) (trivial)
def rsF25 : List ResultVar := [.tmp 2]
def F25 : Nat → TF25
  | 0 => fun _ => none
  | N + 1 => fun x0 =>
    match x0 == (3 : Int) with
    | true =>
      some (.r true)
    | false =>
      match x0 == (4 : Int) with
      | true =>
        some (.r true)
      | false =>
        match x0 == (12 : Int) with
        | true =>
          some (.r true)
        | false =>
          match x0 == (14 : Int) with
          | true =>
            some (.r true)
          | false =>
            match x0 == (18 : Int) with
            | true =>
              some (.r true)
            | false =>
              some (.r (x0 == (17 : Int)))
def xRF25 : XSh R25 := ⟨[], ⟨[(0, .one (.cell (.bool)))], []⟩, fun _ => [], fun s => .r ((Eng.look s.env 0).toB)⟩
theorem fsF25 : ∀ (N : Nat) (lk : Nat → AV) (M : List Blk), FFF25 (F25 (N + 1)) (canS sgF25 lk M) = evfn CX (T25ur1 N R25) code25 rsF25 (argsE 1 (canS sgF25 lk M).env) (canS sgF25 lk M).mem (goR CX 0 (fun _ => some xRF25)) := by intro N lk M; kernel_rfl
theorem soundF25 : ∀ N, RecOkF25 (F25 N)
  | 0, lk, M, o, h => by cases h
  | N + 1, lk, M, o, h => fn_sound hX (okT25ur1 N R25) Tryd.func25 hb25 rfl en25 (by kernel_rfl) (ys := fun _ => some xRF25) (fun st y h => by injection h with h; subst h; exact fun lk M => ⟨rfl, rfl⟩) ((fsF25 N lk M).symm.trans h)
def cvce25n0 : List Cv := []
def selce25n0 : St → List Nat := fun _ => []
noncomputable def ce25n0 (Fx : TF25) (R : Type) (test : List AV → List Blk → Bool) : CE R := ⟨25, test, fun args M => some (selce25n0 ⟨argEnv 0 args, M, [], .unk⟩), fun args M k => tst (Nat.beq args.length 1) (callFn CX 0 cvce25n0 sgF25 selce25n0 (FFF25 Fx) elF25 args M k)⟩
theorem okce25n0 (Fx : TF25) (h : RecOkF25 Fx) (R : Type) (test : List AV → List Blk → Bool) : CeOk CX (ce25n0 Fx R test) := ce_ok hX (fun o k => by cases o; rfl) h en25 (fun args M ids h => by injection h with h; exact ⟨rfl, h.symm⟩)
end Go.Proofs.YtdennlgnbecojaaDoor

namespace Go.Proofs.YtdennlgnbecojaaDoor
open Go Go.Eng
set_option maxRecDepth 100000

/-! ### F11: ceiling/ceilingref12.Region -/
inductive R11 where
  | r (x0 : Int)
abbrev TF11 := List Row → List Row → List Row → List Row → List Row → Int → Option R11
def sgF11 : LSh := ⟨[(0, .agg [.cell (.slice 58), .cell (.slice 74), .cell (.slice 45), .cell (.slice 113), .cell (.slice 117)]), (1, .one (.cell (.int .i64)))], []⟩
def FFF11 (Fx : TF11) (s : St) : Option R11 := Fx (((Eng.look s.env 0).cells.getD 0 .top).rows) (((Eng.look s.env 0).cells.getD 1 .top).rows) (((Eng.look s.env 0).cells.getD 2 .top).rows) (((Eng.look s.env 0).cells.getD 3 .top).rows) (((Eng.look s.env 0).cells.getD 4 .top).rows) ((Eng.look s.env 1).toI)
def valF11 (o : R11) : AV := match o with | .r x0 => .int .i64 x0
def memF11 (o : R11) : List Blk := match o with | .r x0 => []
def elF11 {R : Type} (o : R11) (k : AV → List Blk → Option R) : Option R := match o with | .r x0 => k (.int .i64 x0) []
def RecOkF11 (Fx : TF11) : Prop := ∀ lk M o, FFF11 Fx (canS sgF11 lk M) = some o → FCalls CX 11 0 (argsE 2 (canS sgF11 lk M).env) (canS sgF11 lk M).mem (valF11 o) (memF11 o)
def cvce11n0 : List Cv := []
def selce11n0 : St → List Nat := fun _ => []
noncomputable def ce11n0 (Fx : TF11) (R : Type) (test : List AV → List Blk → Bool) : CE R := ⟨11, test, fun args M => some (selce11n0 ⟨argEnv 0 args, M, [], .unk⟩), fun args M k => tst (Nat.beq args.length 2) (callFn CX 0 cvce11n0 sgF11 selce11n0 (FFF11 Fx) elF11 args M k)⟩
theorem okce11n0 (Fx : TF11) (h : RecOkF11 Fx) (R : Type) (test : List AV → List Blk → Bool) : CeOk CX (ce11n0 Fx R test) := ce_ok hX (fun o k => by cases o; rfl) h en11 (fun args M ids h => by injection h with h; exact ⟨rfl, h.symm⟩)
noncomputable def csF11 (rec : TF11) (N : Nat) (R : Type) : List (CE R) := [ce11n0 rec R (fun _ _ => true), ce24n0 (F24 N) R (fun _ _ => true), ce25n0 (F25 N) R (fun _ _ => true)]
theorem hcsF11 (rec : TF11) (hrec : RecOkF11 rec) (N : Nat) (R : Type) : AllE (CeOk CX) (csF11 rec N R) := ⟨okce11n0 rec hrec R (fun _ _ => true), okce24n0 (F24 N) (soundF24 N) R (fun _ _ => true), okce25n0 (F25 N) (soundF25 N) R (fun _ _ => true), trivial⟩
inductive OJ11a62 where
  | nx (b0c0 : Int) (b0c1 : ByteArray) (b0c2 : Int) (b0c3 : Int) (b0c4 : Int) (b0c5 : Int) (b0c6 : List Row) (b0c7 : Int) (b0c8 : Bool) (b0c9 : Int) (b0c10 : Int) (b0c11 : Bool) (b0c12 : Bool) (b0c13 : Int) (b0c14 : Int) (b0c15 : Int) (b0c16 : Int) (b0c17 : Bool) (b0c18 : Bool) (b0c19 : Int) (b0c20 : Int) (b0c21 : Int)
  | ret (x4 : Int) (b0c0 : Int) (b0c1 : ByteArray) (b0c2 : Int) (b0c3 : Int) (b0c4 : Int) (b0c5 : Int) (b0c6 : List Row) (b0c7 : Int) (b0c8 : Bool) (b0c9 : Int) (b0c10 : Int) (b0c11 : Bool) (b0c12 : Bool) (b0c13 : Int) (b0c14 : Int) (b0c15 : Int) (b0c16 : Int) (b0c17 : Bool) (b0c18 : Bool) (b0c19 : Int) (b0c20 : Int) (b0c21 : Int)
def J11a62 (rec : TF11) (N : Nat) : Int → Int → ByteArray → Int → Int → Int → Int → List Row → Int → Bool → Int → Int → Bool → Bool → Int → Int → Int → Int → Bool → Bool → Int → Int → Int → Option OJ11a62 := fun x1 b0c0 b0c1 b0c2 b0c3 b0c4 b0c5 b0c6 b0c7 b0c8 b0c9 b0c10 b0c11 b0c12 b0c13 b0c14 b0c15 b0c16 b0c17 b0c18 b0c19 b0c20 b0c21 =>
    match decide (b0c2 < (0 : Int)) with
    | true =>
      some (.ret ((-1)) b0c0 b0c1 b0c2 b0c3 b0c4 b0c5 b0c6 b0c7 b0c8 b0c9 b0c10 b0c11 b0c12 b0c13 b0c14 b0c15 b0c16 b0c17 b0c18 b0c19 b0c20 b0c21)
    | false =>
      match decide (x1 ≤ b0c2) with
      | true =>
        some (.ret ((-1)) b0c0 b0c1 b0c2 b0c3 b0c4 b0c5 b0c6 b0c7 b0c8 b0c9 b0c10 b0c11 b0c12 b0c13 b0c14 b0c15 b0c16 b0c17 b0c18 b0c19 b0c20 b0c21)
      | false =>
        some (.nx b0c0 b0c1 b0c2 b0c3 b0c4 b0c5 b0c6 b0c7 b0c8 b0c9 b0c10 b0c11 b0c12 b0c13 b0c14 b0c15 b0c16 b0c17 b0c18 b0c19 b0c20 b0c21)
def LFJ11a62 (rec : TF11) (N : Nat) (s : St) : Option OJ11a62 := J11a62 rec N ((Eng.look s.env 1).toI) (((s.mem.getD 0 .dead).cells.getD 0 .top).toI) (((s.mem.getD 0 .dead).cells.getD 1 .top).toS) (((s.mem.getD 0 .dead).cells.getD 2 .top).toI) (((s.mem.getD 0 .dead).cells.getD 3 .top).toI) (((s.mem.getD 0 .dead).cells.getD 4 .top).toI) (((s.mem.getD 0 .dead).cells.getD 5 .top).toI) (((s.mem.getD 0 .dead).cells.getD 6 .top).rows) (((s.mem.getD 0 .dead).cells.getD 7 .top).toI) (((s.mem.getD 0 .dead).cells.getD 8 .top).toB) (((s.mem.getD 0 .dead).cells.getD 9 .top).toI) (((s.mem.getD 0 .dead).cells.getD 10 .top).toI) (((s.mem.getD 0 .dead).cells.getD 11 .top).toB) (((s.mem.getD 0 .dead).cells.getD 12 .top).toB) (((s.mem.getD 0 .dead).cells.getD 13 .top).toI) (((s.mem.getD 0 .dead).cells.getD 14 .top).toI) (((s.mem.getD 0 .dead).cells.getD 15 .top).toI) (((s.mem.getD 0 .dead).cells.getD 16 .top).toI) (((s.mem.getD 0 .dead).cells.getD 17 .top).toB) (((s.mem.getD 0 .dead).cells.getD 18 .top).toB) (((s.mem.getD 0 .dead).cells.getD 19 .top).toI) (((s.mem.getD 0 .dead).cells.getD 20 .top).toI) (((s.mem.getD 0 .dead).cells.getD 21 .top).toI)
def sgJ11a62 : LSh := ⟨[(1, .one (.cell (.int .i64))), (5, .one (.ptr 0 0 0))], [.var [.int .u8, .str, .int .i64, .int .u8, .int .i64, .int .i64, .any, .int .i64, .bool, .int .i64, .int .i64, .bool, .bool, .int .u8, .int .i64, .int .i64, .int .i64, .bool, .bool, .int .i64, .int .i64, .int .i64] [.cell (.int .u8), .cell (.str), .cell (.int .i64), .cell (.int .u8), .cell (.int .i64), .cell (.int .i64), .cell (.slice 90), .cell (.int .i64), .cell (.bool), .cell (.int .i64), .cell (.int .i64), .cell (.bool), .cell (.bool), .cell (.int .u8), .cell (.int .i64), .cell (.int .i64), .cell (.int .i64), .cell (.bool), .cell (.bool), .cell (.int .i64), .cell (.int .i64), .cell (.int .i64)]]⟩
def ceJ11a62 : List Cv := []
def seJ11a62 : St → List Nat := fun st => [(Eng.look st.env 5).id]
def xJ11a62wnx : XSh OJ11a62 := ⟨[], ⟨[], [.var [.int .u8, .str, .int .i64, .int .u8, .int .i64, .int .i64, .any, .int .i64, .bool, .int .i64, .int .i64, .bool, .bool, .int .u8, .int .i64, .int .i64, .int .i64, .bool, .bool, .int .i64, .int .i64, .int .i64] [.cell (.int .u8), .cell (.str), .cell (.int .i64), .cell (.int .u8), .cell (.int .i64), .cell (.int .i64), .cell (.slice 90), .cell (.int .i64), .cell (.bool), .cell (.int .i64), .cell (.int .i64), .cell (.bool), .cell (.bool), .cell (.int .u8), .cell (.int .i64), .cell (.int .i64), .cell (.int .i64), .cell (.bool), .cell (.bool), .cell (.int .i64), .cell (.int .i64), .cell (.int .i64)]]⟩, fun st => [0], fun s => .nx (((s.mem.getD 0 .dead).cells.getD 0 .top).toI) (((s.mem.getD 0 .dead).cells.getD 1 .top).toS) (((s.mem.getD 0 .dead).cells.getD 2 .top).toI) (((s.mem.getD 0 .dead).cells.getD 3 .top).toI) (((s.mem.getD 0 .dead).cells.getD 4 .top).toI) (((s.mem.getD 0 .dead).cells.getD 5 .top).toI) (((s.mem.getD 0 .dead).cells.getD 6 .top).rows) (((s.mem.getD 0 .dead).cells.getD 7 .top).toI) (((s.mem.getD 0 .dead).cells.getD 8 .top).toB) (((s.mem.getD 0 .dead).cells.getD 9 .top).toI) (((s.mem.getD 0 .dead).cells.getD 10 .top).toI) (((s.mem.getD 0 .dead).cells.getD 11 .top).toB) (((s.mem.getD 0 .dead).cells.getD 12 .top).toB) (((s.mem.getD 0 .dead).cells.getD 13 .top).toI) (((s.mem.getD 0 .dead).cells.getD 14 .top).toI) (((s.mem.getD 0 .dead).cells.getD 15 .top).toI) (((s.mem.getD 0 .dead).cells.getD 16 .top).toI) (((s.mem.getD 0 .dead).cells.getD 17 .top).toB) (((s.mem.getD 0 .dead).cells.getD 18 .top).toB) (((s.mem.getD 0 .dead).cells.getD 19 .top).toI) (((s.mem.getD 0 .dead).cells.getD 20 .top).toI) (((s.mem.getD 0 .dead).cells.getD 21 .top).toI)⟩
def xJ11a62wret : XSh OJ11a62 := ⟨[], ⟨[(4, .one (.cell (.int .i64)))], [.var [.int .u8, .str, .int .i64, .int .u8, .int .i64, .int .i64, .any, .int .i64, .bool, .int .i64, .int .i64, .bool, .bool, .int .u8, .int .i64, .int .i64, .int .i64, .bool, .bool, .int .i64, .int .i64, .int .i64] [.cell (.int .u8), .cell (.str), .cell (.int .i64), .cell (.int .u8), .cell (.int .i64), .cell (.int .i64), .cell (.slice 90), .cell (.int .i64), .cell (.bool), .cell (.int .i64), .cell (.int .i64), .cell (.bool), .cell (.bool), .cell (.int .u8), .cell (.int .i64), .cell (.int .i64), .cell (.int .i64), .cell (.bool), .cell (.bool), .cell (.int .i64), .cell (.int .i64), .cell (.int .i64)]]⟩, fun st => [0], fun s => .ret ((Eng.look s.env 4).toI) (((s.mem.getD 0 .dead).cells.getD 0 .top).toI) (((s.mem.getD 0 .dead).cells.getD 1 .top).toS) (((s.mem.getD 0 .dead).cells.getD 2 .top).toI) (((s.mem.getD 0 .dead).cells.getD 3 .top).toI) (((s.mem.getD 0 .dead).cells.getD 4 .top).toI) (((s.mem.getD 0 .dead).cells.getD 5 .top).toI) (((s.mem.getD 0 .dead).cells.getD 6 .top).rows) (((s.mem.getD 0 .dead).cells.getD 7 .top).toI) (((s.mem.getD 0 .dead).cells.getD 8 .top).toB) (((s.mem.getD 0 .dead).cells.getD 9 .top).toI) (((s.mem.getD 0 .dead).cells.getD 10 .top).toI) (((s.mem.getD 0 .dead).cells.getD 11 .top).toB) (((s.mem.getD 0 .dead).cells.getD 12 .top).toB) (((s.mem.getD 0 .dead).cells.getD 13 .top).toI) (((s.mem.getD 0 .dead).cells.getD 14 .top).toI) (((s.mem.getD 0 .dead).cells.getD 15 .top).toI) (((s.mem.getD 0 .dead).cells.getD 16 .top).toI) (((s.mem.getD 0 .dead).cells.getD 17 .top).toB) (((s.mem.getD 0 .dead).cells.getD 18 .top).toB) (((s.mem.getD 0 .dead).cells.getD 19 .top).toI) (((s.mem.getD 0 .dead).cells.getD 20 .top).toI) (((s.mem.getD 0 .dead).cells.getD 21 .top).toI)⟩
def xsJ11a62 : Ex → St → Option (XSh OJ11a62) := fun e st => match e with
  | .normal => some xJ11a62wnx
  | .ret => some xJ11a62wret
  | _ => none
def exJ11a62 (o : OJ11a62) : Ex := match o with | .nx b0c0 b0c1 b0c2 b0c3 b0c4 b0c5 b0c6 b0c7 b0c8 b0c9 b0c10 b0c11 b0c12 b0c13 b0c14 b0c15 b0c16 b0c17 b0c18 b0c19 b0c20 b0c21 => .normal | .ret x4 b0c0 b0c1 b0c2 b0c3 b0c4 b0c5 b0c6 b0c7 b0c8 b0c9 b0c10 b0c11 b0c12 b0c13 b0c14 b0c15 b0c16 b0c17 b0c18 b0c19 b0c20 b0c21 => .ret
def stJ11a62 (o : OJ11a62) : St := match o with | .nx b0c0 b0c1 b0c2 b0c3 b0c4 b0c5 b0c6 b0c7 b0c8 b0c9 b0c10 b0c11 b0c12 b0c13 b0c14 b0c15 b0c16 b0c17 b0c18 b0c19 b0c20 b0c21 => ⟨[], [.var [.int .u8, .str, .int .i64, .int .u8, .int .i64, .int .i64, .any, .int .i64, .bool, .int .i64, .int .i64, .bool, .bool, .int .u8, .int .i64, .int .i64, .int .i64, .bool, .bool, .int .i64, .int .i64, .int .i64] [.int .u8 b0c0, .str b0c1, .int .i64 b0c2, .int .u8 b0c3, .int .i64 b0c4, .int .i64 b0c5, .list 90 b0c6, .int .i64 b0c7, .bool b0c8, .int .i64 b0c9, .int .i64 b0c10, .bool b0c11, .bool b0c12, .int .u8 b0c13, .int .i64 b0c14, .int .i64 b0c15, .int .i64 b0c16, .bool b0c17, .bool b0c18, .int .i64 b0c19, .int .i64 b0c20, .int .i64 b0c21]], [], .unk⟩ | .ret x4 b0c0 b0c1 b0c2 b0c3 b0c4 b0c5 b0c6 b0c7 b0c8 b0c9 b0c10 b0c11 b0c12 b0c13 b0c14 b0c15 b0c16 b0c17 b0c18 b0c19 b0c20 b0c21 => ⟨[(4, .int .i64 x4)], [.var [.int .u8, .str, .int .i64, .int .u8, .int .i64, .int .i64, .any, .int .i64, .bool, .int .i64, .int .i64, .bool, .bool, .int .u8, .int .i64, .int .i64, .int .i64, .bool, .bool, .int .i64, .int .i64, .int .i64] [.int .u8 b0c0, .str b0c1, .int .i64 b0c2, .int .u8 b0c3, .int .i64 b0c4, .int .i64 b0c5, .list 90 b0c6, .int .i64 b0c7, .bool b0c8, .int .i64 b0c9, .int .i64 b0c10, .bool b0c11, .bool b0c12, .int .u8 b0c13, .int .i64 b0c14, .int .i64 b0c15, .int .i64 b0c16, .bool b0c17, .bool b0c18, .int .i64 b0c19, .int .i64 b0c20, .int .i64 b0c21]], [], .unk⟩
def elJ11a62 {R : Type} (o : OJ11a62) (k : Ex → St → Option R) : Option R := match o with | .nx b0c0 b0c1 b0c2 b0c3 b0c4 b0c5 b0c6 b0c7 b0c8 b0c9 b0c10 b0c11 b0c12 b0c13 b0c14 b0c15 b0c16 b0c17 b0c18 b0c19 b0c20 b0c21 => k .normal ⟨[], [.var [.int .u8, .str, .int .i64, .int .u8, .int .i64, .int .i64, .any, .int .i64, .bool, .int .i64, .int .i64, .bool, .bool, .int .u8, .int .i64, .int .i64, .int .i64, .bool, .bool, .int .i64, .int .i64, .int .i64] [.int .u8 b0c0, .str b0c1, .int .i64 b0c2, .int .u8 b0c3, .int .i64 b0c4, .int .i64 b0c5, .list 90 b0c6, .int .i64 b0c7, .bool b0c8, .int .i64 b0c9, .int .i64 b0c10, .bool b0c11, .bool b0c12, .int .u8 b0c13, .int .i64 b0c14, .int .i64 b0c15, .int .i64 b0c16, .bool b0c17, .bool b0c18, .int .i64 b0c19, .int .i64 b0c20, .int .i64 b0c21]], [], .unk⟩ | .ret x4 b0c0 b0c1 b0c2 b0c3 b0c4 b0c5 b0c6 b0c7 b0c8 b0c9 b0c10 b0c11 b0c12 b0c13 b0c14 b0c15 b0c16 b0c17 b0c18 b0c19 b0c20 b0c21 => k .ret ⟨[(4, .int .i64 x4)], [.var [.int .u8, .str, .int .i64, .int .u8, .int .i64, .int .i64, .any, .int .i64, .bool, .int .i64, .int .i64, .bool, .bool, .int .u8, .int .i64, .int .i64, .int .i64, .bool, .bool, .int .i64, .int .i64, .int .i64] [.int .u8 b0c0, .str b0c1, .int .i64 b0c2, .int .u8 b0c3, .int .i64 b0c4, .int .i64 b0c5, .list 90 b0c6, .int .i64 b0c7, .bool b0c8, .int .i64 b0c9, .int .i64 b0c10, .bool b0c11, .bool b0c12, .int .u8 b0c13, .int .i64 b0c14, .int .i64 b0c15, .int .i64 b0c16, .bool b0c17, .bool b0c18, .int .i64 b0c19, .int .i64 b0c20, .int .i64 b0c21]], [], .unk⟩
theorem heJ11a62 {R : Type} (o : OJ11a62) (k : Ex → St → Option R) : elJ11a62 o k = k (exJ11a62 o) (stJ11a62 o) := by cases o <;> rfl
theorem hxJ11a62 : ∀ e st x, xsJ11a62 e st = some x → outOk x e exJ11a62 stJ11a62 := by
  intro e st x h
  unfold xsJ11a62 at h
  repeat' split at h
  all_goals first
    | (injection h with h; subst h; exact fun lk M => ⟨rfl, rfl⟩)
    | cases h
noncomputable def T11uc62 (rec : TF11) (N : Nat) (R : Type) : LTab R := mkTab ⟨48, 267911184⟩ (csF11 rec N R) (noY) [] [] []
theorem okT11uc62 (rec : TF11) (hrec : RecOkF11 rec) (N : Nat) (R : Type) : (T11uc62 rec N R).Ok CX code11 := mkTab_ok (hcsF11 rec hrec N R) (noY_ok) (trivial) (trivial) (trivial)
noncomputable def bdJ11a62 : Code := (codeAt code11 [false, true, true, true, true]).getD .skip
theorem hsJ11a62 (rec : TF11) (N : Nat) : ∀ (lk : Nat → AV) (M : List Blk), LFJ11a62 rec N (canS sgJ11a62 lk M) = evk CX (T11uc62 rec N OJ11a62) bdJ11a62 62 (canS sgJ11a62 lk M) (kontX CX 1 xsJ11a62) := by intro lk M; kernel_rfl
noncomputable def T11ur1 (rec : TF11) (N : Nat) (R : Type) : LTab R := mkTab ⟨48, 281474976710655⟩ (csF11 rec N R) (noY) [] [] [(62, fun st k => callLoop CX 1 267911184 ceJ11a62 sgJ11a62 seJ11a62 ⟨48, 281474976710655⟩ (LFJ11a62 rec N) elJ11a62 st k)]
theorem okT11ur1 (rec : TF11) (hrec : RecOkF11 rec) (N : Nat) (R : Type) : (T11ur1 rec N R).Ok CX code11 := mkTab_ok (hcsF11 rec hrec N R) (noY_ok) (trivial) (trivial) (⟨cut_ok hX (path := [false, true, true, true, true]) (by kernel_rfl) (by rfl) (okT11uc62 rec hrec N OJ11a62) (hsJ11a62 rec N) hxJ11a62 rfl heJ11a62, trivial⟩)
def rsF11 : List ResultVar := [.tmp 4]
def F11 : Nat → TF11
  | 0 => fun _ _ _ _ _ _ => none
  | N + 1 => fun x0c0 x0c1 x0c2 x0c3 x0c4 x1 =>
    match F24 N x0c0 x0c1 x0c2 x0c3 x0c4 x1 with
    | none => none
    | some (.r rx0v1) =>
      match !rx0v1 with
      | true =>
        some (.r ((-1)))
      | false =>
        tst (decide ((0 : Int) ≤ x1) && decide (x1 < ((x0c2.length : Int)))) <|
        match ((((x0c2.getD x1.toNat [])).getD 0 .top).toI) == (1 : Int) with
        | true =>
          some (.r 0)
        | false =>
          match J11a62 (F11 N) N x1 ((((x0c2.getD x1.toNat [])).getD 0 .top).toI) ((((x0c2.getD x1.toNat [])).getD 1 .top).toS) ((((x0c2.getD x1.toNat [])).getD 2 .top).toI) ((((x0c2.getD x1.toNat [])).getD 3 .top).toI) ((((x0c2.getD x1.toNat [])).getD 4 .top).toI) ((((x0c2.getD x1.toNat [])).getD 5 .top).toI) ((((x0c2.getD x1.toNat [])).getD 6 .top).rows) ((((x0c2.getD x1.toNat [])).getD 7 .top).toI) ((((x0c2.getD x1.toNat [])).getD 8 .top).toB) ((((x0c2.getD x1.toNat [])).getD 9 .top).toI) ((((x0c2.getD x1.toNat [])).getD 10 .top).toI) ((((x0c2.getD x1.toNat [])).getD 11 .top).toB) ((((x0c2.getD x1.toNat [])).getD 12 .top).toB) ((((x0c2.getD x1.toNat [])).getD 13 .top).toI) ((((x0c2.getD x1.toNat [])).getD 14 .top).toI) ((((x0c2.getD x1.toNat [])).getD 15 .top).toI) ((((x0c2.getD x1.toNat [])).getD 16 .top).toI) ((((x0c2.getD x1.toNat [])).getD 17 .top).toB) ((((x0c2.getD x1.toNat [])).getD 18 .top).toB) ((((x0c2.getD x1.toNat [])).getD 19 .top).toI) ((((x0c2.getD x1.toNat [])).getD 20 .top).toI) ((((x0c2.getD x1.toNat [])).getD 21 .top).toI) with
          | none => none
          | some (.nx b0c0v2 b0c1v2 b0c2v2 b0c3v2 b0c4v2 b0c5v2 b0c6v2 b0c7v2 b0c8v2 b0c9v2 b0c10v2 b0c11v2 b0c12v2 b0c13v2 b0c14v2 b0c15v2 b0c16v2 b0c17v2 b0c18v2 b0c19v2 b0c20v2 b0c21v2) =>
            match F11 N x0c0 x0c1 x0c2 x0c3 x0c4 b0c2v2 with
            | none => none
            | some (.r rx0v3) =>
              match decide (rx0v3 < (0 : Int)) with
              | true =>
                some (.r ((-1)))
              | false =>
                match b0c0v2 == (2 : Int) with
                | true =>
                  some (.r rx0v3)
                | false =>
                  match b0c0v2 == (13 : Int) with
                  | true =>
                    some (.r rx0v3)
                  | false =>
                    match F25 N b0c0v2 with
                    | none => none
                    | some (.r rx0v4) =>
                      match rx0v4 with
                      | true =>
                        some (.r (IntKind.wrap .i64 (rx0v3 + (1 : Int))))
                      | false =>
                        some (.r ((-1)))
          | some (.ret x4v5 b0c0v5 b0c1v5 b0c2v5 b0c3v5 b0c4v5 b0c5v5 b0c6v5 b0c7v5 b0c8v5 b0c9v5 b0c10v5 b0c11v5 b0c12v5 b0c13v5 b0c14v5 b0c15v5 b0c16v5 b0c17v5 b0c18v5 b0c19v5 b0c20v5 b0c21v5) =>
            some (.r x4v5)
def xRF11 : XSh R11 := ⟨[], ⟨[(0, .one (.cell (.int .i64)))], []⟩, fun _ => [], fun s => .r ((Eng.look s.env 0).toI)⟩
theorem fsF11 : ∀ (N : Nat) (lk : Nat → AV) (M : List Blk), FFF11 (F11 (N + 1)) (canS sgF11 lk M) = evfn CX (T11ur1 (F11 N) N R11) code11 rsF11 (argsE 2 (canS sgF11 lk M).env) (canS sgF11 lk M).mem (goR CX 0 (fun _ => some xRF11)) := by intro N lk M; kernel_rfl
theorem soundF11 : ∀ N, RecOkF11 (F11 N)
  | 0, lk, M, o, h => by cases h
  | N + 1, lk, M, o, h => fn_sound hX (okT11ur1 (F11 N) (soundF11 N) N R11) Tryd.func11 hb11 rfl en11 (by kernel_rfl) (ys := fun _ => some xRF11) (fun st y h => by injection h with h; subst h; exact fun lk M => ⟨rfl, rfl⟩) ((fsF11 N lk M).symm.trans h)
end Go.Proofs.YtdennlgnbecojaaDoor

namespace Go.Proofs.YtdennlgnbecojaaDoor
open Go Go.Eng
set_option maxRecDepth 100000

/-! ### F12v1: ceiling/level.Master -/
inductive R12v1 where
  | r (x0 : Int)
abbrev TF12v1 := List Row → List Row → List Row → List Row → List Row → Int → Option R12v1
def sgF12v1 : LSh := ⟨[(0, .agg [.cell (.slice 58), .cell (.slice 74), .cell (.slice 45), .cell (.slice 113), .cell (.slice 117)]), (1, .one (.cell (.int .i64)))], []⟩
def FFF12v1 (Fx : TF12v1) (s : St) : Option R12v1 := Fx (((Eng.look s.env 0).cells.getD 0 .top).rows) (((Eng.look s.env 0).cells.getD 1 .top).rows) (((Eng.look s.env 0).cells.getD 2 .top).rows) (((Eng.look s.env 0).cells.getD 3 .top).rows) (((Eng.look s.env 0).cells.getD 4 .top).rows) ((Eng.look s.env 1).toI)
def valF12v1 (o : R12v1) : AV := match o with | .r x0 => .int .i64 x0
def memF12v1 (o : R12v1) : List Blk := match o with | .r x0 => []
def elF12v1 {R : Type} (o : R12v1) (k : AV → List Blk → Option R) : Option R := match o with | .r x0 => k (.int .i64 x0) []
def RecOkF12v1 (Fx : TF12v1) : Prop := ∀ lk M o, FFF12v1 Fx (canS sgF12v1 lk M) = some o → FCalls CX 12 0 (argsE 2 (canS sgF12v1 lk M).env) (canS sgF12v1 lk M).mem (valF12v1 o) (memF12v1 o)
noncomputable def csF12v1 (N : Nat) (R : Type) : List (CE R) := [ce10v1n0 (F10v1 N) R (fun _ _ => true), ce23v1n0 (F23v1 N) R (fun _ _ => true)]
theorem hcsF12v1 (N : Nat) (R : Type) : AllE (CeOk CX) (csF12v1 N R) := ⟨okce10v1n0 (F10v1 N) (soundF10v1 N) R (fun _ _ => true), okce23v1n0 (F23v1 N) (soundF23v1 N) R (fun _ _ => true), trivial⟩
noncomputable def T12v1us106 (N : Nat) (R : Type) : LTab R := mkTab ⟨27, 134217727⟩ (csF12v1 N R) (noY) [] [] []
theorem okT12v1us106 (N : Nat) (R : Type) : (T12v1us106 N R).Ok CX code12 := mkTab_ok (hcsF12v1 N R) (noY_ok) (trivial) (trivial) (trivial)
def rs12v1i106f45 : List ResultVar := []
inductive OJ12v1i106f45a24 where
  | nx
  | x0
def J12v1i106f45a24 (N : Nat) : Int → Int → Option OJ12v1i106f45a24 := fun x4 x5 =>
    match decide ((0 : Int) ≤ x4) with
    | true =>
      match decide (x4 < x5) with
      | true =>
        some .nx
      | false =>
        some .x0
    | false =>
      some .x0
def LFJ12v1i106f45a24 (N : Nat) (s : St) : Option OJ12v1i106f45a24 := J12v1i106f45a24 N ((Eng.look s.env 4).toI) ((Eng.look s.env 5).toI)
def sgJ12v1i106f45a24 : LSh := ⟨[(4, .one (.cell (.int .i64))), (5, .one (.cell (.int .i64)))], []⟩
def ceJ12v1i106f45a24 : List Cv := []
def seJ12v1i106f45a24 : St → List Nat := fun _ => []
def xJ12v1i106f45a24wnx : XSh OJ12v1i106f45a24 := ⟨[], ⟨[], []⟩, fun _ => [], fun s => .nx ⟩
def xJ12v1i106f45a24wx0 : XSh OJ12v1i106f45a24 := ⟨[], ⟨[], []⟩, fun _ => [], fun s => .x0 ⟩
def xsJ12v1i106f45a24 : Ex → St → Option (XSh OJ12v1i106f45a24) := fun e st => match e with
  | .normal => some xJ12v1i106f45a24wnx
  | .exit 0 => some xJ12v1i106f45a24wx0
  | _ => none
def exJ12v1i106f45a24 (o : OJ12v1i106f45a24) : Ex := match o with | .nx => .normal | .x0 => (.exit 0)
def stJ12v1i106f45a24 (o : OJ12v1i106f45a24) : St := match o with | .nx => ⟨[], [], [], .unk⟩ | .x0 => ⟨[], [], [], .unk⟩
def elJ12v1i106f45a24 {R : Type} (o : OJ12v1i106f45a24) (k : Ex → St → Option R) : Option R := match o with | .nx => k .normal ⟨[], [], [], .unk⟩ | .x0 => k (.exit 0) ⟨[], [], [], .unk⟩
theorem heJ12v1i106f45a24 {R : Type} (o : OJ12v1i106f45a24) (k : Ex → St → Option R) : elJ12v1i106f45a24 o k = k (exJ12v1i106f45a24 o) (stJ12v1i106f45a24 o) := by cases o <;> rfl
theorem hxJ12v1i106f45a24 : ∀ e st x, xsJ12v1i106f45a24 e st = some x → outOk x e exJ12v1i106f45a24 stJ12v1i106f45a24 := by
  intro e st x h
  unfold xsJ12v1i106f45a24 at h
  repeat' split at h
  all_goals first
    | (injection h with h; subst h; exact fun lk M => ⟨rfl, rfl⟩)
    | cases h
noncomputable def T12v1i106f45uc24 (N : Nat) (R : Type) : LTab R := mkTab ⟨47, 260096⟩ (csF12v1 N R) (pickY [(3, fun id args M k => evyield CX (T12v1us106 N R) 3 106 id args M k)]) [] [] []
theorem okT12v1i106f45uc24 (N : Nat) (R : Type) : (T12v1i106f45uc24 N R).Ok CX code45 := mkTab_ok (hcsF12v1 N R) (pickY_ok (es := [(3, fun id args M k => evyield CX (T12v1us106 N R) 3 106 id args M k)]) ⟨fun {id args M k r} h => evyield_sound hX (okT12v1us106 N R) (g := nd3.1) (ps := nd3.2.1) ⟨[false, true, false, true, false, true], by rfl, by kernel_rfl⟩ h, trivial⟩) (trivial) (trivial) (trivial)
noncomputable def bdJ12v1i106f45a24 : Code := (codeAt code45 [false, false, false, true]).getD .skip
theorem hsJ12v1i106f45a24 (N : Nat) : ∀ (lk : Nat → AV) (M : List Blk), LFJ12v1i106f45a24 N (canS sgJ12v1i106f45a24 lk M) = evk CX (T12v1i106f45uc24 N OJ12v1i106f45a24) bdJ12v1i106f45a24 24 (canS sgJ12v1i106f45a24 lk M) (kontX CX 0 xsJ12v1i106f45a24) := by intro lk M; kernel_rfl
inductive OJ12v1i106f45a50 where
  | nx (b1c0 : List Row) (b1c1 : List Row) (b1c2 : List Row) (b1c3 : List Row) (b1c4 : List Row) (b2c0 : Int)
  | ret (b1c0 : List Row) (b1c1 : List Row) (b1c2 : List Row) (b1c3 : List Row) (b1c4 : List Row) (b2c0 : Int)
  | retw2 (b1c0 : List Row) (b1c1 : List Row) (b1c2 : List Row) (b1c3 : List Row) (b1c4 : List Row) (b2c0 : Int)
def J12v1i106f45a50 (N : Nat) : Int → List Row → List Row → List Row → List Row → List Row → Int → Option OJ12v1i106f45a50 := fun x4 b1c0 b1c1 b1c2 b1c3 b1c4 b2c0 =>
    tst (decide ((0 : Int) ≤ x4) && decide (x4 < ((b1c2.length : Int)))) <|
    match ((((b1c2.getD x4.toNat [])).getD 0 .top).toI) == (1 : Int) with
    | true =>
      some (.ret b1c0 b1c1 b1c2 b1c3 b1c4 x4)
    | false =>
      tst (decide ((0 : Int) ≤ ((((b1c2.getD x4.toNat [])).getD 0 .top).toI)) && decide ((((b1c2.getD x4.toNat [])).getD 0 .top).toI < (256 : Int))) <|
      tst (decide (((0 + ((((((b1c2.getD x4.toNat [])).getD 0 .top).toI).toNat) * 1)) + 1) ≤ 256)) <|
      match ((gl0.getD (0 + ((((((b1c2.getD x4.toNat [])).getD 0 .top).toI).toNat) * 1)) .top).toI) == (2 : Int) with
      | true =>
        some (.ret b1c0 b1c1 b1c2 b1c3 b1c4 x4)
      | false =>
        match ((((b1c2.getD x4.toNat [])).getD 0 .top).toI) == (1 : Int) with
        | true =>
          some (.retw2 b1c0 b1c1 b1c2 b1c3 b1c4 b2c0)
        | false =>
          tst (decide ((0 : Int) ≤ ((((b1c2.getD x4.toNat [])).getD 0 .top).toI)) && decide ((((b1c2.getD x4.toNat [])).getD 0 .top).toI < (256 : Int))) <|
          tst (decide (((0 + ((((((b1c2.getD x4.toNat [])).getD 0 .top).toI).toNat) * 1)) + 1) ≤ 256)) <|
          match ((gl0.getD (0 + ((((((b1c2.getD x4.toNat [])).getD 0 .top).toI).toNat) * 1)) .top).toI) == (0 : Int) with
          | true =>
            some (.retw2 b1c0 b1c1 b1c2 b1c3 b1c4 b2c0)
          | false =>
            some (.nx b1c0 b1c1 b1c2 b1c3 b1c4 b2c0)
def LFJ12v1i106f45a50 (N : Nat) (s : St) : Option OJ12v1i106f45a50 := J12v1i106f45a50 N ((Eng.look s.env 4).toI) (((s.mem.getD 1 .dead).cells.getD 0 .top).rows) (((s.mem.getD 1 .dead).cells.getD 1 .top).rows) (((s.mem.getD 1 .dead).cells.getD 2 .top).rows) (((s.mem.getD 1 .dead).cells.getD 3 .top).rows) (((s.mem.getD 1 .dead).cells.getD 4 .top).rows) (((s.mem.getD 2 .dead).cells.getD 0 .top).toI)
def sgJ12v1i106f45a50 : LSh := ⟨[(0, .one (.yld 0)), (2, .one (.ptr 1 0 0)), (4, .one (.cell (.int .i64)))], [.loop 3 [(4, .one (.ptr 2 0 0))] none, .var [.any, .any, .any, .any, .any] [.cell (.slice 58), .cell (.slice 74), .cell (.slice 45), .cell (.slice 113), .cell (.slice 117)], .var [.int .i64] [.cell (.int .i64)]]⟩
def ceJ12v1i106f45a50 : List Cv := []
def seJ12v1i106f45a50 : St → List Nat := fun st => [(Eng.look st.env 0).id, (Eng.look st.env 2).id, ((st.mem.getD ((Eng.look st.env 0).id) .dead).lenv.getD 0 (0, .top)).2.id]
def xJ12v1i106f45a50wnx : XSh OJ12v1i106f45a50 := ⟨[], ⟨[], [.loop 3 [(4, .one (.ptr 2 0 0))] none, .var [.any, .any, .any, .any, .any] [.cell (.slice 58), .cell (.slice 74), .cell (.slice 45), .cell (.slice 113), .cell (.slice 117)], .var [.int .i64] [.cell (.int .i64)]]⟩, fun st => [0, 1, 2], fun s => .nx (((s.mem.getD 1 .dead).cells.getD 0 .top).rows) (((s.mem.getD 1 .dead).cells.getD 1 .top).rows) (((s.mem.getD 1 .dead).cells.getD 2 .top).rows) (((s.mem.getD 1 .dead).cells.getD 3 .top).rows) (((s.mem.getD 1 .dead).cells.getD 4 .top).rows) (((s.mem.getD 2 .dead).cells.getD 0 .top).toI)⟩
def xJ12v1i106f45a50wret : XSh OJ12v1i106f45a50 := ⟨[], ⟨[], [.loop 3 [(4, .one (.ptr 2 0 0))] (some .ret), .var [.any, .any, .any, .any, .any] [.cell (.slice 58), .cell (.slice 74), .cell (.slice 45), .cell (.slice 113), .cell (.slice 117)], .var [.int .i64] [.cell (.int .i64)]]⟩, fun st => [0, 1, 2], fun s => .ret (((s.mem.getD 1 .dead).cells.getD 0 .top).rows) (((s.mem.getD 1 .dead).cells.getD 1 .top).rows) (((s.mem.getD 1 .dead).cells.getD 2 .top).rows) (((s.mem.getD 1 .dead).cells.getD 3 .top).rows) (((s.mem.getD 1 .dead).cells.getD 4 .top).rows) (((s.mem.getD 2 .dead).cells.getD 0 .top).toI)⟩
def xJ12v1i106f45a50wretw2 : XSh OJ12v1i106f45a50 := ⟨[], ⟨[], [.loop 3 [(4, .one (.ptr 2 0 0))] none, .var [.any, .any, .any, .any, .any] [.cell (.slice 58), .cell (.slice 74), .cell (.slice 45), .cell (.slice 113), .cell (.slice 117)], .var [.int .i64] [.cell (.int .i64)]]⟩, fun st => [0, 1, 2], fun s => .retw2 (((s.mem.getD 1 .dead).cells.getD 0 .top).rows) (((s.mem.getD 1 .dead).cells.getD 1 .top).rows) (((s.mem.getD 1 .dead).cells.getD 2 .top).rows) (((s.mem.getD 1 .dead).cells.getD 3 .top).rows) (((s.mem.getD 1 .dead).cells.getD 4 .top).rows) (((s.mem.getD 2 .dead).cells.getD 0 .top).toI)⟩
def xsJ12v1i106f45a50 : Ex → St → Option (XSh OJ12v1i106f45a50) := fun e st => match e with
  | .normal => some xJ12v1i106f45a50wnx
  | .ret => (match (okX ((st.mem.getD 0 .dead).pend) (some .ret)) with | true => some xJ12v1i106f45a50wret | false => some xJ12v1i106f45a50wretw2)
  | _ => none
def exJ12v1i106f45a50 (o : OJ12v1i106f45a50) : Ex := match o with | .nx b1c0 b1c1 b1c2 b1c3 b1c4 b2c0 => .normal | .ret b1c0 b1c1 b1c2 b1c3 b1c4 b2c0 => .ret | .retw2 b1c0 b1c1 b1c2 b1c3 b1c4 b2c0 => .ret
def stJ12v1i106f45a50 (o : OJ12v1i106f45a50) : St := match o with | .nx b1c0 b1c1 b1c2 b1c3 b1c4 b2c0 => ⟨[], [.loop 3 [(4, .ptr 2 0 0)] false none, .var [.any, .any, .any, .any, .any] [.list 58 b1c0, .list 74 b1c1, .list 45 b1c2, .list 113 b1c3, .list 117 b1c4], .var [.int .i64] [.int .i64 b2c0]], [], .unk⟩ | .ret b1c0 b1c1 b1c2 b1c3 b1c4 b2c0 => ⟨[], [.loop 3 [(4, .ptr 2 0 0)] false (some .ret), .var [.any, .any, .any, .any, .any] [.list 58 b1c0, .list 74 b1c1, .list 45 b1c2, .list 113 b1c3, .list 117 b1c4], .var [.int .i64] [.int .i64 b2c0]], [], .unk⟩ | .retw2 b1c0 b1c1 b1c2 b1c3 b1c4 b2c0 => ⟨[], [.loop 3 [(4, .ptr 2 0 0)] false none, .var [.any, .any, .any, .any, .any] [.list 58 b1c0, .list 74 b1c1, .list 45 b1c2, .list 113 b1c3, .list 117 b1c4], .var [.int .i64] [.int .i64 b2c0]], [], .unk⟩
def elJ12v1i106f45a50 {R : Type} (o : OJ12v1i106f45a50) (k : Ex → St → Option R) : Option R := match o with | .nx b1c0 b1c1 b1c2 b1c3 b1c4 b2c0 => k .normal ⟨[], [.loop 3 [(4, .ptr 2 0 0)] false none, .var [.any, .any, .any, .any, .any] [.list 58 b1c0, .list 74 b1c1, .list 45 b1c2, .list 113 b1c3, .list 117 b1c4], .var [.int .i64] [.int .i64 b2c0]], [], .unk⟩ | .ret b1c0 b1c1 b1c2 b1c3 b1c4 b2c0 => k .ret ⟨[], [.loop 3 [(4, .ptr 2 0 0)] false (some .ret), .var [.any, .any, .any, .any, .any] [.list 58 b1c0, .list 74 b1c1, .list 45 b1c2, .list 113 b1c3, .list 117 b1c4], .var [.int .i64] [.int .i64 b2c0]], [], .unk⟩ | .retw2 b1c0 b1c1 b1c2 b1c3 b1c4 b2c0 => k .ret ⟨[], [.loop 3 [(4, .ptr 2 0 0)] false none, .var [.any, .any, .any, .any, .any] [.list 58 b1c0, .list 74 b1c1, .list 45 b1c2, .list 113 b1c3, .list 117 b1c4], .var [.int .i64] [.int .i64 b2c0]], [], .unk⟩
theorem heJ12v1i106f45a50 {R : Type} (o : OJ12v1i106f45a50) (k : Ex → St → Option R) : elJ12v1i106f45a50 o k = k (exJ12v1i106f45a50 o) (stJ12v1i106f45a50 o) := by cases o <;> rfl
theorem hxJ12v1i106f45a50 : ∀ e st x, xsJ12v1i106f45a50 e st = some x → outOk x e exJ12v1i106f45a50 stJ12v1i106f45a50 := by
  intro e st x h
  unfold xsJ12v1i106f45a50 at h
  repeat' split at h
  all_goals first
    | (injection h with h; subst h; exact fun lk M => ⟨rfl, rfl⟩)
    | cases h
noncomputable def T12v1i106f45uc50 (N : Nat) (R : Type) : LTab R := mkTab ⟨47, 140737454800960⟩ (csF12v1 N R) (pickY [(3, fun id args M k => evyield CX (T12v1us106 N R) 3 106 id args M k)]) [] [] []
theorem okT12v1i106f45uc50 (N : Nat) (R : Type) : (T12v1i106f45uc50 N R).Ok CX code45 := mkTab_ok (hcsF12v1 N R) (pickY_ok (es := [(3, fun id args M k => evyield CX (T12v1us106 N R) 3 106 id args M k)]) ⟨fun {id args M k r} h => evyield_sound hX (okT12v1us106 N R) (g := nd3.1) (ps := nd3.2.1) ⟨[false, true, false, true, false, true], by rfl, by kernel_rfl⟩ h, trivial⟩) (trivial) (trivial) (trivial)
noncomputable def bdJ12v1i106f45a50 : Code := (codeAt code45 [false, true, false, false, true]).getD .skip
theorem hsJ12v1i106f45a50 (N : Nat) : ∀ (lk : Nat → AV) (M : List Blk), LFJ12v1i106f45a50 N (canS sgJ12v1i106f45a50 lk M) = evk CX (T12v1i106f45uc50 N OJ12v1i106f45a50) bdJ12v1i106f45a50 50 (canS sgJ12v1i106f45a50 lk M) (kontX CX 3 xsJ12v1i106f45a50) := by intro lk M; kernel_rfl
inductive OL12v1i106f45a6 where
  | ret (b1c0 : List Row) (b1c1 : List Row) (b1c2 : List Row) (b1c3 : List Row) (b1c4 : List Row) (b2c0 : Int)
  | retw2 (b1c0 : List Row) (b1c1 : List Row) (b1c2 : List Row) (b1c3 : List Row) (b1c4 : List Row) (b2c0 : Int)
  | x0 (b1c0 : List Row) (b1c1 : List Row) (b1c2 : List Row) (b1c3 : List Row) (b1c4 : List Row) (b2c0 : Int)
def L12v1i106f45a6 (N : Nat) : Nat → Int → Int → List Row → List Row → List Row → List Row → List Row → Int → Option OL12v1i106f45a6
  | 0 => fun _ _ _ _ _ _ _ _ => none
  | n + 1 => fun x4 x5 b1c0 b1c1 b1c2 b1c3 b1c4 b2c0 =>
    match J12v1i106f45a24 N x4 x5 with
    | none => none
    | some (.nx) =>
      match J12v1i106f45a50 N x4 b1c0 b1c1 b1c2 b1c3 b1c4 b2c0 with
      | none => none
      | some (.nx b1c0v4 b1c1v4 b1c2v4 b1c3v4 b1c4v4 b2c0v4) =>
        tst (decide ((0 : Int) ≤ x4) && decide (x4 < ((b1c2v4.length : Int)))) <|
        L12v1i106f45a6 N n ((((b1c2v4.getD x4.toNat [])).getD 2 .top).toI) x4 b1c0v4 b1c1v4 b1c2v4 b1c3v4 b1c4v4 b2c0v4
      | some (.ret b1c0v5 b1c1v5 b1c2v5 b1c3v5 b1c4v5 b2c0v5) =>
        some (.ret b1c0v5 b1c1v5 b1c2v5 b1c3v5 b1c4v5 b2c0v5)
      | some (.retw2 b1c0v6 b1c1v6 b1c2v6 b1c3v6 b1c4v6 b2c0v6) =>
        some (.retw2 b1c0v6 b1c1v6 b1c2v6 b1c3v6 b1c4v6 b2c0v6)
    | some (.x0) =>
      some (.x0 b1c0 b1c1 b1c2 b1c3 b1c4 b2c0)
def LFL12v1i106f45a6 (N : Nat) (n : Nat) (s : St) : Option OL12v1i106f45a6 := L12v1i106f45a6 N n ((Eng.look s.env 4).toI) ((Eng.look s.env 5).toI) (((s.mem.getD 1 .dead).cells.getD 0 .top).rows) (((s.mem.getD 1 .dead).cells.getD 1 .top).rows) (((s.mem.getD 1 .dead).cells.getD 2 .top).rows) (((s.mem.getD 1 .dead).cells.getD 3 .top).rows) (((s.mem.getD 1 .dead).cells.getD 4 .top).rows) (((s.mem.getD 2 .dead).cells.getD 0 .top).toI)
def sgL12v1i106f45a6 : LSh := ⟨[(0, .one (.yld 0)), (2, .one (.ptr 1 0 0)), (4, .one (.cell (.int .i64))), (5, .one (.cell (.int .i64)))], [.loop 3 [(4, .one (.ptr 2 0 0))] none, .var [.any, .any, .any, .any, .any] [.cell (.slice 58), .cell (.slice 74), .cell (.slice 45), .cell (.slice 113), .cell (.slice 117)], .var [.int .i64] [.cell (.int .i64)]]⟩
def ceL12v1i106f45a6 : List Cv := []
def seL12v1i106f45a6 : St → List Nat := fun st => [(Eng.look st.env 0).id, (Eng.look st.env 2).id, ((st.mem.getD ((Eng.look st.env 0).id) .dead).lenv.getD 0 (0, .top)).2.id]
def xL12v1i106f45a6wret : XSh OL12v1i106f45a6 := ⟨[], ⟨[], [.loop 3 [(4, .one (.ptr 2 0 0))] (some .ret), .var [.any, .any, .any, .any, .any] [.cell (.slice 58), .cell (.slice 74), .cell (.slice 45), .cell (.slice 113), .cell (.slice 117)], .var [.int .i64] [.cell (.int .i64)]]⟩, fun st => [0, 1, 2], fun s => .ret (((s.mem.getD 1 .dead).cells.getD 0 .top).rows) (((s.mem.getD 1 .dead).cells.getD 1 .top).rows) (((s.mem.getD 1 .dead).cells.getD 2 .top).rows) (((s.mem.getD 1 .dead).cells.getD 3 .top).rows) (((s.mem.getD 1 .dead).cells.getD 4 .top).rows) (((s.mem.getD 2 .dead).cells.getD 0 .top).toI)⟩
def xL12v1i106f45a6wretw2 : XSh OL12v1i106f45a6 := ⟨[], ⟨[], [.loop 3 [(4, .one (.ptr 2 0 0))] none, .var [.any, .any, .any, .any, .any] [.cell (.slice 58), .cell (.slice 74), .cell (.slice 45), .cell (.slice 113), .cell (.slice 117)], .var [.int .i64] [.cell (.int .i64)]]⟩, fun st => [0, 1, 2], fun s => .retw2 (((s.mem.getD 1 .dead).cells.getD 0 .top).rows) (((s.mem.getD 1 .dead).cells.getD 1 .top).rows) (((s.mem.getD 1 .dead).cells.getD 2 .top).rows) (((s.mem.getD 1 .dead).cells.getD 3 .top).rows) (((s.mem.getD 1 .dead).cells.getD 4 .top).rows) (((s.mem.getD 2 .dead).cells.getD 0 .top).toI)⟩
def xL12v1i106f45a6wx0 : XSh OL12v1i106f45a6 := ⟨[], ⟨[], [.loop 3 [(4, .one (.ptr 2 0 0))] none, .var [.any, .any, .any, .any, .any] [.cell (.slice 58), .cell (.slice 74), .cell (.slice 45), .cell (.slice 113), .cell (.slice 117)], .var [.int .i64] [.cell (.int .i64)]]⟩, fun st => [0, 1, 2], fun s => .x0 (((s.mem.getD 1 .dead).cells.getD 0 .top).rows) (((s.mem.getD 1 .dead).cells.getD 1 .top).rows) (((s.mem.getD 1 .dead).cells.getD 2 .top).rows) (((s.mem.getD 1 .dead).cells.getD 3 .top).rows) (((s.mem.getD 1 .dead).cells.getD 4 .top).rows) (((s.mem.getD 2 .dead).cells.getD 0 .top).toI)⟩
def xsL12v1i106f45a6 : Ex → St → Option (XSh OL12v1i106f45a6) := fun e st => match e with
  | .ret => (match (okX ((st.mem.getD 0 .dead).pend) (some .ret)) with | true => some xL12v1i106f45a6wret | false => some xL12v1i106f45a6wretw2)
  | .exit 0 => some xL12v1i106f45a6wx0
  | _ => none
def exL12v1i106f45a6 (o : OL12v1i106f45a6) : Ex := match o with | .ret b1c0 b1c1 b1c2 b1c3 b1c4 b2c0 => .ret | .retw2 b1c0 b1c1 b1c2 b1c3 b1c4 b2c0 => .ret | .x0 b1c0 b1c1 b1c2 b1c3 b1c4 b2c0 => (.exit 0)
def stL12v1i106f45a6 (o : OL12v1i106f45a6) : St := match o with | .ret b1c0 b1c1 b1c2 b1c3 b1c4 b2c0 => ⟨[], [.loop 3 [(4, .ptr 2 0 0)] false (some .ret), .var [.any, .any, .any, .any, .any] [.list 58 b1c0, .list 74 b1c1, .list 45 b1c2, .list 113 b1c3, .list 117 b1c4], .var [.int .i64] [.int .i64 b2c0]], [], .unk⟩ | .retw2 b1c0 b1c1 b1c2 b1c3 b1c4 b2c0 => ⟨[], [.loop 3 [(4, .ptr 2 0 0)] false none, .var [.any, .any, .any, .any, .any] [.list 58 b1c0, .list 74 b1c1, .list 45 b1c2, .list 113 b1c3, .list 117 b1c4], .var [.int .i64] [.int .i64 b2c0]], [], .unk⟩ | .x0 b1c0 b1c1 b1c2 b1c3 b1c4 b2c0 => ⟨[], [.loop 3 [(4, .ptr 2 0 0)] false none, .var [.any, .any, .any, .any, .any] [.list 58 b1c0, .list 74 b1c1, .list 45 b1c2, .list 113 b1c3, .list 117 b1c4], .var [.int .i64] [.int .i64 b2c0]], [], .unk⟩
def elL12v1i106f45a6 {R : Type} (o : OL12v1i106f45a6) (k : Ex → St → Option R) : Option R := match o with | .ret b1c0 b1c1 b1c2 b1c3 b1c4 b2c0 => k .ret ⟨[], [.loop 3 [(4, .ptr 2 0 0)] false (some .ret), .var [.any, .any, .any, .any, .any] [.list 58 b1c0, .list 74 b1c1, .list 45 b1c2, .list 113 b1c3, .list 117 b1c4], .var [.int .i64] [.int .i64 b2c0]], [], .unk⟩ | .retw2 b1c0 b1c1 b1c2 b1c3 b1c4 b2c0 => k .ret ⟨[], [.loop 3 [(4, .ptr 2 0 0)] false none, .var [.any, .any, .any, .any, .any] [.list 58 b1c0, .list 74 b1c1, .list 45 b1c2, .list 113 b1c3, .list 117 b1c4], .var [.int .i64] [.int .i64 b2c0]], [], .unk⟩ | .x0 b1c0 b1c1 b1c2 b1c3 b1c4 b2c0 => k (.exit 0) ⟨[], [.loop 3 [(4, .ptr 2 0 0)] false none, .var [.any, .any, .any, .any, .any] [.list 58 b1c0, .list 74 b1c1, .list 45 b1c2, .list 113 b1c3, .list 117 b1c4], .var [.int .i64] [.int .i64 b2c0]], [], .unk⟩
theorem heL12v1i106f45a6 {R : Type} (o : OL12v1i106f45a6) (k : Ex → St → Option R) : elL12v1i106f45a6 o k = k (exL12v1i106f45a6 o) (stL12v1i106f45a6 o) := by cases o <;> rfl
theorem hxL12v1i106f45a6 : ∀ e st x, xsL12v1i106f45a6 e st = some x → outOk x e exL12v1i106f45a6 stL12v1i106f45a6 := by
  intro e st x h
  unfold xsL12v1i106f45a6 at h
  repeat' split at h
  all_goals first
    | (injection h with h; subst h; exact fun lk M => ⟨rfl, rfl⟩)
    | cases h
noncomputable def T12v1i106f45ul6 (N : Nat) (R : Type) : LTab R := mkTab ⟨47, 140737488353392⟩ (csF12v1 N R) (pickY [(3, fun id args M k => evyield CX (T12v1us106 N R) 3 106 id args M k)]) [] [] [(24, fun st k => callLoop CX 0 260096 ceJ12v1i106f45a24 sgJ12v1i106f45a24 seJ12v1i106f45a24 ⟨47, 140737488353392⟩ (LFJ12v1i106f45a24 N) elJ12v1i106f45a24 st k), (50, fun st k => callLoop CX 3 140737454800960 ceJ12v1i106f45a50 sgJ12v1i106f45a50 seJ12v1i106f45a50 ⟨47, 140737488353392⟩ (LFJ12v1i106f45a50 N) elJ12v1i106f45a50 st k)]
theorem okT12v1i106f45ul6 (N : Nat) (R : Type) : (T12v1i106f45ul6 N R).Ok CX code45 := mkTab_ok (hcsF12v1 N R) (pickY_ok (es := [(3, fun id args M k => evyield CX (T12v1us106 N R) 3 106 id args M k)]) ⟨fun {id args M k r} h => evyield_sound hX (okT12v1us106 N R) (g := nd3.1) (ps := nd3.2.1) ⟨[false, true, false, true, false, true], by rfl, by kernel_rfl⟩ h, trivial⟩) (trivial) (trivial) (⟨cut_ok hX (path := [false, false, false, true]) (by kernel_rfl) (by rfl) (okT12v1i106f45uc24 N OJ12v1i106f45a24) (hsJ12v1i106f45a24 N) hxJ12v1i106f45a24 rfl heJ12v1i106f45a24, cut_ok hX (path := [false, true, false, false, true]) (by kernel_rfl) (by rfl) (okT12v1i106f45uc50 N OJ12v1i106f45a50) (hsJ12v1i106f45a50 N) hxJ12v1i106f45a50 rfl heJ12v1i106f45a50, trivial⟩)
noncomputable def bdL12v1i106f45a6 : Code := match codeAt code45 [false, true] with | some (.loop c) => c | _ => .skip
theorem hsL12v1i106f45a6 (N : Nat) : ∀ (n : Nat) (lk : Nat → AV) (M : List Blk), LFL12v1i106f45a6 N (n + 1) (canS sgL12v1i106f45a6 lk M) = evk CX (T12v1i106f45ul6 N OL12v1i106f45a6) bdL12v1i106f45a6 (2 * 6) (canS sgL12v1i106f45a6 lk M) (kont CX 3 [] sgL12v1i106f45a6 (fun st => [0, 1, 2]) xsL12v1i106f45a6 (LFL12v1i106f45a6 N n)) := by intro n lk M; kernel_rfl
noncomputable def T12v1i106f45ur1 (N : Nat) (R : Type) : LTab R := mkTab ⟨47, 140737488355327⟩ (csF12v1 N R) (pickY [(3, fun id args M k => evyield CX (T12v1us106 N R) 3 106 id args M k)]) [(6, fun st k => callLoop CX 3 140737488353392 ceL12v1i106f45a6 sgL12v1i106f45a6 seL12v1i106f45a6 ⟨47, 140737488355327⟩ (LFL12v1i106f45a6 N N) elL12v1i106f45a6 st k)] [] []
theorem okT12v1i106f45ur1 (N : Nat) (R : Type) : (T12v1i106f45ur1 N R).Ok CX code45 := mkTab_ok (hcsF12v1 N R) (pickY_ok (es := [(3, fun id args M k => evyield CX (T12v1us106 N R) 3 106 id args M k)]) ⟨fun {id args M k r} h => evyield_sound hX (okT12v1us106 N R) (g := nd3.1) (ps := nd3.2.1) ⟨[false, true, false, true, false, true], by rfl, by kernel_rfl⟩ h, trivial⟩) (⟨loop_ok hX (path := [false, true]) (by kernel_rfl) (by rfl) (okT12v1i106f45ul6 N OL12v1i106f45a6) (fun _ _ => rfl) (hsL12v1i106f45a6 N) hxL12v1i106f45a6 rfl heL12v1i106f45a6, trivial⟩) (trivial) (trivial)
noncomputable def T12v1ur1 (N : Nat) (R : Type) : LTab R := mkTab ⟨27, 134217727⟩ (csF12v1 N R) (noY) [] [(106, fun st k => evrange CX (oneTab ⟨27, 134217727⟩ (inl 45 (fun args M k => evfn CX (T12v1i106f45ur1 N R) code45 rs12v1i106f45 args M k))) 3 [4] (.tmp 13) st k)] []
theorem okT12v1ur1 (N : Nat) (R : Type) : (T12v1ur1 N R).Ok CX code12 := mkTab_ok (hcsF12v1 N R) (noY_ok) (trivial) (⟨range_ok hX (path := [false, true, false, true, false, true]) (ps0 := nd3.2.1) (a0 := nd3.2.2.1) (b0 := nd3.2.2.2) (by kernel_rfl) (by rfl) (inl_ok fun {args M k r} h => evfn_sound hX (okT12v1i106f45ur1 N R) Tryd.func45 hb45 rfl en45 (by kernel_rfl) h) (by kernel_rfl), trivial⟩) (trivial)
def rsF12v1 : List ResultVar := [.cell 4 3]
def F12v1 : Nat → TF12v1
  | 0 => fun _ _ _ _ _ _ => none
  | N + 1 => fun x0c0 x0c1 x0c2 x0c3 x0c4 x1 =>
    match F10v1 N x0c0 x0c1 x0c2 x0c3 x0c4 x1 with
    | none => none
    | some (.r rx0v1) =>
      match decide ((0 : Int) ≤ rx0v1) with
      | true =>
        match F23v1 N x0c0 x0c1 x0c2 x0c3 x0c4 x1 with
        | none => none
        | some (.r rb0c0v2 rb1c0v2 rb1c1v2 rb1c2v2 rb1c3v2 rb1c4v2) =>
          match L12v1i106f45a6 N N rb0c0v2 ((rb1c2v2.length : Int)) rb1c0v2 rb1c1v2 rb1c2v2 rb1c3v2 rb1c4v2 0 with
          | none => none
          | some (.ret b1c0v8 b1c1v8 b1c2v8 b1c3v8 b1c4v8 b2c0v8) =>
            some (.r b2c0v8)
          | some (.retw2 b1c0v9 b1c1v9 b1c2v9 b1c3v9 b1c4v9 b2c0v9) =>
            some (.r ((-1)))
          | some (.x0 b1c0v10 b1c1v10 b1c2v10 b1c3v10 b1c4v10 b2c0v10) =>
            some (.r ((-1)))
      | false =>
        some (.r ((-1)))
def xRF12v1 : XSh R12v1 := ⟨[], ⟨[(0, .one (.cell (.int .i64)))], []⟩, fun _ => [], fun s => .r ((Eng.look s.env 0).toI)⟩
theorem fsF12v1 : ∀ (N : Nat) (lk : Nat → AV) (M : List Blk), FFF12v1 (F12v1 (N + 1)) (canS sgF12v1 lk M) = evfn CX (T12v1ur1 N R12v1) code12 rsF12v1 (argsE 2 (canS sgF12v1 lk M).env) (canS sgF12v1 lk M).mem (goR CX 0 (fun _ => some xRF12v1)) := by intro N lk M; kernel_rfl
theorem soundF12v1 : ∀ N, RecOkF12v1 (F12v1 N)
  | 0, lk, M, o, h => by cases h
  | N + 1, lk, M, o, h => fn_sound hX (okT12v1ur1 N R12v1) Tryd.func12 hb12 rfl en12 (by kernel_rfl) (ys := fun _ => some xRF12v1) (fun st y h => by injection h with h; subst h; exact fun lk M => ⟨rfl, rfl⟩) ((fsF12v1 N lk M).symm.trans h)
def cvce12v1n0 : List Cv := []
def selce12v1n0 : St → List Nat := fun _ => []
noncomputable def ce12v1n0 (Fx : TF12v1) (R : Type) (test : List AV → List Blk → Bool) : CE R := ⟨12, test, fun args M => some (selce12v1n0 ⟨argEnv 0 args, M, [], .unk⟩), fun args M k => tst (Nat.beq args.length 2) (callFn CX 0 cvce12v1n0 sgF12v1 selce12v1n0 (FFF12v1 Fx) elF12v1 args M k)⟩
theorem okce12v1n0 (Fx : TF12v1) (h : RecOkF12v1 Fx) (R : Type) (test : List AV → List Blk → Bool) : CeOk CX (ce12v1n0 Fx R test) := ce_ok hX (fun o k => by cases o; rfl) h en12 (fun args M ids h => by injection h with h; exact ⟨rfl, h.symm⟩)
end Go.Proofs.YtdennlgnbecojaaDoor

namespace Go.Proofs.YtdennlgnbecojaaDoor
open Go Go.Eng
set_option maxRecDepth 100000

/-! ### F13: ceiling/ceilingref12.Master -/
inductive R13 where
  | r (x0 : Int)
abbrev TF13 := List Row → List Row → List Row → List Row → List Row → Int → Option R13
def sgF13 : LSh := ⟨[(0, .agg [.cell (.slice 58), .cell (.slice 74), .cell (.slice 45), .cell (.slice 113), .cell (.slice 117)]), (1, .one (.cell (.int .i64)))], []⟩
def FFF13 (Fx : TF13) (s : St) : Option R13 := Fx (((Eng.look s.env 0).cells.getD 0 .top).rows) (((Eng.look s.env 0).cells.getD 1 .top).rows) (((Eng.look s.env 0).cells.getD 2 .top).rows) (((Eng.look s.env 0).cells.getD 3 .top).rows) (((Eng.look s.env 0).cells.getD 4 .top).rows) ((Eng.look s.env 1).toI)
def valF13 (o : R13) : AV := match o with | .r x0 => .int .i64 x0
def memF13 (o : R13) : List Blk := match o with | .r x0 => []
def elF13 {R : Type} (o : R13) (k : AV → List Blk → Option R) : Option R := match o with | .r x0 => k (.int .i64 x0) []
def RecOkF13 (Fx : TF13) : Prop := ∀ lk M o, FFF13 Fx (canS sgF13 lk M) = some o → FCalls CX 13 0 (argsE 2 (canS sgF13 lk M).env) (canS sgF13 lk M).mem (valF13 o) (memF13 o)
def cvce13n0 : List Cv := []
def selce13n0 : St → List Nat := fun _ => []
noncomputable def ce13n0 (Fx : TF13) (R : Type) (test : List AV → List Blk → Bool) : CE R := ⟨13, test, fun args M => some (selce13n0 ⟨argEnv 0 args, M, [], .unk⟩), fun args M k => tst (Nat.beq args.length 2) (callFn CX 0 cvce13n0 sgF13 selce13n0 (FFF13 Fx) elF13 args M k)⟩
theorem okce13n0 (Fx : TF13) (h : RecOkF13 Fx) (R : Type) (test : List AV → List Blk → Bool) : CeOk CX (ce13n0 Fx R test) := ce_ok hX (fun o k => by cases o; rfl) h en13 (fun args M ids h => by injection h with h; exact ⟨rfl, h.symm⟩)
noncomputable def csF13 (rec : TF13) (N : Nat) (R : Type) : List (CE R) := [ce11n0 (F11 N) R (fun _ _ => true), ce13n0 rec R (fun _ _ => true), ce25n0 (F25 N) R (fun _ _ => true)]
theorem hcsF13 (rec : TF13) (hrec : RecOkF13 rec) (N : Nat) (R : Type) : AllE (CeOk CX) (csF13 rec N R) := ⟨okce11n0 (F11 N) (soundF11 N) R (fun _ _ => true), okce13n0 rec hrec R (fun _ _ => true), okce25n0 (F25 N) (soundF25 N) R (fun _ _ => true), trivial⟩
noncomputable def T13ur1 (rec : TF13) (N : Nat) (R : Type) : LTab R := mkTab ⟨28, 268435455⟩ (csF13 rec N R) (noY) [] [] []
theorem okT13ur1 (rec : TF13) (hrec : RecOkF13 rec) (N : Nat) (R : Type) : (T13ur1 rec N R).Ok CX code13 := mkTab_ok (hcsF13 rec hrec N R) (noY_ok) (trivial) (trivial) (trivial)
def rsF13 : List ResultVar := [.tmp 4]
def F13 : Nat → TF13
  | 0 => fun _ _ _ _ _ _ => none
  | N + 1 => fun x0c0 x0c1 x0c2 x0c3 x0c4 x1 =>
    match F11 N x0c0 x0c1 x0c2 x0c3 x0c4 x1 with
    | none => none
    | some (.r rx0v1) =>
      match decide (rx0v1 < (0 : Int)) with
      | true =>
        some (.r ((-1)))
      | false =>
        tst (decide ((0 : Int) ≤ x1) && decide (x1 < ((x0c2.length : Int)))) <|
        match ((((x0c2.getD x1.toNat [])).getD 0 .top).toI) == (1 : Int) with
        | true =>
          some (.r x1)
        | false =>
          match F25 N ((((x0c2.getD x1.toNat [])).getD 0 .top).toI) with
          | none => none
          | some (.r rx0v2) =>
            match rx0v2 with
            | true =>
              some (.r x1)
            | false =>
              match F13 N x0c0 x0c1 x0c2 x0c3 x0c4 ((((x0c2.getD x1.toNat [])).getD 2 .top).toI) with
              | none => none
              | some (.r rx0v3) =>
                some (.r rx0v3)
def xRF13 : XSh R13 := ⟨[], ⟨[(0, .one (.cell (.int .i64)))], []⟩, fun _ => [], fun s => .r ((Eng.look s.env 0).toI)⟩
theorem fsF13 : ∀ (N : Nat) (lk : Nat → AV) (M : List Blk), FFF13 (F13 (N + 1)) (canS sgF13 lk M) = evfn CX (T13ur1 (F13 N) N R13) code13 rsF13 (argsE 2 (canS sgF13 lk M).env) (canS sgF13 lk M).mem (goR CX 0 (fun _ => some xRF13)) := by intro N lk M; kernel_rfl
theorem soundF13 : ∀ N, RecOkF13 (F13 N)
  | 0, lk, M, o, h => by cases h
  | N + 1, lk, M, o, h => fn_sound hX (okT13ur1 (F13 N) (soundF13 N) N R13) Tryd.func13 hb13 rfl en13 (by kernel_rfl) (ys := fun _ => some xRF13) (fun st y h => by injection h with h; subst h; exact fun lk M => ⟨rfl, rfl⟩) ((fsF13 N lk M).symm.trans h)
end Go.Proofs.YtdennlgnbecojaaDoor

namespace Go.Proofs.YtdennlgnbecojaaDoor
open Go Go.Eng
set_option maxRecDepth 100000

/-! ### F14v1: ceiling/level.May -/
inductive R14v1 where
  | r (x0 : Bool)
abbrev TF14v1 := List Row → List Row → List Row → List Row → List Row → Option R14v1
def sgF14v1 : LSh := ⟨[(0, .agg [.cell (.slice 58), .cell (.slice 74), .cell (.slice 45), .cell (.slice 113), .cell (.slice 117)])], []⟩
def FFF14v1 (Fx : TF14v1) (s : St) : Option R14v1 := Fx (((Eng.look s.env 0).cells.getD 0 .top).rows) (((Eng.look s.env 0).cells.getD 1 .top).rows) (((Eng.look s.env 0).cells.getD 2 .top).rows) (((Eng.look s.env 0).cells.getD 3 .top).rows) (((Eng.look s.env 0).cells.getD 4 .top).rows)
def valF14v1 (o : R14v1) : AV := match o with | .r x0 => .bool x0
def memF14v1 (o : R14v1) : List Blk := match o with | .r x0 => []
def elF14v1 {R : Type} (o : R14v1) (k : AV → List Blk → Option R) : Option R := match o with | .r x0 => k (.bool x0) []
def RecOkF14v1 (Fx : TF14v1) : Prop := ∀ lk M o, FFF14v1 Fx (canS sgF14v1 lk M) = some o → FCalls CX 14 0 (argsE 1 (canS sgF14v1 lk M).env) (canS sgF14v1 lk M).mem (valF14v1 o) (memF14v1 o)
noncomputable def csF14v1 (N : Nat) (R : Type) : List (CE R) := [ce10v1n0 (F10v1 N) R (fun _ _ => true)]
theorem hcsF14v1 (N : Nat) (R : Type) : AllE (CeOk CX) (csF14v1 N R) := ⟨okce10v1n0 (F10v1 N) (soundF10v1 N) R (fun _ _ => true), trivial⟩
inductive OJ14v1a6758 where
  | nx (x5 : Int) (b0c0 : List Row) (b0c1 : List Row) (b0c2 : List Row) (b0c3 : List Row) (b0c4 : List Row) (b1c0 : Int) (b1c1 : ByteArray) (b1c2 : Int) (b1c3 : Int) (b1c4 : Int) (b1c5 : Int) (b1c6 : List Row) (b1c7 : Int) (b1c8 : Bool) (b1c9 : Int) (b1c10 : Int) (b1c11 : Bool) (b1c12 : Bool) (b1c13 : Int) (b1c14 : Int) (b1c15 : Int) (b1c16 : Int) (b1c17 : Bool) (b1c18 : Bool) (b1c19 : Int) (b1c20 : Int) (b1c21 : Int)
def J14v1a6758 (N : Nat) : Int → Int → List Row → List Row → List Row → List Row → List Row → Int → ByteArray → Int → Int → Int → Int → List Row → Int → Bool → Int → Int → Bool → Bool → Int → Int → Int → Int → Bool → Bool → Int → Int → Int → Option OJ14v1a6758 := fun x3 x5 b0c0 b0c1 b0c2 b0c3 b0c4 b1c0 b1c1 b1c2 b1c3 b1c4 b1c5 b1c6 b1c7 b1c8 b1c9 b1c10 b1c11 b1c12 b1c13 b1c14 b1c15 b1c16 b1c17 b1c18 b1c19 b1c20 b1c21 =>
    match b1c0 != (1 : Int) with
    | true =>
      match decide (b1c2 < x3) with
      | true =>
        match F10v1 N b0c0 b0c1 b0c2 b0c3 b0c4 b1c2 with
        | none => none
        | some (.r rx0v1) =>
          some (.nx rx0v1 b0c0 b0c1 b0c2 b0c3 b0c4 b1c0 b1c1 b1c2 b1c3 b1c4 b1c5 b1c6 b1c7 b1c8 b1c9 b1c10 b1c11 b1c12 b1c13 b1c14 b1c15 b1c16 b1c17 b1c18 b1c19 b1c20 b1c21)
      | false =>
        some (.nx ((-1)) b0c0 b0c1 b0c2 b0c3 b0c4 b1c0 b1c1 b1c2 b1c3 b1c4 b1c5 b1c6 b1c7 b1c8 b1c9 b1c10 b1c11 b1c12 b1c13 b1c14 b1c15 b1c16 b1c17 b1c18 b1c19 b1c20 b1c21)
    | false =>
      some (.nx x5 b0c0 b0c1 b0c2 b0c3 b0c4 b1c0 b1c1 b1c2 b1c3 b1c4 b1c5 b1c6 b1c7 b1c8 b1c9 b1c10 b1c11 b1c12 b1c13 b1c14 b1c15 b1c16 b1c17 b1c18 b1c19 b1c20 b1c21)
def LFJ14v1a6758 (N : Nat) (s : St) : Option OJ14v1a6758 := J14v1a6758 N ((Eng.look s.env 3).toI) ((Eng.look s.env 5).toI) (((s.mem.getD 0 .dead).cells.getD 0 .top).rows) (((s.mem.getD 0 .dead).cells.getD 1 .top).rows) (((s.mem.getD 0 .dead).cells.getD 2 .top).rows) (((s.mem.getD 0 .dead).cells.getD 3 .top).rows) (((s.mem.getD 0 .dead).cells.getD 4 .top).rows) (((s.mem.getD 1 .dead).cells.getD 0 .top).toI) (((s.mem.getD 1 .dead).cells.getD 1 .top).toS) (((s.mem.getD 1 .dead).cells.getD 2 .top).toI) (((s.mem.getD 1 .dead).cells.getD 3 .top).toI) (((s.mem.getD 1 .dead).cells.getD 4 .top).toI) (((s.mem.getD 1 .dead).cells.getD 5 .top).toI) (((s.mem.getD 1 .dead).cells.getD 6 .top).rows) (((s.mem.getD 1 .dead).cells.getD 7 .top).toI) (((s.mem.getD 1 .dead).cells.getD 8 .top).toB) (((s.mem.getD 1 .dead).cells.getD 9 .top).toI) (((s.mem.getD 1 .dead).cells.getD 10 .top).toI) (((s.mem.getD 1 .dead).cells.getD 11 .top).toB) (((s.mem.getD 1 .dead).cells.getD 12 .top).toB) (((s.mem.getD 1 .dead).cells.getD 13 .top).toI) (((s.mem.getD 1 .dead).cells.getD 14 .top).toI) (((s.mem.getD 1 .dead).cells.getD 15 .top).toI) (((s.mem.getD 1 .dead).cells.getD 16 .top).toI) (((s.mem.getD 1 .dead).cells.getD 17 .top).toB) (((s.mem.getD 1 .dead).cells.getD 18 .top).toB) (((s.mem.getD 1 .dead).cells.getD 19 .top).toI) (((s.mem.getD 1 .dead).cells.getD 20 .top).toI) (((s.mem.getD 1 .dead).cells.getD 21 .top).toI)
def sgJ14v1a6758 : LSh := ⟨[(1, .one (.ptr 0 0 0)), (3, .one (.cell (.int .i64))), (4, .one (.ptr 1 0 0)), (5, .one (.cell (.int .i64)))], [.var [.any, .any, .any, .any, .any] [.cell (.slice 58), .cell (.slice 74), .cell (.slice 45), .cell (.slice 113), .cell (.slice 117)], .var [.int .u8, .str, .int .i64, .int .u8, .int .i64, .int .i64, .any, .int .i64, .bool, .int .i64, .int .i64, .bool, .bool, .int .u8, .int .i64, .int .i64, .int .i64, .bool, .bool, .int .i64, .int .i64, .int .i64] [.cell (.int .u8), .cell (.str), .cell (.int .i64), .cell (.int .u8), .cell (.int .i64), .cell (.int .i64), .cell (.slice 90), .cell (.int .i64), .cell (.bool), .cell (.int .i64), .cell (.int .i64), .cell (.bool), .cell (.bool), .cell (.int .u8), .cell (.int .i64), .cell (.int .i64), .cell (.int .i64), .cell (.bool), .cell (.bool), .cell (.int .i64), .cell (.int .i64), .cell (.int .i64)]]⟩
def ceJ14v1a6758 : List Cv := []
def seJ14v1a6758 : St → List Nat := fun st => [(Eng.look st.env 1).id, (Eng.look st.env 4).id]
def xJ14v1a6758wnx : XSh OJ14v1a6758 := ⟨[], ⟨[(5, .one (.cell (.int .i64)))], [.var [.any, .any, .any, .any, .any] [.cell (.slice 58), .cell (.slice 74), .cell (.slice 45), .cell (.slice 113), .cell (.slice 117)], .var [.int .u8, .str, .int .i64, .int .u8, .int .i64, .int .i64, .any, .int .i64, .bool, .int .i64, .int .i64, .bool, .bool, .int .u8, .int .i64, .int .i64, .int .i64, .bool, .bool, .int .i64, .int .i64, .int .i64] [.cell (.int .u8), .cell (.str), .cell (.int .i64), .cell (.int .u8), .cell (.int .i64), .cell (.int .i64), .cell (.slice 90), .cell (.int .i64), .cell (.bool), .cell (.int .i64), .cell (.int .i64), .cell (.bool), .cell (.bool), .cell (.int .u8), .cell (.int .i64), .cell (.int .i64), .cell (.int .i64), .cell (.bool), .cell (.bool), .cell (.int .i64), .cell (.int .i64), .cell (.int .i64)]]⟩, fun st => [0, 1], fun s => .nx ((Eng.look s.env 5).toI) (((s.mem.getD 0 .dead).cells.getD 0 .top).rows) (((s.mem.getD 0 .dead).cells.getD 1 .top).rows) (((s.mem.getD 0 .dead).cells.getD 2 .top).rows) (((s.mem.getD 0 .dead).cells.getD 3 .top).rows) (((s.mem.getD 0 .dead).cells.getD 4 .top).rows) (((s.mem.getD 1 .dead).cells.getD 0 .top).toI) (((s.mem.getD 1 .dead).cells.getD 1 .top).toS) (((s.mem.getD 1 .dead).cells.getD 2 .top).toI) (((s.mem.getD 1 .dead).cells.getD 3 .top).toI) (((s.mem.getD 1 .dead).cells.getD 4 .top).toI) (((s.mem.getD 1 .dead).cells.getD 5 .top).toI) (((s.mem.getD 1 .dead).cells.getD 6 .top).rows) (((s.mem.getD 1 .dead).cells.getD 7 .top).toI) (((s.mem.getD 1 .dead).cells.getD 8 .top).toB) (((s.mem.getD 1 .dead).cells.getD 9 .top).toI) (((s.mem.getD 1 .dead).cells.getD 10 .top).toI) (((s.mem.getD 1 .dead).cells.getD 11 .top).toB) (((s.mem.getD 1 .dead).cells.getD 12 .top).toB) (((s.mem.getD 1 .dead).cells.getD 13 .top).toI) (((s.mem.getD 1 .dead).cells.getD 14 .top).toI) (((s.mem.getD 1 .dead).cells.getD 15 .top).toI) (((s.mem.getD 1 .dead).cells.getD 16 .top).toI) (((s.mem.getD 1 .dead).cells.getD 17 .top).toB) (((s.mem.getD 1 .dead).cells.getD 18 .top).toB) (((s.mem.getD 1 .dead).cells.getD 19 .top).toI) (((s.mem.getD 1 .dead).cells.getD 20 .top).toI) (((s.mem.getD 1 .dead).cells.getD 21 .top).toI)⟩
def xsJ14v1a6758 : Ex → St → Option (XSh OJ14v1a6758) := fun e st => match e with
  | .normal => some xJ14v1a6758wnx
  | _ => none
def exJ14v1a6758 (o : OJ14v1a6758) : Ex := match o with | .nx x5 b0c0 b0c1 b0c2 b0c3 b0c4 b1c0 b1c1 b1c2 b1c3 b1c4 b1c5 b1c6 b1c7 b1c8 b1c9 b1c10 b1c11 b1c12 b1c13 b1c14 b1c15 b1c16 b1c17 b1c18 b1c19 b1c20 b1c21 => .normal
def stJ14v1a6758 (o : OJ14v1a6758) : St := match o with | .nx x5 b0c0 b0c1 b0c2 b0c3 b0c4 b1c0 b1c1 b1c2 b1c3 b1c4 b1c5 b1c6 b1c7 b1c8 b1c9 b1c10 b1c11 b1c12 b1c13 b1c14 b1c15 b1c16 b1c17 b1c18 b1c19 b1c20 b1c21 => ⟨[(5, .int .i64 x5)], [.var [.any, .any, .any, .any, .any] [.list 58 b0c0, .list 74 b0c1, .list 45 b0c2, .list 113 b0c3, .list 117 b0c4], .var [.int .u8, .str, .int .i64, .int .u8, .int .i64, .int .i64, .any, .int .i64, .bool, .int .i64, .int .i64, .bool, .bool, .int .u8, .int .i64, .int .i64, .int .i64, .bool, .bool, .int .i64, .int .i64, .int .i64] [.int .u8 b1c0, .str b1c1, .int .i64 b1c2, .int .u8 b1c3, .int .i64 b1c4, .int .i64 b1c5, .list 90 b1c6, .int .i64 b1c7, .bool b1c8, .int .i64 b1c9, .int .i64 b1c10, .bool b1c11, .bool b1c12, .int .u8 b1c13, .int .i64 b1c14, .int .i64 b1c15, .int .i64 b1c16, .bool b1c17, .bool b1c18, .int .i64 b1c19, .int .i64 b1c20, .int .i64 b1c21]], [], .unk⟩
def elJ14v1a6758 {R : Type} (o : OJ14v1a6758) (k : Ex → St → Option R) : Option R := match o with | .nx x5 b0c0 b0c1 b0c2 b0c3 b0c4 b1c0 b1c1 b1c2 b1c3 b1c4 b1c5 b1c6 b1c7 b1c8 b1c9 b1c10 b1c11 b1c12 b1c13 b1c14 b1c15 b1c16 b1c17 b1c18 b1c19 b1c20 b1c21 => k .normal ⟨[(5, .int .i64 x5)], [.var [.any, .any, .any, .any, .any] [.list 58 b0c0, .list 74 b0c1, .list 45 b0c2, .list 113 b0c3, .list 117 b0c4], .var [.int .u8, .str, .int .i64, .int .u8, .int .i64, .int .i64, .any, .int .i64, .bool, .int .i64, .int .i64, .bool, .bool, .int .u8, .int .i64, .int .i64, .int .i64, .bool, .bool, .int .i64, .int .i64, .int .i64] [.int .u8 b1c0, .str b1c1, .int .i64 b1c2, .int .u8 b1c3, .int .i64 b1c4, .int .i64 b1c5, .list 90 b1c6, .int .i64 b1c7, .bool b1c8, .int .i64 b1c9, .int .i64 b1c10, .bool b1c11, .bool b1c12, .int .u8 b1c13, .int .i64 b1c14, .int .i64 b1c15, .int .i64 b1c16, .bool b1c17, .bool b1c18, .int .i64 b1c19, .int .i64 b1c20, .int .i64 b1c21]], [], .unk⟩
theorem heJ14v1a6758 {R : Type} (o : OJ14v1a6758) (k : Ex → St → Option R) : elJ14v1a6758 o k = k (exJ14v1a6758 o) (stJ14v1a6758 o) := by cases o <;> rfl
theorem hxJ14v1a6758 : ∀ e st x, xsJ14v1a6758 e st = some x → outOk x e exJ14v1a6758 stJ14v1a6758 := by
  intro e st x h
  unfold xsJ14v1a6758 at h
  repeat' split at h
  all_goals first
    | (injection h with h; subst h; exact fun lk M => ⟨rfl, rfl⟩)
    | cases h
noncomputable def T14v1uc6758 (N : Nat) (R : Type) : LTab R := mkTab ⟨66, 33538080⟩ (csF14v1 N R) (noY) [] [] []
theorem okT14v1uc6758 (N : Nat) (R : Type) : (T14v1uc6758 N R).Ok CX code14 := mkTab_ok (hcsF14v1 N R) (noY_ok) (trivial) (trivial) (trivial)
noncomputable def bdJ14v1a6758 : Code := (codeAt code14 [false, true, true, false, false, true, true, false, false, true, false, true]).getD .skip
theorem hsJ14v1a6758 (N : Nat) : ∀ (lk : Nat → AV) (M : List Blk), LFJ14v1a6758 N (canS sgJ14v1a6758 lk M) = evk CX (T14v1uc6758 N OJ14v1a6758) bdJ14v1a6758 6758 (canS sgJ14v1a6758 lk M) (kontX CX 2 xsJ14v1a6758) := by intro lk M; kernel_rfl
inductive OJ14v1a13518 where
  | nx (b0c0 : Int) (b0c1 : ByteArray) (b0c2 : Int) (b0c3 : Int) (b0c4 : Int) (b0c5 : Int) (b0c6 : List Row) (b0c7 : Int) (b0c8 : Bool) (b0c9 : Int) (b0c10 : Int) (b0c11 : Bool) (b0c12 : Bool) (b0c13 : Int) (b0c14 : Int) (b0c15 : Int) (b0c16 : Int) (b0c17 : Bool) (b0c18 : Bool) (b0c19 : Int) (b0c20 : Int) (b0c21 : Int)
  | ret (x2 : Bool) (b0c0 : Int) (b0c1 : ByteArray) (b0c2 : Int) (b0c3 : Int) (b0c4 : Int) (b0c5 : Int) (b0c6 : List Row) (b0c7 : Int) (b0c8 : Bool) (b0c9 : Int) (b0c10 : Int) (b0c11 : Bool) (b0c12 : Bool) (b0c13 : Int) (b0c14 : Int) (b0c15 : Int) (b0c16 : Int) (b0c17 : Bool) (b0c18 : Bool) (b0c19 : Int) (b0c20 : Int) (b0c21 : Int)
def J14v1a13518 (N : Nat) : Int → Int → ByteArray → Int → Int → Int → Int → List Row → Int → Bool → Int → Int → Bool → Bool → Int → Int → Int → Int → Bool → Bool → Int → Int → Int → Option OJ14v1a13518 := fun x5 b0c0 b0c1 b0c2 b0c3 b0c4 b0c5 b0c6 b0c7 b0c8 b0c9 b0c10 b0c11 b0c12 b0c13 b0c14 b0c15 b0c16 b0c17 b0c18 b0c19 b0c20 b0c21 =>
    match decide (x5 < (0 : Int)) with
    | true =>
      some (.ret false b0c0 b0c1 b0c2 b0c3 b0c4 b0c5 b0c6 b0c7 b0c8 b0c9 b0c10 b0c11 b0c12 b0c13 b0c14 b0c15 b0c16 b0c17 b0c18 b0c19 b0c20 b0c21)
    | false =>
      match b0c9 != x5 with
      | true =>
        some (.ret false b0c0 b0c1 b0c2 b0c3 b0c4 b0c5 b0c6 b0c7 b0c8 b0c9 b0c10 b0c11 b0c12 b0c13 b0c14 b0c15 b0c16 b0c17 b0c18 b0c19 b0c20 b0c21)
      | false =>
        some (.nx b0c0 b0c1 b0c2 b0c3 b0c4 b0c5 b0c6 b0c7 b0c8 b0c9 b0c10 b0c11 b0c12 b0c13 b0c14 b0c15 b0c16 b0c17 b0c18 b0c19 b0c20 b0c21)
def LFJ14v1a13518 (N : Nat) (s : St) : Option OJ14v1a13518 := J14v1a13518 N ((Eng.look s.env 5).toI) (((s.mem.getD 0 .dead).cells.getD 0 .top).toI) (((s.mem.getD 0 .dead).cells.getD 1 .top).toS) (((s.mem.getD 0 .dead).cells.getD 2 .top).toI) (((s.mem.getD 0 .dead).cells.getD 3 .top).toI) (((s.mem.getD 0 .dead).cells.getD 4 .top).toI) (((s.mem.getD 0 .dead).cells.getD 5 .top).toI) (((s.mem.getD 0 .dead).cells.getD 6 .top).rows) (((s.mem.getD 0 .dead).cells.getD 7 .top).toI) (((s.mem.getD 0 .dead).cells.getD 8 .top).toB) (((s.mem.getD 0 .dead).cells.getD 9 .top).toI) (((s.mem.getD 0 .dead).cells.getD 10 .top).toI) (((s.mem.getD 0 .dead).cells.getD 11 .top).toB) (((s.mem.getD 0 .dead).cells.getD 12 .top).toB) (((s.mem.getD 0 .dead).cells.getD 13 .top).toI) (((s.mem.getD 0 .dead).cells.getD 14 .top).toI) (((s.mem.getD 0 .dead).cells.getD 15 .top).toI) (((s.mem.getD 0 .dead).cells.getD 16 .top).toI) (((s.mem.getD 0 .dead).cells.getD 17 .top).toB) (((s.mem.getD 0 .dead).cells.getD 18 .top).toB) (((s.mem.getD 0 .dead).cells.getD 19 .top).toI) (((s.mem.getD 0 .dead).cells.getD 20 .top).toI) (((s.mem.getD 0 .dead).cells.getD 21 .top).toI)
def sgJ14v1a13518 : LSh := ⟨[(4, .one (.ptr 0 0 0)), (5, .one (.cell (.int .i64)))], [.var [.int .u8, .str, .int .i64, .int .u8, .int .i64, .int .i64, .any, .int .i64, .bool, .int .i64, .int .i64, .bool, .bool, .int .u8, .int .i64, .int .i64, .int .i64, .bool, .bool, .int .i64, .int .i64, .int .i64] [.cell (.int .u8), .cell (.str), .cell (.int .i64), .cell (.int .u8), .cell (.int .i64), .cell (.int .i64), .cell (.slice 90), .cell (.int .i64), .cell (.bool), .cell (.int .i64), .cell (.int .i64), .cell (.bool), .cell (.bool), .cell (.int .u8), .cell (.int .i64), .cell (.int .i64), .cell (.int .i64), .cell (.bool), .cell (.bool), .cell (.int .i64), .cell (.int .i64), .cell (.int .i64)]]⟩
def ceJ14v1a13518 : List Cv := []
def seJ14v1a13518 : St → List Nat := fun st => [(Eng.look st.env 4).id]
def xJ14v1a13518wnx : XSh OJ14v1a13518 := ⟨[], ⟨[], [.var [.int .u8, .str, .int .i64, .int .u8, .int .i64, .int .i64, .any, .int .i64, .bool, .int .i64, .int .i64, .bool, .bool, .int .u8, .int .i64, .int .i64, .int .i64, .bool, .bool, .int .i64, .int .i64, .int .i64] [.cell (.int .u8), .cell (.str), .cell (.int .i64), .cell (.int .u8), .cell (.int .i64), .cell (.int .i64), .cell (.slice 90), .cell (.int .i64), .cell (.bool), .cell (.int .i64), .cell (.int .i64), .cell (.bool), .cell (.bool), .cell (.int .u8), .cell (.int .i64), .cell (.int .i64), .cell (.int .i64), .cell (.bool), .cell (.bool), .cell (.int .i64), .cell (.int .i64), .cell (.int .i64)]]⟩, fun st => [0], fun s => .nx (((s.mem.getD 0 .dead).cells.getD 0 .top).toI) (((s.mem.getD 0 .dead).cells.getD 1 .top).toS) (((s.mem.getD 0 .dead).cells.getD 2 .top).toI) (((s.mem.getD 0 .dead).cells.getD 3 .top).toI) (((s.mem.getD 0 .dead).cells.getD 4 .top).toI) (((s.mem.getD 0 .dead).cells.getD 5 .top).toI) (((s.mem.getD 0 .dead).cells.getD 6 .top).rows) (((s.mem.getD 0 .dead).cells.getD 7 .top).toI) (((s.mem.getD 0 .dead).cells.getD 8 .top).toB) (((s.mem.getD 0 .dead).cells.getD 9 .top).toI) (((s.mem.getD 0 .dead).cells.getD 10 .top).toI) (((s.mem.getD 0 .dead).cells.getD 11 .top).toB) (((s.mem.getD 0 .dead).cells.getD 12 .top).toB) (((s.mem.getD 0 .dead).cells.getD 13 .top).toI) (((s.mem.getD 0 .dead).cells.getD 14 .top).toI) (((s.mem.getD 0 .dead).cells.getD 15 .top).toI) (((s.mem.getD 0 .dead).cells.getD 16 .top).toI) (((s.mem.getD 0 .dead).cells.getD 17 .top).toB) (((s.mem.getD 0 .dead).cells.getD 18 .top).toB) (((s.mem.getD 0 .dead).cells.getD 19 .top).toI) (((s.mem.getD 0 .dead).cells.getD 20 .top).toI) (((s.mem.getD 0 .dead).cells.getD 21 .top).toI)⟩
def xJ14v1a13518wret : XSh OJ14v1a13518 := ⟨[], ⟨[(2, .one (.cell (.bool)))], [.var [.int .u8, .str, .int .i64, .int .u8, .int .i64, .int .i64, .any, .int .i64, .bool, .int .i64, .int .i64, .bool, .bool, .int .u8, .int .i64, .int .i64, .int .i64, .bool, .bool, .int .i64, .int .i64, .int .i64] [.cell (.int .u8), .cell (.str), .cell (.int .i64), .cell (.int .u8), .cell (.int .i64), .cell (.int .i64), .cell (.slice 90), .cell (.int .i64), .cell (.bool), .cell (.int .i64), .cell (.int .i64), .cell (.bool), .cell (.bool), .cell (.int .u8), .cell (.int .i64), .cell (.int .i64), .cell (.int .i64), .cell (.bool), .cell (.bool), .cell (.int .i64), .cell (.int .i64), .cell (.int .i64)]]⟩, fun st => [0], fun s => .ret ((Eng.look s.env 2).toB) (((s.mem.getD 0 .dead).cells.getD 0 .top).toI) (((s.mem.getD 0 .dead).cells.getD 1 .top).toS) (((s.mem.getD 0 .dead).cells.getD 2 .top).toI) (((s.mem.getD 0 .dead).cells.getD 3 .top).toI) (((s.mem.getD 0 .dead).cells.getD 4 .top).toI) (((s.mem.getD 0 .dead).cells.getD 5 .top).toI) (((s.mem.getD 0 .dead).cells.getD 6 .top).rows) (((s.mem.getD 0 .dead).cells.getD 7 .top).toI) (((s.mem.getD 0 .dead).cells.getD 8 .top).toB) (((s.mem.getD 0 .dead).cells.getD 9 .top).toI) (((s.mem.getD 0 .dead).cells.getD 10 .top).toI) (((s.mem.getD 0 .dead).cells.getD 11 .top).toB) (((s.mem.getD 0 .dead).cells.getD 12 .top).toB) (((s.mem.getD 0 .dead).cells.getD 13 .top).toI) (((s.mem.getD 0 .dead).cells.getD 14 .top).toI) (((s.mem.getD 0 .dead).cells.getD 15 .top).toI) (((s.mem.getD 0 .dead).cells.getD 16 .top).toI) (((s.mem.getD 0 .dead).cells.getD 17 .top).toB) (((s.mem.getD 0 .dead).cells.getD 18 .top).toB) (((s.mem.getD 0 .dead).cells.getD 19 .top).toI) (((s.mem.getD 0 .dead).cells.getD 20 .top).toI) (((s.mem.getD 0 .dead).cells.getD 21 .top).toI)⟩
def xsJ14v1a13518 : Ex → St → Option (XSh OJ14v1a13518) := fun e st => match e with
  | .normal => some xJ14v1a13518wnx
  | .ret => some xJ14v1a13518wret
  | _ => none
def exJ14v1a13518 (o : OJ14v1a13518) : Ex := match o with | .nx b0c0 b0c1 b0c2 b0c3 b0c4 b0c5 b0c6 b0c7 b0c8 b0c9 b0c10 b0c11 b0c12 b0c13 b0c14 b0c15 b0c16 b0c17 b0c18 b0c19 b0c20 b0c21 => .normal | .ret x2 b0c0 b0c1 b0c2 b0c3 b0c4 b0c5 b0c6 b0c7 b0c8 b0c9 b0c10 b0c11 b0c12 b0c13 b0c14 b0c15 b0c16 b0c17 b0c18 b0c19 b0c20 b0c21 => .ret
def stJ14v1a13518 (o : OJ14v1a13518) : St := match o with | .nx b0c0 b0c1 b0c2 b0c3 b0c4 b0c5 b0c6 b0c7 b0c8 b0c9 b0c10 b0c11 b0c12 b0c13 b0c14 b0c15 b0c16 b0c17 b0c18 b0c19 b0c20 b0c21 => ⟨[], [.var [.int .u8, .str, .int .i64, .int .u8, .int .i64, .int .i64, .any, .int .i64, .bool, .int .i64, .int .i64, .bool, .bool, .int .u8, .int .i64, .int .i64, .int .i64, .bool, .bool, .int .i64, .int .i64, .int .i64] [.int .u8 b0c0, .str b0c1, .int .i64 b0c2, .int .u8 b0c3, .int .i64 b0c4, .int .i64 b0c5, .list 90 b0c6, .int .i64 b0c7, .bool b0c8, .int .i64 b0c9, .int .i64 b0c10, .bool b0c11, .bool b0c12, .int .u8 b0c13, .int .i64 b0c14, .int .i64 b0c15, .int .i64 b0c16, .bool b0c17, .bool b0c18, .int .i64 b0c19, .int .i64 b0c20, .int .i64 b0c21]], [], .unk⟩ | .ret x2 b0c0 b0c1 b0c2 b0c3 b0c4 b0c5 b0c6 b0c7 b0c8 b0c9 b0c10 b0c11 b0c12 b0c13 b0c14 b0c15 b0c16 b0c17 b0c18 b0c19 b0c20 b0c21 => ⟨[(2, .bool x2)], [.var [.int .u8, .str, .int .i64, .int .u8, .int .i64, .int .i64, .any, .int .i64, .bool, .int .i64, .int .i64, .bool, .bool, .int .u8, .int .i64, .int .i64, .int .i64, .bool, .bool, .int .i64, .int .i64, .int .i64] [.int .u8 b0c0, .str b0c1, .int .i64 b0c2, .int .u8 b0c3, .int .i64 b0c4, .int .i64 b0c5, .list 90 b0c6, .int .i64 b0c7, .bool b0c8, .int .i64 b0c9, .int .i64 b0c10, .bool b0c11, .bool b0c12, .int .u8 b0c13, .int .i64 b0c14, .int .i64 b0c15, .int .i64 b0c16, .bool b0c17, .bool b0c18, .int .i64 b0c19, .int .i64 b0c20, .int .i64 b0c21]], [], .unk⟩
def elJ14v1a13518 {R : Type} (o : OJ14v1a13518) (k : Ex → St → Option R) : Option R := match o with | .nx b0c0 b0c1 b0c2 b0c3 b0c4 b0c5 b0c6 b0c7 b0c8 b0c9 b0c10 b0c11 b0c12 b0c13 b0c14 b0c15 b0c16 b0c17 b0c18 b0c19 b0c20 b0c21 => k .normal ⟨[], [.var [.int .u8, .str, .int .i64, .int .u8, .int .i64, .int .i64, .any, .int .i64, .bool, .int .i64, .int .i64, .bool, .bool, .int .u8, .int .i64, .int .i64, .int .i64, .bool, .bool, .int .i64, .int .i64, .int .i64] [.int .u8 b0c0, .str b0c1, .int .i64 b0c2, .int .u8 b0c3, .int .i64 b0c4, .int .i64 b0c5, .list 90 b0c6, .int .i64 b0c7, .bool b0c8, .int .i64 b0c9, .int .i64 b0c10, .bool b0c11, .bool b0c12, .int .u8 b0c13, .int .i64 b0c14, .int .i64 b0c15, .int .i64 b0c16, .bool b0c17, .bool b0c18, .int .i64 b0c19, .int .i64 b0c20, .int .i64 b0c21]], [], .unk⟩ | .ret x2 b0c0 b0c1 b0c2 b0c3 b0c4 b0c5 b0c6 b0c7 b0c8 b0c9 b0c10 b0c11 b0c12 b0c13 b0c14 b0c15 b0c16 b0c17 b0c18 b0c19 b0c20 b0c21 => k .ret ⟨[(2, .bool x2)], [.var [.int .u8, .str, .int .i64, .int .u8, .int .i64, .int .i64, .any, .int .i64, .bool, .int .i64, .int .i64, .bool, .bool, .int .u8, .int .i64, .int .i64, .int .i64, .bool, .bool, .int .i64, .int .i64, .int .i64] [.int .u8 b0c0, .str b0c1, .int .i64 b0c2, .int .u8 b0c3, .int .i64 b0c4, .int .i64 b0c5, .list 90 b0c6, .int .i64 b0c7, .bool b0c8, .int .i64 b0c9, .int .i64 b0c10, .bool b0c11, .bool b0c12, .int .u8 b0c13, .int .i64 b0c14, .int .i64 b0c15, .int .i64 b0c16, .bool b0c17, .bool b0c18, .int .i64 b0c19, .int .i64 b0c20, .int .i64 b0c21]], [], .unk⟩
theorem heJ14v1a13518 {R : Type} (o : OJ14v1a13518) (k : Ex → St → Option R) : elJ14v1a13518 o k = k (exJ14v1a13518 o) (stJ14v1a13518 o) := by cases o <;> rfl
theorem hxJ14v1a13518 : ∀ e st x, xsJ14v1a13518 e st = some x → outOk x e exJ14v1a13518 stJ14v1a13518 := by
  intro e st x h
  unfold xsJ14v1a13518 at h
  repeat' split at h
  all_goals first
    | (injection h with h; subst h; exact fun lk M => ⟨rfl, rfl⟩)
    | cases h
noncomputable def T14v1uc13518 (N : Nat) (R : Type) : LTab R := mkTab ⟨66, 8556380164⟩ (csF14v1 N R) (noY) [] [] []
theorem okT14v1uc13518 (N : Nat) (R : Type) : (T14v1uc13518 N R).Ok CX code14 := mkTab_ok (hcsF14v1 N R) (noY_ok) (trivial) (trivial) (trivial)
noncomputable def bdJ14v1a13518 : Code := (codeAt code14 [false, true, true, true, false, false, true, true, false, false, true, false, true]).getD .skip
theorem hsJ14v1a13518 (N : Nat) : ∀ (lk : Nat → AV) (M : List Blk), LFJ14v1a13518 N (canS sgJ14v1a13518 lk M) = evk CX (T14v1uc13518 N OJ14v1a13518) bdJ14v1a13518 13518 (canS sgJ14v1a13518 lk M) (kontX CX 1 xsJ14v1a13518) := by intro lk M; kernel_rfl
inductive OL14v1a26 where
  | ret (x2 : Bool) (b0c0 : List Row) (b0c1 : List Row) (b0c2 : List Row) (b0c3 : List Row) (b0c4 : List Row)
  | x0 (b0c0 : List Row) (b0c1 : List Row) (b0c2 : List Row) (b0c3 : List Row) (b0c4 : List Row)
def L14v1a26 (N : Nat) : Nat → List Row → Int → Int → List Row → List Row → List Row → List Row → List Row → Option OL14v1a26
  | 0 => fun _ _ _ _ _ _ _ _ => none
  | n + 1 => fun x7 x8 x9 b0c0 b0c1 b0c2 b0c3 b0c4 =>
    match decide (x9 < x8) with
    | true =>
      tst (decide ((0 : Int) ≤ x9) && decide (x9 < ((x7.length : Int)))) <|
      match J14v1a6758 N x9 0 b0c0 b0c1 b0c2 b0c3 b0c4 ((((x7.getD x9.toNat [])).getD 0 .top).toI) ((((x7.getD x9.toNat [])).getD 1 .top).toS) ((((x7.getD x9.toNat [])).getD 2 .top).toI) ((((x7.getD x9.toNat [])).getD 3 .top).toI) ((((x7.getD x9.toNat [])).getD 4 .top).toI) ((((x7.getD x9.toNat [])).getD 5 .top).toI) ((((x7.getD x9.toNat [])).getD 6 .top).rows) ((((x7.getD x9.toNat [])).getD 7 .top).toI) ((((x7.getD x9.toNat [])).getD 8 .top).toB) ((((x7.getD x9.toNat [])).getD 9 .top).toI) ((((x7.getD x9.toNat [])).getD 10 .top).toI) ((((x7.getD x9.toNat [])).getD 11 .top).toB) ((((x7.getD x9.toNat [])).getD 12 .top).toB) ((((x7.getD x9.toNat [])).getD 13 .top).toI) ((((x7.getD x9.toNat [])).getD 14 .top).toI) ((((x7.getD x9.toNat [])).getD 15 .top).toI) ((((x7.getD x9.toNat [])).getD 16 .top).toI) ((((x7.getD x9.toNat [])).getD 17 .top).toB) ((((x7.getD x9.toNat [])).getD 18 .top).toB) ((((x7.getD x9.toNat [])).getD 19 .top).toI) ((((x7.getD x9.toNat [])).getD 20 .top).toI) ((((x7.getD x9.toNat [])).getD 21 .top).toI) with
      | none => none
      | some (.nx x5v2 b0c0v2 b0c1v2 b0c2v2 b0c3v2 b0c4v2 b1c0v2 b1c1v2 b1c2v2 b1c3v2 b1c4v2 b1c5v2 b1c6v2 b1c7v2 b1c8v2 b1c9v2 b1c10v2 b1c11v2 b1c12v2 b1c13v2 b1c14v2 b1c15v2 b1c16v2 b1c17v2 b1c18v2 b1c19v2 b1c20v2 b1c21v2) =>
        match J14v1a13518 N x5v2 b1c0v2 b1c1v2 b1c2v2 b1c3v2 b1c4v2 b1c5v2 b1c6v2 b1c7v2 b1c8v2 b1c9v2 b1c10v2 b1c11v2 b1c12v2 b1c13v2 b1c14v2 b1c15v2 b1c16v2 b1c17v2 b1c18v2 b1c19v2 b1c20v2 b1c21v2 with
        | none => none
        | some (.nx b0c0v3 b0c1v3 b0c2v3 b0c3v3 b0c4v3 b0c5v3 b0c6v3 b0c7v3 b0c8v3 b0c9v3 b0c10v3 b0c11v3 b0c12v3 b0c13v3 b0c14v3 b0c15v3 b0c16v3 b0c17v3 b0c18v3 b0c19v3 b0c20v3 b0c21v3) =>
          match b0c0v3 == (5 : Int) with
          | true =>
            match !b0c8v3 with
            | true =>
              match decide (b0c4v3 < (0 : Int)) with
              | true =>
                some (.ret false b0c0v2 b0c1v2 b0c2v2 b0c3v2 b0c4v2)
              | false =>
                match decide (((b0c0v2.length : Int)) ≤ b0c4v3) with
                | true =>
                  some (.ret false b0c0v2 b0c1v2 b0c2v2 b0c3v2 b0c4v2)
                | false =>
                  tst (decide ((0 : Int) ≤ b0c4v3) && decide (b0c4v3 < ((b0c0v2.length : Int)))) <|
                  match ((((b0c0v2.getD b0c4v3.toNat [])).getD 17 .top).toI) != x5v2 with
                  | true =>
                    some (.ret false b0c0v2 b0c1v2 b0c2v2 b0c3v2 b0c4v2)
                  | false =>
                    L14v1a26 N n x7 x8 (IntKind.wrap .i64 (x9 + (1 : Int))) b0c0v2 b0c1v2 b0c2v2 b0c3v2 b0c4v2
            | false =>
              L14v1a26 N n x7 x8 (IntKind.wrap .i64 (x9 + (1 : Int))) b0c0v2 b0c1v2 b0c2v2 b0c3v2 b0c4v2
          | false =>
            L14v1a26 N n x7 x8 (IntKind.wrap .i64 (x9 + (1 : Int))) b0c0v2 b0c1v2 b0c2v2 b0c3v2 b0c4v2
        | some (.ret x2v4 b0c0v4 b0c1v4 b0c2v4 b0c3v4 b0c4v4 b0c5v4 b0c6v4 b0c7v4 b0c8v4 b0c9v4 b0c10v4 b0c11v4 b0c12v4 b0c13v4 b0c14v4 b0c15v4 b0c16v4 b0c17v4 b0c18v4 b0c19v4 b0c20v4 b0c21v4) =>
          some (.ret x2v4 b0c0v2 b0c1v2 b0c2v2 b0c3v2 b0c4v2)
    | false =>
      some (.x0 b0c0 b0c1 b0c2 b0c3 b0c4)
def LFL14v1a26 (N : Nat) (n : Nat) (s : St) : Option OL14v1a26 := L14v1a26 N n ((Eng.look s.env 7).rows) ((Eng.look s.env 8).toI) ((Eng.look s.env 9).toI) (((s.mem.getD 0 .dead).cells.getD 0 .top).rows) (((s.mem.getD 0 .dead).cells.getD 1 .top).rows) (((s.mem.getD 0 .dead).cells.getD 2 .top).rows) (((s.mem.getD 0 .dead).cells.getD 3 .top).rows) (((s.mem.getD 0 .dead).cells.getD 4 .top).rows)
def sgL14v1a26 : LSh := ⟨[(1, .one (.ptr 0 0 0)), (7, .one (.cell (.slice 45))), (8, .one (.cell (.int .i64))), (9, .one (.cell (.int .i64)))], [.var [.any, .any, .any, .any, .any] [.cell (.slice 58), .cell (.slice 74), .cell (.slice 45), .cell (.slice 113), .cell (.slice 117)]]⟩
def ceL14v1a26 : List Cv := []
def seL14v1a26 : St → List Nat := fun st => [(Eng.look st.env 1).id]
def xL14v1a26wret : XSh OL14v1a26 := ⟨[], ⟨[(2, .one (.cell (.bool)))], [.var [.any, .any, .any, .any, .any] [.cell (.slice 58), .cell (.slice 74), .cell (.slice 45), .cell (.slice 113), .cell (.slice 117)]]⟩, fun st => [0], fun s => .ret ((Eng.look s.env 2).toB) (((s.mem.getD 0 .dead).cells.getD 0 .top).rows) (((s.mem.getD 0 .dead).cells.getD 1 .top).rows) (((s.mem.getD 0 .dead).cells.getD 2 .top).rows) (((s.mem.getD 0 .dead).cells.getD 3 .top).rows) (((s.mem.getD 0 .dead).cells.getD 4 .top).rows)⟩
def xL14v1a26wx0 : XSh OL14v1a26 := ⟨[], ⟨[], [.var [.any, .any, .any, .any, .any] [.cell (.slice 58), .cell (.slice 74), .cell (.slice 45), .cell (.slice 113), .cell (.slice 117)]]⟩, fun st => [0], fun s => .x0 (((s.mem.getD 0 .dead).cells.getD 0 .top).rows) (((s.mem.getD 0 .dead).cells.getD 1 .top).rows) (((s.mem.getD 0 .dead).cells.getD 2 .top).rows) (((s.mem.getD 0 .dead).cells.getD 3 .top).rows) (((s.mem.getD 0 .dead).cells.getD 4 .top).rows)⟩
def xsL14v1a26 : Ex → St → Option (XSh OL14v1a26) := fun e st => match e with
  | .ret => some xL14v1a26wret
  | .exit 0 => some xL14v1a26wx0
  | _ => none
def exL14v1a26 (o : OL14v1a26) : Ex := match o with | .ret x2 b0c0 b0c1 b0c2 b0c3 b0c4 => .ret | .x0 b0c0 b0c1 b0c2 b0c3 b0c4 => (.exit 0)
def stL14v1a26 (o : OL14v1a26) : St := match o with | .ret x2 b0c0 b0c1 b0c2 b0c3 b0c4 => ⟨[(2, .bool x2)], [.var [.any, .any, .any, .any, .any] [.list 58 b0c0, .list 74 b0c1, .list 45 b0c2, .list 113 b0c3, .list 117 b0c4]], [], .unk⟩ | .x0 b0c0 b0c1 b0c2 b0c3 b0c4 => ⟨[], [.var [.any, .any, .any, .any, .any] [.list 58 b0c0, .list 74 b0c1, .list 45 b0c2, .list 113 b0c3, .list 117 b0c4]], [], .unk⟩
def elL14v1a26 {R : Type} (o : OL14v1a26) (k : Ex → St → Option R) : Option R := match o with | .ret x2 b0c0 b0c1 b0c2 b0c3 b0c4 => k .ret ⟨[(2, .bool x2)], [.var [.any, .any, .any, .any, .any] [.list 58 b0c0, .list 74 b0c1, .list 45 b0c2, .list 113 b0c3, .list 117 b0c4]], [], .unk⟩ | .x0 b0c0 b0c1 b0c2 b0c3 b0c4 => k (.exit 0) ⟨[], [.var [.any, .any, .any, .any, .any] [.list 58 b0c0, .list 74 b0c1, .list 45 b0c2, .list 113 b0c3, .list 117 b0c4]], [], .unk⟩
theorem heL14v1a26 {R : Type} (o : OL14v1a26) (k : Ex → St → Option R) : elL14v1a26 o k = k (exL14v1a26 o) (stL14v1a26 o) := by cases o <;> rfl
theorem hxL14v1a26 : ∀ e st x, xsL14v1a26 e st = some x → outOk x e exL14v1a26 stL14v1a26 := by
  intro e st x h
  unfold xsL14v1a26 at h
  repeat' split at h
  all_goals first
    | (injection h with h; subst h; exact fun lk M => ⟨rfl, rfl⟩)
    | cases h
noncomputable def T14v1ul26 (N : Nat) (R : Type) : LTab R := mkTab ⟨66, 73786976294838206012⟩ (csF14v1 N R) (noY) [] [] [(6758, fun st k => callLoop CX 2 33538080 ceJ14v1a6758 sgJ14v1a6758 seJ14v1a6758 ⟨66, 73786976294838206012⟩ (LFJ14v1a6758 N) elJ14v1a6758 st k), (13518, fun st k => callLoop CX 1 8556380164 ceJ14v1a13518 sgJ14v1a13518 seJ14v1a13518 ⟨66, 73786976294838206012⟩ (LFJ14v1a13518 N) elJ14v1a13518 st k)]
theorem okT14v1ul26 (N : Nat) (R : Type) : (T14v1ul26 N R).Ok CX code14 := mkTab_ok (hcsF14v1 N R) (noY_ok) (trivial) (trivial) (⟨cut_ok hX (path := [false, true, true, false, false, true, true, false, false, true, false, true]) (by kernel_rfl) (by rfl) (okT14v1uc6758 N OJ14v1a6758) (hsJ14v1a6758 N) hxJ14v1a6758 rfl heJ14v1a6758, cut_ok hX (path := [false, true, true, true, false, false, true, true, false, false, true, false, true]) (by kernel_rfl) (by rfl) (okT14v1uc13518 N OJ14v1a13518) (hsJ14v1a13518 N) hxJ14v1a13518 rfl heJ14v1a13518, trivial⟩)
noncomputable def bdL14v1a26 : Code := match codeAt code14 [false, true, false, true] with | some (.loop c) => c | _ => .skip
theorem hsL14v1a26 (N : Nat) : ∀ (n : Nat) (lk : Nat → AV) (M : List Blk), LFL14v1a26 N (n + 1) (canS sgL14v1a26 lk M) = evk CX (T14v1ul26 N OL14v1a26) bdL14v1a26 (2 * 26) (canS sgL14v1a26 lk M) (kont CX 1 [] sgL14v1a26 (fun st => [0]) xsL14v1a26 (LFL14v1a26 N n)) := by intro n lk M; kernel_rfl
noncomputable def T14v1ur1 (N : Nat) (R : Type) : LTab R := mkTab ⟨66, 73786976294838206463⟩ (csF14v1 N R) (noY) [(26, fun st k => callLoop CX 1 73786976294838206012 ceL14v1a26 sgL14v1a26 seL14v1a26 ⟨66, 73786976294838206463⟩ (LFL14v1a26 N N) elL14v1a26 st k)] [] []
theorem okT14v1ur1 (N : Nat) (R : Type) : (T14v1ur1 N R).Ok CX code14 := mkTab_ok (hcsF14v1 N R) (noY_ok) (⟨loop_ok hX (path := [false, true, false, true]) (by kernel_rfl) (by rfl) (okT14v1ul26 N OL14v1a26) (fun _ _ => rfl) (hsL14v1a26 N) hxL14v1a26 rfl heL14v1a26, trivial⟩) (trivial) (trivial)
def rsF14v1 : List ResultVar := [.tmp 2]
def F14v1 : Nat → TF14v1
  | 0 => fun _ _ _ _ _ => none
  | N + 1 => fun x0c0 x0c1 x0c2 x0c3 x0c4 =>
    match L14v1a26 N N x0c2 ((x0c2.length : Int)) 0 x0c0 x0c1 x0c2 x0c3 x0c4 with
    | none => none
    | some (.ret x2v5 b0c0v5 b0c1v5 b0c2v5 b0c3v5 b0c4v5) =>
      some (.r x2v5)
    | some (.x0 b0c0v6 b0c1v6 b0c2v6 b0c3v6 b0c4v6) =>
      some (.r true)
def xRF14v1 : XSh R14v1 := ⟨[], ⟨[(0, .one (.cell (.bool)))], []⟩, fun _ => [], fun s => .r ((Eng.look s.env 0).toB)⟩
theorem fsF14v1 : ∀ (N : Nat) (lk : Nat → AV) (M : List Blk), FFF14v1 (F14v1 (N + 1)) (canS sgF14v1 lk M) = evfn CX (T14v1ur1 N R14v1) code14 rsF14v1 (argsE 1 (canS sgF14v1 lk M).env) (canS sgF14v1 lk M).mem (goR CX 0 (fun _ => some xRF14v1)) := by intro N lk M; kernel_rfl
theorem soundF14v1 : ∀ N, RecOkF14v1 (F14v1 N)
  | 0, lk, M, o, h => by cases h
  | N + 1, lk, M, o, h => fn_sound hX (okT14v1ur1 N R14v1) Tryd.func14 hb14 rfl en14 (by kernel_rfl) (ys := fun _ => some xRF14v1) (fun st y h => by injection h with h; subst h; exact fun lk M => ⟨rfl, rfl⟩) ((fsF14v1 N lk M).symm.trans h)
def cvce14v1n0 : List Cv := []
def selce14v1n0 : St → List Nat := fun _ => []
noncomputable def ce14v1n0 (Fx : TF14v1) (R : Type) (test : List AV → List Blk → Bool) : CE R := ⟨14, test, fun args M => some (selce14v1n0 ⟨argEnv 0 args, M, [], .unk⟩), fun args M k => tst (Nat.beq args.length 1) (callFn CX 0 cvce14v1n0 sgF14v1 selce14v1n0 (FFF14v1 Fx) elF14v1 args M k)⟩
theorem okce14v1n0 (Fx : TF14v1) (h : RecOkF14v1 Fx) (R : Type) (test : List AV → List Blk → Bool) : CeOk CX (ce14v1n0 Fx R test) := ce_ok hX (fun o k => by cases o; rfl) h en14 (fun args M ids h => by injection h with h; exact ⟨rfl, h.symm⟩)
end Go.Proofs.YtdennlgnbecojaaDoor

namespace Go.Proofs.YtdennlgnbecojaaDoor
open Go Go.Eng
set_option maxRecDepth 100000

/-! ### F15: ceiling/ceilingref12.May -/
inductive R15 where
  | r (x0 : Bool)
abbrev TF15 := List Row → List Row → List Row → List Row → List Row → Option R15
def sgF15 : LSh := ⟨[(0, .agg [.cell (.slice 58), .cell (.slice 74), .cell (.slice 45), .cell (.slice 113), .cell (.slice 117)])], []⟩
def FFF15 (Fx : TF15) (s : St) : Option R15 := Fx (((Eng.look s.env 0).cells.getD 0 .top).rows) (((Eng.look s.env 0).cells.getD 1 .top).rows) (((Eng.look s.env 0).cells.getD 2 .top).rows) (((Eng.look s.env 0).cells.getD 3 .top).rows) (((Eng.look s.env 0).cells.getD 4 .top).rows)
def valF15 (o : R15) : AV := match o with | .r x0 => .bool x0
def memF15 (o : R15) : List Blk := match o with | .r x0 => []
def elF15 {R : Type} (o : R15) (k : AV → List Blk → Option R) : Option R := match o with | .r x0 => k (.bool x0) []
def RecOkF15 (Fx : TF15) : Prop := ∀ lk M o, FFF15 Fx (canS sgF15 lk M) = some o → FCalls CX 15 0 (argsE 1 (canS sgF15 lk M).env) (canS sgF15 lk M).mem (valF15 o) (memF15 o)
noncomputable def csF15 (N : Nat) (R : Type) : List (CE R) := [ce11n0 (F11 N) R (fun _ _ => true)]
theorem hcsF15 (N : Nat) (R : Type) : AllE (CeOk CX) (csF15 N R) := ⟨okce11n0 (F11 N) (soundF11 N) R (fun _ _ => true), trivial⟩
inductive OJ15a1682 where
  | nx (b0c0 : List Row) (b0c1 : List Row) (b0c2 : List Row) (b0c3 : List Row) (b0c4 : List Row) (b1c0 : Int) (b1c1 : ByteArray) (b1c2 : Int) (b1c3 : Int) (b1c4 : Int) (b1c5 : Int) (b1c6 : List Row) (b1c7 : Int) (b1c8 : Bool) (b1c9 : Int) (b1c10 : Int) (b1c11 : Bool) (b1c12 : Bool) (b1c13 : Int) (b1c14 : Int) (b1c15 : Int) (b1c16 : Int) (b1c17 : Bool) (b1c18 : Bool) (b1c19 : Int) (b1c20 : Int) (b1c21 : Int)
  | ret (x2 : Bool) (b0c0 : List Row) (b0c1 : List Row) (b0c2 : List Row) (b0c3 : List Row) (b0c4 : List Row) (b1c0 : Int) (b1c1 : ByteArray) (b1c2 : Int) (b1c3 : Int) (b1c4 : Int) (b1c5 : Int) (b1c6 : List Row) (b1c7 : Int) (b1c8 : Bool) (b1c9 : Int) (b1c10 : Int) (b1c11 : Bool) (b1c12 : Bool) (b1c13 : Int) (b1c14 : Int) (b1c15 : Int) (b1c16 : Int) (b1c17 : Bool) (b1c18 : Bool) (b1c19 : Int) (b1c20 : Int) (b1c21 : Int)
def J15a1682 (N : Nat) : Int → List Row → List Row → List Row → List Row → List Row → Int → ByteArray → Int → Int → Int → Int → List Row → Int → Bool → Int → Int → Bool → Bool → Int → Int → Int → Int → Bool → Bool → Int → Int → Int → Option OJ15a1682 := fun x3 b0c0 b0c1 b0c2 b0c3 b0c4 b1c0 b1c1 b1c2 b1c3 b1c4 b1c5 b1c6 b1c7 b1c8 b1c9 b1c10 b1c11 b1c12 b1c13 b1c14 b1c15 b1c16 b1c17 b1c18 b1c19 b1c20 b1c21 =>
    match b1c0 == (1 : Int) with
    | true =>
      match b1c9 != (0 : Int) with
      | true =>
        some (.ret false b0c0 b0c1 b0c2 b0c3 b0c4 b1c0 b1c1 b1c2 b1c3 b1c4 b1c5 b1c6 b1c7 b1c8 b1c9 b1c10 b1c11 b1c12 b1c13 b1c14 b1c15 b1c16 b1c17 b1c18 b1c19 b1c20 b1c21)
      | false =>
        some (.nx b0c0 b0c1 b0c2 b0c3 b0c4 b1c0 b1c1 b1c2 b1c3 b1c4 b1c5 b1c6 b1c7 b1c8 b1c9 b1c10 b1c11 b1c12 b1c13 b1c14 b1c15 b1c16 b1c17 b1c18 b1c19 b1c20 b1c21)
    | false =>
      match decide (b1c2 < (0 : Int)) with
      | true =>
        some (.ret false b0c0 b0c1 b0c2 b0c3 b0c4 b1c0 b1c1 b1c2 b1c3 b1c4 b1c5 b1c6 b1c7 b1c8 b1c9 b1c10 b1c11 b1c12 b1c13 b1c14 b1c15 b1c16 b1c17 b1c18 b1c19 b1c20 b1c21)
      | false =>
        match decide (x3 ≤ b1c2) with
        | true =>
          some (.ret false b0c0 b0c1 b0c2 b0c3 b0c4 b1c0 b1c1 b1c2 b1c3 b1c4 b1c5 b1c6 b1c7 b1c8 b1c9 b1c10 b1c11 b1c12 b1c13 b1c14 b1c15 b1c16 b1c17 b1c18 b1c19 b1c20 b1c21)
        | false =>
          match F11 N b0c0 b0c1 b0c2 b0c3 b0c4 b1c2 with
          | none => none
          | some (.r rx0v1) =>
            match decide (rx0v1 < (0 : Int)) with
            | true =>
              some (.ret false b0c0 b0c1 b0c2 b0c3 b0c4 b1c0 b1c1 b1c2 b1c3 b1c4 b1c5 b1c6 b1c7 b1c8 b1c9 b1c10 b1c11 b1c12 b1c13 b1c14 b1c15 b1c16 b1c17 b1c18 b1c19 b1c20 b1c21)
            | false =>
              match F11 N b0c0 b0c1 b0c2 b0c3 b0c4 b1c2 with
              | none => none
              | some (.r rx0v2) =>
                match b1c9 != rx0v2 with
                | true =>
                  some (.ret false b0c0 b0c1 b0c2 b0c3 b0c4 b1c0 b1c1 b1c2 b1c3 b1c4 b1c5 b1c6 b1c7 b1c8 b1c9 b1c10 b1c11 b1c12 b1c13 b1c14 b1c15 b1c16 b1c17 b1c18 b1c19 b1c20 b1c21)
                | false =>
                  some (.nx b0c0 b0c1 b0c2 b0c3 b0c4 b1c0 b1c1 b1c2 b1c3 b1c4 b1c5 b1c6 b1c7 b1c8 b1c9 b1c10 b1c11 b1c12 b1c13 b1c14 b1c15 b1c16 b1c17 b1c18 b1c19 b1c20 b1c21)
def LFJ15a1682 (N : Nat) (s : St) : Option OJ15a1682 := J15a1682 N ((Eng.look s.env 3).toI) (((s.mem.getD 0 .dead).cells.getD 0 .top).rows) (((s.mem.getD 0 .dead).cells.getD 1 .top).rows) (((s.mem.getD 0 .dead).cells.getD 2 .top).rows) (((s.mem.getD 0 .dead).cells.getD 3 .top).rows) (((s.mem.getD 0 .dead).cells.getD 4 .top).rows) (((s.mem.getD 1 .dead).cells.getD 0 .top).toI) (((s.mem.getD 1 .dead).cells.getD 1 .top).toS) (((s.mem.getD 1 .dead).cells.getD 2 .top).toI) (((s.mem.getD 1 .dead).cells.getD 3 .top).toI) (((s.mem.getD 1 .dead).cells.getD 4 .top).toI) (((s.mem.getD 1 .dead).cells.getD 5 .top).toI) (((s.mem.getD 1 .dead).cells.getD 6 .top).rows) (((s.mem.getD 1 .dead).cells.getD 7 .top).toI) (((s.mem.getD 1 .dead).cells.getD 8 .top).toB) (((s.mem.getD 1 .dead).cells.getD 9 .top).toI) (((s.mem.getD 1 .dead).cells.getD 10 .top).toI) (((s.mem.getD 1 .dead).cells.getD 11 .top).toB) (((s.mem.getD 1 .dead).cells.getD 12 .top).toB) (((s.mem.getD 1 .dead).cells.getD 13 .top).toI) (((s.mem.getD 1 .dead).cells.getD 14 .top).toI) (((s.mem.getD 1 .dead).cells.getD 15 .top).toI) (((s.mem.getD 1 .dead).cells.getD 16 .top).toI) (((s.mem.getD 1 .dead).cells.getD 17 .top).toB) (((s.mem.getD 1 .dead).cells.getD 18 .top).toB) (((s.mem.getD 1 .dead).cells.getD 19 .top).toI) (((s.mem.getD 1 .dead).cells.getD 20 .top).toI) (((s.mem.getD 1 .dead).cells.getD 21 .top).toI)
def sgJ15a1682 : LSh := ⟨[(1, .one (.ptr 0 0 0)), (3, .one (.cell (.int .i64))), (4, .one (.ptr 1 0 0))], [.var [.any, .any, .any, .any, .any] [.cell (.slice 58), .cell (.slice 74), .cell (.slice 45), .cell (.slice 113), .cell (.slice 117)], .var [.int .u8, .str, .int .i64, .int .u8, .int .i64, .int .i64, .any, .int .i64, .bool, .int .i64, .int .i64, .bool, .bool, .int .u8, .int .i64, .int .i64, .int .i64, .bool, .bool, .int .i64, .int .i64, .int .i64] [.cell (.int .u8), .cell (.str), .cell (.int .i64), .cell (.int .u8), .cell (.int .i64), .cell (.int .i64), .cell (.slice 90), .cell (.int .i64), .cell (.bool), .cell (.int .i64), .cell (.int .i64), .cell (.bool), .cell (.bool), .cell (.int .u8), .cell (.int .i64), .cell (.int .i64), .cell (.int .i64), .cell (.bool), .cell (.bool), .cell (.int .i64), .cell (.int .i64), .cell (.int .i64)]]⟩
def ceJ15a1682 : List Cv := []
def seJ15a1682 : St → List Nat := fun st => [(Eng.look st.env 1).id, (Eng.look st.env 4).id]
def xJ15a1682wnx : XSh OJ15a1682 := ⟨[], ⟨[], [.var [.any, .any, .any, .any, .any] [.cell (.slice 58), .cell (.slice 74), .cell (.slice 45), .cell (.slice 113), .cell (.slice 117)], .var [.int .u8, .str, .int .i64, .int .u8, .int .i64, .int .i64, .any, .int .i64, .bool, .int .i64, .int .i64, .bool, .bool, .int .u8, .int .i64, .int .i64, .int .i64, .bool, .bool, .int .i64, .int .i64, .int .i64] [.cell (.int .u8), .cell (.str), .cell (.int .i64), .cell (.int .u8), .cell (.int .i64), .cell (.int .i64), .cell (.slice 90), .cell (.int .i64), .cell (.bool), .cell (.int .i64), .cell (.int .i64), .cell (.bool), .cell (.bool), .cell (.int .u8), .cell (.int .i64), .cell (.int .i64), .cell (.int .i64), .cell (.bool), .cell (.bool), .cell (.int .i64), .cell (.int .i64), .cell (.int .i64)]]⟩, fun st => [0, 1], fun s => .nx (((s.mem.getD 0 .dead).cells.getD 0 .top).rows) (((s.mem.getD 0 .dead).cells.getD 1 .top).rows) (((s.mem.getD 0 .dead).cells.getD 2 .top).rows) (((s.mem.getD 0 .dead).cells.getD 3 .top).rows) (((s.mem.getD 0 .dead).cells.getD 4 .top).rows) (((s.mem.getD 1 .dead).cells.getD 0 .top).toI) (((s.mem.getD 1 .dead).cells.getD 1 .top).toS) (((s.mem.getD 1 .dead).cells.getD 2 .top).toI) (((s.mem.getD 1 .dead).cells.getD 3 .top).toI) (((s.mem.getD 1 .dead).cells.getD 4 .top).toI) (((s.mem.getD 1 .dead).cells.getD 5 .top).toI) (((s.mem.getD 1 .dead).cells.getD 6 .top).rows) (((s.mem.getD 1 .dead).cells.getD 7 .top).toI) (((s.mem.getD 1 .dead).cells.getD 8 .top).toB) (((s.mem.getD 1 .dead).cells.getD 9 .top).toI) (((s.mem.getD 1 .dead).cells.getD 10 .top).toI) (((s.mem.getD 1 .dead).cells.getD 11 .top).toB) (((s.mem.getD 1 .dead).cells.getD 12 .top).toB) (((s.mem.getD 1 .dead).cells.getD 13 .top).toI) (((s.mem.getD 1 .dead).cells.getD 14 .top).toI) (((s.mem.getD 1 .dead).cells.getD 15 .top).toI) (((s.mem.getD 1 .dead).cells.getD 16 .top).toI) (((s.mem.getD 1 .dead).cells.getD 17 .top).toB) (((s.mem.getD 1 .dead).cells.getD 18 .top).toB) (((s.mem.getD 1 .dead).cells.getD 19 .top).toI) (((s.mem.getD 1 .dead).cells.getD 20 .top).toI) (((s.mem.getD 1 .dead).cells.getD 21 .top).toI)⟩
def xJ15a1682wret : XSh OJ15a1682 := ⟨[], ⟨[(2, .one (.cell (.bool)))], [.var [.any, .any, .any, .any, .any] [.cell (.slice 58), .cell (.slice 74), .cell (.slice 45), .cell (.slice 113), .cell (.slice 117)], .var [.int .u8, .str, .int .i64, .int .u8, .int .i64, .int .i64, .any, .int .i64, .bool, .int .i64, .int .i64, .bool, .bool, .int .u8, .int .i64, .int .i64, .int .i64, .bool, .bool, .int .i64, .int .i64, .int .i64] [.cell (.int .u8), .cell (.str), .cell (.int .i64), .cell (.int .u8), .cell (.int .i64), .cell (.int .i64), .cell (.slice 90), .cell (.int .i64), .cell (.bool), .cell (.int .i64), .cell (.int .i64), .cell (.bool), .cell (.bool), .cell (.int .u8), .cell (.int .i64), .cell (.int .i64), .cell (.int .i64), .cell (.bool), .cell (.bool), .cell (.int .i64), .cell (.int .i64), .cell (.int .i64)]]⟩, fun st => [0, 1], fun s => .ret ((Eng.look s.env 2).toB) (((s.mem.getD 0 .dead).cells.getD 0 .top).rows) (((s.mem.getD 0 .dead).cells.getD 1 .top).rows) (((s.mem.getD 0 .dead).cells.getD 2 .top).rows) (((s.mem.getD 0 .dead).cells.getD 3 .top).rows) (((s.mem.getD 0 .dead).cells.getD 4 .top).rows) (((s.mem.getD 1 .dead).cells.getD 0 .top).toI) (((s.mem.getD 1 .dead).cells.getD 1 .top).toS) (((s.mem.getD 1 .dead).cells.getD 2 .top).toI) (((s.mem.getD 1 .dead).cells.getD 3 .top).toI) (((s.mem.getD 1 .dead).cells.getD 4 .top).toI) (((s.mem.getD 1 .dead).cells.getD 5 .top).toI) (((s.mem.getD 1 .dead).cells.getD 6 .top).rows) (((s.mem.getD 1 .dead).cells.getD 7 .top).toI) (((s.mem.getD 1 .dead).cells.getD 8 .top).toB) (((s.mem.getD 1 .dead).cells.getD 9 .top).toI) (((s.mem.getD 1 .dead).cells.getD 10 .top).toI) (((s.mem.getD 1 .dead).cells.getD 11 .top).toB) (((s.mem.getD 1 .dead).cells.getD 12 .top).toB) (((s.mem.getD 1 .dead).cells.getD 13 .top).toI) (((s.mem.getD 1 .dead).cells.getD 14 .top).toI) (((s.mem.getD 1 .dead).cells.getD 15 .top).toI) (((s.mem.getD 1 .dead).cells.getD 16 .top).toI) (((s.mem.getD 1 .dead).cells.getD 17 .top).toB) (((s.mem.getD 1 .dead).cells.getD 18 .top).toB) (((s.mem.getD 1 .dead).cells.getD 19 .top).toI) (((s.mem.getD 1 .dead).cells.getD 20 .top).toI) (((s.mem.getD 1 .dead).cells.getD 21 .top).toI)⟩
def xsJ15a1682 : Ex → St → Option (XSh OJ15a1682) := fun e st => match e with
  | .normal => some xJ15a1682wnx
  | .ret => some xJ15a1682wret
  | _ => none
def exJ15a1682 (o : OJ15a1682) : Ex := match o with | .nx b0c0 b0c1 b0c2 b0c3 b0c4 b1c0 b1c1 b1c2 b1c3 b1c4 b1c5 b1c6 b1c7 b1c8 b1c9 b1c10 b1c11 b1c12 b1c13 b1c14 b1c15 b1c16 b1c17 b1c18 b1c19 b1c20 b1c21 => .normal | .ret x2 b0c0 b0c1 b0c2 b0c3 b0c4 b1c0 b1c1 b1c2 b1c3 b1c4 b1c5 b1c6 b1c7 b1c8 b1c9 b1c10 b1c11 b1c12 b1c13 b1c14 b1c15 b1c16 b1c17 b1c18 b1c19 b1c20 b1c21 => .ret
def stJ15a1682 (o : OJ15a1682) : St := match o with | .nx b0c0 b0c1 b0c2 b0c3 b0c4 b1c0 b1c1 b1c2 b1c3 b1c4 b1c5 b1c6 b1c7 b1c8 b1c9 b1c10 b1c11 b1c12 b1c13 b1c14 b1c15 b1c16 b1c17 b1c18 b1c19 b1c20 b1c21 => ⟨[], [.var [.any, .any, .any, .any, .any] [.list 58 b0c0, .list 74 b0c1, .list 45 b0c2, .list 113 b0c3, .list 117 b0c4], .var [.int .u8, .str, .int .i64, .int .u8, .int .i64, .int .i64, .any, .int .i64, .bool, .int .i64, .int .i64, .bool, .bool, .int .u8, .int .i64, .int .i64, .int .i64, .bool, .bool, .int .i64, .int .i64, .int .i64] [.int .u8 b1c0, .str b1c1, .int .i64 b1c2, .int .u8 b1c3, .int .i64 b1c4, .int .i64 b1c5, .list 90 b1c6, .int .i64 b1c7, .bool b1c8, .int .i64 b1c9, .int .i64 b1c10, .bool b1c11, .bool b1c12, .int .u8 b1c13, .int .i64 b1c14, .int .i64 b1c15, .int .i64 b1c16, .bool b1c17, .bool b1c18, .int .i64 b1c19, .int .i64 b1c20, .int .i64 b1c21]], [], .unk⟩ | .ret x2 b0c0 b0c1 b0c2 b0c3 b0c4 b1c0 b1c1 b1c2 b1c3 b1c4 b1c5 b1c6 b1c7 b1c8 b1c9 b1c10 b1c11 b1c12 b1c13 b1c14 b1c15 b1c16 b1c17 b1c18 b1c19 b1c20 b1c21 => ⟨[(2, .bool x2)], [.var [.any, .any, .any, .any, .any] [.list 58 b0c0, .list 74 b0c1, .list 45 b0c2, .list 113 b0c3, .list 117 b0c4], .var [.int .u8, .str, .int .i64, .int .u8, .int .i64, .int .i64, .any, .int .i64, .bool, .int .i64, .int .i64, .bool, .bool, .int .u8, .int .i64, .int .i64, .int .i64, .bool, .bool, .int .i64, .int .i64, .int .i64] [.int .u8 b1c0, .str b1c1, .int .i64 b1c2, .int .u8 b1c3, .int .i64 b1c4, .int .i64 b1c5, .list 90 b1c6, .int .i64 b1c7, .bool b1c8, .int .i64 b1c9, .int .i64 b1c10, .bool b1c11, .bool b1c12, .int .u8 b1c13, .int .i64 b1c14, .int .i64 b1c15, .int .i64 b1c16, .bool b1c17, .bool b1c18, .int .i64 b1c19, .int .i64 b1c20, .int .i64 b1c21]], [], .unk⟩
def elJ15a1682 {R : Type} (o : OJ15a1682) (k : Ex → St → Option R) : Option R := match o with | .nx b0c0 b0c1 b0c2 b0c3 b0c4 b1c0 b1c1 b1c2 b1c3 b1c4 b1c5 b1c6 b1c7 b1c8 b1c9 b1c10 b1c11 b1c12 b1c13 b1c14 b1c15 b1c16 b1c17 b1c18 b1c19 b1c20 b1c21 => k .normal ⟨[], [.var [.any, .any, .any, .any, .any] [.list 58 b0c0, .list 74 b0c1, .list 45 b0c2, .list 113 b0c3, .list 117 b0c4], .var [.int .u8, .str, .int .i64, .int .u8, .int .i64, .int .i64, .any, .int .i64, .bool, .int .i64, .int .i64, .bool, .bool, .int .u8, .int .i64, .int .i64, .int .i64, .bool, .bool, .int .i64, .int .i64, .int .i64] [.int .u8 b1c0, .str b1c1, .int .i64 b1c2, .int .u8 b1c3, .int .i64 b1c4, .int .i64 b1c5, .list 90 b1c6, .int .i64 b1c7, .bool b1c8, .int .i64 b1c9, .int .i64 b1c10, .bool b1c11, .bool b1c12, .int .u8 b1c13, .int .i64 b1c14, .int .i64 b1c15, .int .i64 b1c16, .bool b1c17, .bool b1c18, .int .i64 b1c19, .int .i64 b1c20, .int .i64 b1c21]], [], .unk⟩ | .ret x2 b0c0 b0c1 b0c2 b0c3 b0c4 b1c0 b1c1 b1c2 b1c3 b1c4 b1c5 b1c6 b1c7 b1c8 b1c9 b1c10 b1c11 b1c12 b1c13 b1c14 b1c15 b1c16 b1c17 b1c18 b1c19 b1c20 b1c21 => k .ret ⟨[(2, .bool x2)], [.var [.any, .any, .any, .any, .any] [.list 58 b0c0, .list 74 b0c1, .list 45 b0c2, .list 113 b0c3, .list 117 b0c4], .var [.int .u8, .str, .int .i64, .int .u8, .int .i64, .int .i64, .any, .int .i64, .bool, .int .i64, .int .i64, .bool, .bool, .int .u8, .int .i64, .int .i64, .int .i64, .bool, .bool, .int .i64, .int .i64, .int .i64] [.int .u8 b1c0, .str b1c1, .int .i64 b1c2, .int .u8 b1c3, .int .i64 b1c4, .int .i64 b1c5, .list 90 b1c6, .int .i64 b1c7, .bool b1c8, .int .i64 b1c9, .int .i64 b1c10, .bool b1c11, .bool b1c12, .int .u8 b1c13, .int .i64 b1c14, .int .i64 b1c15, .int .i64 b1c16, .bool b1c17, .bool b1c18, .int .i64 b1c19, .int .i64 b1c20, .int .i64 b1c21]], [], .unk⟩
theorem heJ15a1682 {R : Type} (o : OJ15a1682) (k : Ex → St → Option R) : elJ15a1682 o k = k (exJ15a1682 o) (stJ15a1682 o) := by cases o <;> rfl
theorem hxJ15a1682 : ∀ e st x, xsJ15a1682 e st = some x → outOk x e exJ15a1682 stJ15a1682 := by
  intro e st x h
  unfold xsJ15a1682 at h
  repeat' split at h
  all_goals first
    | (injection h with h; subst h; exact fun lk M => ⟨rfl, rfl⟩)
    | cases h
noncomputable def T15uc1682 (N : Nat) (R : Type) : LTab R := mkTab ⟨81, 281474976579588⟩ (csF15 N R) (noY) [] [] []
theorem okT15uc1682 (N : Nat) (R : Type) : (T15uc1682 N R).Ok CX code15 := mkTab_ok (hcsF15 N R) (noY_ok) (trivial) (trivial) (trivial)
noncomputable def bdJ15a1682 : Code := (codeAt code15 [false, true, false, false, true, false, false, true, false, true]).getD .skip
theorem hsJ15a1682 (N : Nat) : ∀ (lk : Nat → AV) (M : List Blk), LFJ15a1682 N (canS sgJ15a1682 lk M) = evk CX (T15uc1682 N OJ15a1682) bdJ15a1682 1682 (canS sgJ15a1682 lk M) (kontX CX 2 xsJ15a1682) := by intro lk M; kernel_rfl
inductive OL15a26 where
  | ret (x2 : Bool) (b0c0 : List Row) (b0c1 : List Row) (b0c2 : List Row) (b0c3 : List Row) (b0c4 : List Row)
  | x0 (b0c0 : List Row) (b0c1 : List Row) (b0c2 : List Row) (b0c3 : List Row) (b0c4 : List Row)
def L15a26 (N : Nat) : Nat → Int → List Row → List Row → List Row → List Row → List Row → Option OL15a26
  | 0 => fun _ _ _ _ _ _ => none
  | n + 1 => fun x3 b0c0 b0c1 b0c2 b0c3 b0c4 =>
    match decide (x3 < ((b0c2.length : Int))) with
    | true =>
      tst (decide ((0 : Int) ≤ x3) && decide (x3 < ((b0c2.length : Int)))) <|
      match J15a1682 N x3 b0c0 b0c1 b0c2 b0c3 b0c4 ((((b0c2.getD x3.toNat [])).getD 0 .top).toI) ((((b0c2.getD x3.toNat [])).getD 1 .top).toS) ((((b0c2.getD x3.toNat [])).getD 2 .top).toI) ((((b0c2.getD x3.toNat [])).getD 3 .top).toI) ((((b0c2.getD x3.toNat [])).getD 4 .top).toI) ((((b0c2.getD x3.toNat [])).getD 5 .top).toI) ((((b0c2.getD x3.toNat [])).getD 6 .top).rows) ((((b0c2.getD x3.toNat [])).getD 7 .top).toI) ((((b0c2.getD x3.toNat [])).getD 8 .top).toB) ((((b0c2.getD x3.toNat [])).getD 9 .top).toI) ((((b0c2.getD x3.toNat [])).getD 10 .top).toI) ((((b0c2.getD x3.toNat [])).getD 11 .top).toB) ((((b0c2.getD x3.toNat [])).getD 12 .top).toB) ((((b0c2.getD x3.toNat [])).getD 13 .top).toI) ((((b0c2.getD x3.toNat [])).getD 14 .top).toI) ((((b0c2.getD x3.toNat [])).getD 15 .top).toI) ((((b0c2.getD x3.toNat [])).getD 16 .top).toI) ((((b0c2.getD x3.toNat [])).getD 17 .top).toB) ((((b0c2.getD x3.toNat [])).getD 18 .top).toB) ((((b0c2.getD x3.toNat [])).getD 19 .top).toI) ((((b0c2.getD x3.toNat [])).getD 20 .top).toI) ((((b0c2.getD x3.toNat [])).getD 21 .top).toI) with
      | none => none
      | some (.nx b0c0v3 b0c1v3 b0c2v3 b0c3v3 b0c4v3 b1c0v3 b1c1v3 b1c2v3 b1c3v3 b1c4v3 b1c5v3 b1c6v3 b1c7v3 b1c8v3 b1c9v3 b1c10v3 b1c11v3 b1c12v3 b1c13v3 b1c14v3 b1c15v3 b1c16v3 b1c17v3 b1c18v3 b1c19v3 b1c20v3 b1c21v3) =>
        match b1c0v3 == (5 : Int) with
        | true =>
          match !b1c8v3 with
          | true =>
            match decide (b1c4v3 < (0 : Int)) with
            | true =>
              some (.ret false b0c0v3 b0c1v3 b0c2v3 b0c3v3 b0c4v3)
            | false =>
              match decide (((b0c0v3.length : Int)) ≤ b1c4v3) with
              | true =>
                some (.ret false b0c0v3 b0c1v3 b0c2v3 b0c3v3 b0c4v3)
              | false =>
                tst (decide ((0 : Int) ≤ b1c4v3) && decide (b1c4v3 < ((b0c0v3.length : Int)))) <|
                match ((((b0c0v3.getD b1c4v3.toNat [])).getD 17 .top).toI) != b1c9v3 with
                | true =>
                  some (.ret false b0c0v3 b0c1v3 b0c2v3 b0c3v3 b0c4v3)
                | false =>
                  L15a26 N n (IntKind.wrap .i64 (x3 + (1 : Int))) b0c0v3 b0c1v3 b0c2v3 b0c3v3 b0c4v3
          | false =>
            L15a26 N n (IntKind.wrap .i64 (x3 + (1 : Int))) b0c0v3 b0c1v3 b0c2v3 b0c3v3 b0c4v3
        | false =>
          L15a26 N n (IntKind.wrap .i64 (x3 + (1 : Int))) b0c0v3 b0c1v3 b0c2v3 b0c3v3 b0c4v3
      | some (.ret x2v4 b0c0v4 b0c1v4 b0c2v4 b0c3v4 b0c4v4 b1c0v4 b1c1v4 b1c2v4 b1c3v4 b1c4v4 b1c5v4 b1c6v4 b1c7v4 b1c8v4 b1c9v4 b1c10v4 b1c11v4 b1c12v4 b1c13v4 b1c14v4 b1c15v4 b1c16v4 b1c17v4 b1c18v4 b1c19v4 b1c20v4 b1c21v4) =>
        some (.ret x2v4 b0c0v4 b0c1v4 b0c2v4 b0c3v4 b0c4v4)
    | false =>
      some (.x0 b0c0 b0c1 b0c2 b0c3 b0c4)
def LFL15a26 (N : Nat) (n : Nat) (s : St) : Option OL15a26 := L15a26 N n ((Eng.look s.env 3).toI) (((s.mem.getD 0 .dead).cells.getD 0 .top).rows) (((s.mem.getD 0 .dead).cells.getD 1 .top).rows) (((s.mem.getD 0 .dead).cells.getD 2 .top).rows) (((s.mem.getD 0 .dead).cells.getD 3 .top).rows) (((s.mem.getD 0 .dead).cells.getD 4 .top).rows)
def sgL15a26 : LSh := ⟨[(1, .one (.ptr 0 0 0)), (3, .one (.cell (.int .i64)))], [.var [.any, .any, .any, .any, .any] [.cell (.slice 58), .cell (.slice 74), .cell (.slice 45), .cell (.slice 113), .cell (.slice 117)]]⟩
def ceL15a26 : List Cv := []
def seL15a26 : St → List Nat := fun st => [(Eng.look st.env 1).id]
def xL15a26wret : XSh OL15a26 := ⟨[], ⟨[(2, .one (.cell (.bool)))], [.var [.any, .any, .any, .any, .any] [.cell (.slice 58), .cell (.slice 74), .cell (.slice 45), .cell (.slice 113), .cell (.slice 117)]]⟩, fun st => [0], fun s => .ret ((Eng.look s.env 2).toB) (((s.mem.getD 0 .dead).cells.getD 0 .top).rows) (((s.mem.getD 0 .dead).cells.getD 1 .top).rows) (((s.mem.getD 0 .dead).cells.getD 2 .top).rows) (((s.mem.getD 0 .dead).cells.getD 3 .top).rows) (((s.mem.getD 0 .dead).cells.getD 4 .top).rows)⟩
def xL15a26wx0 : XSh OL15a26 := ⟨[], ⟨[], [.var [.any, .any, .any, .any, .any] [.cell (.slice 58), .cell (.slice 74), .cell (.slice 45), .cell (.slice 113), .cell (.slice 117)]]⟩, fun st => [0], fun s => .x0 (((s.mem.getD 0 .dead).cells.getD 0 .top).rows) (((s.mem.getD 0 .dead).cells.getD 1 .top).rows) (((s.mem.getD 0 .dead).cells.getD 2 .top).rows) (((s.mem.getD 0 .dead).cells.getD 3 .top).rows) (((s.mem.getD 0 .dead).cells.getD 4 .top).rows)⟩
def xsL15a26 : Ex → St → Option (XSh OL15a26) := fun e st => match e with
  | .ret => some xL15a26wret
  | .exit 0 => some xL15a26wx0
  | _ => none
def exL15a26 (o : OL15a26) : Ex := match o with | .ret x2 b0c0 b0c1 b0c2 b0c3 b0c4 => .ret | .x0 b0c0 b0c1 b0c2 b0c3 b0c4 => (.exit 0)
def stL15a26 (o : OL15a26) : St := match o with | .ret x2 b0c0 b0c1 b0c2 b0c3 b0c4 => ⟨[(2, .bool x2)], [.var [.any, .any, .any, .any, .any] [.list 58 b0c0, .list 74 b0c1, .list 45 b0c2, .list 113 b0c3, .list 117 b0c4]], [], .unk⟩ | .x0 b0c0 b0c1 b0c2 b0c3 b0c4 => ⟨[], [.var [.any, .any, .any, .any, .any] [.list 58 b0c0, .list 74 b0c1, .list 45 b0c2, .list 113 b0c3, .list 117 b0c4]], [], .unk⟩
def elL15a26 {R : Type} (o : OL15a26) (k : Ex → St → Option R) : Option R := match o with | .ret x2 b0c0 b0c1 b0c2 b0c3 b0c4 => k .ret ⟨[(2, .bool x2)], [.var [.any, .any, .any, .any, .any] [.list 58 b0c0, .list 74 b0c1, .list 45 b0c2, .list 113 b0c3, .list 117 b0c4]], [], .unk⟩ | .x0 b0c0 b0c1 b0c2 b0c3 b0c4 => k (.exit 0) ⟨[], [.var [.any, .any, .any, .any, .any] [.list 58 b0c0, .list 74 b0c1, .list 45 b0c2, .list 113 b0c3, .list 117 b0c4]], [], .unk⟩
theorem heL15a26 {R : Type} (o : OL15a26) (k : Ex → St → Option R) : elL15a26 o k = k (exL15a26 o) (stL15a26 o) := by cases o <;> rfl
theorem hxL15a26 : ∀ e st x, xsL15a26 e st = some x → outOk x e exL15a26 stL15a26 := by
  intro e st x h
  unfold xsL15a26 at h
  repeat' split at h
  all_goals first
    | (injection h with h; subst h; exact fun lk M => ⟨rfl, rfl⟩)
    | cases h
noncomputable def T15ul26 (N : Nat) (R : Type) : LTab R := mkTab ⟨81, 2417851639229258349412348⟩ (csF15 N R) (noY) [] [] [(1682, fun st k => callLoop CX 2 281474976579588 ceJ15a1682 sgJ15a1682 seJ15a1682 ⟨81, 2417851639229258349412348⟩ (LFJ15a1682 N) elJ15a1682 st k)]
theorem okT15ul26 (N : Nat) (R : Type) : (T15ul26 N R).Ok CX code15 := mkTab_ok (hcsF15 N R) (noY_ok) (trivial) (trivial) (⟨cut_ok hX (path := [false, true, false, false, true, false, false, true, false, true]) (by kernel_rfl) (by rfl) (okT15uc1682 N OJ15a1682) (hsJ15a1682 N) hxJ15a1682 rfl heJ15a1682, trivial⟩)
noncomputable def bdL15a26 : Code := match codeAt code15 [false, true, false, true] with | some (.loop c) => c | _ => .skip
theorem hsL15a26 (N : Nat) : ∀ (n : Nat) (lk : Nat → AV) (M : List Blk), LFL15a26 N (n + 1) (canS sgL15a26 lk M) = evk CX (T15ul26 N OL15a26) bdL15a26 (2 * 26) (canS sgL15a26 lk M) (kont CX 1 [] sgL15a26 (fun st => [0]) xsL15a26 (LFL15a26 N n)) := by intro n lk M; kernel_rfl
noncomputable def T15ur1 (N : Nat) (R : Type) : LTab R := mkTab ⟨81, 2417851639229258349412351⟩ (csF15 N R) (noY) [(26, fun st k => callLoop CX 1 2417851639229258349412348 ceL15a26 sgL15a26 seL15a26 ⟨81, 2417851639229258349412351⟩ (LFL15a26 N N) elL15a26 st k)] [] []
theorem okT15ur1 (N : Nat) (R : Type) : (T15ur1 N R).Ok CX code15 := mkTab_ok (hcsF15 N R) (noY_ok) (⟨loop_ok hX (path := [false, true, false, true]) (by kernel_rfl) (by rfl) (okT15ul26 N OL15a26) (fun _ _ => rfl) (hsL15a26 N) hxL15a26 rfl heL15a26, trivial⟩) (trivial) (trivial)
def rsF15 : List ResultVar := [.tmp 2]
def F15 : Nat → TF15
  | 0 => fun _ _ _ _ _ => none
  | N + 1 => fun x0c0 x0c1 x0c2 x0c3 x0c4 =>
    match L15a26 N N 0 x0c0 x0c1 x0c2 x0c3 x0c4 with
    | none => none
    | some (.ret x2v5 b0c0v5 b0c1v5 b0c2v5 b0c3v5 b0c4v5) =>
      some (.r x2v5)
    | some (.x0 b0c0v6 b0c1v6 b0c2v6 b0c3v6 b0c4v6) =>
      some (.r true)
def xRF15 : XSh R15 := ⟨[], ⟨[(0, .one (.cell (.bool)))], []⟩, fun _ => [], fun s => .r ((Eng.look s.env 0).toB)⟩
theorem fsF15 : ∀ (N : Nat) (lk : Nat → AV) (M : List Blk), FFF15 (F15 (N + 1)) (canS sgF15 lk M) = evfn CX (T15ur1 N R15) code15 rsF15 (argsE 1 (canS sgF15 lk M).env) (canS sgF15 lk M).mem (goR CX 0 (fun _ => some xRF15)) := by intro N lk M; kernel_rfl
theorem soundF15 : ∀ N, RecOkF15 (F15 N)
  | 0, lk, M, o, h => by cases h
  | N + 1, lk, M, o, h => fn_sound hX (okT15ur1 N R15) Tryd.func15 hb15 rfl en15 (by kernel_rfl) (ys := fun _ => some xRF15) (fun st y h => by injection h with h; subst h; exact fun lk M => ⟨rfl, rfl⟩) ((fsF15 N lk M).symm.trans h)
def cvce15n0 : List Cv := []
def selce15n0 : St → List Nat := fun _ => []
noncomputable def ce15n0 (Fx : TF15) (R : Type) (test : List AV → List Blk → Bool) : CE R := ⟨15, test, fun args M => some (selce15n0 ⟨argEnv 0 args, M, [], .unk⟩), fun args M k => tst (Nat.beq args.length 1) (callFn CX 0 cvce15n0 sgF15 selce15n0 (FFF15 Fx) elF15 args M k)⟩
theorem okce15n0 (Fx : TF15) (h : RecOkF15 Fx) (R : Type) (test : List AV → List Blk → Bool) : CeOk CX (ce15n0 Fx R test) := ce_ok hX (fun o k => by cases o; rfl) h en15 (fun args M ids h => by injection h with h; exact ⟨rfl, h.symm⟩)
end Go.Proofs.YtdennlgnbecojaaDoor

namespace Go.Proofs.YtdennlgnbecojaaDoor
open Go Go.Eng
set_option maxRecDepth 100000

/-! ### F3: ceiling/ceilinglaw12.LevelRegions -/
inductive R3 where
  | r (x0 : Bool)
abbrev TF3 := List Row → List Row → List Row → List Row → List Row → Int → Option R3
def sgF3 : LSh := ⟨[(0, .agg [.cell (.slice 58), .cell (.slice 74), .cell (.slice 45), .cell (.slice 113), .cell (.slice 117)]), (1, .one (.cell (.int .i64)))], []⟩
def FFF3 (Fx : TF3) (s : St) : Option R3 := Fx (((Eng.look s.env 0).cells.getD 0 .top).rows) (((Eng.look s.env 0).cells.getD 1 .top).rows) (((Eng.look s.env 0).cells.getD 2 .top).rows) (((Eng.look s.env 0).cells.getD 3 .top).rows) (((Eng.look s.env 0).cells.getD 4 .top).rows) ((Eng.look s.env 1).toI)
def valF3 (o : R3) : AV := match o with | .r x0 => .bool x0
def memF3 (o : R3) : List Blk := match o with | .r x0 => []
def elF3 {R : Type} (o : R3) (k : AV → List Blk → Option R) : Option R := match o with | .r x0 => k (.bool x0) []
def RecOkF3 (Fx : TF3) : Prop := ∀ lk M o, FFF3 Fx (canS sgF3 lk M) = some o → FCalls CX 3 0 (argsE 2 (canS sgF3 lk M).env) (canS sgF3 lk M).mem (valF3 o) (memF3 o)
noncomputable def csF3 (N : Nat) (R : Type) : List (CE R) := [ce8n0 (F8 N) R (fun _ _ => true), ce9n0 (F9 N) R (fun _ _ => true), ce10v1n0 (F10v1 N) R (fun _ _ => true), ce11n0 (F11 N) R (fun _ _ => true), ce12v1n0 (F12v1 N) R (fun _ _ => true), ce13n0 (F13 N) R (fun _ _ => true), ce14v1n0 (F14v1 N) R (fun _ _ => true), ce15n0 (F15 N) R (fun _ _ => true)]
theorem hcsF3 (N : Nat) (R : Type) : AllE (CeOk CX) (csF3 N R) := ⟨okce8n0 (F8 N) (soundF8 N) R (fun _ _ => true), okce9n0 (F9 N) (soundF9 N) R (fun _ _ => true), okce10v1n0 (F10v1 N) (soundF10v1 N) R (fun _ _ => true), okce11n0 (F11 N) (soundF11 N) R (fun _ _ => true), okce12v1n0 (F12v1 N) (soundF12v1 N) R (fun _ _ => true), okce13n0 (F13 N) (soundF13 N) R (fun _ _ => true), okce14v1n0 (F14v1 N) (soundF14v1 N) R (fun _ _ => true), okce15n0 (F15 N) (soundF15 N) R (fun _ _ => true), trivial⟩
noncomputable def T3ur1 (N : Nat) (R : Type) : LTab R := mkTab ⟨34, 17179869183⟩ (csF3 N R) (noY) [] [] []
theorem okT3ur1 (N : Nat) (R : Type) : (T3ur1 N R).Ok CX code3 := mkTab_ok (hcsF3 N R) (noY_ok) (trivial) (trivial) (trivial)
def rsF3 : List ResultVar := [.tmp 4]
def F3 : Nat → TF3
  | 0 => fun _ _ _ _ _ _ => none
  | N + 1 => fun x0c0 x0c1 x0c2 x0c3 x0c4 x1 =>
    match F8 N x0c0 x0c1 x0c2 x0c3 x0c4 with
    | none => none
    | some (.r rx0v1) =>
      match rx0v1 with
      | true =>
        match F9 N  with
        | none => none
        | some (.r rx0v2) =>
          some (.r rx0v2)
      | false =>
        match F10v1 N x0c0 x0c1 x0c2 x0c3 x0c4 x1 with
        | none => none
        | some (.r rx0v3) =>
          match F11 N x0c0 x0c1 x0c2 x0c3 x0c4 x1 with
          | none => none
          | some (.r rx0v4) =>
            match rx0v3 == rx0v4 with
            | true =>
              match F12v1 N x0c0 x0c1 x0c2 x0c3 x0c4 x1 with
              | none => none
              | some (.r rx0v5) =>
                match F13 N x0c0 x0c1 x0c2 x0c3 x0c4 x1 with
                | none => none
                | some (.r rx0v6) =>
                  match rx0v5 == rx0v6 with
                  | true =>
                    match F14v1 N x0c0 x0c1 x0c2 x0c3 x0c4 with
                    | none => none
                    | some (.r rx0v7) =>
                      match F15 N x0c0 x0c1 x0c2 x0c3 x0c4 with
                      | none => none
                      | some (.r rx0v8) =>
                        match rx0v7 == rx0v8 with
                        | true =>
                          match F9 N  with
                          | none => none
                          | some (.r rx0v9) =>
                            some (.r rx0v9)
                        | false =>
                          some (.r false)
                  | false =>
                    some (.r false)
            | false =>
              some (.r false)
def xRF3 : XSh R3 := ⟨[], ⟨[(0, .one (.cell (.bool)))], []⟩, fun _ => [], fun s => .r ((Eng.look s.env 0).toB)⟩
theorem fsF3 : ∀ (N : Nat) (lk : Nat → AV) (M : List Blk), FFF3 (F3 (N + 1)) (canS sgF3 lk M) = evfn CX (T3ur1 N R3) code3 rsF3 (argsE 2 (canS sgF3 lk M).env) (canS sgF3 lk M).mem (goR CX 0 (fun _ => some xRF3)) := by intro N lk M; kernel_rfl
theorem soundF3 : ∀ N, RecOkF3 (F3 N)
  | 0, lk, M, o, h => by cases h
  | N + 1, lk, M, o, h => fn_sound hX (okT3ur1 N R3) Tryd.func3 hb3 rfl en3 (by kernel_rfl) (ys := fun _ => some xRF3) (fun st y h => by injection h with h; subst h; exact fun lk M => ⟨rfl, rfl⟩) ((fsF3 N lk M).symm.trans h)
end Go.Proofs.YtdennlgnbecojaaDoor

namespace Go.Proofs.YtdennlgnbecojaaDoor
open Go Go.Eng
set_option maxRecDepth 100000

/-! ### F23v2: ceiling/level.outwards -/
inductive R23v2 where
  | r (b0 : List Row) (b1c0 : Int) (b2c0 : List Row) (b2c1 : List Row) (b2c3 : List Row) (b2c4 : List Row)
abbrev TF23v2 := List Row → List Row → List Row → List Row → Int → List Row → Option R23v2
def sgF23v2 : LSh := ⟨[(0, .agg [.cell (.slice 58), .cell (.slice 74), .own 0, .cell (.slice 113), .cell (.slice 117)]), (1, .one (.cell (.int .i64)))], [.row 45]⟩
def FFF23v2 (Fx : TF23v2) (s : St) : Option R23v2 := Fx (((Eng.look s.env 0).cells.getD 0 .top).rows) (((Eng.look s.env 0).cells.getD 1 .top).rows) (((Eng.look s.env 0).cells.getD 3 .top).rows) (((Eng.look s.env 0).cells.getD 4 .top).rows) ((Eng.look s.env 1).toI) ((s.mem.getD 0 .dead).rows)
def valF23v2 (o : R23v2) : AV := match o with | .r b0 b1c0 b2c0 b2c1 b2c3 b2c4 => .clos 45 [] [.ptr 1 0 0, .ptr 2 0 0]
def memF23v2 (o : R23v2) : List Blk := match o with | .r b0 b1c0 b2c0 b2c1 b2c3 b2c4 => [.row 45 b0, .var [.int .i64] [.int .i64 b1c0], .var [.any, .any, .any, .any, .any] [.list 58 b2c0, .list 74 b2c1, .own 0, .list 113 b2c3, .list 117 b2c4]]
def elF23v2 {R : Type} (o : R23v2) (k : AV → List Blk → Option R) : Option R := match o with | .r b0 b1c0 b2c0 b2c1 b2c3 b2c4 => k (.clos 45 [] [.ptr 1 0 0, .ptr 2 0 0]) [.row 45 b0, .var [.int .i64] [.int .i64 b1c0], .var [.any, .any, .any, .any, .any] [.list 58 b2c0, .list 74 b2c1, .own 0, .list 113 b2c3, .list 117 b2c4]]
def RecOkF23v2 (Fx : TF23v2) : Prop := ∀ lk M o, FFF23v2 Fx (canS sgF23v2 lk M) = some o → FCalls CX 23 1 (argsE 2 (canS sgF23v2 lk M).env) (canS sgF23v2 lk M).mem (valF23v2 o) (memF23v2 o)
noncomputable def csF23v2 (N : Nat) (R : Type) : List (CE R) := []
theorem hcsF23v2 (N : Nat) (R : Type) : AllE (CeOk CX) (csF23v2 N R) := trivial
noncomputable def T23v2ur1 (N : Nat) (R : Type) : LTab R := mkTab ⟨6, 63⟩ (csF23v2 N R) (noY) [] [] []
theorem okT23v2ur1 (N : Nat) (R : Type) : (T23v2ur1 N R).Ok CX code23 := mkTab_ok (hcsF23v2 N R) (noY_ok) (trivial) (trivial) (trivial)
def rsF23v2 : List ResultVar := [.tmp 4]
def F23v2 : Nat → TF23v2
  | 0 => fun _ _ _ _ _ _ => none
  | N + 1 => fun x0c0 x0c1 x0c3 x0c4 x1 b0 =>
    some (.r b0 x1 x0c0 x0c1 x0c3 x0c4)
def xRF23v2 : XSh R23v2 := ⟨[], ⟨[(0, .one (.cl 45 [(1, 0, 0), (2, 0, 0)]))], [.row 45, .var [.int .i64] [.cell (.int .i64)], .var [.any, .any, .any, .any, .any] [.cell (.slice 58), .cell (.slice 74), .own 0, .cell (.slice 113), .cell (.slice 117)]]⟩, fun st => [0, ((Eng.look st.env 0).caps.getD 0 .top).id, ((Eng.look st.env 0).caps.getD 1 .top).id], fun s => .r ((s.mem.getD 0 .dead).rows) (((s.mem.getD 1 .dead).cells.getD 0 .top).toI) (((s.mem.getD 2 .dead).cells.getD 0 .top).rows) (((s.mem.getD 2 .dead).cells.getD 1 .top).rows) (((s.mem.getD 2 .dead).cells.getD 3 .top).rows) (((s.mem.getD 2 .dead).cells.getD 4 .top).rows)⟩
theorem fsF23v2 : ∀ (N : Nat) (lk : Nat → AV) (M : List Blk), FFF23v2 (F23v2 (N + 1)) (canS sgF23v2 lk M) = evfn CX (T23v2ur1 N R23v2) code23 rsF23v2 (argsE 2 (canS sgF23v2 lk M).env) (canS sgF23v2 lk M).mem (goR CX 1 (fun _ => some xRF23v2)) := by intro N lk M; kernel_rfl
theorem soundF23v2 : ∀ N, RecOkF23v2 (F23v2 N)
  | 0, lk, M, o, h => by cases h
  | N + 1, lk, M, o, h => fn_sound hX (okT23v2ur1 N R23v2) Tryd.func23 hb23 rfl en23 (by kernel_rfl) (ys := fun _ => some xRF23v2) (fun st y h => by injection h with h; subst h; exact fun lk M => ⟨rfl, rfl⟩) ((fsF23v2 N lk M).symm.trans h)
def cvce23v2n0 : List Cv := []
def selce23v2n0 : St → List Nat := fun st => [((Eng.look st.env 0).cells.getD 2 .top).id]
noncomputable def ce23v2n0 (Fx : TF23v2) (R : Type) (test : List AV → List Blk → Bool) : CE R := ⟨23, test, fun args M => some (selce23v2n0 ⟨argEnv 0 args, M, [], .unk⟩), fun args M k => tst (Nat.beq args.length 2) (callFn CX 1 cvce23v2n0 sgF23v2 selce23v2n0 (FFF23v2 Fx) elF23v2 args M k)⟩
theorem okce23v2n0 (Fx : TF23v2) (h : RecOkF23v2 Fx) (R : Type) (test : List AV → List Blk → Bool) : CeOk CX (ce23v2n0 Fx R test) := ce_ok hX (fun o k => by cases o; rfl) h en23 (fun args M ids h => by injection h with h; exact ⟨rfl, h.symm⟩)
end Go.Proofs.YtdennlgnbecojaaDoor
