/-
  The functions of the code as typed functions, and that the code runs so. Printed by gen2.py.
  The functions of the code as typed functions, and that the code runs so. Printed by gen2.py.
  The functions of the code as typed functions, and that the code runs so. Printed by gen2.py.
  The functions of the code as typed functions, and that the code runs so. Printed by gen2.py.
  The functions of the code as typed functions, and that the code runs so. Printed by gen2.py.
  The functions of the code as typed functions, and that the code runs so. Printed by gen2.py.
  The functions of the code as typed functions, and that the code runs so. Printed by gen2.py.
  The functions of the code as typed functions, and that the code runs so. Printed by gen2.py.
  The functions of the code as typed functions, and that the code runs so. Printed by gen2.py.
  The functions of the code as typed functions, and that the code runs so. Printed by gen2.py.
  The functions of the code as typed functions, and that the code runs so. Printed by gen2.py.
  The functions of the code as typed functions, and that the code runs so. Printed by gen2.py.
  The functions of the code as typed functions, and that the code runs so. Printed by gen2.py.
  The functions of the code as typed functions, and that the code runs so. Printed by gen2.py.
  The functions of the code as typed functions, and that the code runs so. Printed by gen2.py.
  The functions of the code as typed functions, and that the code runs so. Printed by gen2.py.
  The functions of the code as typed functions, and that the code runs so. Printed by gen2.py.
  The functions of the code as typed functions, and that the code runs so. Printed by gen2.py.
  The functions of the code as typed functions, and that the code runs so. Printed by gen2.py.
  The functions of the code as typed functions, and that the code runs so. Printed by gen2.py.
  The functions of the code as typed functions, and that the code runs so. Printed by gen2.py.
  The functions of the code as typed functions, and that the code runs so. Printed by gen2.py.
  The functions of the code as typed functions, and that the code runs so. Printed by gen2.py.
  The functions of the code as typed functions, and that the code runs so. Printed by gen2.py.
  The functions of the code as typed functions, and that the code runs so. Printed by gen2.py.
  The functions of the code as typed functions, and that the code runs so. Printed by gen2.py.
  The functions of the code as typed functions, and that the code runs so. Printed by gen2.py.
  Plain laws of chapter 12: the document's examples.
  Plain laws of chapter 12: levels and masters of regions, in both texts.
  Plain laws of chapter 12: masters of regions.
-/
import Derived.Test.YtdennlgnbecojaaDoorCn3
import Derived.Test.YtdennlgnbecojaaDoorCn4
import Derived.KernelRfl
set_option linter.all false
set_option linter.deprecated false
namespace Go.Proofs.YtdennlgnbecojaaDoor
open Go Go.Eng
set_option maxRecDepth 100000

/-! ### F26v1: ceiling/scope.Base -/
inductive R26v1 where
  | r (x0 : Int)
abbrev TF26v1 := List Row → List Row → List Row → List Row → List Row → Int → Option R26v1
def sgF26v1 : LSh := ⟨[(0, .agg [.cell (.slice 58), .cell (.slice 74), .cell (.slice 45), .cell (.slice 113), .cell (.slice 117)]), (1, .one (.cell (.int .i64)))], []⟩
def FFF26v1 (Fx : TF26v1) (s : St) : Option R26v1 := Fx (((Eng.look s.env 0).cells.getD 0 .top).rows) (((Eng.look s.env 0).cells.getD 1 .top).rows) (((Eng.look s.env 0).cells.getD 2 .top).rows) (((Eng.look s.env 0).cells.getD 3 .top).rows) (((Eng.look s.env 0).cells.getD 4 .top).rows) ((Eng.look s.env 1).toI)
def valF26v1 (o : R26v1) : AV := match o with | .r x0 => .int .i64 x0
def memF26v1 (o : R26v1) : List Blk := match o with | .r x0 => []
def elF26v1 {R : Type} (o : R26v1) (k : AV → List Blk → Option R) : Option R := match o with | .r x0 => k (.int .i64 x0) []
def RecOkF26v1 (Fx : TF26v1) : Prop := ∀ lk M o, FFF26v1 Fx (canS sgF26v1 lk M) = some o → FCalls CX 26 0 (argsE 2 (canS sgF26v1 lk M).env) (canS sgF26v1 lk M).mem (valF26v1 o) (memF26v1 o)
noncomputable def csF26v1 (N : Nat) (R : Type) : List (CE R) := [ce46v1n0 (F46v1 N) R (fun _ _ => true)]
theorem hcsF26v1 (N : Nat) (R : Type) : AllE (CeOk CX) (csF26v1 N R) := ⟨okce46v1n0 (F46v1 N) (soundF46v1 N) R (fun _ _ => true), trivial⟩
inductive OJ26v1a240 where
  | nx (b0c0 : Int) (b0c1 : ByteArray) (b0c2 : Int) (b0c3 : Int) (b0c4 : Int) (b0c5 : Int) (b0c6 : List Row) (b0c7 : Int) (b0c8 : Bool) (b0c9 : Int) (b0c10 : Int) (b0c11 : Bool) (b0c12 : Bool) (b0c13 : Int) (b0c14 : Int) (b0c15 : Int) (b0c16 : Int) (b0c17 : Bool) (b0c18 : Bool) (b0c19 : Int) (b0c20 : Int) (b0c21 : Int)
  | x0 (b0c0 : Int) (b0c1 : ByteArray) (b0c2 : Int) (b0c3 : Int) (b0c4 : Int) (b0c5 : Int) (b0c6 : List Row) (b0c7 : Int) (b0c8 : Bool) (b0c9 : Int) (b0c10 : Int) (b0c11 : Bool) (b0c12 : Bool) (b0c13 : Int) (b0c14 : Int) (b0c15 : Int) (b0c16 : Int) (b0c17 : Bool) (b0c18 : Bool) (b0c19 : Int) (b0c20 : Int) (b0c21 : Int)
def J26v1a240 (N : Nat) : Int → Int → ByteArray → Int → Int → Int → Int → List Row → Int → Bool → Int → Int → Bool → Bool → Int → Int → Int → Int → Bool → Bool → Int → Int → Int → Option OJ26v1a240 := fun x1 b0c0 b0c1 b0c2 b0c3 b0c4 b0c5 b0c6 b0c7 b0c8 b0c9 b0c10 b0c11 b0c12 b0c13 b0c14 b0c15 b0c16 b0c17 b0c18 b0c19 b0c20 b0c21 =>
    match b0c8 with
    | true =>
      match decide ((0 : Int) ≤ b0c7) with
      | true =>
        match decide (b0c7 < x1) with
        | true =>
          some (.nx b0c0 b0c1 b0c2 b0c3 b0c4 b0c5 b0c6 b0c7 b0c8 b0c9 b0c10 b0c11 b0c12 b0c13 b0c14 b0c15 b0c16 b0c17 b0c18 b0c19 b0c20 b0c21)
        | false =>
          some (.x0 b0c0 b0c1 b0c2 b0c3 b0c4 b0c5 b0c6 b0c7 b0c8 b0c9 b0c10 b0c11 b0c12 b0c13 b0c14 b0c15 b0c16 b0c17 b0c18 b0c19 b0c20 b0c21)
      | false =>
        some (.x0 b0c0 b0c1 b0c2 b0c3 b0c4 b0c5 b0c6 b0c7 b0c8 b0c9 b0c10 b0c11 b0c12 b0c13 b0c14 b0c15 b0c16 b0c17 b0c18 b0c19 b0c20 b0c21)
    | false =>
      some (.x0 b0c0 b0c1 b0c2 b0c3 b0c4 b0c5 b0c6 b0c7 b0c8 b0c9 b0c10 b0c11 b0c12 b0c13 b0c14 b0c15 b0c16 b0c17 b0c18 b0c19 b0c20 b0c21)
def LFJ26v1a240 (N : Nat) (s : St) : Option OJ26v1a240 := J26v1a240 N ((Eng.look s.env 1).toI) (((s.mem.getD 0 .dead).cells.getD 0 .top).toI) (((s.mem.getD 0 .dead).cells.getD 1 .top).toS) (((s.mem.getD 0 .dead).cells.getD 2 .top).toI) (((s.mem.getD 0 .dead).cells.getD 3 .top).toI) (((s.mem.getD 0 .dead).cells.getD 4 .top).toI) (((s.mem.getD 0 .dead).cells.getD 5 .top).toI) (((s.mem.getD 0 .dead).cells.getD 6 .top).rows) (((s.mem.getD 0 .dead).cells.getD 7 .top).toI) (((s.mem.getD 0 .dead).cells.getD 8 .top).toB) (((s.mem.getD 0 .dead).cells.getD 9 .top).toI) (((s.mem.getD 0 .dead).cells.getD 10 .top).toI) (((s.mem.getD 0 .dead).cells.getD 11 .top).toB) (((s.mem.getD 0 .dead).cells.getD 12 .top).toB) (((s.mem.getD 0 .dead).cells.getD 13 .top).toI) (((s.mem.getD 0 .dead).cells.getD 14 .top).toI) (((s.mem.getD 0 .dead).cells.getD 15 .top).toI) (((s.mem.getD 0 .dead).cells.getD 16 .top).toI) (((s.mem.getD 0 .dead).cells.getD 17 .top).toB) (((s.mem.getD 0 .dead).cells.getD 18 .top).toB) (((s.mem.getD 0 .dead).cells.getD 19 .top).toI) (((s.mem.getD 0 .dead).cells.getD 20 .top).toI) (((s.mem.getD 0 .dead).cells.getD 21 .top).toI)
def sgJ26v1a240 : LSh := ⟨[(1, .one (.cell (.int .i64))), (5, .one (.ptr 0 0 0))], [.var [.int .u8, .str, .int .i64, .int .u8, .int .i64, .int .i64, .any, .int .i64, .bool, .int .i64, .int .i64, .bool, .bool, .int .u8, .int .i64, .int .i64, .int .i64, .bool, .bool, .int .i64, .int .i64, .int .i64] [.cell (.int .u8), .cell (.str), .cell (.int .i64), .cell (.int .u8), .cell (.int .i64), .cell (.int .i64), .cell (.slice 90), .cell (.int .i64), .cell (.bool), .cell (.int .i64), .cell (.int .i64), .cell (.bool), .cell (.bool), .cell (.int .u8), .cell (.int .i64), .cell (.int .i64), .cell (.int .i64), .cell (.bool), .cell (.bool), .cell (.int .i64), .cell (.int .i64), .cell (.int .i64)]]⟩
def ceJ26v1a240 : List Cv := []
def seJ26v1a240 : St → List Nat := fun st => [(Eng.look st.env 5).id]
def xJ26v1a240wnx : XSh OJ26v1a240 := ⟨[], ⟨[], [.var [.int .u8, .str, .int .i64, .int .u8, .int .i64, .int .i64, .any, .int .i64, .bool, .int .i64, .int .i64, .bool, .bool, .int .u8, .int .i64, .int .i64, .int .i64, .bool, .bool, .int .i64, .int .i64, .int .i64] [.cell (.int .u8), .cell (.str), .cell (.int .i64), .cell (.int .u8), .cell (.int .i64), .cell (.int .i64), .cell (.slice 90), .cell (.int .i64), .cell (.bool), .cell (.int .i64), .cell (.int .i64), .cell (.bool), .cell (.bool), .cell (.int .u8), .cell (.int .i64), .cell (.int .i64), .cell (.int .i64), .cell (.bool), .cell (.bool), .cell (.int .i64), .cell (.int .i64), .cell (.int .i64)]]⟩, fun st => [0], fun s => .nx (((s.mem.getD 0 .dead).cells.getD 0 .top).toI) (((s.mem.getD 0 .dead).cells.getD 1 .top).toS) (((s.mem.getD 0 .dead).cells.getD 2 .top).toI) (((s.mem.getD 0 .dead).cells.getD 3 .top).toI) (((s.mem.getD 0 .dead).cells.getD 4 .top).toI) (((s.mem.getD 0 .dead).cells.getD 5 .top).toI) (((s.mem.getD 0 .dead).cells.getD 6 .top).rows) (((s.mem.getD 0 .dead).cells.getD 7 .top).toI) (((s.mem.getD 0 .dead).cells.getD 8 .top).toB) (((s.mem.getD 0 .dead).cells.getD 9 .top).toI) (((s.mem.getD 0 .dead).cells.getD 10 .top).toI) (((s.mem.getD 0 .dead).cells.getD 11 .top).toB) (((s.mem.getD 0 .dead).cells.getD 12 .top).toB) (((s.mem.getD 0 .dead).cells.getD 13 .top).toI) (((s.mem.getD 0 .dead).cells.getD 14 .top).toI) (((s.mem.getD 0 .dead).cells.getD 15 .top).toI) (((s.mem.getD 0 .dead).cells.getD 16 .top).toI) (((s.mem.getD 0 .dead).cells.getD 17 .top).toB) (((s.mem.getD 0 .dead).cells.getD 18 .top).toB) (((s.mem.getD 0 .dead).cells.getD 19 .top).toI) (((s.mem.getD 0 .dead).cells.getD 20 .top).toI) (((s.mem.getD 0 .dead).cells.getD 21 .top).toI)⟩
def xJ26v1a240wx0 : XSh OJ26v1a240 := ⟨[], ⟨[], [.var [.int .u8, .str, .int .i64, .int .u8, .int .i64, .int .i64, .any, .int .i64, .bool, .int .i64, .int .i64, .bool, .bool, .int .u8, .int .i64, .int .i64, .int .i64, .bool, .bool, .int .i64, .int .i64, .int .i64] [.cell (.int .u8), .cell (.str), .cell (.int .i64), .cell (.int .u8), .cell (.int .i64), .cell (.int .i64), .cell (.slice 90), .cell (.int .i64), .cell (.bool), .cell (.int .i64), .cell (.int .i64), .cell (.bool), .cell (.bool), .cell (.int .u8), .cell (.int .i64), .cell (.int .i64), .cell (.int .i64), .cell (.bool), .cell (.bool), .cell (.int .i64), .cell (.int .i64), .cell (.int .i64)]]⟩, fun st => [0], fun s => .x0 (((s.mem.getD 0 .dead).cells.getD 0 .top).toI) (((s.mem.getD 0 .dead).cells.getD 1 .top).toS) (((s.mem.getD 0 .dead).cells.getD 2 .top).toI) (((s.mem.getD 0 .dead).cells.getD 3 .top).toI) (((s.mem.getD 0 .dead).cells.getD 4 .top).toI) (((s.mem.getD 0 .dead).cells.getD 5 .top).toI) (((s.mem.getD 0 .dead).cells.getD 6 .top).rows) (((s.mem.getD 0 .dead).cells.getD 7 .top).toI) (((s.mem.getD 0 .dead).cells.getD 8 .top).toB) (((s.mem.getD 0 .dead).cells.getD 9 .top).toI) (((s.mem.getD 0 .dead).cells.getD 10 .top).toI) (((s.mem.getD 0 .dead).cells.getD 11 .top).toB) (((s.mem.getD 0 .dead).cells.getD 12 .top).toB) (((s.mem.getD 0 .dead).cells.getD 13 .top).toI) (((s.mem.getD 0 .dead).cells.getD 14 .top).toI) (((s.mem.getD 0 .dead).cells.getD 15 .top).toI) (((s.mem.getD 0 .dead).cells.getD 16 .top).toI) (((s.mem.getD 0 .dead).cells.getD 17 .top).toB) (((s.mem.getD 0 .dead).cells.getD 18 .top).toB) (((s.mem.getD 0 .dead).cells.getD 19 .top).toI) (((s.mem.getD 0 .dead).cells.getD 20 .top).toI) (((s.mem.getD 0 .dead).cells.getD 21 .top).toI)⟩
def xsJ26v1a240 : Ex → St → Option (XSh OJ26v1a240) := fun e st => match e with
  | .normal => some xJ26v1a240wnx
  | .exit 0 => some xJ26v1a240wx0
  | _ => none
def exJ26v1a240 (o : OJ26v1a240) : Ex := match o with | .nx b0c0 b0c1 b0c2 b0c3 b0c4 b0c5 b0c6 b0c7 b0c8 b0c9 b0c10 b0c11 b0c12 b0c13 b0c14 b0c15 b0c16 b0c17 b0c18 b0c19 b0c20 b0c21 => .normal | .x0 b0c0 b0c1 b0c2 b0c3 b0c4 b0c5 b0c6 b0c7 b0c8 b0c9 b0c10 b0c11 b0c12 b0c13 b0c14 b0c15 b0c16 b0c17 b0c18 b0c19 b0c20 b0c21 => (.exit 0)
def stJ26v1a240 (o : OJ26v1a240) : St := match o with | .nx b0c0 b0c1 b0c2 b0c3 b0c4 b0c5 b0c6 b0c7 b0c8 b0c9 b0c10 b0c11 b0c12 b0c13 b0c14 b0c15 b0c16 b0c17 b0c18 b0c19 b0c20 b0c21 => ⟨[], [.var [.int .u8, .str, .int .i64, .int .u8, .int .i64, .int .i64, .any, .int .i64, .bool, .int .i64, .int .i64, .bool, .bool, .int .u8, .int .i64, .int .i64, .int .i64, .bool, .bool, .int .i64, .int .i64, .int .i64] [.int .u8 b0c0, .str b0c1, .int .i64 b0c2, .int .u8 b0c3, .int .i64 b0c4, .int .i64 b0c5, .list 90 b0c6, .int .i64 b0c7, .bool b0c8, .int .i64 b0c9, .int .i64 b0c10, .bool b0c11, .bool b0c12, .int .u8 b0c13, .int .i64 b0c14, .int .i64 b0c15, .int .i64 b0c16, .bool b0c17, .bool b0c18, .int .i64 b0c19, .int .i64 b0c20, .int .i64 b0c21]], [], .unk⟩ | .x0 b0c0 b0c1 b0c2 b0c3 b0c4 b0c5 b0c6 b0c7 b0c8 b0c9 b0c10 b0c11 b0c12 b0c13 b0c14 b0c15 b0c16 b0c17 b0c18 b0c19 b0c20 b0c21 => ⟨[], [.var [.int .u8, .str, .int .i64, .int .u8, .int .i64, .int .i64, .any, .int .i64, .bool, .int .i64, .int .i64, .bool, .bool, .int .u8, .int .i64, .int .i64, .int .i64, .bool, .bool, .int .i64, .int .i64, .int .i64] [.int .u8 b0c0, .str b0c1, .int .i64 b0c2, .int .u8 b0c3, .int .i64 b0c4, .int .i64 b0c5, .list 90 b0c6, .int .i64 b0c7, .bool b0c8, .int .i64 b0c9, .int .i64 b0c10, .bool b0c11, .bool b0c12, .int .u8 b0c13, .int .i64 b0c14, .int .i64 b0c15, .int .i64 b0c16, .bool b0c17, .bool b0c18, .int .i64 b0c19, .int .i64 b0c20, .int .i64 b0c21]], [], .unk⟩
def elJ26v1a240 {R : Type} (o : OJ26v1a240) (k : Ex → St → Option R) : Option R := match o with | .nx b0c0 b0c1 b0c2 b0c3 b0c4 b0c5 b0c6 b0c7 b0c8 b0c9 b0c10 b0c11 b0c12 b0c13 b0c14 b0c15 b0c16 b0c17 b0c18 b0c19 b0c20 b0c21 => k .normal ⟨[], [.var [.int .u8, .str, .int .i64, .int .u8, .int .i64, .int .i64, .any, .int .i64, .bool, .int .i64, .int .i64, .bool, .bool, .int .u8, .int .i64, .int .i64, .int .i64, .bool, .bool, .int .i64, .int .i64, .int .i64] [.int .u8 b0c0, .str b0c1, .int .i64 b0c2, .int .u8 b0c3, .int .i64 b0c4, .int .i64 b0c5, .list 90 b0c6, .int .i64 b0c7, .bool b0c8, .int .i64 b0c9, .int .i64 b0c10, .bool b0c11, .bool b0c12, .int .u8 b0c13, .int .i64 b0c14, .int .i64 b0c15, .int .i64 b0c16, .bool b0c17, .bool b0c18, .int .i64 b0c19, .int .i64 b0c20, .int .i64 b0c21]], [], .unk⟩ | .x0 b0c0 b0c1 b0c2 b0c3 b0c4 b0c5 b0c6 b0c7 b0c8 b0c9 b0c10 b0c11 b0c12 b0c13 b0c14 b0c15 b0c16 b0c17 b0c18 b0c19 b0c20 b0c21 => k (.exit 0) ⟨[], [.var [.int .u8, .str, .int .i64, .int .u8, .int .i64, .int .i64, .any, .int .i64, .bool, .int .i64, .int .i64, .bool, .bool, .int .u8, .int .i64, .int .i64, .int .i64, .bool, .bool, .int .i64, .int .i64, .int .i64] [.int .u8 b0c0, .str b0c1, .int .i64 b0c2, .int .u8 b0c3, .int .i64 b0c4, .int .i64 b0c5, .list 90 b0c6, .int .i64 b0c7, .bool b0c8, .int .i64 b0c9, .int .i64 b0c10, .bool b0c11, .bool b0c12, .int .u8 b0c13, .int .i64 b0c14, .int .i64 b0c15, .int .i64 b0c16, .bool b0c17, .bool b0c18, .int .i64 b0c19, .int .i64 b0c20, .int .i64 b0c21]], [], .unk⟩
theorem heJ26v1a240 {R : Type} (o : OJ26v1a240) (k : Ex → St → Option R) : elJ26v1a240 o k = k (exJ26v1a240 o) (stJ26v1a240 o) := by cases o <;> rfl
theorem hxJ26v1a240 : ∀ e st x, xsJ26v1a240 e st = some x → outOk x e exJ26v1a240 stJ26v1a240 := by
  intro e st x h
  unfold xsJ26v1a240 at h
  repeat' split at h
  all_goals first
    | (injection h with h; subst h; exact fun lk M => ⟨rfl, rfl⟩)
    | cases h
noncomputable def T26v1uc240 (N : Nat) (R : Type) : LTab R := mkTab ⟨37, 536805376⟩ (csF26v1 N R) (noY) [] [] []
theorem okT26v1uc240 (N : Nat) (R : Type) : (T26v1uc240 N R).Ok CX code26 := mkTab_ok (hcsF26v1 N R) (noY_ok) (trivial) (trivial) (trivial)
noncomputable def bdJ26v1a240 : Code := (codeAt code26 [false, false, false, false, true, true, true]).getD .skip
theorem hsJ26v1a240 (N : Nat) : ∀ (lk : Nat → AV) (M : List Blk), LFJ26v1a240 N (canS sgJ26v1a240 lk M) = evk CX (T26v1uc240 N OJ26v1a240) bdJ26v1a240 240 (canS sgJ26v1a240 lk M) (kontX CX 1 xsJ26v1a240) := by intro lk M; kernel_rfl
inductive OL26v1a60 where
  | x0 (x1 : Int) (b0c0 : List Row) (b0c1 : List Row) (b0c2 : List Row) (b0c3 : List Row) (b0c4 : List Row) (b1c0 : Int) (b1c1 : ByteArray) (b1c2 : Int) (b1c3 : Int) (b1c4 : Int) (b1c5 : Int) (b1c6 : List Row) (b1c7 : Int) (b1c8 : Bool) (b1c9 : Int) (b1c10 : Int) (b1c11 : Bool) (b1c12 : Bool) (b1c13 : Int) (b1c14 : Int) (b1c15 : Int) (b1c16 : Int) (b1c17 : Bool) (b1c18 : Bool) (b1c19 : Int) (b1c20 : Int) (b1c21 : Int)
def L26v1a60 (N : Nat) : Nat → Int → List Row → List Row → List Row → List Row → List Row → Int → ByteArray → Int → Int → Int → Int → List Row → Int → Bool → Int → Int → Bool → Bool → Int → Int → Int → Int → Bool → Bool → Int → Int → Int → Option OL26v1a60
  | 0 => fun _ _ _ _ _ _ _ _ _ _ _ _ _ _ _ _ _ _ _ _ _ _ _ _ _ _ _ _ => none
  | n + 1 => fun x1 b0c0 b0c1 b0c2 b0c3 b0c4 b1c0 b1c1 b1c2 b1c3 b1c4 b1c5 b1c6 b1c7 b1c8 b1c9 b1c10 b1c11 b1c12 b1c13 b1c14 b1c15 b1c16 b1c17 b1c18 b1c19 b1c20 b1c21 =>
    match J26v1a240 N x1 b1c0 b1c1 b1c2 b1c3 b1c4 b1c5 b1c6 b1c7 b1c8 b1c9 b1c10 b1c11 b1c12 b1c13 b1c14 b1c15 b1c16 b1c17 b1c18 b1c19 b1c20 b1c21 with
    | none => none
    | some (.nx b0c0v2 b0c1v2 b0c2v2 b0c3v2 b0c4v2 b0c5v2 b0c6v2 b0c7v2 b0c8v2 b0c9v2 b0c10v2 b0c11v2 b0c12v2 b0c13v2 b0c14v2 b0c15v2 b0c16v2 b0c17v2 b0c18v2 b0c19v2 b0c20v2 b0c21v2) =>
      tst (decide ((0 : Int) ≤ b0c7v2) && decide (b0c7v2 < ((b0c2.length : Int)))) <|
      L26v1a60 N n b0c7v2 b0c0 b0c1 b0c2 b0c3 b0c4 ((((b0c2.getD b0c7v2.toNat [])).getD 0 .top).toI) ((((b0c2.getD b0c7v2.toNat [])).getD 1 .top).toS) ((((b0c2.getD b0c7v2.toNat [])).getD 2 .top).toI) ((((b0c2.getD b0c7v2.toNat [])).getD 3 .top).toI) ((((b0c2.getD b0c7v2.toNat [])).getD 4 .top).toI) ((((b0c2.getD b0c7v2.toNat [])).getD 5 .top).toI) ((((b0c2.getD b0c7v2.toNat [])).getD 6 .top).rows) ((((b0c2.getD b0c7v2.toNat [])).getD 7 .top).toI) ((((b0c2.getD b0c7v2.toNat [])).getD 8 .top).toB) ((((b0c2.getD b0c7v2.toNat [])).getD 9 .top).toI) ((((b0c2.getD b0c7v2.toNat [])).getD 10 .top).toI) ((((b0c2.getD b0c7v2.toNat [])).getD 11 .top).toB) ((((b0c2.getD b0c7v2.toNat [])).getD 12 .top).toB) ((((b0c2.getD b0c7v2.toNat [])).getD 13 .top).toI) ((((b0c2.getD b0c7v2.toNat [])).getD 14 .top).toI) ((((b0c2.getD b0c7v2.toNat [])).getD 15 .top).toI) ((((b0c2.getD b0c7v2.toNat [])).getD 16 .top).toI) ((((b0c2.getD b0c7v2.toNat [])).getD 17 .top).toB) ((((b0c2.getD b0c7v2.toNat [])).getD 18 .top).toB) ((((b0c2.getD b0c7v2.toNat [])).getD 19 .top).toI) ((((b0c2.getD b0c7v2.toNat [])).getD 20 .top).toI) ((((b0c2.getD b0c7v2.toNat [])).getD 21 .top).toI)
    | some (.x0 b0c0v3 b0c1v3 b0c2v3 b0c3v3 b0c4v3 b0c5v3 b0c6v3 b0c7v3 b0c8v3 b0c9v3 b0c10v3 b0c11v3 b0c12v3 b0c13v3 b0c14v3 b0c15v3 b0c16v3 b0c17v3 b0c18v3 b0c19v3 b0c20v3 b0c21v3) =>
      some (.x0 x1 b0c0 b0c1 b0c2 b0c3 b0c4 b0c0v3 b0c1v3 b0c2v3 b0c3v3 b0c4v3 b0c5v3 b0c6v3 b0c7v3 b0c8v3 b0c9v3 b0c10v3 b0c11v3 b0c12v3 b0c13v3 b0c14v3 b0c15v3 b0c16v3 b0c17v3 b0c18v3 b0c19v3 b0c20v3 b0c21v3)
def LFL26v1a60 (N : Nat) (n : Nat) (s : St) : Option OL26v1a60 := L26v1a60 N n ((Eng.look s.env 1).toI) (((s.mem.getD 0 .dead).cells.getD 0 .top).rows) (((s.mem.getD 0 .dead).cells.getD 1 .top).rows) (((s.mem.getD 0 .dead).cells.getD 2 .top).rows) (((s.mem.getD 0 .dead).cells.getD 3 .top).rows) (((s.mem.getD 0 .dead).cells.getD 4 .top).rows) (((s.mem.getD 1 .dead).cells.getD 0 .top).toI) (((s.mem.getD 1 .dead).cells.getD 1 .top).toS) (((s.mem.getD 1 .dead).cells.getD 2 .top).toI) (((s.mem.getD 1 .dead).cells.getD 3 .top).toI) (((s.mem.getD 1 .dead).cells.getD 4 .top).toI) (((s.mem.getD 1 .dead).cells.getD 5 .top).toI) (((s.mem.getD 1 .dead).cells.getD 6 .top).rows) (((s.mem.getD 1 .dead).cells.getD 7 .top).toI) (((s.mem.getD 1 .dead).cells.getD 8 .top).toB) (((s.mem.getD 1 .dead).cells.getD 9 .top).toI) (((s.mem.getD 1 .dead).cells.getD 10 .top).toI) (((s.mem.getD 1 .dead).cells.getD 11 .top).toB) (((s.mem.getD 1 .dead).cells.getD 12 .top).toB) (((s.mem.getD 1 .dead).cells.getD 13 .top).toI) (((s.mem.getD 1 .dead).cells.getD 14 .top).toI) (((s.mem.getD 1 .dead).cells.getD 15 .top).toI) (((s.mem.getD 1 .dead).cells.getD 16 .top).toI) (((s.mem.getD 1 .dead).cells.getD 17 .top).toB) (((s.mem.getD 1 .dead).cells.getD 18 .top).toB) (((s.mem.getD 1 .dead).cells.getD 19 .top).toI) (((s.mem.getD 1 .dead).cells.getD 20 .top).toI) (((s.mem.getD 1 .dead).cells.getD 21 .top).toI)
def sgL26v1a60 : LSh := ⟨[(1, .one (.cell (.int .i64))), (2, .one (.ptr 0 0 0)), (5, .one (.ptr 1 0 0))], [.var [.any, .any, .any, .any, .any] [.cell (.slice 58), .cell (.slice 74), .cell (.slice 45), .cell (.slice 113), .cell (.slice 117)], .var [.int .u8, .str, .int .i64, .int .u8, .int .i64, .int .i64, .any, .int .i64, .bool, .int .i64, .int .i64, .bool, .bool, .int .u8, .int .i64, .int .i64, .int .i64, .bool, .bool, .int .i64, .int .i64, .int .i64] [.cell (.int .u8), .cell (.str), .cell (.int .i64), .cell (.int .u8), .cell (.int .i64), .cell (.int .i64), .cell (.slice 90), .cell (.int .i64), .cell (.bool), .cell (.int .i64), .cell (.int .i64), .cell (.bool), .cell (.bool), .cell (.int .u8), .cell (.int .i64), .cell (.int .i64), .cell (.int .i64), .cell (.bool), .cell (.bool), .cell (.int .i64), .cell (.int .i64), .cell (.int .i64)]]⟩
def ceL26v1a60 : List Cv := []
def seL26v1a60 : St → List Nat := fun st => [(Eng.look st.env 2).id, (Eng.look st.env 5).id]
def xL26v1a60wx0 : XSh OL26v1a60 := ⟨[], ⟨[(1, .one (.cell (.int .i64)))], [.var [.any, .any, .any, .any, .any] [.cell (.slice 58), .cell (.slice 74), .cell (.slice 45), .cell (.slice 113), .cell (.slice 117)], .var [.int .u8, .str, .int .i64, .int .u8, .int .i64, .int .i64, .any, .int .i64, .bool, .int .i64, .int .i64, .bool, .bool, .int .u8, .int .i64, .int .i64, .int .i64, .bool, .bool, .int .i64, .int .i64, .int .i64] [.cell (.int .u8), .cell (.str), .cell (.int .i64), .cell (.int .u8), .cell (.int .i64), .cell (.int .i64), .cell (.slice 90), .cell (.int .i64), .cell (.bool), .cell (.int .i64), .cell (.int .i64), .cell (.bool), .cell (.bool), .cell (.int .u8), .cell (.int .i64), .cell (.int .i64), .cell (.int .i64), .cell (.bool), .cell (.bool), .cell (.int .i64), .cell (.int .i64), .cell (.int .i64)]]⟩, fun st => [0, 1], fun s => .x0 ((Eng.look s.env 1).toI) (((s.mem.getD 0 .dead).cells.getD 0 .top).rows) (((s.mem.getD 0 .dead).cells.getD 1 .top).rows) (((s.mem.getD 0 .dead).cells.getD 2 .top).rows) (((s.mem.getD 0 .dead).cells.getD 3 .top).rows) (((s.mem.getD 0 .dead).cells.getD 4 .top).rows) (((s.mem.getD 1 .dead).cells.getD 0 .top).toI) (((s.mem.getD 1 .dead).cells.getD 1 .top).toS) (((s.mem.getD 1 .dead).cells.getD 2 .top).toI) (((s.mem.getD 1 .dead).cells.getD 3 .top).toI) (((s.mem.getD 1 .dead).cells.getD 4 .top).toI) (((s.mem.getD 1 .dead).cells.getD 5 .top).toI) (((s.mem.getD 1 .dead).cells.getD 6 .top).rows) (((s.mem.getD 1 .dead).cells.getD 7 .top).toI) (((s.mem.getD 1 .dead).cells.getD 8 .top).toB) (((s.mem.getD 1 .dead).cells.getD 9 .top).toI) (((s.mem.getD 1 .dead).cells.getD 10 .top).toI) (((s.mem.getD 1 .dead).cells.getD 11 .top).toB) (((s.mem.getD 1 .dead).cells.getD 12 .top).toB) (((s.mem.getD 1 .dead).cells.getD 13 .top).toI) (((s.mem.getD 1 .dead).cells.getD 14 .top).toI) (((s.mem.getD 1 .dead).cells.getD 15 .top).toI) (((s.mem.getD 1 .dead).cells.getD 16 .top).toI) (((s.mem.getD 1 .dead).cells.getD 17 .top).toB) (((s.mem.getD 1 .dead).cells.getD 18 .top).toB) (((s.mem.getD 1 .dead).cells.getD 19 .top).toI) (((s.mem.getD 1 .dead).cells.getD 20 .top).toI) (((s.mem.getD 1 .dead).cells.getD 21 .top).toI)⟩
def xsL26v1a60 : Ex → St → Option (XSh OL26v1a60) := fun e st => match e with
  | .exit 0 => some xL26v1a60wx0
  | _ => none
def exL26v1a60 (o : OL26v1a60) : Ex := match o with | .x0 x1 b0c0 b0c1 b0c2 b0c3 b0c4 b1c0 b1c1 b1c2 b1c3 b1c4 b1c5 b1c6 b1c7 b1c8 b1c9 b1c10 b1c11 b1c12 b1c13 b1c14 b1c15 b1c16 b1c17 b1c18 b1c19 b1c20 b1c21 => (.exit 0)
def stL26v1a60 (o : OL26v1a60) : St := match o with | .x0 x1 b0c0 b0c1 b0c2 b0c3 b0c4 b1c0 b1c1 b1c2 b1c3 b1c4 b1c5 b1c6 b1c7 b1c8 b1c9 b1c10 b1c11 b1c12 b1c13 b1c14 b1c15 b1c16 b1c17 b1c18 b1c19 b1c20 b1c21 => ⟨[(1, .int .i64 x1)], [.var [.any, .any, .any, .any, .any] [.list 58 b0c0, .list 74 b0c1, .list 45 b0c2, .list 113 b0c3, .list 117 b0c4], .var [.int .u8, .str, .int .i64, .int .u8, .int .i64, .int .i64, .any, .int .i64, .bool, .int .i64, .int .i64, .bool, .bool, .int .u8, .int .i64, .int .i64, .int .i64, .bool, .bool, .int .i64, .int .i64, .int .i64] [.int .u8 b1c0, .str b1c1, .int .i64 b1c2, .int .u8 b1c3, .int .i64 b1c4, .int .i64 b1c5, .list 90 b1c6, .int .i64 b1c7, .bool b1c8, .int .i64 b1c9, .int .i64 b1c10, .bool b1c11, .bool b1c12, .int .u8 b1c13, .int .i64 b1c14, .int .i64 b1c15, .int .i64 b1c16, .bool b1c17, .bool b1c18, .int .i64 b1c19, .int .i64 b1c20, .int .i64 b1c21]], [], .unk⟩
def elL26v1a60 {R : Type} (o : OL26v1a60) (k : Ex → St → Option R) : Option R := match o with | .x0 x1 b0c0 b0c1 b0c2 b0c3 b0c4 b1c0 b1c1 b1c2 b1c3 b1c4 b1c5 b1c6 b1c7 b1c8 b1c9 b1c10 b1c11 b1c12 b1c13 b1c14 b1c15 b1c16 b1c17 b1c18 b1c19 b1c20 b1c21 => k (.exit 0) ⟨[(1, .int .i64 x1)], [.var [.any, .any, .any, .any, .any] [.list 58 b0c0, .list 74 b0c1, .list 45 b0c2, .list 113 b0c3, .list 117 b0c4], .var [.int .u8, .str, .int .i64, .int .u8, .int .i64, .int .i64, .any, .int .i64, .bool, .int .i64, .int .i64, .bool, .bool, .int .u8, .int .i64, .int .i64, .int .i64, .bool, .bool, .int .i64, .int .i64, .int .i64] [.int .u8 b1c0, .str b1c1, .int .i64 b1c2, .int .u8 b1c3, .int .i64 b1c4, .int .i64 b1c5, .list 90 b1c6, .int .i64 b1c7, .bool b1c8, .int .i64 b1c9, .int .i64 b1c10, .bool b1c11, .bool b1c12, .int .u8 b1c13, .int .i64 b1c14, .int .i64 b1c15, .int .i64 b1c16, .bool b1c17, .bool b1c18, .int .i64 b1c19, .int .i64 b1c20, .int .i64 b1c21]], [], .unk⟩
theorem heL26v1a60 {R : Type} (o : OL26v1a60) (k : Ex → St → Option R) : elL26v1a60 o k = k (exL26v1a60 o) (stL26v1a60 o) := by cases o <;> rfl
theorem hxL26v1a60 : ∀ e st x, xsL26v1a60 e st = some x → outOk x e exL26v1a60 stL26v1a60 := by
  intro e st x h
  unfold xsL26v1a60 at h
  repeat' split at h
  all_goals first
    | (injection h with h; subst h; exact fun lk M => ⟨rfl, rfl⟩)
    | cases h
noncomputable def T26v1ul60 (N : Nat) (R : Type) : LTab R := mkTab ⟨37, 68719411202⟩ (csF26v1 N R) (noY) [] [] [(240, fun st k => callLoop CX 1 536805376 ceJ26v1a240 sgJ26v1a240 seJ26v1a240 ⟨37, 68719411202⟩ (LFJ26v1a240 N) elJ26v1a240 st k)]
theorem okT26v1ul60 (N : Nat) (R : Type) : (T26v1ul60 N R).Ok CX code26 := mkTab_ok (hcsF26v1 N R) (noY_ok) (trivial) (trivial) (⟨cut_ok hX (path := [false, false, false, false, true, true, true]) (by kernel_rfl) (by rfl) (okT26v1uc240 N OJ26v1a240) (hsJ26v1a240 N) hxJ26v1a240 rfl heJ26v1a240, trivial⟩)
noncomputable def bdL26v1a60 : Code := match codeAt code26 [false, false, true, true, true] with | some (.loop c) => c | _ => .skip
theorem hsL26v1a60 (N : Nat) : ∀ (n : Nat) (lk : Nat → AV) (M : List Blk), LFL26v1a60 N (n + 1) (canS sgL26v1a60 lk M) = evk CX (T26v1ul60 N OL26v1a60) bdL26v1a60 (2 * 60) (canS sgL26v1a60 lk M) (kont CX 2 [] sgL26v1a60 (fun st => [0, 1]) xsL26v1a60 (LFL26v1a60 N n)) := by intro n lk M; kernel_rfl
noncomputable def T26v1ur1 (N : Nat) (R : Type) : LTab R := mkTab ⟨37, 137438953471⟩ (csF26v1 N R) (noY) [(60, fun st k => callLoop CX 2 68719411202 ceL26v1a60 sgL26v1a60 seL26v1a60 ⟨37, 137438953471⟩ (LFL26v1a60 N N) elL26v1a60 st k)] [] []
theorem okT26v1ur1 (N : Nat) (R : Type) : (T26v1ur1 N R).Ok CX code26 := mkTab_ok (hcsF26v1 N R) (noY_ok) (⟨loop_ok hX (path := [false, false, true, true, true]) (by kernel_rfl) (by rfl) (okT26v1ul60 N OL26v1a60) (fun _ _ => rfl) (hsL26v1a60 N) hxL26v1a60 rfl heL26v1a60, trivial⟩) (trivial) (trivial)
def rsF26v1 : List ResultVar := [.tmp 4]
def F26v1 : Nat → TF26v1
  | 0 => fun _ _ _ _ _ _ => none
  | N + 1 => fun x0c0 x0c1 x0c2 x0c3 x0c4 x1 =>
    match F46v1 N x0c0 x0c1 x0c2 x0c3 x0c4 x1 with
    | none => none
    | some (.r rx0c0v1 rx0c1v1 rx0c2v1 rx0c3v1 rx0c4v1 rx0c5v1 rx0c6v1 rx0c7v1 rx0c8v1 rx0c9v1 rx0c10v1 rx0c11v1 rx0c12v1 rx0c13v1 rx0c14v1 rx0c15v1 rx0c16v1 rx0c17v1 rx0c18v1 rx0c19v1 rx0c20v1 rx0c21v1 rx1v1) =>
      match !rx1v1 with
      | true =>
        some (.r ((-1)))
      | false =>
        match L26v1a60 N N x1 x0c0 x0c1 x0c2 x0c3 x0c4 rx0c0v1 rx0c1v1 rx0c2v1 rx0c3v1 rx0c4v1 rx0c5v1 rx0c6v1 rx0c7v1 rx0c8v1 rx0c9v1 rx0c10v1 rx0c11v1 rx0c12v1 rx0c13v1 rx0c14v1 rx0c15v1 rx0c16v1 rx0c17v1 rx0c18v1 rx0c19v1 rx0c20v1 rx0c21v1 with
        | none => none
        | some (.x0 x1v4 b0c0v4 b0c1v4 b0c2v4 b0c3v4 b0c4v4 b1c0v4 b1c1v4 b1c2v4 b1c3v4 b1c4v4 b1c5v4 b1c6v4 b1c7v4 b1c8v4 b1c9v4 b1c10v4 b1c11v4 b1c12v4 b1c13v4 b1c14v4 b1c15v4 b1c16v4 b1c17v4 b1c18v4 b1c19v4 b1c20v4 b1c21v4) =>
          some (.r x1v4)
def xRF26v1 : XSh R26v1 := ⟨[], ⟨[(0, .one (.cell (.int .i64)))], []⟩, fun _ => [], fun s => .r ((Eng.look s.env 0).toI)⟩
theorem fsF26v1 : ∀ (N : Nat) (lk : Nat → AV) (M : List Blk), FFF26v1 (F26v1 (N + 1)) (canS sgF26v1 lk M) = evfn CX (T26v1ur1 N R26v1) code26 rsF26v1 (argsE 2 (canS sgF26v1 lk M).env) (canS sgF26v1 lk M).mem (goR CX 0 (fun _ => some xRF26v1)) := by intro N lk M; kernel_rfl
theorem soundF26v1 : ∀ N, RecOkF26v1 (F26v1 N)
  | 0, lk, M, o, h => by cases h
  | N + 1, lk, M, o, h => fn_sound hX (okT26v1ur1 N R26v1) Tryd.func26 hb26 rfl en26 (by kernel_rfl) (ys := fun _ => some xRF26v1) (fun st y h => by injection h with h; subst h; exact fun lk M => ⟨rfl, rfl⟩) ((fsF26v1 N lk M).symm.trans h)
def cvce26v1n0 : List Cv := []
def selce26v1n0 : St → List Nat := fun _ => []
noncomputable def ce26v1n0 (Fx : TF26v1) (R : Type) (test : List AV → List Blk → Bool) : CE R := ⟨26, test, fun args M => some (selce26v1n0 ⟨argEnv 0 args, M, [], .unk⟩), fun args M k => tst (Nat.beq args.length 2) (callFn CX 0 cvce26v1n0 sgF26v1 selce26v1n0 (FFF26v1 Fx) elF26v1 args M k)⟩
theorem okce26v1n0 (Fx : TF26v1) (h : RecOkF26v1 Fx) (R : Type) (test : List AV → List Blk → Bool) : CeOk CX (ce26v1n0 Fx R test) := ce_ok hX (fun o k => by cases o; rfl) h en26 (fun args M ids h => by injection h with h; exact ⟨rfl, h.symm⟩)
end Go.Proofs.YtdennlgnbecojaaDoor

namespace Go.Proofs.YtdennlgnbecojaaDoor
open Go Go.Eng
set_option maxRecDepth 100000

/-! ### F29v1: ceiling/level.exists -/
inductive R29v1 where
  | r (x0 : Bool)
abbrev TF29v1 := List Row → List Row → List Row → List Row → List Row → Int → Option R29v1
def sgF29v1 : LSh := ⟨[(0, .agg [.cell (.slice 58), .cell (.slice 74), .cell (.slice 45), .cell (.slice 113), .cell (.slice 117)]), (1, .one (.cell (.int .i64)))], []⟩
def FFF29v1 (Fx : TF29v1) (s : St) : Option R29v1 := Fx (((Eng.look s.env 0).cells.getD 0 .top).rows) (((Eng.look s.env 0).cells.getD 1 .top).rows) (((Eng.look s.env 0).cells.getD 2 .top).rows) (((Eng.look s.env 0).cells.getD 3 .top).rows) (((Eng.look s.env 0).cells.getD 4 .top).rows) ((Eng.look s.env 1).toI)
def valF29v1 (o : R29v1) : AV := match o with | .r x0 => .bool x0
def memF29v1 (o : R29v1) : List Blk := match o with | .r x0 => []
def elF29v1 {R : Type} (o : R29v1) (k : AV → List Blk → Option R) : Option R := match o with | .r x0 => k (.bool x0) []
def RecOkF29v1 (Fx : TF29v1) : Prop := ∀ lk M o, FFF29v1 Fx (canS sgF29v1 lk M) = some o → FCalls CX 29 0 (argsE 2 (canS sgF29v1 lk M).env) (canS sgF29v1 lk M).mem (valF29v1 o) (memF29v1 o)
noncomputable def csF29v1 (N : Nat) (R : Type) : List (CE R) := []
theorem hcsF29v1 (N : Nat) (R : Type) : AllE (CeOk CX) (csF29v1 N R) := trivial
noncomputable def T29v1ur1 (N : Nat) (R : Type) : LTab R := mkTab ⟨14, 16383⟩ (csF29v1 N R) (noY) [] [] []
theorem okT29v1ur1 (N : Nat) (R : Type) : (T29v1ur1 N R).Ok CX code29 := mkTab_ok (hcsF29v1 N R) (noY_ok) (trivial) (trivial) (trivial)
def rsF29v1 : List ResultVar := [.tmp 4]
def F29v1 : Nat → TF29v1
  | 0 => fun _ _ _ _ _ _ => none
  | N + 1 => fun x0c0 x0c1 x0c2 x0c3 x0c4 x1 =>
    match decide ((0 : Int) ≤ x1) with
    | true =>
      some (.r (decide (x1 < ((x0c0.length : Int)))))
    | false =>
      some (.r false)
def xRF29v1 : XSh R29v1 := ⟨[], ⟨[(0, .one (.cell (.bool)))], []⟩, fun _ => [], fun s => .r ((Eng.look s.env 0).toB)⟩
theorem fsF29v1 : ∀ (N : Nat) (lk : Nat → AV) (M : List Blk), FFF29v1 (F29v1 (N + 1)) (canS sgF29v1 lk M) = evfn CX (T29v1ur1 N R29v1) code29 rsF29v1 (argsE 2 (canS sgF29v1 lk M).env) (canS sgF29v1 lk M).mem (goR CX 0 (fun _ => some xRF29v1)) := by intro N lk M; kernel_rfl
theorem soundF29v1 : ∀ N, RecOkF29v1 (F29v1 N)
  | 0, lk, M, o, h => by cases h
  | N + 1, lk, M, o, h => fn_sound hX (okT29v1ur1 N R29v1) Tryd.func29 hb29 rfl en29 (by kernel_rfl) (ys := fun _ => some xRF29v1) (fun st y h => by injection h with h; subst h; exact fun lk M => ⟨rfl, rfl⟩) ((fsF29v1 N lk M).symm.trans h)
def cvce29v1n0 : List Cv := []
def selce29v1n0 : St → List Nat := fun _ => []
noncomputable def ce29v1n0 (Fx : TF29v1) (R : Type) (test : List AV → List Blk → Bool) : CE R := ⟨29, test, fun args M => some (selce29v1n0 ⟨argEnv 0 args, M, [], .unk⟩), fun args M k => tst (Nat.beq args.length 2) (callFn CX 0 cvce29v1n0 sgF29v1 selce29v1n0 (FFF29v1 Fx) elF29v1 args M k)⟩
theorem okce29v1n0 (Fx : TF29v1) (h : RecOkF29v1 Fx) (R : Type) (test : List AV → List Blk → Bool) : CeOk CX (ce29v1n0 Fx R test) := ce_ok hX (fun o k => by cases o; rfl) h en29 (fun args M ids h => by injection h with h; exact ⟨rfl, h.symm⟩)
end Go.Proofs.YtdennlgnbecojaaDoor

namespace Go.Proofs.YtdennlgnbecojaaDoor
open Go Go.Eng
set_option maxRecDepth 100000

/-! ### F28v1: ceiling/level.Access.1 -/
inductive R28v1 where
  | r (x0 : Bool) (b0c0 : Int) (b1c0 : List Row) (b1c1 : List Row) (b1c2 : List Row) (b1c3 : List Row) (b1c4 : List Row) (b2c0 : Int)
abbrev TF28v1 := Int → List Row → List Row → List Row → List Row → List Row → Int → Option R28v1
def sgF28v1 : LSh := ⟨[(0, .one (.ptr 0 0 0)), (1, .one (.ptr 1 0 0)), (2, .one (.ptr 2 0 0))], [.var [.int .i64] [.cell (.int .i64)], .var [.any, .any, .any, .any, .any] [.cell (.slice 58), .cell (.slice 74), .cell (.slice 45), .cell (.slice 113), .cell (.slice 117)], .var [.int .i64] [.cell (.int .i64)]]⟩
def FFF28v1 (Fx : TF28v1) (s : St) : Option R28v1 := Fx (((s.mem.getD 0 .dead).cells.getD 0 .top).toI) (((s.mem.getD 1 .dead).cells.getD 0 .top).rows) (((s.mem.getD 1 .dead).cells.getD 1 .top).rows) (((s.mem.getD 1 .dead).cells.getD 2 .top).rows) (((s.mem.getD 1 .dead).cells.getD 3 .top).rows) (((s.mem.getD 1 .dead).cells.getD 4 .top).rows) (((s.mem.getD 2 .dead).cells.getD 0 .top).toI)
def valF28v1 (o : R28v1) : AV := match o with | .r x0 b0c0 b1c0 b1c1 b1c2 b1c3 b1c4 b2c0 => .bool x0
def memF28v1 (o : R28v1) : List Blk := match o with | .r x0 b0c0 b1c0 b1c1 b1c2 b1c3 b1c4 b2c0 => [.var [.int .i64] [.int .i64 b0c0], .var [.any, .any, .any, .any, .any] [.list 58 b1c0, .list 74 b1c1, .list 45 b1c2, .list 113 b1c3, .list 117 b1c4], .var [.int .i64] [.int .i64 b2c0]]
def elF28v1 {R : Type} (o : R28v1) (k : AV → List Blk → Option R) : Option R := match o with | .r x0 b0c0 b1c0 b1c1 b1c2 b1c3 b1c4 b2c0 => k (.bool x0) [.var [.int .i64] [.int .i64 b0c0], .var [.any, .any, .any, .any, .any] [.list 58 b1c0, .list 74 b1c1, .list 45 b1c2, .list 113 b1c3, .list 117 b1c4], .var [.int .i64] [.int .i64 b2c0]]
def RecOkF28v1 (Fx : TF28v1) : Prop := ∀ lk M o, FFF28v1 Fx (canS sgF28v1 lk M) = some o → FCalls CX 28 3 (argsE 3 (canS sgF28v1 lk M).env) (canS sgF28v1 lk M).mem (valF28v1 o) (memF28v1 o)
noncomputable def csF28v1 (N : Nat) (R : Type) : List (CE R) := [ce29v1n0 (F29v1 N) R (fun _ _ => true)]
theorem hcsF28v1 (N : Nat) (R : Type) : AllE (CeOk CX) (csF28v1 N R) := ⟨okce29v1n0 (F29v1 N) (soundF29v1 N) R (fun _ _ => true), trivial⟩
noncomputable def T28v1ur1 (N : Nat) (R : Type) : LTab R := mkTab ⟨18, 262143⟩ (csF28v1 N R) (noY) [] [] []
theorem okT28v1ur1 (N : Nat) (R : Type) : (T28v1ur1 N R).Ok CX code28 := mkTab_ok (hcsF28v1 N R) (noY_ok) (trivial) (trivial) (trivial)
def rsF28v1 : List ResultVar := [.tmp 3]
def F28v1 : Nat → TF28v1
  | 0 => fun _ _ _ _ _ _ _ => none
  | N + 1 => fun b0c0 b1c0 b1c1 b1c2 b1c3 b1c4 b2c0 =>
    match decide ((0 : Int) ≤ b0c0) with
    | true =>
      match decide (b0c0 < ((b1c2.length : Int))) with
      | true =>
        match F29v1 N b1c0 b1c1 b1c2 b1c3 b1c4 b2c0 with
        | none => none
        | some (.r rx0v1) =>
          some (.r rx0v1 b0c0 b1c0 b1c1 b1c2 b1c3 b1c4 b2c0)
      | false =>
        some (.r false b0c0 b1c0 b1c1 b1c2 b1c3 b1c4 b2c0)
    | false =>
      some (.r false b0c0 b1c0 b1c1 b1c2 b1c3 b1c4 b2c0)
def xRF28v1 : XSh R28v1 := ⟨[], ⟨[(0, .one (.cell (.bool)))], [.var [.int .i64] [.cell (.int .i64)], .var [.any, .any, .any, .any, .any] [.cell (.slice 58), .cell (.slice 74), .cell (.slice 45), .cell (.slice 113), .cell (.slice 117)], .var [.int .i64] [.cell (.int .i64)]]⟩, fun st => [0, 1, 2], fun s => .r ((Eng.look s.env 0).toB) (((s.mem.getD 0 .dead).cells.getD 0 .top).toI) (((s.mem.getD 1 .dead).cells.getD 0 .top).rows) (((s.mem.getD 1 .dead).cells.getD 1 .top).rows) (((s.mem.getD 1 .dead).cells.getD 2 .top).rows) (((s.mem.getD 1 .dead).cells.getD 3 .top).rows) (((s.mem.getD 1 .dead).cells.getD 4 .top).rows) (((s.mem.getD 2 .dead).cells.getD 0 .top).toI)⟩
theorem fsF28v1 : ∀ (N : Nat) (lk : Nat → AV) (M : List Blk), FFF28v1 (F28v1 (N + 1)) (canS sgF28v1 lk M) = evfn CX (T28v1ur1 N R28v1) code28 rsF28v1 (argsE 3 (canS sgF28v1 lk M).env) (canS sgF28v1 lk M).mem (goR CX 3 (fun _ => some xRF28v1)) := by intro N lk M; kernel_rfl
theorem soundF28v1 : ∀ N, RecOkF28v1 (F28v1 N)
  | 0, lk, M, o, h => by cases h
  | N + 1, lk, M, o, h => fn_sound hX (okT28v1ur1 N R28v1) Tryd.func28 hb28 rfl en28 (by kernel_rfl) (ys := fun _ => some xRF28v1) (fun st y h => by injection h with h; subst h; exact fun lk M => ⟨rfl, rfl⟩) ((fsF28v1 N lk M).symm.trans h)
def cvce28v1n0 : List Cv := []
def selce28v1n0 : St → List Nat := fun st => [(Eng.look st.env 0).id, (Eng.look st.env 1).id, (Eng.look st.env 2).id]
noncomputable def ce28v1n0 (Fx : TF28v1) (R : Type) (test : List AV → List Blk → Bool) : CE R := ⟨28, test, fun args M => some (selce28v1n0 ⟨argEnv 0 args, M, [], .unk⟩), fun args M k => tst (Nat.beq args.length 3) (callFn CX 3 cvce28v1n0 sgF28v1 selce28v1n0 (FFF28v1 Fx) elF28v1 args M k)⟩
theorem okce28v1n0 (Fx : TF28v1) (h : RecOkF28v1 Fx) (R : Type) (test : List AV → List Blk → Bool) : CeOk CX (ce28v1n0 Fx R test) := ce_ok hX (fun o k => by cases o; rfl) h en28 (fun args M ids h => by injection h with h; exact ⟨rfl, h.symm⟩)
end Go.Proofs.YtdennlgnbecojaaDoor

namespace Go.Proofs.YtdennlgnbecojaaDoor
open Go Go.Eng
set_option maxRecDepth 100000

/-! ### F47v1: ceiling/table.at[ceiling/api.Subt] -/
inductive R47v1 where
  | r (x0c0 : Int) (x0c1 : Int) (x0c2 : Int) (x1 : Bool)
abbrev TF47v1 := List Row → Int → Option R47v1
def sgF47v1 : LSh := ⟨[(0, .one (.cell (.slice 74))), (1, .one (.cell (.int .i64)))], []⟩
def FFF47v1 (Fx : TF47v1) (s : St) : Option R47v1 := Fx ((Eng.look s.env 0).rows) ((Eng.look s.env 1).toI)
def valF47v1 (o : R47v1) : AV := match o with | .r x0c0 x0c1 x0c2 x1 => .tup [.agg [.int .i64 x0c0, .int .i64 x0c1, .int .i64 x0c2], .bool x1]
def memF47v1 (o : R47v1) : List Blk := match o with | .r x0c0 x0c1 x0c2 x1 => []
def elF47v1 {R : Type} (o : R47v1) (k : AV → List Blk → Option R) : Option R := match o with | .r x0c0 x0c1 x0c2 x1 => k (.tup [.agg [.int .i64 x0c0, .int .i64 x0c1, .int .i64 x0c2], .bool x1]) []
def RecOkF47v1 (Fx : TF47v1) : Prop := ∀ lk M o, FFF47v1 Fx (canS sgF47v1 lk M) = some o → FCalls CX 47 0 (argsE 2 (canS sgF47v1 lk M).env) (canS sgF47v1 lk M).mem (valF47v1 o) (memF47v1 o)
noncomputable def csF47v1 (N : Nat) (R : Type) : List (CE R) := []
theorem hcsF47v1 (N : Nat) (R : Type) : AllE (CeOk CX) (csF47v1 N R) := trivial
noncomputable def T47v1ur1 (N : Nat) (R : Type) : LTab R := mkTab ⟨19, 524287⟩ (csF47v1 N R) (noY) [] [] []
theorem okT47v1ur1 (N : Nat) (R : Type) : (T47v1ur1 N R).Ok CX code47 := mkTab_ok (hcsF47v1 N R) (noY_ok) (trivial) (trivial) (trivial)
def rsF47v1 : List ResultVar := [.cell 4 74, .tmp 5]
def F47v1 : Nat → TF47v1
  | 0 => fun _ _ => none
  | N + 1 => fun x0 x1 =>
    match decide (x1 < (0 : Int)) with
    | true =>
      some (.r 0 0 0 false)
    | false =>
      match decide (((x0.length : Int)) ≤ x1) with
      | true =>
        some (.r 0 0 0 false)
      | false =>
        tst (decide ((0 : Int) ≤ x1) && decide (x1 < ((x0.length : Int)))) <|
        some (.r ((((x0.getD x1.toNat [])).getD 0 .top).toI) ((((x0.getD x1.toNat [])).getD 1 .top).toI) ((((x0.getD x1.toNat [])).getD 2 .top).toI) true)
def xRF47v1 : XSh R47v1 := ⟨[], ⟨[(0, .agg [.cell (.int .i64), .cell (.int .i64), .cell (.int .i64)]), (1, .one (.cell (.bool)))], []⟩, fun _ => [], fun s => .r (((Eng.look s.env 0).cells.getD 0 .top).toI) (((Eng.look s.env 0).cells.getD 1 .top).toI) (((Eng.look s.env 0).cells.getD 2 .top).toI) ((Eng.look s.env 1).toB)⟩
theorem fsF47v1 : ∀ (N : Nat) (lk : Nat → AV) (M : List Blk), FFF47v1 (F47v1 (N + 1)) (canS sgF47v1 lk M) = evfn CX (T47v1ur1 N R47v1) code47 rsF47v1 (argsE 2 (canS sgF47v1 lk M).env) (canS sgF47v1 lk M).mem (goRt CX 0 2 (fun _ => some xRF47v1)) := by intro N lk M; kernel_rfl
theorem soundF47v1 : ∀ N, RecOkF47v1 (F47v1 N)
  | 0, lk, M, o, h => by cases h
  | N + 1, lk, M, o, h => fn_soundt hX (okT47v1ur1 N R47v1) Tryd.func47 hb47 rfl en47 (by kernel_rfl) (ys := fun _ => some xRF47v1) (fun st y h => by injection h with h; subst h; exact fun lk M => ⟨rfl, rfl⟩) ((fsF47v1 N lk M).symm.trans h)
def cvce47v1n0 : List Cv := []
def selce47v1n0 : St → List Nat := fun _ => []
noncomputable def ce47v1n0 (Fx : TF47v1) (R : Type) (test : List AV → List Blk → Bool) : CE R := ⟨47, test, fun args M => some (selce47v1n0 ⟨argEnv 0 args, M, [], .unk⟩), fun args M k => tst (Nat.beq args.length 2) (callFn CX 0 cvce47v1n0 sgF47v1 selce47v1n0 (FFF47v1 Fx) elF47v1 args M k)⟩
theorem okce47v1n0 (Fx : TF47v1) (h : RecOkF47v1 Fx) (R : Type) (test : List AV → List Blk → Bool) : CeOk CX (ce47v1n0 Fx R test) := ce_ok hX (fun o k => by cases o; rfl) h en47 (fun args M ids h => by injection h with h; exact ⟨rfl, h.symm⟩)
end Go.Proofs.YtdennlgnbecojaaDoor

namespace Go.Proofs.YtdennlgnbecojaaDoor
open Go Go.Eng
set_option maxRecDepth 100000

/-! ### F31v1: ceiling/table.Alike -/
inductive R31v1 where
  | r (x0 : Bool)
abbrev TF31v1 := List Row → List Row → List Row → List Row → List Row → Int → Int → Option R31v1
def sgF31v1 : LSh := ⟨[(0, .agg [.cell (.slice 58), .cell (.slice 74), .cell (.slice 45), .cell (.slice 113), .cell (.slice 117)]), (1, .one (.cell (.int .i64))), (2, .one (.cell (.int .i64)))], []⟩
def FFF31v1 (Fx : TF31v1) (s : St) : Option R31v1 := Fx (((Eng.look s.env 0).cells.getD 0 .top).rows) (((Eng.look s.env 0).cells.getD 1 .top).rows) (((Eng.look s.env 0).cells.getD 2 .top).rows) (((Eng.look s.env 0).cells.getD 3 .top).rows) (((Eng.look s.env 0).cells.getD 4 .top).rows) ((Eng.look s.env 1).toI) ((Eng.look s.env 2).toI)
def valF31v1 (o : R31v1) : AV := match o with | .r x0 => .bool x0
def memF31v1 (o : R31v1) : List Blk := match o with | .r x0 => []
def elF31v1 {R : Type} (o : R31v1) (k : AV → List Blk → Option R) : Option R := match o with | .r x0 => k (.bool x0) []
def RecOkF31v1 (Fx : TF31v1) : Prop := ∀ lk M o, FFF31v1 Fx (canS sgF31v1 lk M) = some o → FCalls CX 31 0 (argsE 3 (canS sgF31v1 lk M).env) (canS sgF31v1 lk M).mem (valF31v1 o) (memF31v1 o)
noncomputable def csF31v1 (N : Nat) (R : Type) : List (CE R) := [ce47v1n0 (F47v1 N) R (fun _ _ => true)]
theorem hcsF31v1 (N : Nat) (R : Type) : AllE (CeOk CX) (csF31v1 N R) := ⟨okce47v1n0 (F47v1 N) (soundF47v1 N) R (fun _ _ => true), trivial⟩
noncomputable def T31v1ur1 (N : Nat) (R : Type) : LTab R := mkTab ⟨34, 17179869183⟩ (csF31v1 N R) (noY) [] [] []
theorem okT31v1ur1 (N : Nat) (R : Type) : (T31v1ur1 N R).Ok CX code31 := mkTab_ok (hcsF31v1 N R) (noY_ok) (trivial) (trivial) (trivial)
def rsF31v1 : List ResultVar := [.tmp 6]
def F31v1 : Nat → TF31v1
  | 0 => fun _ _ _ _ _ _ _ => none
  | N + 1 => fun x0c0 x0c1 x0c2 x0c3 x0c4 x1 x2 =>
    match F47v1 N x0c1 x1 with
    | none => none
    | some (.r rx0c0v1 rx0c1v1 rx0c2v1 rx1v1) =>
      match F47v1 N x0c1 x2 with
      | none => none
      | some (.r rx0c0v2 rx0c1v2 rx0c2v2 rx1v2) =>
        match rx1v1 with
        | true =>
          match rx1v2 with
          | true =>
            some (.r (((rx0c0v1 == rx0c0v2) && ((rx0c1v1 == rx0c1v2) && ((rx0c2v1 == rx0c2v2) && true)))))
          | false =>
            some (.r false)
        | false =>
          some (.r false)
def xRF31v1 : XSh R31v1 := ⟨[], ⟨[(0, .one (.cell (.bool)))], []⟩, fun _ => [], fun s => .r ((Eng.look s.env 0).toB)⟩
theorem fsF31v1 : ∀ (N : Nat) (lk : Nat → AV) (M : List Blk), FFF31v1 (F31v1 (N + 1)) (canS sgF31v1 lk M) = evfn CX (T31v1ur1 N R31v1) code31 rsF31v1 (argsE 3 (canS sgF31v1 lk M).env) (canS sgF31v1 lk M).mem (goR CX 0 (fun _ => some xRF31v1)) := by intro N lk M; kernel_rfl
theorem soundF31v1 : ∀ N, RecOkF31v1 (F31v1 N)
  | 0, lk, M, o, h => by cases h
  | N + 1, lk, M, o, h => fn_sound hX (okT31v1ur1 N R31v1) Tryd.func31 hb31 rfl en31 (by kernel_rfl) (ys := fun _ => some xRF31v1) (fun st y h => by injection h with h; subst h; exact fun lk M => ⟨rfl, rfl⟩) ((fsF31v1 N lk M).symm.trans h)
def cvce31v1n0 : List Cv := []
def selce31v1n0 : St → List Nat := fun _ => []
noncomputable def ce31v1n0 (Fx : TF31v1) (R : Type) (test : List AV → List Blk → Bool) : CE R := ⟨31, test, fun args M => some (selce31v1n0 ⟨argEnv 0 args, M, [], .unk⟩), fun args M k => tst (Nat.beq args.length 3) (callFn CX 0 cvce31v1n0 sgF31v1 selce31v1n0 (FFF31v1 Fx) elF31v1 args M k)⟩
theorem okce31v1n0 (Fx : TF31v1) (h : RecOkF31v1 Fx) (R : Type) (test : List AV → List Blk → Bool) : CeOk CX (ce31v1n0 Fx R test) := ce_ok hX (fun o k => by cases o; rfl) h en31 (fun args M ids h => by injection h with h; exact ⟨rfl, h.symm⟩)
end Go.Proofs.YtdennlgnbecojaaDoor

namespace Go.Proofs.YtdennlgnbecojaaDoor
open Go Go.Eng
set_option maxRecDepth 100000

/-! ### F30v1: ceiling/level.Access.2 -/
inductive R30v1 where
  | r (x0 : Bool) (b0c0 : List Row) (b0c1 : List Row) (b0c2 : List Row) (b0c3 : List Row) (b0c4 : List Row) (b1c0 : Int) (b2c0 : Int)
abbrev TF30v1 := List Row → List Row → List Row → List Row → List Row → Int → Int → Option R30v1
def sgF30v1 : LSh := ⟨[(0, .one (.ptr 0 0 0)), (1, .one (.ptr 1 0 0)), (2, .one (.ptr 2 0 0))], [.var [.any, .any, .any, .any, .any] [.cell (.slice 58), .cell (.slice 74), .cell (.slice 45), .cell (.slice 113), .cell (.slice 117)], .var [.int .i64] [.cell (.int .i64)], .var [.int .i64] [.cell (.int .i64)]]⟩
def FFF30v1 (Fx : TF30v1) (s : St) : Option R30v1 := Fx (((s.mem.getD 0 .dead).cells.getD 0 .top).rows) (((s.mem.getD 0 .dead).cells.getD 1 .top).rows) (((s.mem.getD 0 .dead).cells.getD 2 .top).rows) (((s.mem.getD 0 .dead).cells.getD 3 .top).rows) (((s.mem.getD 0 .dead).cells.getD 4 .top).rows) (((s.mem.getD 1 .dead).cells.getD 0 .top).toI) (((s.mem.getD 2 .dead).cells.getD 0 .top).toI)
def valF30v1 (o : R30v1) : AV := match o with | .r x0 b0c0 b0c1 b0c2 b0c3 b0c4 b1c0 b2c0 => .bool x0
def memF30v1 (o : R30v1) : List Blk := match o with | .r x0 b0c0 b0c1 b0c2 b0c3 b0c4 b1c0 b2c0 => [.var [.any, .any, .any, .any, .any] [.list 58 b0c0, .list 74 b0c1, .list 45 b0c2, .list 113 b0c3, .list 117 b0c4], .var [.int .i64] [.int .i64 b1c0], .var [.int .i64] [.int .i64 b2c0]]
def elF30v1 {R : Type} (o : R30v1) (k : AV → List Blk → Option R) : Option R := match o with | .r x0 b0c0 b0c1 b0c2 b0c3 b0c4 b1c0 b2c0 => k (.bool x0) [.var [.any, .any, .any, .any, .any] [.list 58 b0c0, .list 74 b0c1, .list 45 b0c2, .list 113 b0c3, .list 117 b0c4], .var [.int .i64] [.int .i64 b1c0], .var [.int .i64] [.int .i64 b2c0]]
def RecOkF30v1 (Fx : TF30v1) : Prop := ∀ lk M o, FFF30v1 Fx (canS sgF30v1 lk M) = some o → FCalls CX 30 3 (argsE 3 (canS sgF30v1 lk M).env) (canS sgF30v1 lk M).mem (valF30v1 o) (memF30v1 o)
noncomputable def csF30v1 (N : Nat) (R : Type) : List (CE R) := [ce31v1n0 (F31v1 N) R (fun _ _ => true)]
theorem hcsF30v1 (N : Nat) (R : Type) : AllE (CeOk CX) (csF30v1 N R) := ⟨okce31v1n0 (F31v1 N) (soundF31v1 N) R (fun _ _ => true), trivial⟩
noncomputable def T30v1ur1 (N : Nat) (R : Type) : LTab R := mkTab ⟨27, 134217727⟩ (csF30v1 N R) (noY) [] [] []
theorem okT30v1ur1 (N : Nat) (R : Type) : (T30v1ur1 N R).Ok CX code30 := mkTab_ok (hcsF30v1 N R) (noY_ok) (trivial) (trivial) (trivial)
def rsF30v1 : List ResultVar := [.tmp 3]
def F30v1 : Nat → TF30v1
  | 0 => fun _ _ _ _ _ _ _ => none
  | N + 1 => fun b0c0 b0c1 b0c2 b0c3 b0c4 b1c0 b2c0 =>
    tst (decide ((0 : Int) ≤ b1c0) && decide (b1c0 < ((b0c0.length : Int)))) <|
    match ((((b0c0.getD b1c0.toNat [])).getD 0 .top).toI) == (6 : Int) with
    | true =>
      tst (decide ((0 : Int) ≤ b2c0) && decide (b2c0 < ((b0c2.length : Int)))) <|
      tst (decide ((0 : Int) ≤ b1c0) && decide (b1c0 < ((b0c0.length : Int)))) <|
      match F31v1 N b0c0 b0c1 b0c2 b0c3 b0c4 ((((b0c2.getD b2c0.toNat [])).getD 5 .top).toI) ((((b0c0.getD b1c0.toNat [])).getD 12 .top).toI) with
      | none => none
      | some (.r rx0v1) =>
        some (.r rx0v1 b0c0 b0c1 b0c2 b0c3 b0c4 b1c0 b2c0)
    | false =>
      some (.r false b0c0 b0c1 b0c2 b0c3 b0c4 b1c0 b2c0)
def xRF30v1 : XSh R30v1 := ⟨[], ⟨[(0, .one (.cell (.bool)))], [.var [.any, .any, .any, .any, .any] [.cell (.slice 58), .cell (.slice 74), .cell (.slice 45), .cell (.slice 113), .cell (.slice 117)], .var [.int .i64] [.cell (.int .i64)], .var [.int .i64] [.cell (.int .i64)]]⟩, fun st => [0, 1, 2], fun s => .r ((Eng.look s.env 0).toB) (((s.mem.getD 0 .dead).cells.getD 0 .top).rows) (((s.mem.getD 0 .dead).cells.getD 1 .top).rows) (((s.mem.getD 0 .dead).cells.getD 2 .top).rows) (((s.mem.getD 0 .dead).cells.getD 3 .top).rows) (((s.mem.getD 0 .dead).cells.getD 4 .top).rows) (((s.mem.getD 1 .dead).cells.getD 0 .top).toI) (((s.mem.getD 2 .dead).cells.getD 0 .top).toI)⟩
theorem fsF30v1 : ∀ (N : Nat) (lk : Nat → AV) (M : List Blk), FFF30v1 (F30v1 (N + 1)) (canS sgF30v1 lk M) = evfn CX (T30v1ur1 N R30v1) code30 rsF30v1 (argsE 3 (canS sgF30v1 lk M).env) (canS sgF30v1 lk M).mem (goR CX 3 (fun _ => some xRF30v1)) := by intro N lk M; kernel_rfl
theorem soundF30v1 : ∀ N, RecOkF30v1 (F30v1 N)
  | 0, lk, M, o, h => by cases h
  | N + 1, lk, M, o, h => fn_sound hX (okT30v1ur1 N R30v1) Tryd.func30 hb30 rfl en30 (by kernel_rfl) (ys := fun _ => some xRF30v1) (fun st y h => by injection h with h; subst h; exact fun lk M => ⟨rfl, rfl⟩) ((fsF30v1 N lk M).symm.trans h)
def cvce30v1n0 : List Cv := []
def selce30v1n0 : St → List Nat := fun st => [(Eng.look st.env 0).id, (Eng.look st.env 1).id, (Eng.look st.env 2).id]
noncomputable def ce30v1n0 (Fx : TF30v1) (R : Type) (test : List AV → List Blk → Bool) : CE R := ⟨30, test, fun args M => some (selce30v1n0 ⟨argEnv 0 args, M, [], .unk⟩), fun args M k => tst (Nat.beq args.length 3) (callFn CX 3 cvce30v1n0 sgF30v1 selce30v1n0 (FFF30v1 Fx) elF30v1 args M k)⟩
theorem okce30v1n0 (Fx : TF30v1) (h : RecOkF30v1 Fx) (R : Type) (test : List AV → List Blk → Bool) : CeOk CX (ce30v1n0 Fx R test) := ce_ok hX (fun o k => by cases o; rfl) h en30 (fun args M ids h => by injection h with h; exact ⟨rfl, h.symm⟩)
end Go.Proofs.YtdennlgnbecojaaDoor

namespace Go.Proofs.YtdennlgnbecojaaDoor
open Go Go.Eng
set_option maxRecDepth 100000

/-! ### F32v1: ceiling/level.Access.3 -/
inductive R32v1 where
  | r (x0 : Bool) (b0c0 : List Row) (b0c1 : List Row) (b0c2 : List Row) (b0c3 : List Row) (b0c4 : List Row) (b1c0 : Int)
abbrev TF32v1 := List Row → List Row → List Row → List Row → List Row → Int → Option R32v1
def sgF32v1 : LSh := ⟨[(0, .one (.ptr 0 0 0)), (1, .one (.ptr 1 0 0))], [.var [.any, .any, .any, .any, .any] [.cell (.slice 58), .cell (.slice 74), .cell (.slice 45), .cell (.slice 113), .cell (.slice 117)], .var [.int .i64] [.cell (.int .i64)]]⟩
def FFF32v1 (Fx : TF32v1) (s : St) : Option R32v1 := Fx (((s.mem.getD 0 .dead).cells.getD 0 .top).rows) (((s.mem.getD 0 .dead).cells.getD 1 .top).rows) (((s.mem.getD 0 .dead).cells.getD 2 .top).rows) (((s.mem.getD 0 .dead).cells.getD 3 .top).rows) (((s.mem.getD 0 .dead).cells.getD 4 .top).rows) (((s.mem.getD 1 .dead).cells.getD 0 .top).toI)
def valF32v1 (o : R32v1) : AV := match o with | .r x0 b0c0 b0c1 b0c2 b0c3 b0c4 b1c0 => .bool x0
def memF32v1 (o : R32v1) : List Blk := match o with | .r x0 b0c0 b0c1 b0c2 b0c3 b0c4 b1c0 => [.var [.any, .any, .any, .any, .any] [.list 58 b0c0, .list 74 b0c1, .list 45 b0c2, .list 113 b0c3, .list 117 b0c4], .var [.int .i64] [.int .i64 b1c0]]
def elF32v1 {R : Type} (o : R32v1) (k : AV → List Blk → Option R) : Option R := match o with | .r x0 b0c0 b0c1 b0c2 b0c3 b0c4 b1c0 => k (.bool x0) [.var [.any, .any, .any, .any, .any] [.list 58 b0c0, .list 74 b0c1, .list 45 b0c2, .list 113 b0c3, .list 117 b0c4], .var [.int .i64] [.int .i64 b1c0]]
def RecOkF32v1 (Fx : TF32v1) : Prop := ∀ lk M o, FFF32v1 Fx (canS sgF32v1 lk M) = some o → FCalls CX 32 2 (argsE 2 (canS sgF32v1 lk M).env) (canS sgF32v1 lk M).mem (valF32v1 o) (memF32v1 o)
noncomputable def csF32v1 (N : Nat) (R : Type) : List (CE R) := []
theorem hcsF32v1 (N : Nat) (R : Type) : AllE (CeOk CX) (csF32v1 N R) := trivial
noncomputable def T32v1ur1 (N : Nat) (R : Type) : LTab R := mkTab ⟨18, 262143⟩ (csF32v1 N R) (noY) [] [] []
theorem okT32v1ur1 (N : Nat) (R : Type) : (T32v1ur1 N R).Ok CX code32 := mkTab_ok (hcsF32v1 N R) (noY_ok) (trivial) (trivial) (trivial)
def rsF32v1 : List ResultVar := [.tmp 2]
def F32v1 : Nat → TF32v1
  | 0 => fun _ _ _ _ _ _ => none
  | N + 1 => fun b0c0 b0c1 b0c2 b0c3 b0c4 b1c0 =>
    tst (decide ((0 : Int) ≤ b1c0) && decide (b1c0 < ((b0c2.length : Int)))) <|
    match ((((b0c2.getD b1c0.toNat [])).getD 0 .top).toI) == (7 : Int) with
    | true =>
      tst (decide ((0 : Int) ≤ b1c0) && decide (b1c0 < ((b0c2.length : Int)))) <|
      some (.r ((((b0c2.getD b1c0.toNat [])).getD 12 .top).toB) b0c0 b0c1 b0c2 b0c3 b0c4 b1c0)
    | false =>
      some (.r false b0c0 b0c1 b0c2 b0c3 b0c4 b1c0)
def xRF32v1 : XSh R32v1 := ⟨[], ⟨[(0, .one (.cell (.bool)))], [.var [.any, .any, .any, .any, .any] [.cell (.slice 58), .cell (.slice 74), .cell (.slice 45), .cell (.slice 113), .cell (.slice 117)], .var [.int .i64] [.cell (.int .i64)]]⟩, fun st => [0, 1], fun s => .r ((Eng.look s.env 0).toB) (((s.mem.getD 0 .dead).cells.getD 0 .top).rows) (((s.mem.getD 0 .dead).cells.getD 1 .top).rows) (((s.mem.getD 0 .dead).cells.getD 2 .top).rows) (((s.mem.getD 0 .dead).cells.getD 3 .top).rows) (((s.mem.getD 0 .dead).cells.getD 4 .top).rows) (((s.mem.getD 1 .dead).cells.getD 0 .top).toI)⟩
theorem fsF32v1 : ∀ (N : Nat) (lk : Nat → AV) (M : List Blk), FFF32v1 (F32v1 (N + 1)) (canS sgF32v1 lk M) = evfn CX (T32v1ur1 N R32v1) code32 rsF32v1 (argsE 2 (canS sgF32v1 lk M).env) (canS sgF32v1 lk M).mem (goR CX 2 (fun _ => some xRF32v1)) := by intro N lk M; kernel_rfl
theorem soundF32v1 : ∀ N, RecOkF32v1 (F32v1 N)
  | 0, lk, M, o, h => by cases h
  | N + 1, lk, M, o, h => fn_sound hX (okT32v1ur1 N R32v1) Tryd.func32 hb32 rfl en32 (by kernel_rfl) (ys := fun _ => some xRF32v1) (fun st y h => by injection h with h; subst h; exact fun lk M => ⟨rfl, rfl⟩) ((fsF32v1 N lk M).symm.trans h)
def cvce32v1n0 : List Cv := []
def selce32v1n0 : St → List Nat := fun st => [(Eng.look st.env 0).id, (Eng.look st.env 1).id]
noncomputable def ce32v1n0 (Fx : TF32v1) (R : Type) (test : List AV → List Blk → Bool) : CE R := ⟨32, test, fun args M => some (selce32v1n0 ⟨argEnv 0 args, M, [], .unk⟩), fun args M k => tst (Nat.beq args.length 2) (callFn CX 2 cvce32v1n0 sgF32v1 selce32v1n0 (FFF32v1 Fx) elF32v1 args M k)⟩
theorem okce32v1n0 (Fx : TF32v1) (h : RecOkF32v1 Fx) (R : Type) (test : List AV → List Blk → Bool) : CeOk CX (ce32v1n0 Fx R test) := ce_ok hX (fun o k => by cases o; rfl) h en32 (fun args M ids h => by injection h with h; exact ⟨rfl, h.symm⟩)
end Go.Proofs.YtdennlgnbecojaaDoor

namespace Go.Proofs.YtdennlgnbecojaaDoor
open Go Go.Eng
set_option maxRecDepth 100000

/-! ### F33v1: ceiling/level.Access.4 -/
inductive R33v1 where
  | r (x0 : Bool) (b0c0 : List Row) (b0c1 : List Row) (b0c2 : List Row) (b0c3 : List Row) (b0c4 : List Row) (b1c0 : Int) (b2c0 : Int)
abbrev TF33v1 := List Row → List Row → List Row → List Row → List Row → Int → Int → Option R33v1
def sgF33v1 : LSh := ⟨[(0, .one (.ptr 0 0 0)), (1, .one (.ptr 1 0 0)), (2, .one (.ptr 2 0 0))], [.var [.any, .any, .any, .any, .any] [.cell (.slice 58), .cell (.slice 74), .cell (.slice 45), .cell (.slice 113), .cell (.slice 117)], .var [.int .i64] [.cell (.int .i64)], .var [.int .i64] [.cell (.int .i64)]]⟩
def FFF33v1 (Fx : TF33v1) (s : St) : Option R33v1 := Fx (((s.mem.getD 0 .dead).cells.getD 0 .top).rows) (((s.mem.getD 0 .dead).cells.getD 1 .top).rows) (((s.mem.getD 0 .dead).cells.getD 2 .top).rows) (((s.mem.getD 0 .dead).cells.getD 3 .top).rows) (((s.mem.getD 0 .dead).cells.getD 4 .top).rows) (((s.mem.getD 1 .dead).cells.getD 0 .top).toI) (((s.mem.getD 2 .dead).cells.getD 0 .top).toI)
def valF33v1 (o : R33v1) : AV := match o with | .r x0 b0c0 b0c1 b0c2 b0c3 b0c4 b1c0 b2c0 => .bool x0
def memF33v1 (o : R33v1) : List Blk := match o with | .r x0 b0c0 b0c1 b0c2 b0c3 b0c4 b1c0 b2c0 => [.var [.any, .any, .any, .any, .any] [.list 58 b0c0, .list 74 b0c1, .list 45 b0c2, .list 113 b0c3, .list 117 b0c4], .var [.int .i64] [.int .i64 b1c0], .var [.int .i64] [.int .i64 b2c0]]
def elF33v1 {R : Type} (o : R33v1) (k : AV → List Blk → Option R) : Option R := match o with | .r x0 b0c0 b0c1 b0c2 b0c3 b0c4 b1c0 b2c0 => k (.bool x0) [.var [.any, .any, .any, .any, .any] [.list 58 b0c0, .list 74 b0c1, .list 45 b0c2, .list 113 b0c3, .list 117 b0c4], .var [.int .i64] [.int .i64 b1c0], .var [.int .i64] [.int .i64 b2c0]]
def RecOkF33v1 (Fx : TF33v1) : Prop := ∀ lk M o, FFF33v1 Fx (canS sgF33v1 lk M) = some o → FCalls CX 33 3 (argsE 3 (canS sgF33v1 lk M).env) (canS sgF33v1 lk M).mem (valF33v1 o) (memF33v1 o)
noncomputable def csF33v1 (N : Nat) (R : Type) : List (CE R) := []
theorem hcsF33v1 (N : Nat) (R : Type) : AllE (CeOk CX) (csF33v1 N R) := trivial
noncomputable def T33v1ur1 (N : Nat) (R : Type) : LTab R := mkTab ⟨17, 131071⟩ (csF33v1 N R) (noY) [] [] []
theorem okT33v1ur1 (N : Nat) (R : Type) : (T33v1ur1 N R).Ok CX code33 := mkTab_ok (hcsF33v1 N R) (noY_ok) (trivial) (trivial) (trivial)
def rsF33v1 : List ResultVar := [.tmp 3]
def F33v1 : Nat → TF33v1
  | 0 => fun _ _ _ _ _ _ _ => none
  | N + 1 => fun b0c0 b0c1 b0c2 b0c3 b0c4 b1c0 b2c0 =>
    tst (decide ((0 : Int) ≤ b1c0) && decide (b1c0 < ((b0c2.length : Int)))) <|
    tst (decide ((0 : Int) ≤ b2c0) && decide (b2c0 < ((b0c0.length : Int)))) <|
    some (.r (decide (((((b0c2.getD b1c0.toNat [])).getD 9 .top).toI) ≤ ((((b0c0.getD b2c0.toNat [])).getD 17 .top).toI))) b0c0 b0c1 b0c2 b0c3 b0c4 b1c0 b2c0)
def xRF33v1 : XSh R33v1 := ⟨[], ⟨[(0, .one (.cell (.bool)))], [.var [.any, .any, .any, .any, .any] [.cell (.slice 58), .cell (.slice 74), .cell (.slice 45), .cell (.slice 113), .cell (.slice 117)], .var [.int .i64] [.cell (.int .i64)], .var [.int .i64] [.cell (.int .i64)]]⟩, fun st => [0, 1, 2], fun s => .r ((Eng.look s.env 0).toB) (((s.mem.getD 0 .dead).cells.getD 0 .top).rows) (((s.mem.getD 0 .dead).cells.getD 1 .top).rows) (((s.mem.getD 0 .dead).cells.getD 2 .top).rows) (((s.mem.getD 0 .dead).cells.getD 3 .top).rows) (((s.mem.getD 0 .dead).cells.getD 4 .top).rows) (((s.mem.getD 1 .dead).cells.getD 0 .top).toI) (((s.mem.getD 2 .dead).cells.getD 0 .top).toI)⟩
theorem fsF33v1 : ∀ (N : Nat) (lk : Nat → AV) (M : List Blk), FFF33v1 (F33v1 (N + 1)) (canS sgF33v1 lk M) = evfn CX (T33v1ur1 N R33v1) code33 rsF33v1 (argsE 3 (canS sgF33v1 lk M).env) (canS sgF33v1 lk M).mem (goR CX 3 (fun _ => some xRF33v1)) := by intro N lk M; kernel_rfl
theorem soundF33v1 : ∀ N, RecOkF33v1 (F33v1 N)
  | 0, lk, M, o, h => by cases h
  | N + 1, lk, M, o, h => fn_sound hX (okT33v1ur1 N R33v1) Tryd.func33 hb33 rfl en33 (by kernel_rfl) (ys := fun _ => some xRF33v1) (fun st y h => by injection h with h; subst h; exact fun lk M => ⟨rfl, rfl⟩) ((fsF33v1 N lk M).symm.trans h)
def cvce33v1n0 : List Cv := []
def selce33v1n0 : St → List Nat := fun st => [(Eng.look st.env 0).id, (Eng.look st.env 1).id, (Eng.look st.env 2).id]
noncomputable def ce33v1n0 (Fx : TF33v1) (R : Type) (test : List AV → List Blk → Bool) : CE R := ⟨33, test, fun args M => some (selce33v1n0 ⟨argEnv 0 args, M, [], .unk⟩), fun args M k => tst (Nat.beq args.length 3) (callFn CX 3 cvce33v1n0 sgF33v1 selce33v1n0 (FFF33v1 Fx) elF33v1 args M k)⟩
theorem okce33v1n0 (Fx : TF33v1) (h : RecOkF33v1 Fx) (R : Type) (test : List AV → List Blk → Bool) : CeOk CX (ce33v1n0 Fx R test) := ce_ok hX (fun o k => by cases o; rfl) h en33 (fun args M ids h => by injection h with h; exact ⟨rfl, h.symm⟩)
end Go.Proofs.YtdennlgnbecojaaDoor

namespace Go.Proofs.YtdennlgnbecojaaDoor
open Go Go.Eng
set_option maxRecDepth 100000

/-! ### F16v1: ceiling/level.Access -/
inductive R16v1 where
  | r (x0 : Int)
abbrev TF16v1 := List Row → List Row → List Row → List Row → List Row → Int → Int → Option R16v1
def sgF16v1 : LSh := ⟨[(0, .agg [.cell (.slice 58), .cell (.slice 74), .cell (.slice 45), .cell (.slice 113), .cell (.slice 117)]), (1, .one (.cell (.int .i64))), (2, .one (.cell (.int .i64)))], []⟩
def FFF16v1 (Fx : TF16v1) (s : St) : Option R16v1 := Fx (((Eng.look s.env 0).cells.getD 0 .top).rows) (((Eng.look s.env 0).cells.getD 1 .top).rows) (((Eng.look s.env 0).cells.getD 2 .top).rows) (((Eng.look s.env 0).cells.getD 3 .top).rows) (((Eng.look s.env 0).cells.getD 4 .top).rows) ((Eng.look s.env 1).toI) ((Eng.look s.env 2).toI)
def valF16v1 (o : R16v1) : AV := match o with | .r x0 => .int .i64 x0
def memF16v1 (o : R16v1) : List Blk := match o with | .r x0 => []
def elF16v1 {R : Type} (o : R16v1) (k : AV → List Blk → Option R) : Option R := match o with | .r x0 => k (.int .i64 x0) []
def RecOkF16v1 (Fx : TF16v1) : Prop := ∀ lk M o, FFF16v1 Fx (canS sgF16v1 lk M) = some o → FCalls CX 16 0 (argsE 3 (canS sgF16v1 lk M).env) (canS sgF16v1 lk M).mem (valF16v1 o) (memF16v1 o)
noncomputable def csF16v1b (N : Nat) (R : Type) : List (CE R) := [ce26v1n0 (F26v1 N) R (fun _ _ => true), ce28v1n0 (F28v1 N) R (fun _ _ => true), ce30v1n0 (F30v1 N) R (fun _ _ => true), ce32v1n0 (F32v1 N) R (fun _ _ => true), ce33v1n0 (F33v1 N) R (fun _ _ => true)]
theorem hcsF16v1b (N : Nat) (R : Type) : AllE (CeOk CX) (csF16v1b N R) := ⟨okce26v1n0 (F26v1 N) (soundF26v1 N) R (fun _ _ => true), okce28v1n0 (F28v1 N) (soundF28v1 N) R (fun _ _ => true), okce30v1n0 (F30v1 N) (soundF30v1 N) R (fun _ _ => true), okce32v1n0 (F32v1 N) (soundF32v1 N) R (fun _ _ => true), okce33v1n0 (F33v1 N) (soundF33v1 N) R (fun _ _ => true), trivial⟩
def rs16v1n27 : List ResultVar := [.tmp 2]
noncomputable def bd16v1n27ul26 : Code := match codeAt code27 [false, true, false, true] with | some (.loop c) => c | _ => .skip
noncomputable def T16v1n27ul26 (N : Nat) (R : Type) : LTab R := mkTab ⟨18, 262143⟩ (csF16v1b N R) (noY) [] [] []
theorem okT16v1n27ul26 (N : Nat) (R : Type) : (T16v1n27ul26 N R).Ok CX code27 := mkTab_ok (hcsF16v1b N R) (noY_ok) (trivial) (trivial) (trivial)
noncomputable def T16v1n27ur1 (N : Nat) (R : Type) : LTab R := mkTab ⟨18, 262143⟩ (csF16v1b N R) (noY) [(26, fun st k => unroll CX (T16v1n27ul26 N R) bd16v1n27ul26 (2 * 26) 5 st k)] [] []
theorem okT16v1n27ur1 (N : Nat) (R : Type) : (T16v1n27ur1 N R).Ok CX code27 := mkTab_ok (hcsF16v1b N R) (noY_ok) (⟨unroll_ok hX (path := [false, true, false, true]) (by kernel_rfl) (by rfl) (okT16v1n27ul26 N R) rfl, trivial⟩) (trivial) (trivial)
noncomputable def csF16v1 (N : Nat) (R : Type) : List (CE R) := ⟨27, fun _ _ => true, fun _ M => some (List.range M.length), fun args M k => evfn CX (T16v1n27ur1 N R) code27 rs16v1n27 args M fun x M' => tst (Nat.ble M.length M'.length) (k x M')⟩ :: csF16v1b N R
theorem hcsF16v1 (N : Nat) (R : Type) : AllE (CeOk CX) (csF16v1 N R) := ⟨inl1_ok (run := fun args M k => evfn CX (T16v1n27ur1 N R) code27 rs16v1n27 args M k) fun {args M k r} h => evfn_sound hX (okT16v1n27ur1 N R) Tryd.func27 hb27 rfl en27 (by kernel_rfl) h, hcsF16v1b N R⟩
noncomputable def T16v1ur1 (N : Nat) (R : Type) : LTab R := mkTab ⟨21, 2097151⟩ (csF16v1 N R) (noY) [] [] []
theorem okT16v1ur1 (N : Nat) (R : Type) : (T16v1ur1 N R).Ok CX code16 := mkTab_ok (hcsF16v1 N R) (noY_ok) (trivial) (trivial) (trivial)
def rsF16v1 : List ResultVar := [.tmp 6]
def F16v1 : Nat → TF16v1
  | 0 => fun _ _ _ _ _ _ _ => none
  | N + 1 => fun x0c0 x0c1 x0c2 x0c3 x0c4 x1 x2 =>
    match F26v1 N x0c0 x0c1 x0c2 x0c3 x0c4 x1 with
    | none => none
    | some (.r rx0v1) =>
      match F28v1 N rx0v1 x0c0 x0c1 x0c2 x0c3 x0c4 x2 with
      | none => none
      | some (.r rx0v2 rb0c0v2 rb1c0v2 rb1c1v2 rb1c2v2 rb1c3v2 rb1c4v2 rb2c0v2) =>
        match !rx0v2 with
        | true =>
          some (.r 2)
        | false =>
          match F30v1 N rb1c0v2 rb1c1v2 rb1c2v2 rb1c3v2 rb1c4v2 rb2c0v2 rb0c0v2 with
          | none => none
          | some (.r rx0v3 rb0c0v3 rb0c1v3 rb0c2v3 rb0c3v3 rb0c4v3 rb1c0v3 rb2c0v3) =>
            match !rx0v3 with
            | true =>
              some (.r 90)
            | false =>
              match F32v1 N rb0c0v3 rb0c1v3 rb0c2v3 rb0c3v3 rb0c4v3 rb2c0v3 with
              | none => none
              | some (.r rx0v4 rb0c0v4 rb0c1v4 rb0c2v4 rb0c3v4 rb0c4v4 rb1c0v4) =>
                match !rx0v4 with
                | true =>
                  some (.r 121)
                | false =>
                  match F33v1 N rb0c0v4 rb0c1v4 rb0c2v4 rb0c3v4 rb0c4v4 rb1c0v4 rb1c0v3 with
                  | none => none
                  | some (.r rx0v5 rb0c0v5 rb0c1v5 rb0c2v5 rb0c3v5 rb0c4v5 rb1c0v5 rb2c0v5) =>
                    match !rx0v5 with
                    | true =>
                      some (.r 120)
                    | false =>
                      some (.r 0)
def xRF16v1 : XSh R16v1 := ⟨[], ⟨[(0, .one (.cell (.int .i64)))], []⟩, fun _ => [], fun s => .r ((Eng.look s.env 0).toI)⟩
theorem fsF16v1 : ∀ (N : Nat) (lk : Nat → AV) (M : List Blk), FFF16v1 (F16v1 (N + 1)) (canS sgF16v1 lk M) = evfn CX (T16v1ur1 N R16v1) code16 rsF16v1 (argsE 3 (canS sgF16v1 lk M).env) (canS sgF16v1 lk M).mem (goR CX 0 (fun _ => some xRF16v1)) := by intro N lk M; kernel_rfl
theorem soundF16v1 : ∀ N, RecOkF16v1 (F16v1 N)
  | 0, lk, M, o, h => by cases h
  | N + 1, lk, M, o, h => fn_sound hX (okT16v1ur1 N R16v1) Tryd.func16 hb16 rfl en16 (by kernel_rfl) (ys := fun _ => some xRF16v1) (fun st y h => by injection h with h; subst h; exact fun lk M => ⟨rfl, rfl⟩) ((fsF16v1 N lk M).symm.trans h)
def cvce16v1n0 : List Cv := []
def selce16v1n0 : St → List Nat := fun _ => []
noncomputable def ce16v1n0 (Fx : TF16v1) (R : Type) (test : List AV → List Blk → Bool) : CE R := ⟨16, test, fun args M => some (selce16v1n0 ⟨argEnv 0 args, M, [], .unk⟩), fun args M k => tst (Nat.beq args.length 3) (callFn CX 0 cvce16v1n0 sgF16v1 selce16v1n0 (FFF16v1 Fx) elF16v1 args M k)⟩
theorem okce16v1n0 (Fx : TF16v1) (h : RecOkF16v1 Fx) (R : Type) (test : List AV → List Blk → Bool) : CeOk CX (ce16v1n0 Fx R test) := ce_ok hX (fun o k => by cases o; rfl) h en16 (fun args M ids h => by injection h with h; exact ⟨rfl, h.symm⟩)
end Go.Proofs.YtdennlgnbecojaaDoor

namespace Go.Proofs.YtdennlgnbecojaaDoor
open Go Go.Eng
set_option maxRecDepth 100000

/-! ### F34: ceiling/ceilingref12.access -/
inductive R34 where
  | r (x0 : Bool) (x1 : Bool)
abbrev TF34 := List Row → List Row → List Row → List Row → List Row → Int → Option R34
def sgF34 : LSh := ⟨[(0, .agg [.cell (.slice 58), .cell (.slice 74), .cell (.slice 45), .cell (.slice 113), .cell (.slice 117)]), (1, .one (.cell (.int .i64)))], []⟩
def FFF34 (Fx : TF34) (s : St) : Option R34 := Fx (((Eng.look s.env 0).cells.getD 0 .top).rows) (((Eng.look s.env 0).cells.getD 1 .top).rows) (((Eng.look s.env 0).cells.getD 2 .top).rows) (((Eng.look s.env 0).cells.getD 3 .top).rows) (((Eng.look s.env 0).cells.getD 4 .top).rows) ((Eng.look s.env 1).toI)
def valF34 (o : R34) : AV := match o with | .r x0 x1 => .tup [.bool x0, .bool x1]
def memF34 (o : R34) : List Blk := match o with | .r x0 x1 => []
def elF34 {R : Type} (o : R34) (k : AV → List Blk → Option R) : Option R := match o with | .r x0 x1 => k (.tup [.bool x0, .bool x1]) []
def RecOkF34 (Fx : TF34) : Prop := ∀ lk M o, FFF34 Fx (canS sgF34 lk M) = some o → FCalls CX 34 0 (argsE 2 (canS sgF34 lk M).env) (canS sgF34 lk M).mem (valF34 o) (memF34 o)
noncomputable def csF34 (N : Nat) (R : Type) : List (CE R) := []
theorem hcsF34 (N : Nat) (R : Type) : AllE (CeOk CX) (csF34 N R) := trivial
noncomputable def T34ur1 (N : Nat) (R : Type) : LTab R := mkTab ⟨22, 4194303⟩ (csF34 N R) (noY) [] [] []
theorem okT34ur1 (N : Nat) (R : Type) : (T34ur1 N R).Ok CX code34 := mkTab_ok (hcsF34 N R) (noY_ok) (trivial) (trivial) (trivial)
def rsF34 : List ResultVar := [.tmp 4, .tmp 5]
def F34 : Nat → TF34
  | 0 => fun _ _ _ _ _ _ => none
  | N + 1 => fun x0c0 x0c1 x0c2 x0c3 x0c4 x1 =>
    match decide (x1 < (0 : Int)) with
    | true =>
      some (.r false false)
    | false =>
      match decide (((x0c0.length : Int)) ≤ x1) with
      | true =>
        some (.r false false)
      | false =>
        tst (decide ((0 : Int) ≤ x1) && decide (x1 < ((x0c0.length : Int)))) <|
        some (.r true (((((x0c0.getD x1.toNat [])).getD 0 .top).toI) == (6 : Int)))
def xRF34 : XSh R34 := ⟨[], ⟨[(0, .one (.cell (.bool))), (1, .one (.cell (.bool)))], []⟩, fun _ => [], fun s => .r ((Eng.look s.env 0).toB) ((Eng.look s.env 1).toB)⟩
theorem fsF34 : ∀ (N : Nat) (lk : Nat → AV) (M : List Blk), FFF34 (F34 (N + 1)) (canS sgF34 lk M) = evfn CX (T34ur1 N R34) code34 rsF34 (argsE 2 (canS sgF34 lk M).env) (canS sgF34 lk M).mem (goRt CX 0 2 (fun _ => some xRF34)) := by intro N lk M; kernel_rfl
theorem soundF34 : ∀ N, RecOkF34 (F34 N)
  | 0, lk, M, o, h => by cases h
  | N + 1, lk, M, o, h => fn_soundt hX (okT34ur1 N R34) Tryd.func34 hb34 rfl en34 (by kernel_rfl) (ys := fun _ => some xRF34) (fun st y h => by injection h with h; subst h; exact fun lk M => ⟨rfl, rfl⟩) ((fsF34 N lk M).symm.trans h)
def cvce34n0 : List Cv := []
def selce34n0 : St → List Nat := fun _ => []
noncomputable def ce34n0 (Fx : TF34) (R : Type) (test : List AV → List Blk → Bool) : CE R := ⟨34, test, fun args M => some (selce34n0 ⟨argEnv 0 args, M, [], .unk⟩), fun args M k => tst (Nat.beq args.length 2) (callFn CX 0 cvce34n0 sgF34 selce34n0 (FFF34 Fx) elF34 args M k)⟩
theorem okce34n0 (Fx : TF34) (h : RecOkF34 Fx) (R : Type) (test : List AV → List Blk → Bool) : CeOk CX (ce34n0 Fx R test) := ce_ok hX (fun o k => by cases o; rfl) h en34 (fun args M ids h => by injection h with h; exact ⟨rfl, h.symm⟩)
end Go.Proofs.YtdennlgnbecojaaDoor

namespace Go.Proofs.YtdennlgnbecojaaDoor
open Go Go.Eng
set_option maxRecDepth 100000

/-! ### F48: ceiling/ceilingref08.is -/
inductive R48 where
  | r (x0 : Bool)
abbrev TF48 := List Row → List Row → List Row → List Row → List Row → Int → Option R48
def sgF48 : LSh := ⟨[(0, .agg [.cell (.slice 58), .cell (.slice 74), .cell (.slice 45), .cell (.slice 113), .cell (.slice 117)]), (1, .one (.cell (.int .i64)))], []⟩
def FFF48 (Fx : TF48) (s : St) : Option R48 := Fx (((Eng.look s.env 0).cells.getD 0 .top).rows) (((Eng.look s.env 0).cells.getD 1 .top).rows) (((Eng.look s.env 0).cells.getD 2 .top).rows) (((Eng.look s.env 0).cells.getD 3 .top).rows) (((Eng.look s.env 0).cells.getD 4 .top).rows) ((Eng.look s.env 1).toI)
def valF48 (o : R48) : AV := match o with | .r x0 => .bool x0
def memF48 (o : R48) : List Blk := match o with | .r x0 => []
def elF48 {R : Type} (o : R48) (k : AV → List Blk → Option R) : Option R := match o with | .r x0 => k (.bool x0) []
def RecOkF48 (Fx : TF48) : Prop := ∀ lk M o, FFF48 Fx (canS sgF48 lk M) = some o → FCalls CX 48 0 (argsE 2 (canS sgF48 lk M).env) (canS sgF48 lk M).mem (valF48 o) (memF48 o)
noncomputable def csF48 (N : Nat) (R : Type) : List (CE R) := []
theorem hcsF48 (N : Nat) (R : Type) : AllE (CeOk CX) (csF48 N R) := trivial
noncomputable def T48ur1 (N : Nat) (R : Type) : LTab R := mkTab ⟨14, 16383⟩ (csF48 N R) (noY) [] [] []
theorem okT48ur1 (N : Nat) (R : Type) : (T48ur1 N R).Ok CX code48 := mkTab_ok (hcsF48 N R) (noY_ok) (trivial) (trivial) (trivial)
def rsF48 : List ResultVar := [.tmp 4]
def F48 : Nat → TF48
  | 0 => fun _ _ _ _ _ _ => none
  | N + 1 => fun x0c0 x0c1 x0c2 x0c3 x0c4 x1 =>
    match decide ((0 : Int) ≤ x1) with
    | true =>
      some (.r (decide (x1 < ((x0c2.length : Int)))))
    | false =>
      some (.r false)
def xRF48 : XSh R48 := ⟨[], ⟨[(0, .one (.cell (.bool)))], []⟩, fun _ => [], fun s => .r ((Eng.look s.env 0).toB)⟩
theorem fsF48 : ∀ (N : Nat) (lk : Nat → AV) (M : List Blk), FFF48 (F48 (N + 1)) (canS sgF48 lk M) = evfn CX (T48ur1 N R48) code48 rsF48 (argsE 2 (canS sgF48 lk M).env) (canS sgF48 lk M).mem (goR CX 0 (fun _ => some xRF48)) := by intro N lk M; kernel_rfl
theorem soundF48 : ∀ N, RecOkF48 (F48 N)
  | 0, lk, M, o, h => by cases h
  | N + 1, lk, M, o, h => fn_sound hX (okT48ur1 N R48) Tryd.func48 hb48 rfl en48 (by kernel_rfl) (ys := fun _ => some xRF48) (fun st y h => by injection h with h; subst h; exact fun lk M => ⟨rfl, rfl⟩) ((fsF48 N lk M).symm.trans h)
def cvce48n0 : List Cv := []
def selce48n0 : St → List Nat := fun _ => []
noncomputable def ce48n0 (Fx : TF48) (R : Type) (test : List AV → List Blk → Bool) : CE R := ⟨48, test, fun args M => some (selce48n0 ⟨argEnv 0 args, M, [], .unk⟩), fun args M k => tst (Nat.beq args.length 2) (callFn CX 0 cvce48n0 sgF48 selce48n0 (FFF48 Fx) elF48 args M k)⟩
theorem okce48n0 (Fx : TF48) (h : RecOkF48 Fx) (R : Type) (test : List AV → List Blk → Bool) : CeOk CX (ce48n0 Fx R test) := ce_ok hX (fun o k => by cases o; rfl) h en48 (fun args M ids h => by injection h with h; exact ⟨rfl, h.symm⟩)
end Go.Proofs.YtdennlgnbecojaaDoor

namespace Go.Proofs.YtdennlgnbecojaaDoor
open Go Go.Eng
set_option maxRecDepth 100000

/-! ### F35: ceiling/ceilingref08.Base -/
inductive R35 where
  | r (x0 : Int)
abbrev TF35 := List Row → List Row → List Row → List Row → List Row → Int → Option R35
def sgF35 : LSh := ⟨[(0, .agg [.cell (.slice 58), .cell (.slice 74), .cell (.slice 45), .cell (.slice 113), .cell (.slice 117)]), (1, .one (.cell (.int .i64)))], []⟩
def FFF35 (Fx : TF35) (s : St) : Option R35 := Fx (((Eng.look s.env 0).cells.getD 0 .top).rows) (((Eng.look s.env 0).cells.getD 1 .top).rows) (((Eng.look s.env 0).cells.getD 2 .top).rows) (((Eng.look s.env 0).cells.getD 3 .top).rows) (((Eng.look s.env 0).cells.getD 4 .top).rows) ((Eng.look s.env 1).toI)
def valF35 (o : R35) : AV := match o with | .r x0 => .int .i64 x0
def memF35 (o : R35) : List Blk := match o with | .r x0 => []
def elF35 {R : Type} (o : R35) (k : AV → List Blk → Option R) : Option R := match o with | .r x0 => k (.int .i64 x0) []
def RecOkF35 (Fx : TF35) : Prop := ∀ lk M o, FFF35 Fx (canS sgF35 lk M) = some o → FCalls CX 35 0 (argsE 2 (canS sgF35 lk M).env) (canS sgF35 lk M).mem (valF35 o) (memF35 o)
noncomputable def csF35 (N : Nat) (R : Type) : List (CE R) := [ce48n0 (F48 N) R (fun _ _ => true)]
theorem hcsF35 (N : Nat) (R : Type) : AllE (CeOk CX) (csF35 N R) := ⟨okce48n0 (F48 N) (soundF48 N) R (fun _ _ => true), trivial⟩
inductive OJ35a112 where
  | nx (b0c0 : List Row) (b0c1 : List Row) (b0c2 : List Row) (b0c3 : List Row) (b0c4 : List Row)
  | x0 (b0c0 : List Row) (b0c1 : List Row) (b0c2 : List Row) (b0c3 : List Row) (b0c4 : List Row)
def J35a112 (N : Nat) : Int → List Row → List Row → List Row → List Row → List Row → Option OJ35a112 := fun x1 b0c0 b0c1 b0c2 b0c3 b0c4 =>
    tst (decide ((0 : Int) ≤ x1) && decide (x1 < ((b0c2.length : Int)))) <|
    match (((b0c2.getD x1.toNat [])).getD 8 .top).toB with
    | true =>
      tst (decide ((0 : Int) ≤ x1) && decide (x1 < ((b0c2.length : Int)))) <|
      match decide ((0 : Int) ≤ ((((b0c2.getD x1.toNat [])).getD 7 .top).toI)) with
      | true =>
        tst (decide ((0 : Int) ≤ x1) && decide (x1 < ((b0c2.length : Int)))) <|
        match decide (((((b0c2.getD x1.toNat [])).getD 7 .top).toI) < x1) with
        | true =>
          some (.nx b0c0 b0c1 b0c2 b0c3 b0c4)
        | false =>
          some (.x0 b0c0 b0c1 b0c2 b0c3 b0c4)
      | false =>
        some (.x0 b0c0 b0c1 b0c2 b0c3 b0c4)
    | false =>
      some (.x0 b0c0 b0c1 b0c2 b0c3 b0c4)
def LFJ35a112 (N : Nat) (s : St) : Option OJ35a112 := J35a112 N ((Eng.look s.env 1).toI) (((s.mem.getD 0 .dead).cells.getD 0 .top).rows) (((s.mem.getD 0 .dead).cells.getD 1 .top).rows) (((s.mem.getD 0 .dead).cells.getD 2 .top).rows) (((s.mem.getD 0 .dead).cells.getD 3 .top).rows) (((s.mem.getD 0 .dead).cells.getD 4 .top).rows)
def sgJ35a112 : LSh := ⟨[(1, .one (.cell (.int .i64))), (2, .one (.ptr 0 0 0))], [.var [.any, .any, .any, .any, .any] [.cell (.slice 58), .cell (.slice 74), .cell (.slice 45), .cell (.slice 113), .cell (.slice 117)]]⟩
def ceJ35a112 : List Cv := []
def seJ35a112 : St → List Nat := fun st => [(Eng.look st.env 2).id]
def xJ35a112wnx : XSh OJ35a112 := ⟨[], ⟨[], [.var [.any, .any, .any, .any, .any] [.cell (.slice 58), .cell (.slice 74), .cell (.slice 45), .cell (.slice 113), .cell (.slice 117)]]⟩, fun st => [0], fun s => .nx (((s.mem.getD 0 .dead).cells.getD 0 .top).rows) (((s.mem.getD 0 .dead).cells.getD 1 .top).rows) (((s.mem.getD 0 .dead).cells.getD 2 .top).rows) (((s.mem.getD 0 .dead).cells.getD 3 .top).rows) (((s.mem.getD 0 .dead).cells.getD 4 .top).rows)⟩
def xJ35a112wx0 : XSh OJ35a112 := ⟨[], ⟨[], [.var [.any, .any, .any, .any, .any] [.cell (.slice 58), .cell (.slice 74), .cell (.slice 45), .cell (.slice 113), .cell (.slice 117)]]⟩, fun st => [0], fun s => .x0 (((s.mem.getD 0 .dead).cells.getD 0 .top).rows) (((s.mem.getD 0 .dead).cells.getD 1 .top).rows) (((s.mem.getD 0 .dead).cells.getD 2 .top).rows) (((s.mem.getD 0 .dead).cells.getD 3 .top).rows) (((s.mem.getD 0 .dead).cells.getD 4 .top).rows)⟩
def xsJ35a112 : Ex → St → Option (XSh OJ35a112) := fun e st => match e with
  | .normal => some xJ35a112wnx
  | .exit 0 => some xJ35a112wx0
  | _ => none
def exJ35a112 (o : OJ35a112) : Ex := match o with | .nx b0c0 b0c1 b0c2 b0c3 b0c4 => .normal | .x0 b0c0 b0c1 b0c2 b0c3 b0c4 => (.exit 0)
def stJ35a112 (o : OJ35a112) : St := match o with | .nx b0c0 b0c1 b0c2 b0c3 b0c4 => ⟨[], [.var [.any, .any, .any, .any, .any] [.list 58 b0c0, .list 74 b0c1, .list 45 b0c2, .list 113 b0c3, .list 117 b0c4]], [], .unk⟩ | .x0 b0c0 b0c1 b0c2 b0c3 b0c4 => ⟨[], [.var [.any, .any, .any, .any, .any] [.list 58 b0c0, .list 74 b0c1, .list 45 b0c2, .list 113 b0c3, .list 117 b0c4]], [], .unk⟩
def elJ35a112 {R : Type} (o : OJ35a112) (k : Ex → St → Option R) : Option R := match o with | .nx b0c0 b0c1 b0c2 b0c3 b0c4 => k .normal ⟨[], [.var [.any, .any, .any, .any, .any] [.list 58 b0c0, .list 74 b0c1, .list 45 b0c2, .list 113 b0c3, .list 117 b0c4]], [], .unk⟩ | .x0 b0c0 b0c1 b0c2 b0c3 b0c4 => k (.exit 0) ⟨[], [.var [.any, .any, .any, .any, .any] [.list 58 b0c0, .list 74 b0c1, .list 45 b0c2, .list 113 b0c3, .list 117 b0c4]], [], .unk⟩
theorem heJ35a112 {R : Type} (o : OJ35a112) (k : Ex → St → Option R) : elJ35a112 o k = k (exJ35a112 o) (stJ35a112 o) := by cases o <;> rfl
theorem hxJ35a112 : ∀ e st x, xsJ35a112 e st = some x → outOk x e exJ35a112 stJ35a112 := by
  intro e st x h
  unfold xsJ35a112 at h
  repeat' split at h
  all_goals first
    | (injection h with h; subst h; exact fun lk M => ⟨rfl, rfl⟩)
    | cases h
noncomputable def T35uc112 (N : Nat) (R : Type) : LTab R := mkTab ⟨41, 17179868672⟩ (csF35 N R) (noY) [] [] []
theorem okT35uc112 (N : Nat) (R : Type) : (T35uc112 N R).Ok CX code35 := mkTab_ok (hcsF35 N R) (noY_ok) (trivial) (trivial) (trivial)
noncomputable def bdJ35a112 : Code := (codeAt code35 [false, false, false, false, true, true]).getD .skip
theorem hsJ35a112 (N : Nat) : ∀ (lk : Nat → AV) (M : List Blk), LFJ35a112 N (canS sgJ35a112 lk M) = evk CX (T35uc112 N OJ35a112) bdJ35a112 112 (canS sgJ35a112 lk M) (kontX CX 1 xsJ35a112) := by intro lk M; kernel_rfl
inductive OL35a28 where
  | x0 (x1 : Int) (b0c0 : List Row) (b0c1 : List Row) (b0c2 : List Row) (b0c3 : List Row) (b0c4 : List Row)
def L35a28 (N : Nat) : Nat → Int → List Row → List Row → List Row → List Row → List Row → Option OL35a28
  | 0 => fun _ _ _ _ _ _ => none
  | n + 1 => fun x1 b0c0 b0c1 b0c2 b0c3 b0c4 =>
    match J35a112 N x1 b0c0 b0c1 b0c2 b0c3 b0c4 with
    | none => none
    | some (.nx b0c0v2 b0c1v2 b0c2v2 b0c3v2 b0c4v2) =>
      tst (decide ((0 : Int) ≤ x1) && decide (x1 < ((b0c2v2.length : Int)))) <|
      L35a28 N n ((((b0c2v2.getD x1.toNat [])).getD 7 .top).toI) b0c0v2 b0c1v2 b0c2v2 b0c3v2 b0c4v2
    | some (.x0 b0c0v3 b0c1v3 b0c2v3 b0c3v3 b0c4v3) =>
      some (.x0 x1 b0c0v3 b0c1v3 b0c2v3 b0c3v3 b0c4v3)
def LFL35a28 (N : Nat) (n : Nat) (s : St) : Option OL35a28 := L35a28 N n ((Eng.look s.env 1).toI) (((s.mem.getD 0 .dead).cells.getD 0 .top).rows) (((s.mem.getD 0 .dead).cells.getD 1 .top).rows) (((s.mem.getD 0 .dead).cells.getD 2 .top).rows) (((s.mem.getD 0 .dead).cells.getD 3 .top).rows) (((s.mem.getD 0 .dead).cells.getD 4 .top).rows)
def sgL35a28 : LSh := ⟨[(1, .one (.cell (.int .i64))), (2, .one (.ptr 0 0 0))], [.var [.any, .any, .any, .any, .any] [.cell (.slice 58), .cell (.slice 74), .cell (.slice 45), .cell (.slice 113), .cell (.slice 117)]]⟩
def ceL35a28 : List Cv := []
def seL35a28 : St → List Nat := fun st => [(Eng.look st.env 2).id]
def xL35a28wx0 : XSh OL35a28 := ⟨[], ⟨[(1, .one (.cell (.int .i64)))], [.var [.any, .any, .any, .any, .any] [.cell (.slice 58), .cell (.slice 74), .cell (.slice 45), .cell (.slice 113), .cell (.slice 117)]]⟩, fun st => [0], fun s => .x0 ((Eng.look s.env 1).toI) (((s.mem.getD 0 .dead).cells.getD 0 .top).rows) (((s.mem.getD 0 .dead).cells.getD 1 .top).rows) (((s.mem.getD 0 .dead).cells.getD 2 .top).rows) (((s.mem.getD 0 .dead).cells.getD 3 .top).rows) (((s.mem.getD 0 .dead).cells.getD 4 .top).rows)⟩
def xsL35a28 : Ex → St → Option (XSh OL35a28) := fun e st => match e with
  | .exit 0 => some xL35a28wx0
  | _ => none
def exL35a28 (o : OL35a28) : Ex := match o with | .x0 x1 b0c0 b0c1 b0c2 b0c3 b0c4 => (.exit 0)
def stL35a28 (o : OL35a28) : St := match o with | .x0 x1 b0c0 b0c1 b0c2 b0c3 b0c4 => ⟨[(1, .int .i64 x1)], [.var [.any, .any, .any, .any, .any] [.list 58 b0c0, .list 74 b0c1, .list 45 b0c2, .list 113 b0c3, .list 117 b0c4]], [], .unk⟩
def elL35a28 {R : Type} (o : OL35a28) (k : Ex → St → Option R) : Option R := match o with | .x0 x1 b0c0 b0c1 b0c2 b0c3 b0c4 => k (.exit 0) ⟨[(1, .int .i64 x1)], [.var [.any, .any, .any, .any, .any] [.list 58 b0c0, .list 74 b0c1, .list 45 b0c2, .list 113 b0c3, .list 117 b0c4]], [], .unk⟩
theorem heL35a28 {R : Type} (o : OL35a28) (k : Ex → St → Option R) : elL35a28 o k = k (exL35a28 o) (stL35a28 o) := by cases o <;> rfl
theorem hxL35a28 : ∀ e st x, xsL35a28 e st = some x → outOk x e exL35a28 stL35a28 := by
  intro e st x h
  unfold xsL35a28 at h
  repeat' split at h
  all_goals first
    | (injection h with h; subst h; exact fun lk M => ⟨rfl, rfl⟩)
    | cases h
noncomputable def T35ul28 (N : Nat) (R : Type) : LTab R := mkTab ⟨41, 1099511627266⟩ (csF35 N R) (noY) [] [] [(112, fun st k => callLoop CX 1 17179868672 ceJ35a112 sgJ35a112 seJ35a112 ⟨41, 1099511627266⟩ (LFJ35a112 N) elJ35a112 st k)]
theorem okT35ul28 (N : Nat) (R : Type) : (T35ul28 N R).Ok CX code35 := mkTab_ok (hcsF35 N R) (noY_ok) (trivial) (trivial) (⟨cut_ok hX (path := [false, false, false, false, true, true]) (by kernel_rfl) (by rfl) (okT35uc112 N OJ35a112) (hsJ35a112 N) hxJ35a112 rfl heJ35a112, trivial⟩)
noncomputable def bdL35a28 : Code := match codeAt code35 [false, false, true, true] with | some (.loop c) => c | _ => .skip
theorem hsL35a28 (N : Nat) : ∀ (n : Nat) (lk : Nat → AV) (M : List Blk), LFL35a28 N (n + 1) (canS sgL35a28 lk M) = evk CX (T35ul28 N OL35a28) bdL35a28 (2 * 28) (canS sgL35a28 lk M) (kont CX 1 [] sgL35a28 (fun st => [0]) xsL35a28 (LFL35a28 N n)) := by intro n lk M; kernel_rfl
noncomputable def T35ur1 (N : Nat) (R : Type) : LTab R := mkTab ⟨41, 2199023255551⟩ (csF35 N R) (noY) [(28, fun st k => callLoop CX 1 1099511627266 ceL35a28 sgL35a28 seL35a28 ⟨41, 2199023255551⟩ (LFL35a28 N N) elL35a28 st k)] [] []
theorem okT35ur1 (N : Nat) (R : Type) : (T35ur1 N R).Ok CX code35 := mkTab_ok (hcsF35 N R) (noY_ok) (⟨loop_ok hX (path := [false, false, true, true]) (by kernel_rfl) (by rfl) (okT35ul28 N OL35a28) (fun _ _ => rfl) (hsL35a28 N) hxL35a28 rfl heL35a28, trivial⟩) (trivial) (trivial)
def rsF35 : List ResultVar := [.tmp 4]
def F35 : Nat → TF35
  | 0 => fun _ _ _ _ _ _ => none
  | N + 1 => fun x0c0 x0c1 x0c2 x0c3 x0c4 x1 =>
    match F48 N x0c0 x0c1 x0c2 x0c3 x0c4 x1 with
    | none => none
    | some (.r rx0v1) =>
      match !rx0v1 with
      | true =>
        some (.r ((-1)))
      | false =>
        match L35a28 N N x1 x0c0 x0c1 x0c2 x0c3 x0c4 with
        | none => none
        | some (.x0 x1v4 b0c0v4 b0c1v4 b0c2v4 b0c3v4 b0c4v4) =>
          some (.r x1v4)
def xRF35 : XSh R35 := ⟨[], ⟨[(0, .one (.cell (.int .i64)))], []⟩, fun _ => [], fun s => .r ((Eng.look s.env 0).toI)⟩
theorem fsF35 : ∀ (N : Nat) (lk : Nat → AV) (M : List Blk), FFF35 (F35 (N + 1)) (canS sgF35 lk M) = evfn CX (T35ur1 N R35) code35 rsF35 (argsE 2 (canS sgF35 lk M).env) (canS sgF35 lk M).mem (goR CX 0 (fun _ => some xRF35)) := by intro N lk M; kernel_rfl
theorem soundF35 : ∀ N, RecOkF35 (F35 N)
  | 0, lk, M, o, h => by cases h
  | N + 1, lk, M, o, h => fn_sound hX (okT35ur1 N R35) Tryd.func35 hb35 rfl en35 (by kernel_rfl) (ys := fun _ => some xRF35) (fun st y h => by injection h with h; subst h; exact fun lk M => ⟨rfl, rfl⟩) ((fsF35 N lk M).symm.trans h)
def cvce35n0 : List Cv := []
def selce35n0 : St → List Nat := fun _ => []
noncomputable def ce35n0 (Fx : TF35) (R : Type) (test : List AV → List Blk → Bool) : CE R := ⟨35, test, fun args M => some (selce35n0 ⟨argEnv 0 args, M, [], .unk⟩), fun args M k => tst (Nat.beq args.length 2) (callFn CX 0 cvce35n0 sgF35 selce35n0 (FFF35 Fx) elF35 args M k)⟩
theorem okce35n0 (Fx : TF35) (h : RecOkF35 Fx) (R : Type) (test : List AV → List Blk → Bool) : CeOk CX (ce35n0 Fx R test) := ce_ok hX (fun o k => by cases o; rfl) h en35 (fun args M ids h => by injection h with h; exact ⟨rfl, h.symm⟩)
end Go.Proofs.YtdennlgnbecojaaDoor

namespace Go.Proofs.YtdennlgnbecojaaDoor
open Go Go.Eng
set_option maxRecDepth 100000

/-! ### F49: ceiling/ceilingref06.is -/
inductive R49 where
  | r (x0 : Bool)
abbrev TF49 := Int → Int → Option R49
def sgF49 : LSh := ⟨[(0, .one (.cell (.int .i64))), (1, .one (.cell (.int .i64)))], []⟩
def FFF49 (Fx : TF49) (s : St) : Option R49 := Fx ((Eng.look s.env 0).toI) ((Eng.look s.env 1).toI)
def valF49 (o : R49) : AV := match o with | .r x0 => .bool x0
def memF49 (o : R49) : List Blk := match o with | .r x0 => []
def elF49 {R : Type} (o : R49) (k : AV → List Blk → Option R) : Option R := match o with | .r x0 => k (.bool x0) []
def RecOkF49 (Fx : TF49) : Prop := ∀ lk M o, FFF49 Fx (canS sgF49 lk M) = some o → FCalls CX 49 0 (argsE 2 (canS sgF49 lk M).env) (canS sgF49 lk M).mem (valF49 o) (memF49 o)
noncomputable def csF49 (N : Nat) (R : Type) : List (CE R) := []
theorem hcsF49 (N : Nat) (R : Type) : AllE (CeOk CX) (csF49 N R) := trivial
noncomputable def T49ur1 (N : Nat) (R : Type) : LTab R := mkTab ⟨12, 4095⟩ (csF49 N R) (noY) [] [] []
theorem okT49ur1 (N : Nat) (R : Type) : (T49ur1 N R).Ok CX code49 := mkTab_ok (hcsF49 N R) (noY_ok) (trivial) (trivial) (trivial)
def rsF49 : List ResultVar := [.tmp 4]
def F49 : Nat → TF49
  | 0 => fun _ _ => none
  | N + 1 => fun x0 x1 =>
    match decide ((0 : Int) ≤ x0) with
    | true =>
      some (.r (decide (x0 < x1)))
    | false =>
      some (.r false)
def xRF49 : XSh R49 := ⟨[], ⟨[(0, .one (.cell (.bool)))], []⟩, fun _ => [], fun s => .r ((Eng.look s.env 0).toB)⟩
theorem fsF49 : ∀ (N : Nat) (lk : Nat → AV) (M : List Blk), FFF49 (F49 (N + 1)) (canS sgF49 lk M) = evfn CX (T49ur1 N R49) code49 rsF49 (argsE 2 (canS sgF49 lk M).env) (canS sgF49 lk M).mem (goR CX 0 (fun _ => some xRF49)) := by intro N lk M; kernel_rfl
theorem soundF49 : ∀ N, RecOkF49 (F49 N)
  | 0, lk, M, o, h => by cases h
  | N + 1, lk, M, o, h => fn_sound hX (okT49ur1 N R49) Tryd.func49 hb49 rfl en49 (by kernel_rfl) (ys := fun _ => some xRF49) (fun st y h => by injection h with h; subst h; exact fun lk M => ⟨rfl, rfl⟩) ((fsF49 N lk M).symm.trans h)
def cvce49n0 : List Cv := []
def selce49n0 : St → List Nat := fun _ => []
noncomputable def ce49n0 (Fx : TF49) (R : Type) (test : List AV → List Blk → Bool) : CE R := ⟨49, test, fun args M => some (selce49n0 ⟨argEnv 0 args, M, [], .unk⟩), fun args M k => tst (Nat.beq args.length 2) (callFn CX 0 cvce49n0 sgF49 selce49n0 (FFF49 Fx) elF49 args M k)⟩
theorem okce49n0 (Fx : TF49) (h : RecOkF49 Fx) (R : Type) (test : List AV → List Blk → Bool) : CeOk CX (ce49n0 Fx R test) := ce_ok hX (fun o k => by cases o; rfl) h en49 (fun args M ids h => by injection h with h; exact ⟨rfl, h.symm⟩)
end Go.Proofs.YtdennlgnbecojaaDoor

namespace Go.Proofs.YtdennlgnbecojaaDoor
open Go Go.Eng
set_option maxRecDepth 100000

/-! ### F36: ceiling/ceilingref06.Alike -/
inductive R36 where
  | r (x0 : Bool)
abbrev TF36 := List Row → List Row → List Row → List Row → List Row → Int → Int → Option R36
def sgF36 : LSh := ⟨[(0, .agg [.cell (.slice 58), .cell (.slice 74), .cell (.slice 45), .cell (.slice 113), .cell (.slice 117)]), (1, .one (.cell (.int .i64))), (2, .one (.cell (.int .i64)))], []⟩
def FFF36 (Fx : TF36) (s : St) : Option R36 := Fx (((Eng.look s.env 0).cells.getD 0 .top).rows) (((Eng.look s.env 0).cells.getD 1 .top).rows) (((Eng.look s.env 0).cells.getD 2 .top).rows) (((Eng.look s.env 0).cells.getD 3 .top).rows) (((Eng.look s.env 0).cells.getD 4 .top).rows) ((Eng.look s.env 1).toI) ((Eng.look s.env 2).toI)
def valF36 (o : R36) : AV := match o with | .r x0 => .bool x0
def memF36 (o : R36) : List Blk := match o with | .r x0 => []
def elF36 {R : Type} (o : R36) (k : AV → List Blk → Option R) : Option R := match o with | .r x0 => k (.bool x0) []
def RecOkF36 (Fx : TF36) : Prop := ∀ lk M o, FFF36 Fx (canS sgF36 lk M) = some o → FCalls CX 36 0 (argsE 3 (canS sgF36 lk M).env) (canS sgF36 lk M).mem (valF36 o) (memF36 o)
noncomputable def csF36 (N : Nat) (R : Type) : List (CE R) := [ce49n0 (F49 N) R (fun _ _ => true)]
theorem hcsF36 (N : Nat) (R : Type) : AllE (CeOk CX) (csF36 N R) := ⟨okce49n0 (F49 N) (soundF49 N) R (fun _ _ => true), trivial⟩
noncomputable def T36ur1 (N : Nat) (R : Type) : LTab R := mkTab ⟨32, 4294967295⟩ (csF36 N R) (noY) [] [] []
theorem okT36ur1 (N : Nat) (R : Type) : (T36ur1 N R).Ok CX code36 := mkTab_ok (hcsF36 N R) (noY_ok) (trivial) (trivial) (trivial)
def rsF36 : List ResultVar := [.tmp 6]
def F36 : Nat → TF36
  | 0 => fun _ _ _ _ _ _ _ => none
  | N + 1 => fun x0c0 x0c1 x0c2 x0c3 x0c4 x1 x2 =>
    match F49 N x1 ((x0c1.length : Int)) with
    | none => none
    | some (.r rx0v1) =>
      match rx0v1 with
      | true =>
        match F49 N x2 ((x0c1.length : Int)) with
        | none => none
        | some (.r rx0v2) =>
          match rx0v2 with
          | true =>
            tst (decide ((0 : Int) ≤ x1) && decide (x1 < ((x0c1.length : Int)))) <|
            tst (decide ((0 : Int) ≤ x2) && decide (x2 < ((x0c1.length : Int)))) <|
            some (.r (((((((x0c1.getD x1.toNat [])).getD 0 .top).toI) == ((((x0c1.getD x2.toNat [])).getD 0 .top).toI)) && ((((((x0c1.getD x1.toNat [])).getD 1 .top).toI) == ((((x0c1.getD x2.toNat [])).getD 1 .top).toI)) && ((((((x0c1.getD x1.toNat [])).getD 2 .top).toI) == ((((x0c1.getD x2.toNat [])).getD 2 .top).toI)) && true)))))
          | false =>
            some (.r false)
      | false =>
        some (.r false)
def xRF36 : XSh R36 := ⟨[], ⟨[(0, .one (.cell (.bool)))], []⟩, fun _ => [], fun s => .r ((Eng.look s.env 0).toB)⟩
theorem fsF36 : ∀ (N : Nat) (lk : Nat → AV) (M : List Blk), FFF36 (F36 (N + 1)) (canS sgF36 lk M) = evfn CX (T36ur1 N R36) code36 rsF36 (argsE 3 (canS sgF36 lk M).env) (canS sgF36 lk M).mem (goR CX 0 (fun _ => some xRF36)) := by intro N lk M; kernel_rfl
theorem soundF36 : ∀ N, RecOkF36 (F36 N)
  | 0, lk, M, o, h => by cases h
  | N + 1, lk, M, o, h => fn_sound hX (okT36ur1 N R36) Tryd.func36 hb36 rfl en36 (by kernel_rfl) (ys := fun _ => some xRF36) (fun st y h => by injection h with h; subst h; exact fun lk M => ⟨rfl, rfl⟩) ((fsF36 N lk M).symm.trans h)
def cvce36n0 : List Cv := []
def selce36n0 : St → List Nat := fun _ => []
noncomputable def ce36n0 (Fx : TF36) (R : Type) (test : List AV → List Blk → Bool) : CE R := ⟨36, test, fun args M => some (selce36n0 ⟨argEnv 0 args, M, [], .unk⟩), fun args M k => tst (Nat.beq args.length 3) (callFn CX 0 cvce36n0 sgF36 selce36n0 (FFF36 Fx) elF36 args M k)⟩
theorem okce36n0 (Fx : TF36) (h : RecOkF36 Fx) (R : Type) (test : List AV → List Blk → Bool) : CeOk CX (ce36n0 Fx R test) := ce_ok hX (fun o k => by cases o; rfl) h en36 (fun args M ids h => by injection h with h; exact ⟨rfl, h.symm⟩)
end Go.Proofs.YtdennlgnbecojaaDoor

namespace Go.Proofs.YtdennlgnbecojaaDoor
open Go Go.Eng
set_option maxRecDepth 100000

/-! ### F17: ceiling/ceilingref12.Access -/
inductive R17 where
  | r (x0 : Int)
abbrev TF17 := List Row → List Row → List Row → List Row → List Row → Int → Int → Option R17
def sgF17 : LSh := ⟨[(0, .agg [.cell (.slice 58), .cell (.slice 74), .cell (.slice 45), .cell (.slice 113), .cell (.slice 117)]), (1, .one (.cell (.int .i64))), (2, .one (.cell (.int .i64)))], []⟩
def FFF17 (Fx : TF17) (s : St) : Option R17 := Fx (((Eng.look s.env 0).cells.getD 0 .top).rows) (((Eng.look s.env 0).cells.getD 1 .top).rows) (((Eng.look s.env 0).cells.getD 2 .top).rows) (((Eng.look s.env 0).cells.getD 3 .top).rows) (((Eng.look s.env 0).cells.getD 4 .top).rows) ((Eng.look s.env 1).toI) ((Eng.look s.env 2).toI)
def valF17 (o : R17) : AV := match o with | .r x0 => .int .i64 x0
def memF17 (o : R17) : List Blk := match o with | .r x0 => []
def elF17 {R : Type} (o : R17) (k : AV → List Blk → Option R) : Option R := match o with | .r x0 => k (.int .i64 x0) []
def RecOkF17 (Fx : TF17) : Prop := ∀ lk M o, FFF17 Fx (canS sgF17 lk M) = some o → FCalls CX 17 0 (argsE 3 (canS sgF17 lk M).env) (canS sgF17 lk M).mem (valF17 o) (memF17 o)
noncomputable def csF17 (N : Nat) (R : Type) : List (CE R) := [ce24n0 (F24 N) R (fun _ _ => true), ce34n0 (F34 N) R (fun _ _ => true), ce35n0 (F35 N) R (fun _ _ => true), ce36n0 (F36 N) R (fun _ _ => true)]
theorem hcsF17 (N : Nat) (R : Type) : AllE (CeOk CX) (csF17 N R) := ⟨okce24n0 (F24 N) (soundF24 N) R (fun _ _ => true), okce34n0 (F34 N) (soundF34 N) R (fun _ _ => true), okce35n0 (F35 N) (soundF35 N) R (fun _ _ => true), okce36n0 (F36 N) (soundF36 N) R (fun _ _ => true), trivial⟩
inductive OJ17a14 where
  | nx (b0c0 : List Row) (b0c1 : List Row) (b0c2 : List Row) (b0c3 : List Row) (b0c4 : List Row)
  | ret (x6 : Int) (b0c0 : List Row) (b0c1 : List Row) (b0c2 : List Row) (b0c3 : List Row) (b0c4 : List Row)
def J17a14 (N : Nat) : Int → Bool → List Row → List Row → List Row → List Row → List Row → Option OJ17a14 := fun x1 x7 b0c0 b0c1 b0c2 b0c3 b0c4 =>
    match F24 N b0c0 b0c1 b0c2 b0c3 b0c4 x1 with
    | none => none
    | some (.r rx0v2) =>
      match !rx0v2 with
      | true =>
        some (.ret 2 b0c0 b0c1 b0c2 b0c3 b0c4)
      | false =>
        match !x7 with
        | true =>
          some (.ret 2 b0c0 b0c1 b0c2 b0c3 b0c4)
        | false =>
          some (.nx b0c0 b0c1 b0c2 b0c3 b0c4)
def LFJ17a14 (N : Nat) (s : St) : Option OJ17a14 := J17a14 N ((Eng.look s.env 1).toI) ((Eng.look s.env 7).toB) (((s.mem.getD 0 .dead).cells.getD 0 .top).rows) (((s.mem.getD 0 .dead).cells.getD 1 .top).rows) (((s.mem.getD 0 .dead).cells.getD 2 .top).rows) (((s.mem.getD 0 .dead).cells.getD 3 .top).rows) (((s.mem.getD 0 .dead).cells.getD 4 .top).rows)
def sgJ17a14 : LSh := ⟨[(1, .one (.cell (.int .i64))), (3, .one (.ptr 0 0 0)), (7, .one (.cell (.bool)))], [.var [.any, .any, .any, .any, .any] [.cell (.slice 58), .cell (.slice 74), .cell (.slice 45), .cell (.slice 113), .cell (.slice 117)]]⟩
def ceJ17a14 : List Cv := []
def seJ17a14 : St → List Nat := fun st => [(Eng.look st.env 3).id]
def xJ17a14wnx : XSh OJ17a14 := ⟨[], ⟨[], [.var [.any, .any, .any, .any, .any] [.cell (.slice 58), .cell (.slice 74), .cell (.slice 45), .cell (.slice 113), .cell (.slice 117)]]⟩, fun st => [0], fun s => .nx (((s.mem.getD 0 .dead).cells.getD 0 .top).rows) (((s.mem.getD 0 .dead).cells.getD 1 .top).rows) (((s.mem.getD 0 .dead).cells.getD 2 .top).rows) (((s.mem.getD 0 .dead).cells.getD 3 .top).rows) (((s.mem.getD 0 .dead).cells.getD 4 .top).rows)⟩
def xJ17a14wret : XSh OJ17a14 := ⟨[], ⟨[(6, .one (.cell (.int .i64)))], [.var [.any, .any, .any, .any, .any] [.cell (.slice 58), .cell (.slice 74), .cell (.slice 45), .cell (.slice 113), .cell (.slice 117)]]⟩, fun st => [0], fun s => .ret ((Eng.look s.env 6).toI) (((s.mem.getD 0 .dead).cells.getD 0 .top).rows) (((s.mem.getD 0 .dead).cells.getD 1 .top).rows) (((s.mem.getD 0 .dead).cells.getD 2 .top).rows) (((s.mem.getD 0 .dead).cells.getD 3 .top).rows) (((s.mem.getD 0 .dead).cells.getD 4 .top).rows)⟩
def xsJ17a14 : Ex → St → Option (XSh OJ17a14) := fun e st => match e with
  | .normal => some xJ17a14wnx
  | .ret => some xJ17a14wret
  | _ => none
def exJ17a14 (o : OJ17a14) : Ex := match o with | .nx b0c0 b0c1 b0c2 b0c3 b0c4 => .normal | .ret x6 b0c0 b0c1 b0c2 b0c3 b0c4 => .ret
def stJ17a14 (o : OJ17a14) : St := match o with | .nx b0c0 b0c1 b0c2 b0c3 b0c4 => ⟨[], [.var [.any, .any, .any, .any, .any] [.list 58 b0c0, .list 74 b0c1, .list 45 b0c2, .list 113 b0c3, .list 117 b0c4]], [], .unk⟩ | .ret x6 b0c0 b0c1 b0c2 b0c3 b0c4 => ⟨[(6, .int .i64 x6)], [.var [.any, .any, .any, .any, .any] [.list 58 b0c0, .list 74 b0c1, .list 45 b0c2, .list 113 b0c3, .list 117 b0c4]], [], .unk⟩
def elJ17a14 {R : Type} (o : OJ17a14) (k : Ex → St → Option R) : Option R := match o with | .nx b0c0 b0c1 b0c2 b0c3 b0c4 => k .normal ⟨[], [.var [.any, .any, .any, .any, .any] [.list 58 b0c0, .list 74 b0c1, .list 45 b0c2, .list 113 b0c3, .list 117 b0c4]], [], .unk⟩ | .ret x6 b0c0 b0c1 b0c2 b0c3 b0c4 => k .ret ⟨[(6, .int .i64 x6)], [.var [.any, .any, .any, .any, .any] [.list 58 b0c0, .list 74 b0c1, .list 45 b0c2, .list 113 b0c3, .list 117 b0c4]], [], .unk⟩
theorem heJ17a14 {R : Type} (o : OJ17a14) (k : Ex → St → Option R) : elJ17a14 o k = k (exJ17a14 o) (stJ17a14 o) := by cases o <;> rfl
theorem hxJ17a14 : ∀ e st x, xsJ17a14 e st = some x → outOk x e exJ17a14 stJ17a14 := by
  intro e st x h
  unfold xsJ17a14 at h
  repeat' split at h
  all_goals first
    | (injection h with h; subst h; exact fun lk M => ⟨rfl, rfl⟩)
    | cases h
noncomputable def T17uc14 (N : Nat) (R : Type) : LTab R := mkTab ⟨63, 16711744⟩ (csF17 N R) (noY) [] [] []
theorem okT17uc14 (N : Nat) (R : Type) : (T17uc14 N R).Ok CX code17 := mkTab_ok (hcsF17 N R) (noY_ok) (trivial) (trivial) (trivial)
noncomputable def bdJ17a14 : Code := (codeAt code17 [false, true, true]).getD .skip
theorem hsJ17a14 (N : Nat) : ∀ (lk : Nat → AV) (M : List Blk), LFJ17a14 N (canS sgJ17a14 lk M) = evk CX (T17uc14 N OJ17a14) bdJ17a14 14 (canS sgJ17a14 lk M) (kontX CX 1 xsJ17a14) := by intro lk M; kernel_rfl
noncomputable def T17ur1 (N : Nat) (R : Type) : LTab R := mkTab ⟨63, 9223372036854775807⟩ (csF17 N R) (noY) [] [] [(14, fun st k => callLoop CX 1 16711744 ceJ17a14 sgJ17a14 seJ17a14 ⟨63, 9223372036854775807⟩ (LFJ17a14 N) elJ17a14 st k)]
theorem okT17ur1 (N : Nat) (R : Type) : (T17ur1 N R).Ok CX code17 := mkTab_ok (hcsF17 N R) (noY_ok) (trivial) (trivial) (⟨cut_ok hX (path := [false, true, true]) (by kernel_rfl) (by rfl) (okT17uc14 N OJ17a14) (hsJ17a14 N) hxJ17a14 rfl heJ17a14, trivial⟩)
def rsF17 : List ResultVar := [.tmp 6]
def F17 : Nat → TF17
  | 0 => fun _ _ _ _ _ _ _ => none
  | N + 1 => fun x0c0 x0c1 x0c2 x0c3 x0c4 x1 x2 =>
    match F34 N x0c0 x0c1 x0c2 x0c3 x0c4 x2 with
    | none => none
    | some (.r rx0v1 rx1v1) =>
      match J17a14 N x1 rx0v1 x0c0 x0c1 x0c2 x0c3 x0c4 with
      | none => none
      | some (.nx b0c0v3 b0c1v3 b0c2v3 b0c3v3 b0c4v3) =>
        match F35 N b0c0v3 b0c1v3 b0c2v3 b0c3v3 b0c4v3 x1 with
        | none => none
        | some (.r rx0v4) =>
          tst (decide ((0 : Int) ≤ rx0v4) && decide (rx0v4 < ((b0c2v3.length : Int)))) <|
          match !rx1v1 with
          | true =>
            some (.r 90)
          | false =>
            tst (decide ((0 : Int) ≤ x2) && decide (x2 < ((b0c0v3.length : Int)))) <|
            match F36 N b0c0v3 b0c1v3 b0c2v3 b0c3v3 b0c4v3 ((((b0c2v3.getD rx0v4.toNat [])).getD 5 .top).toI) ((((b0c0v3.getD x2.toNat [])).getD 12 .top).toI) with
            | none => none
            | some (.r rx0v5) =>
              match !rx0v5 with
              | true =>
                some (.r 90)
              | false =>
                match ((((b0c2v3.getD rx0v4.toNat [])).getD 0 .top).toI) != (7 : Int) with
                | true =>
                  some (.r 121)
                | false =>
                  match !((((b0c2v3.getD rx0v4.toNat [])).getD 12 .top).toB) with
                  | true =>
                    some (.r 121)
                  | false =>
                    tst (decide ((0 : Int) ≤ x2) && decide (x2 < ((b0c0v3.length : Int)))) <|
                    match decide (((((b0c0v3.getD x2.toNat [])).getD 17 .top).toI) < ((((b0c2v3.getD rx0v4.toNat [])).getD 9 .top).toI)) with
                    | true =>
                      some (.r 120)
                    | false =>
                      some (.r 0)
      | some (.ret x6v6 b0c0v6 b0c1v6 b0c2v6 b0c3v6 b0c4v6) =>
        some (.r x6v6)
def xRF17 : XSh R17 := ⟨[], ⟨[(0, .one (.cell (.int .i64)))], []⟩, fun _ => [], fun s => .r ((Eng.look s.env 0).toI)⟩
theorem fsF17 : ∀ (N : Nat) (lk : Nat → AV) (M : List Blk), FFF17 (F17 (N + 1)) (canS sgF17 lk M) = evfn CX (T17ur1 N R17) code17 rsF17 (argsE 3 (canS sgF17 lk M).env) (canS sgF17 lk M).mem (goR CX 0 (fun _ => some xRF17)) := by intro N lk M; kernel_rfl
theorem soundF17 : ∀ N, RecOkF17 (F17 N)
  | 0, lk, M, o, h => by cases h
  | N + 1, lk, M, o, h => fn_sound hX (okT17ur1 N R17) Tryd.func17 hb17 rfl en17 (by kernel_rfl) (ys := fun _ => some xRF17) (fun st y h => by injection h with h; subst h; exact fun lk M => ⟨rfl, rfl⟩) ((fsF17 N lk M).symm.trans h)
def cvce17n0 : List Cv := []
def selce17n0 : St → List Nat := fun _ => []
noncomputable def ce17n0 (Fx : TF17) (R : Type) (test : List AV → List Blk → Bool) : CE R := ⟨17, test, fun args M => some (selce17n0 ⟨argEnv 0 args, M, [], .unk⟩), fun args M k => tst (Nat.beq args.length 3) (callFn CX 0 cvce17n0 sgF17 selce17n0 (FFF17 Fx) elF17 args M k)⟩
theorem okce17n0 (Fx : TF17) (h : RecOkF17 Fx) (R : Type) (test : List AV → List Blk → Bool) : CeOk CX (ce17n0 Fx R test) := ce_ok hX (fun o k => by cases o; rfl) h en17 (fun args M ids h => by injection h with h; exact ⟨rfl, h.symm⟩)
end Go.Proofs.YtdennlgnbecojaaDoor

namespace Go.Proofs.YtdennlgnbecojaaDoor
open Go Go.Eng
set_option maxRecDepth 100000

/-! ### F37v1: ceiling/level.Convert.1 -/
inductive R37v1 where
  | r (x0 : Bool) (b0c0 : List Row) (b0c1 : List Row) (b0c2 : List Row) (b0c3 : List Row) (b0c4 : List Row) (b1c0 : Int) (b2c0 : Int)
abbrev TF37v1 := List Row → List Row → List Row → List Row → List Row → Int → Int → Option R37v1
def sgF37v1 : LSh := ⟨[(0, .one (.ptr 0 0 0)), (1, .one (.ptr 1 0 0)), (2, .one (.ptr 2 0 0))], [.var [.any, .any, .any, .any, .any] [.cell (.slice 58), .cell (.slice 74), .cell (.slice 45), .cell (.slice 113), .cell (.slice 117)], .var [.int .i64] [.cell (.int .i64)], .var [.int .i64] [.cell (.int .i64)]]⟩
def FFF37v1 (Fx : TF37v1) (s : St) : Option R37v1 := Fx (((s.mem.getD 0 .dead).cells.getD 0 .top).rows) (((s.mem.getD 0 .dead).cells.getD 1 .top).rows) (((s.mem.getD 0 .dead).cells.getD 2 .top).rows) (((s.mem.getD 0 .dead).cells.getD 3 .top).rows) (((s.mem.getD 0 .dead).cells.getD 4 .top).rows) (((s.mem.getD 1 .dead).cells.getD 0 .top).toI) (((s.mem.getD 2 .dead).cells.getD 0 .top).toI)
def valF37v1 (o : R37v1) : AV := match o with | .r x0 b0c0 b0c1 b0c2 b0c3 b0c4 b1c0 b2c0 => .bool x0
def memF37v1 (o : R37v1) : List Blk := match o with | .r x0 b0c0 b0c1 b0c2 b0c3 b0c4 b1c0 b2c0 => [.var [.any, .any, .any, .any, .any] [.list 58 b0c0, .list 74 b0c1, .list 45 b0c2, .list 113 b0c3, .list 117 b0c4], .var [.int .i64] [.int .i64 b1c0], .var [.int .i64] [.int .i64 b2c0]]
def elF37v1 {R : Type} (o : R37v1) (k : AV → List Blk → Option R) : Option R := match o with | .r x0 b0c0 b0c1 b0c2 b0c3 b0c4 b1c0 b2c0 => k (.bool x0) [.var [.any, .any, .any, .any, .any] [.list 58 b0c0, .list 74 b0c1, .list 45 b0c2, .list 113 b0c3, .list 117 b0c4], .var [.int .i64] [.int .i64 b1c0], .var [.int .i64] [.int .i64 b2c0]]
def RecOkF37v1 (Fx : TF37v1) : Prop := ∀ lk M o, FFF37v1 Fx (canS sgF37v1 lk M) = some o → FCalls CX 37 3 (argsE 3 (canS sgF37v1 lk M).env) (canS sgF37v1 lk M).mem (valF37v1 o) (memF37v1 o)
noncomputable def csF37v1 (N : Nat) (R : Type) : List (CE R) := [ce29v1n0 (F29v1 N) R (fun _ _ => true)]
theorem hcsF37v1 (N : Nat) (R : Type) : AllE (CeOk CX) (csF37v1 N R) := ⟨okce29v1n0 (F29v1 N) (soundF29v1 N) R (fun _ _ => true), trivial⟩
noncomputable def T37v1ur1 (N : Nat) (R : Type) : LTab R := mkTab ⟨12, 4095⟩ (csF37v1 N R) (noY) [] [] []
theorem okT37v1ur1 (N : Nat) (R : Type) : (T37v1ur1 N R).Ok CX code37 := mkTab_ok (hcsF37v1 N R) (noY_ok) (trivial) (trivial) (trivial)
def rsF37v1 : List ResultVar := [.tmp 3]
def F37v1 : Nat → TF37v1
  | 0 => fun _ _ _ _ _ _ _ => none
  | N + 1 => fun b0c0 b0c1 b0c2 b0c3 b0c4 b1c0 b2c0 =>
    match F29v1 N b0c0 b0c1 b0c2 b0c3 b0c4 b1c0 with
    | none => none
    | some (.r rx0v1) =>
      match rx0v1 with
      | true =>
        match F29v1 N b0c0 b0c1 b0c2 b0c3 b0c4 b2c0 with
        | none => none
        | some (.r rx0v2) =>
          some (.r rx0v2 b0c0 b0c1 b0c2 b0c3 b0c4 b1c0 b2c0)
      | false =>
        some (.r false b0c0 b0c1 b0c2 b0c3 b0c4 b1c0 b2c0)
def xRF37v1 : XSh R37v1 := ⟨[], ⟨[(0, .one (.cell (.bool)))], [.var [.any, .any, .any, .any, .any] [.cell (.slice 58), .cell (.slice 74), .cell (.slice 45), .cell (.slice 113), .cell (.slice 117)], .var [.int .i64] [.cell (.int .i64)], .var [.int .i64] [.cell (.int .i64)]]⟩, fun st => [0, 1, 2], fun s => .r ((Eng.look s.env 0).toB) (((s.mem.getD 0 .dead).cells.getD 0 .top).rows) (((s.mem.getD 0 .dead).cells.getD 1 .top).rows) (((s.mem.getD 0 .dead).cells.getD 2 .top).rows) (((s.mem.getD 0 .dead).cells.getD 3 .top).rows) (((s.mem.getD 0 .dead).cells.getD 4 .top).rows) (((s.mem.getD 1 .dead).cells.getD 0 .top).toI) (((s.mem.getD 2 .dead).cells.getD 0 .top).toI)⟩
theorem fsF37v1 : ∀ (N : Nat) (lk : Nat → AV) (M : List Blk), FFF37v1 (F37v1 (N + 1)) (canS sgF37v1 lk M) = evfn CX (T37v1ur1 N R37v1) code37 rsF37v1 (argsE 3 (canS sgF37v1 lk M).env) (canS sgF37v1 lk M).mem (goR CX 3 (fun _ => some xRF37v1)) := by intro N lk M; kernel_rfl
theorem soundF37v1 : ∀ N, RecOkF37v1 (F37v1 N)
  | 0, lk, M, o, h => by cases h
  | N + 1, lk, M, o, h => fn_sound hX (okT37v1ur1 N R37v1) Tryd.func37 hb37 rfl en37 (by kernel_rfl) (ys := fun _ => some xRF37v1) (fun st y h => by injection h with h; subst h; exact fun lk M => ⟨rfl, rfl⟩) ((fsF37v1 N lk M).symm.trans h)
def cvce37v1n0 : List Cv := []
def selce37v1n0 : St → List Nat := fun st => [(Eng.look st.env 0).id, (Eng.look st.env 1).id, (Eng.look st.env 2).id]
noncomputable def ce37v1n0 (Fx : TF37v1) (R : Type) (test : List AV → List Blk → Bool) : CE R := ⟨37, test, fun args M => some (selce37v1n0 ⟨argEnv 0 args, M, [], .unk⟩), fun args M k => tst (Nat.beq args.length 3) (callFn CX 3 cvce37v1n0 sgF37v1 selce37v1n0 (FFF37v1 Fx) elF37v1 args M k)⟩
theorem okce37v1n0 (Fx : TF37v1) (h : RecOkF37v1 Fx) (R : Type) (test : List AV → List Blk → Bool) : CeOk CX (ce37v1n0 Fx R test) := ce_ok hX (fun o k => by cases o; rfl) h en37 (fun args M ids h => by injection h with h; exact ⟨rfl, h.symm⟩)
end Go.Proofs.YtdennlgnbecojaaDoor

namespace Go.Proofs.YtdennlgnbecojaaDoor
open Go Go.Eng
set_option maxRecDepth 100000

/-! ### F50v1: ceiling/table.at[ceiling/api.Ty] -/
inductive R50v1 where
  | r (x0c0 : Int) (x0c1 : ByteArray) (x0c2 : Int) (x0c3 : Int) (x0c4 : List Row) (x0c5 : Int) (x0c6 : Int) (x0c7 : Int) (x0c8 : ByteArray) (x0c9 : Bool) (x0c10 : Int) (x0c11 : List Row) (x0c12 : Int) (x0c13 : Int) (x0c14 : Bool) (x0c15 : Int) (x0c16 : Int) (x0c17 : Int) (x1 : Bool)
abbrev TF50v1 := List Row → Int → Option R50v1
def sgF50v1 : LSh := ⟨[(0, .one (.cell (.slice 58))), (1, .one (.cell (.int .i64)))], []⟩
def FFF50v1 (Fx : TF50v1) (s : St) : Option R50v1 := Fx ((Eng.look s.env 0).rows) ((Eng.look s.env 1).toI)
def valF50v1 (o : R50v1) : AV := match o with | .r x0c0 x0c1 x0c2 x0c3 x0c4 x0c5 x0c6 x0c7 x0c8 x0c9 x0c10 x0c11 x0c12 x0c13 x0c14 x0c15 x0c16 x0c17 x1 => .tup [.agg [.int .u8 x0c0, .str x0c1, .int .i64 x0c2, .int .i64 x0c3, .list 9 x0c4, .int .i64 x0c5, .int .i64 x0c6, .int .i64 x0c7, .str x0c8, .bool x0c9, .int .i64 x0c10, .list 120 x0c11, .int .i64 x0c12, .int .u8 x0c13, .bool x0c14, .int .i64 x0c15, .int .i64 x0c16, .int .i64 x0c17], .bool x1]
def memF50v1 (o : R50v1) : List Blk := match o with | .r x0c0 x0c1 x0c2 x0c3 x0c4 x0c5 x0c6 x0c7 x0c8 x0c9 x0c10 x0c11 x0c12 x0c13 x0c14 x0c15 x0c16 x0c17 x1 => []
def elF50v1 {R : Type} (o : R50v1) (k : AV → List Blk → Option R) : Option R := match o with | .r x0c0 x0c1 x0c2 x0c3 x0c4 x0c5 x0c6 x0c7 x0c8 x0c9 x0c10 x0c11 x0c12 x0c13 x0c14 x0c15 x0c16 x0c17 x1 => k (.tup [.agg [.int .u8 x0c0, .str x0c1, .int .i64 x0c2, .int .i64 x0c3, .list 9 x0c4, .int .i64 x0c5, .int .i64 x0c6, .int .i64 x0c7, .str x0c8, .bool x0c9, .int .i64 x0c10, .list 120 x0c11, .int .i64 x0c12, .int .u8 x0c13, .bool x0c14, .int .i64 x0c15, .int .i64 x0c16, .int .i64 x0c17], .bool x1]) []
def RecOkF50v1 (Fx : TF50v1) : Prop := ∀ lk M o, FFF50v1 Fx (canS sgF50v1 lk M) = some o → FCalls CX 50 0 (argsE 2 (canS sgF50v1 lk M).env) (canS sgF50v1 lk M).mem (valF50v1 o) (memF50v1 o)
noncomputable def csF50v1 (N : Nat) (R : Type) : List (CE R) := []
theorem hcsF50v1 (N : Nat) (R : Type) : AllE (CeOk CX) (csF50v1 N R) := trivial
noncomputable def T50v1ur1 (N : Nat) (R : Type) : LTab R := mkTab ⟨19, 524287⟩ (csF50v1 N R) (noY) [] [] []
theorem okT50v1ur1 (N : Nat) (R : Type) : (T50v1ur1 N R).Ok CX code50 := mkTab_ok (hcsF50v1 N R) (noY_ok) (trivial) (trivial) (trivial)
def rsF50v1 : List ResultVar := [.cell 4 58, .tmp 5]
def F50v1 : Nat → TF50v1
  | 0 => fun _ _ => none
  | N + 1 => fun x0 x1 =>
    match decide (x1 < (0 : Int)) with
    | true =>
      some (.r 0 ByteArray.empty 0 0 ([]) 0 0 0 ByteArray.empty false 0 ([]) 0 0 false 0 0 0 false)
    | false =>
      match decide (((x0.length : Int)) ≤ x1) with
      | true =>
        some (.r 0 ByteArray.empty 0 0 ([]) 0 0 0 ByteArray.empty false 0 ([]) 0 0 false 0 0 0 false)
      | false =>
        tst (decide ((0 : Int) ≤ x1) && decide (x1 < ((x0.length : Int)))) <|
        some (.r ((((x0.getD x1.toNat [])).getD 0 .top).toI) ((((x0.getD x1.toNat [])).getD 1 .top).toS) ((((x0.getD x1.toNat [])).getD 2 .top).toI) ((((x0.getD x1.toNat [])).getD 3 .top).toI) ((((x0.getD x1.toNat [])).getD 4 .top).rows) ((((x0.getD x1.toNat [])).getD 5 .top).toI) ((((x0.getD x1.toNat [])).getD 6 .top).toI) ((((x0.getD x1.toNat [])).getD 7 .top).toI) ((((x0.getD x1.toNat [])).getD 8 .top).toS) ((((x0.getD x1.toNat [])).getD 9 .top).toB) ((((x0.getD x1.toNat [])).getD 10 .top).toI) ((((x0.getD x1.toNat [])).getD 11 .top).rows) ((((x0.getD x1.toNat [])).getD 12 .top).toI) ((((x0.getD x1.toNat [])).getD 13 .top).toI) ((((x0.getD x1.toNat [])).getD 14 .top).toB) ((((x0.getD x1.toNat [])).getD 15 .top).toI) ((((x0.getD x1.toNat [])).getD 16 .top).toI) ((((x0.getD x1.toNat [])).getD 17 .top).toI) true)
def xRF50v1 : XSh R50v1 := ⟨[.frza 0 [.raw, .raw, .raw, .raw, .slice 9, .raw, .raw, .raw, .raw, .raw, .raw, .slice 120, .raw, .raw, .raw, .raw, .raw, .raw]], ⟨[(0, .agg [.cell (.int .u8), .cell (.str), .cell (.int .i64), .cell (.int .i64), .cell (.slice 9), .cell (.int .i64), .cell (.int .i64), .cell (.int .i64), .cell (.str), .cell (.bool), .cell (.int .i64), .cell (.slice 120), .cell (.int .i64), .cell (.int .u8), .cell (.bool), .cell (.int .i64), .cell (.int .i64), .cell (.int .i64)]), (1, .one (.cell (.bool)))], []⟩, fun _ => [], fun s => .r (((Eng.look s.env 0).cells.getD 0 .top).toI) (((Eng.look s.env 0).cells.getD 1 .top).toS) (((Eng.look s.env 0).cells.getD 2 .top).toI) (((Eng.look s.env 0).cells.getD 3 .top).toI) (((Eng.look s.env 0).cells.getD 4 .top).rows) (((Eng.look s.env 0).cells.getD 5 .top).toI) (((Eng.look s.env 0).cells.getD 6 .top).toI) (((Eng.look s.env 0).cells.getD 7 .top).toI) (((Eng.look s.env 0).cells.getD 8 .top).toS) (((Eng.look s.env 0).cells.getD 9 .top).toB) (((Eng.look s.env 0).cells.getD 10 .top).toI) (((Eng.look s.env 0).cells.getD 11 .top).rows) (((Eng.look s.env 0).cells.getD 12 .top).toI) (((Eng.look s.env 0).cells.getD 13 .top).toI) (((Eng.look s.env 0).cells.getD 14 .top).toB) (((Eng.look s.env 0).cells.getD 15 .top).toI) (((Eng.look s.env 0).cells.getD 16 .top).toI) (((Eng.look s.env 0).cells.getD 17 .top).toI) ((Eng.look s.env 1).toB)⟩
theorem fsF50v1 : ∀ (N : Nat) (lk : Nat → AV) (M : List Blk), FFF50v1 (F50v1 (N + 1)) (canS sgF50v1 lk M) = evfn CX (T50v1ur1 N R50v1) code50 rsF50v1 (argsE 2 (canS sgF50v1 lk M).env) (canS sgF50v1 lk M).mem (goRt CX 0 2 (fun _ => some xRF50v1)) := by intro N lk M; kernel_rfl
theorem soundF50v1 : ∀ N, RecOkF50v1 (F50v1 N)
  | 0, lk, M, o, h => by cases h
  | N + 1, lk, M, o, h => fn_soundt hX (okT50v1ur1 N R50v1) Tryd.func50 hb50 rfl en50 (by kernel_rfl) (ys := fun _ => some xRF50v1) (fun st y h => by injection h with h; subst h; exact fun lk M => ⟨rfl, rfl⟩) ((fsF50v1 N lk M).symm.trans h)
def cvce50v1n0 : List Cv := []
def selce50v1n0 : St → List Nat := fun _ => []
noncomputable def ce50v1n0 (Fx : TF50v1) (R : Type) (test : List AV → List Blk → Bool) : CE R := ⟨50, test, fun args M => some (selce50v1n0 ⟨argEnv 0 args, M, [], .unk⟩), fun args M k => tst (Nat.beq args.length 2) (callFn CX 0 cvce50v1n0 sgF50v1 selce50v1n0 (FFF50v1 Fx) elF50v1 args M k)⟩
theorem okce50v1n0 (Fx : TF50v1) (h : RecOkF50v1 Fx) (R : Type) (test : List AV → List Blk → Bool) : CeOk CX (ce50v1n0 Fx R test) := ce_ok hX (fun o k => by cases o; rfl) h en50 (fun args M ids h => by injection h with h; exact ⟨rfl, h.symm⟩)
end Go.Proofs.YtdennlgnbecojaaDoor

namespace Go.Proofs.YtdennlgnbecojaaDoor
open Go Go.Eng
set_option maxRecDepth 100000

/-! ### F51v1: ceiling/table.Root -/
inductive R51v1 where
  | r (x0 : Int)
abbrev TF51v1 := List Row → List Row → List Row → List Row → List Row → Int → Option R51v1
def sgF51v1 : LSh := ⟨[(0, .agg [.cell (.slice 58), .cell (.slice 74), .cell (.slice 45), .cell (.slice 113), .cell (.slice 117)]), (1, .one (.cell (.int .i64)))], []⟩
def FFF51v1 (Fx : TF51v1) (s : St) : Option R51v1 := Fx (((Eng.look s.env 0).cells.getD 0 .top).rows) (((Eng.look s.env 0).cells.getD 1 .top).rows) (((Eng.look s.env 0).cells.getD 2 .top).rows) (((Eng.look s.env 0).cells.getD 3 .top).rows) (((Eng.look s.env 0).cells.getD 4 .top).rows) ((Eng.look s.env 1).toI)
def valF51v1 (o : R51v1) : AV := match o with | .r x0 => .int .i64 x0
def memF51v1 (o : R51v1) : List Blk := match o with | .r x0 => []
def elF51v1 {R : Type} (o : R51v1) (k : AV → List Blk → Option R) : Option R := match o with | .r x0 => k (.int .i64 x0) []
def RecOkF51v1 (Fx : TF51v1) : Prop := ∀ lk M o, FFF51v1 Fx (canS sgF51v1 lk M) = some o → FCalls CX 51 0 (argsE 2 (canS sgF51v1 lk M).env) (canS sgF51v1 lk M).mem (valF51v1 o) (memF51v1 o)
noncomputable def csF51v1 (N : Nat) (R : Type) : List (CE R) := [ce50v1n0 (F50v1 N) R (fun _ _ => true)]
theorem hcsF51v1 (N : Nat) (R : Type) : AllE (CeOk CX) (csF51v1 N R) := ⟨okce50v1n0 (F50v1 N) (soundF50v1 N) R (fun _ _ => true), trivial⟩
inductive OL51v1a58 where
  | x0 (x1 : Int) (b0c0 : List Row) (b0c1 : List Row) (b0c2 : List Row) (b0c3 : List Row) (b0c4 : List Row)
def L51v1a58 (N : Nat) : Nat → Int → Int → List Row → List Row → List Row → List Row → List Row → Option OL51v1a58
  | 0 => fun _ _ _ _ _ _ _ => none
  | n + 1 => fun x1 x7 b0c0 b0c1 b0c2 b0c3 b0c4 =>
    match decide ((0 : Int) ≤ x7) with
    | true =>
      match decide (x7 < x1) with
      | true =>
        tst (decide ((0 : Int) ≤ x7) && decide (x7 < ((b0c0.length : Int)))) <|
        L51v1a58 N n x7 ((((b0c0.getD x7.toNat [])).getD 2 .top).toI) b0c0 b0c1 b0c2 b0c3 b0c4
      | false =>
        some (.x0 x1 b0c0 b0c1 b0c2 b0c3 b0c4)
    | false =>
      some (.x0 x1 b0c0 b0c1 b0c2 b0c3 b0c4)
def LFL51v1a58 (N : Nat) (n : Nat) (s : St) : Option OL51v1a58 := L51v1a58 N n ((Eng.look s.env 1).toI) ((Eng.look s.env 7).toI) (((s.mem.getD 0 .dead).cells.getD 0 .top).rows) (((s.mem.getD 0 .dead).cells.getD 1 .top).rows) (((s.mem.getD 0 .dead).cells.getD 2 .top).rows) (((s.mem.getD 0 .dead).cells.getD 3 .top).rows) (((s.mem.getD 0 .dead).cells.getD 4 .top).rows)
def sgL51v1a58 : LSh := ⟨[(1, .one (.cell (.int .i64))), (2, .one (.ptr 0 0 0)), (7, .one (.cell (.int .i64)))], [.var [.any, .any, .any, .any, .any] [.cell (.slice 58), .cell (.slice 74), .cell (.slice 45), .cell (.slice 113), .cell (.slice 117)]]⟩
def ceL51v1a58 : List Cv := []
def seL51v1a58 : St → List Nat := fun st => [(Eng.look st.env 2).id]
def xL51v1a58wx0 : XSh OL51v1a58 := ⟨[], ⟨[(1, .one (.cell (.int .i64)))], [.var [.any, .any, .any, .any, .any] [.cell (.slice 58), .cell (.slice 74), .cell (.slice 45), .cell (.slice 113), .cell (.slice 117)]]⟩, fun st => [0], fun s => .x0 ((Eng.look s.env 1).toI) (((s.mem.getD 0 .dead).cells.getD 0 .top).rows) (((s.mem.getD 0 .dead).cells.getD 1 .top).rows) (((s.mem.getD 0 .dead).cells.getD 2 .top).rows) (((s.mem.getD 0 .dead).cells.getD 3 .top).rows) (((s.mem.getD 0 .dead).cells.getD 4 .top).rows)⟩
def xsL51v1a58 : Ex → St → Option (XSh OL51v1a58) := fun e st => match e with
  | .exit 0 => some xL51v1a58wx0
  | _ => none
def exL51v1a58 (o : OL51v1a58) : Ex := match o with | .x0 x1 b0c0 b0c1 b0c2 b0c3 b0c4 => (.exit 0)
def stL51v1a58 (o : OL51v1a58) : St := match o with | .x0 x1 b0c0 b0c1 b0c2 b0c3 b0c4 => ⟨[(1, .int .i64 x1)], [.var [.any, .any, .any, .any, .any] [.list 58 b0c0, .list 74 b0c1, .list 45 b0c2, .list 113 b0c3, .list 117 b0c4]], [], .unk⟩
def elL51v1a58 {R : Type} (o : OL51v1a58) (k : Ex → St → Option R) : Option R := match o with | .x0 x1 b0c0 b0c1 b0c2 b0c3 b0c4 => k (.exit 0) ⟨[(1, .int .i64 x1)], [.var [.any, .any, .any, .any, .any] [.list 58 b0c0, .list 74 b0c1, .list 45 b0c2, .list 113 b0c3, .list 117 b0c4]], [], .unk⟩
theorem heL51v1a58 {R : Type} (o : OL51v1a58) (k : Ex → St → Option R) : elL51v1a58 o k = k (exL51v1a58 o) (stL51v1a58 o) := by cases o <;> rfl
theorem hxL51v1a58 : ∀ e st x, xsL51v1a58 e st = some x → outOk x e exL51v1a58 stL51v1a58 := by
  intro e st x h
  unfold xsL51v1a58 at h
  repeat' split at h
  all_goals first
    | (injection h with h; subst h; exact fun lk M => ⟨rfl, rfl⟩)
    | cases h
noncomputable def T51v1ul58 (N : Nat) (R : Type) : LTab R := mkTab ⟨38, 137430564994⟩ (csF51v1 N R) (noY) [] [] []
theorem okT51v1ul58 (N : Nat) (R : Type) : (T51v1ul58 N R).Ok CX code51 := mkTab_ok (hcsF51v1 N R) (noY_ok) (trivial) (trivial) (trivial)
noncomputable def bdL51v1a58 : Code := match codeAt code51 [false, true, false, true, true] with | some (.loop c) => c | _ => .skip
theorem hsL51v1a58 (N : Nat) : ∀ (n : Nat) (lk : Nat → AV) (M : List Blk), LFL51v1a58 N (n + 1) (canS sgL51v1a58 lk M) = evk CX (T51v1ul58 N OL51v1a58) bdL51v1a58 (2 * 58) (canS sgL51v1a58 lk M) (kont CX 1 [] sgL51v1a58 (fun st => [0]) xsL51v1a58 (LFL51v1a58 N n)) := by intro n lk M; kernel_rfl
noncomputable def T51v1ur1 (N : Nat) (R : Type) : LTab R := mkTab ⟨38, 274877906943⟩ (csF51v1 N R) (noY) [(58, fun st k => callLoop CX 1 137430564994 ceL51v1a58 sgL51v1a58 seL51v1a58 ⟨38, 274877906943⟩ (LFL51v1a58 N N) elL51v1a58 st k)] [] []
theorem okT51v1ur1 (N : Nat) (R : Type) : (T51v1ur1 N R).Ok CX code51 := mkTab_ok (hcsF51v1 N R) (noY_ok) (⟨loop_ok hX (path := [false, true, false, true, true]) (by kernel_rfl) (by rfl) (okT51v1ul58 N OL51v1a58) (fun _ _ => rfl) (hsL51v1a58 N) hxL51v1a58 rfl heL51v1a58, trivial⟩) (trivial) (trivial)
def rsF51v1 : List ResultVar := [.tmp 4]
def F51v1 : Nat → TF51v1
  | 0 => fun _ _ _ _ _ _ => none
  | N + 1 => fun x0c0 x0c1 x0c2 x0c3 x0c4 x1 =>
    match F50v1 N x0c0 x1 with
    | none => none
    | some (.r rx0c0v1 rx0c1v1 rx0c2v1 rx0c3v1 rx0c4v1 rx0c5v1 rx0c6v1 rx0c7v1 rx0c8v1 rx0c9v1 rx0c10v1 rx0c11v1 rx0c12v1 rx0c13v1 rx0c14v1 rx0c15v1 rx0c16v1 rx0c17v1 rx1v1) =>
      match !rx1v1 with
      | true =>
        some (.r ((-1)))
      | false =>
        tst (decide ((0 : Int) ≤ x1) && decide (x1 < ((x0c0.length : Int)))) <|
        match L51v1a58 N N x1 ((((x0c0.getD x1.toNat [])).getD 2 .top).toI) x0c0 x0c1 x0c2 x0c3 x0c4 with
        | none => none
        | some (.x0 x1v2 b0c0v2 b0c1v2 b0c2v2 b0c3v2 b0c4v2) =>
          some (.r x1v2)
def xRF51v1 : XSh R51v1 := ⟨[], ⟨[(0, .one (.cell (.int .i64)))], []⟩, fun _ => [], fun s => .r ((Eng.look s.env 0).toI)⟩
theorem fsF51v1 : ∀ (N : Nat) (lk : Nat → AV) (M : List Blk), FFF51v1 (F51v1 (N + 1)) (canS sgF51v1 lk M) = evfn CX (T51v1ur1 N R51v1) code51 rsF51v1 (argsE 2 (canS sgF51v1 lk M).env) (canS sgF51v1 lk M).mem (goR CX 0 (fun _ => some xRF51v1)) := by intro N lk M; kernel_rfl
theorem soundF51v1 : ∀ N, RecOkF51v1 (F51v1 N)
  | 0, lk, M, o, h => by cases h
  | N + 1, lk, M, o, h => fn_sound hX (okT51v1ur1 N R51v1) Tryd.func51 hb51 rfl en51 (by kernel_rfl) (ys := fun _ => some xRF51v1) (fun st y h => by injection h with h; subst h; exact fun lk M => ⟨rfl, rfl⟩) ((fsF51v1 N lk M).symm.trans h)
def cvce51v1n0 : List Cv := []
def selce51v1n0 : St → List Nat := fun _ => []
noncomputable def ce51v1n0 (Fx : TF51v1) (R : Type) (test : List AV → List Blk → Bool) : CE R := ⟨51, test, fun args M => some (selce51v1n0 ⟨argEnv 0 args, M, [], .unk⟩), fun args M k => tst (Nat.beq args.length 2) (callFn CX 0 cvce51v1n0 sgF51v1 selce51v1n0 (FFF51v1 Fx) elF51v1 args M k)⟩
theorem okce51v1n0 (Fx : TF51v1) (h : RecOkF51v1 Fx) (R : Type) (test : List AV → List Blk → Bool) : CeOk CX (ce51v1n0 Fx R test) := ce_ok hX (fun o k => by cases o; rfl) h en51 (fun args M ids h => by injection h with h; exact ⟨rfl, h.symm⟩)
end Go.Proofs.YtdennlgnbecojaaDoor

namespace Go.Proofs.YtdennlgnbecojaaDoor
open Go Go.Eng
set_option maxRecDepth 100000

/-! ### F39v1: ceiling/table.Converts -/
inductive R39v1 where
  | r (x0 : Bool)
abbrev TF39v1 := List Row → List Row → List Row → List Row → List Row → Int → Int → Option R39v1
def sgF39v1 : LSh := ⟨[(0, .agg [.cell (.slice 58), .cell (.slice 74), .cell (.slice 45), .cell (.slice 113), .cell (.slice 117)]), (1, .one (.cell (.int .i64))), (2, .one (.cell (.int .i64)))], []⟩
def FFF39v1 (Fx : TF39v1) (s : St) : Option R39v1 := Fx (((Eng.look s.env 0).cells.getD 0 .top).rows) (((Eng.look s.env 0).cells.getD 1 .top).rows) (((Eng.look s.env 0).cells.getD 2 .top).rows) (((Eng.look s.env 0).cells.getD 3 .top).rows) (((Eng.look s.env 0).cells.getD 4 .top).rows) ((Eng.look s.env 1).toI) ((Eng.look s.env 2).toI)
def valF39v1 (o : R39v1) : AV := match o with | .r x0 => .bool x0
def memF39v1 (o : R39v1) : List Blk := match o with | .r x0 => []
def elF39v1 {R : Type} (o : R39v1) (k : AV → List Blk → Option R) : Option R := match o with | .r x0 => k (.bool x0) []
def RecOkF39v1 (Fx : TF39v1) : Prop := ∀ lk M o, FFF39v1 Fx (canS sgF39v1 lk M) = some o → FCalls CX 39 0 (argsE 3 (canS sgF39v1 lk M).env) (canS sgF39v1 lk M).mem (valF39v1 o) (memF39v1 o)
noncomputable def csF39v1 (N : Nat) (R : Type) : List (CE R) := [ce31v1n0 (F31v1 N) R (fun _ _ => true), ce50v1n0 (F50v1 N) R (fun _ _ => true), ce51v1n0 (F51v1 N) R (fun _ _ => true), ce52n0 (F52 N) R (fun _ _ => true)]
theorem hcsF39v1 (N : Nat) (R : Type) : AllE (CeOk CX) (csF39v1 N R) := ⟨okce31v1n0 (F31v1 N) (soundF31v1 N) R (fun _ _ => true), okce50v1n0 (F50v1 N) (soundF50v1 N) R (fun _ _ => true), okce51v1n0 (F51v1 N) (soundF51v1 N) R (fun _ _ => true), okce52n0 (F52 N) (soundF52 N) R (fun _ _ => true), trivial⟩
inductive OJ39v1a120 where
  | nx (x26 : Bool)
def J39v1a120 (N : Nat) : Bool → Bool → Option OJ39v1a120 := fun x8 x10 =>
    match !x8 with
    | true =>
      some (.nx true)
    | false =>
      some (.nx (!x10))
def LFJ39v1a120 (N : Nat) (s : St) : Option OJ39v1a120 := J39v1a120 N ((Eng.look s.env 8).toB) ((Eng.look s.env 10).toB)
def sgJ39v1a120 : LSh := ⟨[(8, .one (.cell (.bool))), (10, .one (.cell (.bool)))], []⟩
def ceJ39v1a120 : List Cv := []
def seJ39v1a120 : St → List Nat := fun _ => []
def xJ39v1a120wnx : XSh OJ39v1a120 := ⟨[], ⟨[(26, .one (.cell (.bool)))], []⟩, fun _ => [], fun s => .nx ((Eng.look s.env 26).toB)⟩
def xsJ39v1a120 : Ex → St → Option (XSh OJ39v1a120) := fun e st => match e with
  | .normal => some xJ39v1a120wnx
  | _ => none
def exJ39v1a120 (o : OJ39v1a120) : Ex := match o with | .nx x26 => .normal
def stJ39v1a120 (o : OJ39v1a120) : St := match o with | .nx x26 => ⟨[(26, .bool x26)], [], [], .unk⟩
def elJ39v1a120 {R : Type} (o : OJ39v1a120) (k : Ex → St → Option R) : Option R := match o with | .nx x26 => k .normal ⟨[(26, .bool x26)], [], [], .unk⟩
theorem heJ39v1a120 {R : Type} (o : OJ39v1a120) (k : Ex → St → Option R) : elJ39v1a120 o k = k (exJ39v1a120 o) (stJ39v1a120 o) := by cases o <;> rfl
theorem hxJ39v1a120 : ∀ e st x, xsJ39v1a120 e st = some x → outOk x e exJ39v1a120 stJ39v1a120 := by
  intro e st x h
  unfold xsJ39v1a120 at h
  repeat' split at h
  all_goals first
    | (injection h with h; subst h; exact fun lk M => ⟨rfl, rfl⟩)
    | cases h
noncomputable def T39v1uc120 (N : Nat) (R : Type) : LTab R := mkTab ⟨78, 8522825728⟩ (csF39v1 N R) (noY) [] [] []
theorem okT39v1uc120 (N : Nat) (R : Type) : (T39v1uc120 N R).Ok CX code39 := mkTab_ok (hcsF39v1 N R) (noY_ok) (trivial) (trivial) (trivial)
noncomputable def bdJ39v1a120 : Code := (codeAt code39 [false, false, false, true, true, true]).getD .skip
theorem hsJ39v1a120 (N : Nat) : ∀ (lk : Nat → AV) (M : List Blk), LFJ39v1a120 N (canS sgJ39v1a120 lk M) = evk CX (T39v1uc120 N OJ39v1a120) bdJ39v1a120 120 (canS sgJ39v1a120 lk M) (kontX CX 0 xsJ39v1a120) := by intro lk M; kernel_rfl
inductive OJ39v1a30 where
  | nx (b0c0 : List Row) (b0c1 : List Row) (b0c2 : List Row) (b0c3 : List Row) (b0c4 : List Row) (b1c0 : Int) (b1c1 : ByteArray) (b1c2 : Int) (b1c3 : Int) (b1c4 : List Row) (b1c5 : Int) (b1c6 : Int) (b1c7 : Int) (b1c8 : ByteArray) (b1c9 : Bool) (b1c10 : Int) (b1c11 : List Row) (b1c12 : Int) (b1c13 : Int) (b1c14 : Bool) (b1c15 : Int) (b1c16 : Int) (b1c17 : Int) (b2c0 : Int) (b2c1 : ByteArray) (b2c2 : Int) (b2c3 : Int) (b2c4 : List Row) (b2c5 : Int) (b2c6 : Int) (b2c7 : Int) (b2c8 : ByteArray) (b2c9 : Bool) (b2c10 : Int) (b2c11 : List Row) (b2c12 : Int) (b2c13 : Int) (b2c14 : Bool) (b2c15 : Int) (b2c16 : Int) (b2c17 : Int)
  | ret (x6 : Bool) (b0c0 : List Row) (b0c1 : List Row) (b0c2 : List Row) (b0c3 : List Row) (b0c4 : List Row) (b1c0 : Int) (b1c1 : ByteArray) (b1c2 : Int) (b1c3 : Int) (b1c4 : List Row) (b1c5 : Int) (b1c6 : Int) (b1c7 : Int) (b1c8 : ByteArray) (b1c9 : Bool) (b1c10 : Int) (b1c11 : List Row) (b1c12 : Int) (b1c13 : Int) (b1c14 : Bool) (b1c15 : Int) (b1c16 : Int) (b1c17 : Int) (b2c0 : Int) (b2c1 : ByteArray) (b2c2 : Int) (b2c3 : Int) (b2c4 : List Row) (b2c5 : Int) (b2c6 : Int) (b2c7 : Int) (b2c8 : ByteArray) (b2c9 : Bool) (b2c10 : Int) (b2c11 : List Row) (b2c12 : Int) (b2c13 : Int) (b2c14 : Bool) (b2c15 : Int) (b2c16 : Int) (b2c17 : Int)
def J39v1a30 (N : Nat) : Int → Int → Bool → Bool → List Row → List Row → List Row → List Row → List Row → Int → ByteArray → Int → Int → List Row → Int → Int → Int → ByteArray → Bool → Int → List Row → Int → Int → Bool → Int → Int → Int → Int → ByteArray → Int → Int → List Row → Int → Int → Int → ByteArray → Bool → Int → List Row → Int → Int → Bool → Int → Int → Int → Option OJ39v1a30 := fun x1 x2 x8 x10 b0c0 b0c1 b0c2 b0c3 b0c4 b1c0 b1c1 b1c2 b1c3 b1c4 b1c5 b1c6 b1c7 b1c8 b1c9 b1c10 b1c11 b1c12 b1c13 b1c14 b1c15 b1c16 b1c17 b2c0 b2c1 b2c2 b2c3 b2c4 b2c5 b2c6 b2c7 b2c8 b2c9 b2c10 b2c11 b2c12 b2c13 b2c14 b2c15 b2c16 b2c17 =>
    match J39v1a120 N x8 x10 with
    | none => none
    | some (.nx x26v3) =>
      match x26v3 with
      | true =>
        some (.ret false b0c0 b0c1 b0c2 b0c3 b0c4 b1c0 b1c1 b1c2 b1c3 b1c4 b1c5 b1c6 b1c7 b1c8 b1c9 b1c10 b1c11 b1c12 b1c13 b1c14 b1c15 b1c16 b1c17 b2c0 b2c1 b2c2 b2c3 b2c4 b2c5 b2c6 b2c7 b2c8 b2c9 b2c10 b2c11 b2c12 b2c13 b2c14 b2c15 b2c16 b2c17)
      | false =>
        match x1 == x2 with
        | true =>
          some (.ret true b0c0 b0c1 b0c2 b0c3 b0c4 b1c0 b1c1 b1c2 b1c3 b1c4 b1c5 b1c6 b1c7 b1c8 b1c9 b1c10 b1c11 b1c12 b1c13 b1c14 b1c15 b1c16 b1c17 b2c0 b2c1 b2c2 b2c3 b2c4 b2c5 b2c6 b2c7 b2c8 b2c9 b2c10 b2c11 b2c12 b2c13 b2c14 b2c15 b2c16 b2c17)
        | false =>
          match b1c0 == (3 : Int) with
          | true =>
            match b2c0 == (3 : Int) with
            | true =>
              match F51v1 N b0c0 b0c1 b0c2 b0c3 b0c4 x1 with
              | none => none
              | some (.r rx0v4) =>
                match F51v1 N b0c0 b0c1 b0c2 b0c3 b0c4 x2 with
                | none => none
                | some (.r rx0v5) =>
                  some (.ret (rx0v4 == rx0v5) b0c0 b0c1 b0c2 b0c3 b0c4 b1c0 b1c1 b1c2 b1c3 b1c4 b1c5 b1c6 b1c7 b1c8 b1c9 b1c10 b1c11 b1c12 b1c13 b1c14 b1c15 b1c16 b1c17 b2c0 b2c1 b2c2 b2c3 b2c4 b2c5 b2c6 b2c7 b2c8 b2c9 b2c10 b2c11 b2c12 b2c13 b2c14 b2c15 b2c16 b2c17)
            | false =>
              match b1c0 == (6 : Int) with
              | true =>
                match b2c0 == (6 : Int) with
                | true =>
                  match F31v1 N b0c0 b0c1 b0c2 b0c3 b0c4 b1c12 b2c12 with
                  | none => none
                  | some (.r rx0v6) =>
                    some (.ret rx0v6 b0c0 b0c1 b0c2 b0c3 b0c4 b1c0 b1c1 b1c2 b1c3 b1c4 b1c5 b1c6 b1c7 b1c8 b1c9 b1c10 b1c11 b1c12 b1c13 b1c14 b1c15 b1c16 b1c17 b2c0 b2c1 b2c2 b2c3 b2c4 b2c5 b2c6 b2c7 b2c8 b2c9 b2c10 b2c11 b2c12 b2c13 b2c14 b2c15 b2c16 b2c17)
                | false =>
                  some (.nx b0c0 b0c1 b0c2 b0c3 b0c4 b1c0 b1c1 b1c2 b1c3 b1c4 b1c5 b1c6 b1c7 b1c8 b1c9 b1c10 b1c11 b1c12 b1c13 b1c14 b1c15 b1c16 b1c17 b2c0 b2c1 b2c2 b2c3 b2c4 b2c5 b2c6 b2c7 b2c8 b2c9 b2c10 b2c11 b2c12 b2c13 b2c14 b2c15 b2c16 b2c17)
              | false =>
                some (.nx b0c0 b0c1 b0c2 b0c3 b0c4 b1c0 b1c1 b1c2 b1c3 b1c4 b1c5 b1c6 b1c7 b1c8 b1c9 b1c10 b1c11 b1c12 b1c13 b1c14 b1c15 b1c16 b1c17 b2c0 b2c1 b2c2 b2c3 b2c4 b2c5 b2c6 b2c7 b2c8 b2c9 b2c10 b2c11 b2c12 b2c13 b2c14 b2c15 b2c16 b2c17)
          | false =>
            match b1c0 == (6 : Int) with
            | true =>
              match b2c0 == (6 : Int) with
              | true =>
                match F31v1 N b0c0 b0c1 b0c2 b0c3 b0c4 b1c12 b2c12 with
                | none => none
                | some (.r rx0v7) =>
                  some (.ret rx0v7 b0c0 b0c1 b0c2 b0c3 b0c4 b1c0 b1c1 b1c2 b1c3 b1c4 b1c5 b1c6 b1c7 b1c8 b1c9 b1c10 b1c11 b1c12 b1c13 b1c14 b1c15 b1c16 b1c17 b2c0 b2c1 b2c2 b2c3 b2c4 b2c5 b2c6 b2c7 b2c8 b2c9 b2c10 b2c11 b2c12 b2c13 b2c14 b2c15 b2c16 b2c17)
              | false =>
                some (.nx b0c0 b0c1 b0c2 b0c3 b0c4 b1c0 b1c1 b1c2 b1c3 b1c4 b1c5 b1c6 b1c7 b1c8 b1c9 b1c10 b1c11 b1c12 b1c13 b1c14 b1c15 b1c16 b1c17 b2c0 b2c1 b2c2 b2c3 b2c4 b2c5 b2c6 b2c7 b2c8 b2c9 b2c10 b2c11 b2c12 b2c13 b2c14 b2c15 b2c16 b2c17)
            | false =>
              some (.nx b0c0 b0c1 b0c2 b0c3 b0c4 b1c0 b1c1 b1c2 b1c3 b1c4 b1c5 b1c6 b1c7 b1c8 b1c9 b1c10 b1c11 b1c12 b1c13 b1c14 b1c15 b1c16 b1c17 b2c0 b2c1 b2c2 b2c3 b2c4 b2c5 b2c6 b2c7 b2c8 b2c9 b2c10 b2c11 b2c12 b2c13 b2c14 b2c15 b2c16 b2c17)
def LFJ39v1a30 (N : Nat) (s : St) : Option OJ39v1a30 := J39v1a30 N ((Eng.look s.env 1).toI) ((Eng.look s.env 2).toI) ((Eng.look s.env 8).toB) ((Eng.look s.env 10).toB) (((s.mem.getD 0 .dead).cells.getD 0 .top).rows) (((s.mem.getD 0 .dead).cells.getD 1 .top).rows) (((s.mem.getD 0 .dead).cells.getD 2 .top).rows) (((s.mem.getD 0 .dead).cells.getD 3 .top).rows) (((s.mem.getD 0 .dead).cells.getD 4 .top).rows) (((s.mem.getD 1 .dead).cells.getD 0 .top).toI) (((s.mem.getD 1 .dead).cells.getD 1 .top).toS) (((s.mem.getD 1 .dead).cells.getD 2 .top).toI) (((s.mem.getD 1 .dead).cells.getD 3 .top).toI) (((s.mem.getD 1 .dead).cells.getD 4 .top).rows) (((s.mem.getD 1 .dead).cells.getD 5 .top).toI) (((s.mem.getD 1 .dead).cells.getD 6 .top).toI) (((s.mem.getD 1 .dead).cells.getD 7 .top).toI) (((s.mem.getD 1 .dead).cells.getD 8 .top).toS) (((s.mem.getD 1 .dead).cells.getD 9 .top).toB) (((s.mem.getD 1 .dead).cells.getD 10 .top).toI) (((s.mem.getD 1 .dead).cells.getD 11 .top).rows) (((s.mem.getD 1 .dead).cells.getD 12 .top).toI) (((s.mem.getD 1 .dead).cells.getD 13 .top).toI) (((s.mem.getD 1 .dead).cells.getD 14 .top).toB) (((s.mem.getD 1 .dead).cells.getD 15 .top).toI) (((s.mem.getD 1 .dead).cells.getD 16 .top).toI) (((s.mem.getD 1 .dead).cells.getD 17 .top).toI) (((s.mem.getD 2 .dead).cells.getD 0 .top).toI) (((s.mem.getD 2 .dead).cells.getD 1 .top).toS) (((s.mem.getD 2 .dead).cells.getD 2 .top).toI) (((s.mem.getD 2 .dead).cells.getD 3 .top).toI) (((s.mem.getD 2 .dead).cells.getD 4 .top).rows) (((s.mem.getD 2 .dead).cells.getD 5 .top).toI) (((s.mem.getD 2 .dead).cells.getD 6 .top).toI) (((s.mem.getD 2 .dead).cells.getD 7 .top).toI) (((s.mem.getD 2 .dead).cells.getD 8 .top).toS) (((s.mem.getD 2 .dead).cells.getD 9 .top).toB) (((s.mem.getD 2 .dead).cells.getD 10 .top).toI) (((s.mem.getD 2 .dead).cells.getD 11 .top).rows) (((s.mem.getD 2 .dead).cells.getD 12 .top).toI) (((s.mem.getD 2 .dead).cells.getD 13 .top).toI) (((s.mem.getD 2 .dead).cells.getD 14 .top).toB) (((s.mem.getD 2 .dead).cells.getD 15 .top).toI) (((s.mem.getD 2 .dead).cells.getD 16 .top).toI) (((s.mem.getD 2 .dead).cells.getD 17 .top).toI)
def sgJ39v1a30 : LSh := ⟨[(1, .one (.cell (.int .i64))), (2, .one (.cell (.int .i64))), (3, .one (.ptr 0 0 0)), (7, .one (.ptr 1 0 0)), (8, .one (.cell (.bool))), (9, .one (.ptr 2 0 0)), (10, .one (.cell (.bool)))], [.var [.any, .any, .any, .any, .any] [.cell (.slice 58), .cell (.slice 74), .cell (.slice 45), .cell (.slice 113), .cell (.slice 117)], .var [.int .u8, .str, .int .i64, .int .i64, .any, .int .i64, .int .i64, .int .i64, .str, .bool, .int .i64, .any, .int .i64, .int .u8, .bool, .int .i64, .int .i64, .int .i64] [.cell (.int .u8), .cell (.str), .cell (.int .i64), .cell (.int .i64), .cell (.slice 9), .cell (.int .i64), .cell (.int .i64), .cell (.int .i64), .cell (.str), .cell (.bool), .cell (.int .i64), .cell (.slice 120), .cell (.int .i64), .cell (.int .u8), .cell (.bool), .cell (.int .i64), .cell (.int .i64), .cell (.int .i64)], .var [.int .u8, .str, .int .i64, .int .i64, .any, .int .i64, .int .i64, .int .i64, .str, .bool, .int .i64, .any, .int .i64, .int .u8, .bool, .int .i64, .int .i64, .int .i64] [.cell (.int .u8), .cell (.str), .cell (.int .i64), .cell (.int .i64), .cell (.slice 9), .cell (.int .i64), .cell (.int .i64), .cell (.int .i64), .cell (.str), .cell (.bool), .cell (.int .i64), .cell (.slice 120), .cell (.int .i64), .cell (.int .u8), .cell (.bool), .cell (.int .i64), .cell (.int .i64), .cell (.int .i64)]]⟩
def ceJ39v1a30 : List Cv := []
def seJ39v1a30 : St → List Nat := fun st => [(Eng.look st.env 3).id, (Eng.look st.env 7).id, (Eng.look st.env 9).id]
def xJ39v1a30wnx : XSh OJ39v1a30 := ⟨[], ⟨[], [.var [.any, .any, .any, .any, .any] [.cell (.slice 58), .cell (.slice 74), .cell (.slice 45), .cell (.slice 113), .cell (.slice 117)], .var [.int .u8, .str, .int .i64, .int .i64, .any, .int .i64, .int .i64, .int .i64, .str, .bool, .int .i64, .any, .int .i64, .int .u8, .bool, .int .i64, .int .i64, .int .i64] [.cell (.int .u8), .cell (.str), .cell (.int .i64), .cell (.int .i64), .cell (.slice 9), .cell (.int .i64), .cell (.int .i64), .cell (.int .i64), .cell (.str), .cell (.bool), .cell (.int .i64), .cell (.slice 120), .cell (.int .i64), .cell (.int .u8), .cell (.bool), .cell (.int .i64), .cell (.int .i64), .cell (.int .i64)], .var [.int .u8, .str, .int .i64, .int .i64, .any, .int .i64, .int .i64, .int .i64, .str, .bool, .int .i64, .any, .int .i64, .int .u8, .bool, .int .i64, .int .i64, .int .i64] [.cell (.int .u8), .cell (.str), .cell (.int .i64), .cell (.int .i64), .cell (.slice 9), .cell (.int .i64), .cell (.int .i64), .cell (.int .i64), .cell (.str), .cell (.bool), .cell (.int .i64), .cell (.slice 120), .cell (.int .i64), .cell (.int .u8), .cell (.bool), .cell (.int .i64), .cell (.int .i64), .cell (.int .i64)]]⟩, fun st => [0, 1, 2], fun s => .nx (((s.mem.getD 0 .dead).cells.getD 0 .top).rows) (((s.mem.getD 0 .dead).cells.getD 1 .top).rows) (((s.mem.getD 0 .dead).cells.getD 2 .top).rows) (((s.mem.getD 0 .dead).cells.getD 3 .top).rows) (((s.mem.getD 0 .dead).cells.getD 4 .top).rows) (((s.mem.getD 1 .dead).cells.getD 0 .top).toI) (((s.mem.getD 1 .dead).cells.getD 1 .top).toS) (((s.mem.getD 1 .dead).cells.getD 2 .top).toI) (((s.mem.getD 1 .dead).cells.getD 3 .top).toI) (((s.mem.getD 1 .dead).cells.getD 4 .top).rows) (((s.mem.getD 1 .dead).cells.getD 5 .top).toI) (((s.mem.getD 1 .dead).cells.getD 6 .top).toI) (((s.mem.getD 1 .dead).cells.getD 7 .top).toI) (((s.mem.getD 1 .dead).cells.getD 8 .top).toS) (((s.mem.getD 1 .dead).cells.getD 9 .top).toB) (((s.mem.getD 1 .dead).cells.getD 10 .top).toI) (((s.mem.getD 1 .dead).cells.getD 11 .top).rows) (((s.mem.getD 1 .dead).cells.getD 12 .top).toI) (((s.mem.getD 1 .dead).cells.getD 13 .top).toI) (((s.mem.getD 1 .dead).cells.getD 14 .top).toB) (((s.mem.getD 1 .dead).cells.getD 15 .top).toI) (((s.mem.getD 1 .dead).cells.getD 16 .top).toI) (((s.mem.getD 1 .dead).cells.getD 17 .top).toI) (((s.mem.getD 2 .dead).cells.getD 0 .top).toI) (((s.mem.getD 2 .dead).cells.getD 1 .top).toS) (((s.mem.getD 2 .dead).cells.getD 2 .top).toI) (((s.mem.getD 2 .dead).cells.getD 3 .top).toI) (((s.mem.getD 2 .dead).cells.getD 4 .top).rows) (((s.mem.getD 2 .dead).cells.getD 5 .top).toI) (((s.mem.getD 2 .dead).cells.getD 6 .top).toI) (((s.mem.getD 2 .dead).cells.getD 7 .top).toI) (((s.mem.getD 2 .dead).cells.getD 8 .top).toS) (((s.mem.getD 2 .dead).cells.getD 9 .top).toB) (((s.mem.getD 2 .dead).cells.getD 10 .top).toI) (((s.mem.getD 2 .dead).cells.getD 11 .top).rows) (((s.mem.getD 2 .dead).cells.getD 12 .top).toI) (((s.mem.getD 2 .dead).cells.getD 13 .top).toI) (((s.mem.getD 2 .dead).cells.getD 14 .top).toB) (((s.mem.getD 2 .dead).cells.getD 15 .top).toI) (((s.mem.getD 2 .dead).cells.getD 16 .top).toI) (((s.mem.getD 2 .dead).cells.getD 17 .top).toI)⟩
def xJ39v1a30wret : XSh OJ39v1a30 := ⟨[], ⟨[(6, .one (.cell (.bool)))], [.var [.any, .any, .any, .any, .any] [.cell (.slice 58), .cell (.slice 74), .cell (.slice 45), .cell (.slice 113), .cell (.slice 117)], .var [.int .u8, .str, .int .i64, .int .i64, .any, .int .i64, .int .i64, .int .i64, .str, .bool, .int .i64, .any, .int .i64, .int .u8, .bool, .int .i64, .int .i64, .int .i64] [.cell (.int .u8), .cell (.str), .cell (.int .i64), .cell (.int .i64), .cell (.slice 9), .cell (.int .i64), .cell (.int .i64), .cell (.int .i64), .cell (.str), .cell (.bool), .cell (.int .i64), .cell (.slice 120), .cell (.int .i64), .cell (.int .u8), .cell (.bool), .cell (.int .i64), .cell (.int .i64), .cell (.int .i64)], .var [.int .u8, .str, .int .i64, .int .i64, .any, .int .i64, .int .i64, .int .i64, .str, .bool, .int .i64, .any, .int .i64, .int .u8, .bool, .int .i64, .int .i64, .int .i64] [.cell (.int .u8), .cell (.str), .cell (.int .i64), .cell (.int .i64), .cell (.slice 9), .cell (.int .i64), .cell (.int .i64), .cell (.int .i64), .cell (.str), .cell (.bool), .cell (.int .i64), .cell (.slice 120), .cell (.int .i64), .cell (.int .u8), .cell (.bool), .cell (.int .i64), .cell (.int .i64), .cell (.int .i64)]]⟩, fun st => [0, 1, 2], fun s => .ret ((Eng.look s.env 6).toB) (((s.mem.getD 0 .dead).cells.getD 0 .top).rows) (((s.mem.getD 0 .dead).cells.getD 1 .top).rows) (((s.mem.getD 0 .dead).cells.getD 2 .top).rows) (((s.mem.getD 0 .dead).cells.getD 3 .top).rows) (((s.mem.getD 0 .dead).cells.getD 4 .top).rows) (((s.mem.getD 1 .dead).cells.getD 0 .top).toI) (((s.mem.getD 1 .dead).cells.getD 1 .top).toS) (((s.mem.getD 1 .dead).cells.getD 2 .top).toI) (((s.mem.getD 1 .dead).cells.getD 3 .top).toI) (((s.mem.getD 1 .dead).cells.getD 4 .top).rows) (((s.mem.getD 1 .dead).cells.getD 5 .top).toI) (((s.mem.getD 1 .dead).cells.getD 6 .top).toI) (((s.mem.getD 1 .dead).cells.getD 7 .top).toI) (((s.mem.getD 1 .dead).cells.getD 8 .top).toS) (((s.mem.getD 1 .dead).cells.getD 9 .top).toB) (((s.mem.getD 1 .dead).cells.getD 10 .top).toI) (((s.mem.getD 1 .dead).cells.getD 11 .top).rows) (((s.mem.getD 1 .dead).cells.getD 12 .top).toI) (((s.mem.getD 1 .dead).cells.getD 13 .top).toI) (((s.mem.getD 1 .dead).cells.getD 14 .top).toB) (((s.mem.getD 1 .dead).cells.getD 15 .top).toI) (((s.mem.getD 1 .dead).cells.getD 16 .top).toI) (((s.mem.getD 1 .dead).cells.getD 17 .top).toI) (((s.mem.getD 2 .dead).cells.getD 0 .top).toI) (((s.mem.getD 2 .dead).cells.getD 1 .top).toS) (((s.mem.getD 2 .dead).cells.getD 2 .top).toI) (((s.mem.getD 2 .dead).cells.getD 3 .top).toI) (((s.mem.getD 2 .dead).cells.getD 4 .top).rows) (((s.mem.getD 2 .dead).cells.getD 5 .top).toI) (((s.mem.getD 2 .dead).cells.getD 6 .top).toI) (((s.mem.getD 2 .dead).cells.getD 7 .top).toI) (((s.mem.getD 2 .dead).cells.getD 8 .top).toS) (((s.mem.getD 2 .dead).cells.getD 9 .top).toB) (((s.mem.getD 2 .dead).cells.getD 10 .top).toI) (((s.mem.getD 2 .dead).cells.getD 11 .top).rows) (((s.mem.getD 2 .dead).cells.getD 12 .top).toI) (((s.mem.getD 2 .dead).cells.getD 13 .top).toI) (((s.mem.getD 2 .dead).cells.getD 14 .top).toB) (((s.mem.getD 2 .dead).cells.getD 15 .top).toI) (((s.mem.getD 2 .dead).cells.getD 16 .top).toI) (((s.mem.getD 2 .dead).cells.getD 17 .top).toI)⟩
def xsJ39v1a30 : Ex → St → Option (XSh OJ39v1a30) := fun e st => match e with
  | .normal => some xJ39v1a30wnx
  | .ret => some xJ39v1a30wret
  | _ => none
def exJ39v1a30 (o : OJ39v1a30) : Ex := match o with | .nx b0c0 b0c1 b0c2 b0c3 b0c4 b1c0 b1c1 b1c2 b1c3 b1c4 b1c5 b1c6 b1c7 b1c8 b1c9 b1c10 b1c11 b1c12 b1c13 b1c14 b1c15 b1c16 b1c17 b2c0 b2c1 b2c2 b2c3 b2c4 b2c5 b2c6 b2c7 b2c8 b2c9 b2c10 b2c11 b2c12 b2c13 b2c14 b2c15 b2c16 b2c17 => .normal | .ret x6 b0c0 b0c1 b0c2 b0c3 b0c4 b1c0 b1c1 b1c2 b1c3 b1c4 b1c5 b1c6 b1c7 b1c8 b1c9 b1c10 b1c11 b1c12 b1c13 b1c14 b1c15 b1c16 b1c17 b2c0 b2c1 b2c2 b2c3 b2c4 b2c5 b2c6 b2c7 b2c8 b2c9 b2c10 b2c11 b2c12 b2c13 b2c14 b2c15 b2c16 b2c17 => .ret
def stJ39v1a30 (o : OJ39v1a30) : St := match o with | .nx b0c0 b0c1 b0c2 b0c3 b0c4 b1c0 b1c1 b1c2 b1c3 b1c4 b1c5 b1c6 b1c7 b1c8 b1c9 b1c10 b1c11 b1c12 b1c13 b1c14 b1c15 b1c16 b1c17 b2c0 b2c1 b2c2 b2c3 b2c4 b2c5 b2c6 b2c7 b2c8 b2c9 b2c10 b2c11 b2c12 b2c13 b2c14 b2c15 b2c16 b2c17 => ⟨[], [.var [.any, .any, .any, .any, .any] [.list 58 b0c0, .list 74 b0c1, .list 45 b0c2, .list 113 b0c3, .list 117 b0c4], .var [.int .u8, .str, .int .i64, .int .i64, .any, .int .i64, .int .i64, .int .i64, .str, .bool, .int .i64, .any, .int .i64, .int .u8, .bool, .int .i64, .int .i64, .int .i64] [.int .u8 b1c0, .str b1c1, .int .i64 b1c2, .int .i64 b1c3, .list 9 b1c4, .int .i64 b1c5, .int .i64 b1c6, .int .i64 b1c7, .str b1c8, .bool b1c9, .int .i64 b1c10, .list 120 b1c11, .int .i64 b1c12, .int .u8 b1c13, .bool b1c14, .int .i64 b1c15, .int .i64 b1c16, .int .i64 b1c17], .var [.int .u8, .str, .int .i64, .int .i64, .any, .int .i64, .int .i64, .int .i64, .str, .bool, .int .i64, .any, .int .i64, .int .u8, .bool, .int .i64, .int .i64, .int .i64] [.int .u8 b2c0, .str b2c1, .int .i64 b2c2, .int .i64 b2c3, .list 9 b2c4, .int .i64 b2c5, .int .i64 b2c6, .int .i64 b2c7, .str b2c8, .bool b2c9, .int .i64 b2c10, .list 120 b2c11, .int .i64 b2c12, .int .u8 b2c13, .bool b2c14, .int .i64 b2c15, .int .i64 b2c16, .int .i64 b2c17]], [], .unk⟩ | .ret x6 b0c0 b0c1 b0c2 b0c3 b0c4 b1c0 b1c1 b1c2 b1c3 b1c4 b1c5 b1c6 b1c7 b1c8 b1c9 b1c10 b1c11 b1c12 b1c13 b1c14 b1c15 b1c16 b1c17 b2c0 b2c1 b2c2 b2c3 b2c4 b2c5 b2c6 b2c7 b2c8 b2c9 b2c10 b2c11 b2c12 b2c13 b2c14 b2c15 b2c16 b2c17 => ⟨[(6, .bool x6)], [.var [.any, .any, .any, .any, .any] [.list 58 b0c0, .list 74 b0c1, .list 45 b0c2, .list 113 b0c3, .list 117 b0c4], .var [.int .u8, .str, .int .i64, .int .i64, .any, .int .i64, .int .i64, .int .i64, .str, .bool, .int .i64, .any, .int .i64, .int .u8, .bool, .int .i64, .int .i64, .int .i64] [.int .u8 b1c0, .str b1c1, .int .i64 b1c2, .int .i64 b1c3, .list 9 b1c4, .int .i64 b1c5, .int .i64 b1c6, .int .i64 b1c7, .str b1c8, .bool b1c9, .int .i64 b1c10, .list 120 b1c11, .int .i64 b1c12, .int .u8 b1c13, .bool b1c14, .int .i64 b1c15, .int .i64 b1c16, .int .i64 b1c17], .var [.int .u8, .str, .int .i64, .int .i64, .any, .int .i64, .int .i64, .int .i64, .str, .bool, .int .i64, .any, .int .i64, .int .u8, .bool, .int .i64, .int .i64, .int .i64] [.int .u8 b2c0, .str b2c1, .int .i64 b2c2, .int .i64 b2c3, .list 9 b2c4, .int .i64 b2c5, .int .i64 b2c6, .int .i64 b2c7, .str b2c8, .bool b2c9, .int .i64 b2c10, .list 120 b2c11, .int .i64 b2c12, .int .u8 b2c13, .bool b2c14, .int .i64 b2c15, .int .i64 b2c16, .int .i64 b2c17]], [], .unk⟩
def elJ39v1a30 {R : Type} (o : OJ39v1a30) (k : Ex → St → Option R) : Option R := match o with | .nx b0c0 b0c1 b0c2 b0c3 b0c4 b1c0 b1c1 b1c2 b1c3 b1c4 b1c5 b1c6 b1c7 b1c8 b1c9 b1c10 b1c11 b1c12 b1c13 b1c14 b1c15 b1c16 b1c17 b2c0 b2c1 b2c2 b2c3 b2c4 b2c5 b2c6 b2c7 b2c8 b2c9 b2c10 b2c11 b2c12 b2c13 b2c14 b2c15 b2c16 b2c17 => k .normal ⟨[], [.var [.any, .any, .any, .any, .any] [.list 58 b0c0, .list 74 b0c1, .list 45 b0c2, .list 113 b0c3, .list 117 b0c4], .var [.int .u8, .str, .int .i64, .int .i64, .any, .int .i64, .int .i64, .int .i64, .str, .bool, .int .i64, .any, .int .i64, .int .u8, .bool, .int .i64, .int .i64, .int .i64] [.int .u8 b1c0, .str b1c1, .int .i64 b1c2, .int .i64 b1c3, .list 9 b1c4, .int .i64 b1c5, .int .i64 b1c6, .int .i64 b1c7, .str b1c8, .bool b1c9, .int .i64 b1c10, .list 120 b1c11, .int .i64 b1c12, .int .u8 b1c13, .bool b1c14, .int .i64 b1c15, .int .i64 b1c16, .int .i64 b1c17], .var [.int .u8, .str, .int .i64, .int .i64, .any, .int .i64, .int .i64, .int .i64, .str, .bool, .int .i64, .any, .int .i64, .int .u8, .bool, .int .i64, .int .i64, .int .i64] [.int .u8 b2c0, .str b2c1, .int .i64 b2c2, .int .i64 b2c3, .list 9 b2c4, .int .i64 b2c5, .int .i64 b2c6, .int .i64 b2c7, .str b2c8, .bool b2c9, .int .i64 b2c10, .list 120 b2c11, .int .i64 b2c12, .int .u8 b2c13, .bool b2c14, .int .i64 b2c15, .int .i64 b2c16, .int .i64 b2c17]], [], .unk⟩ | .ret x6 b0c0 b0c1 b0c2 b0c3 b0c4 b1c0 b1c1 b1c2 b1c3 b1c4 b1c5 b1c6 b1c7 b1c8 b1c9 b1c10 b1c11 b1c12 b1c13 b1c14 b1c15 b1c16 b1c17 b2c0 b2c1 b2c2 b2c3 b2c4 b2c5 b2c6 b2c7 b2c8 b2c9 b2c10 b2c11 b2c12 b2c13 b2c14 b2c15 b2c16 b2c17 => k .ret ⟨[(6, .bool x6)], [.var [.any, .any, .any, .any, .any] [.list 58 b0c0, .list 74 b0c1, .list 45 b0c2, .list 113 b0c3, .list 117 b0c4], .var [.int .u8, .str, .int .i64, .int .i64, .any, .int .i64, .int .i64, .int .i64, .str, .bool, .int .i64, .any, .int .i64, .int .u8, .bool, .int .i64, .int .i64, .int .i64] [.int .u8 b1c0, .str b1c1, .int .i64 b1c2, .int .i64 b1c3, .list 9 b1c4, .int .i64 b1c5, .int .i64 b1c6, .int .i64 b1c7, .str b1c8, .bool b1c9, .int .i64 b1c10, .list 120 b1c11, .int .i64 b1c12, .int .u8 b1c13, .bool b1c14, .int .i64 b1c15, .int .i64 b1c16, .int .i64 b1c17], .var [.int .u8, .str, .int .i64, .int .i64, .any, .int .i64, .int .i64, .int .i64, .str, .bool, .int .i64, .any, .int .i64, .int .u8, .bool, .int .i64, .int .i64, .int .i64] [.int .u8 b2c0, .str b2c1, .int .i64 b2c2, .int .i64 b2c3, .list 9 b2c4, .int .i64 b2c5, .int .i64 b2c6, .int .i64 b2c7, .str b2c8, .bool b2c9, .int .i64 b2c10, .list 120 b2c11, .int .i64 b2c12, .int .u8 b2c13, .bool b2c14, .int .i64 b2c15, .int .i64 b2c16, .int .i64 b2c17]], [], .unk⟩
theorem heJ39v1a30 {R : Type} (o : OJ39v1a30) (k : Ex → St → Option R) : elJ39v1a30 o k = k (exJ39v1a30 o) (stJ39v1a30 o) := by cases o <;> rfl
theorem hxJ39v1a30 : ∀ e st x, xsJ39v1a30 e st = some x → outOk x e exJ39v1a30 stJ39v1a30 := by
  intro e st x h
  unfold xsJ39v1a30 at h
  repeat' split at h
  all_goals first
    | (injection h with h; subst h; exact fun lk M => ⟨rfl, rfl⟩)
    | cases h
noncomputable def T39v1uc30 (N : Nat) (R : Type) : LTab R := mkTab ⟨78, 295147905179285717056⟩ (csF39v1 N R) (noY) [] [] [(120, fun st k => callLoop CX 0 8522825728 ceJ39v1a120 sgJ39v1a120 seJ39v1a120 ⟨78, 295147905179285717056⟩ (LFJ39v1a120 N) elJ39v1a120 st k)]
theorem okT39v1uc30 (N : Nat) (R : Type) : (T39v1uc30 N R).Ok CX code39 := mkTab_ok (hcsF39v1 N R) (noY_ok) (trivial) (trivial) (⟨cut_ok hX (path := [false, false, false, true, true, true]) (by kernel_rfl) (by rfl) (okT39v1uc120 N OJ39v1a120) (hsJ39v1a120 N) hxJ39v1a120 rfl heJ39v1a120, trivial⟩)
noncomputable def bdJ39v1a30 : Code := (codeAt code39 [false, true, true, true]).getD .skip
theorem hsJ39v1a30 (N : Nat) : ∀ (lk : Nat → AV) (M : List Blk), LFJ39v1a30 N (canS sgJ39v1a30 lk M) = evk CX (T39v1uc30 N OJ39v1a30) bdJ39v1a30 30 (canS sgJ39v1a30 lk M) (kontX CX 3 xsJ39v1a30) := by intro lk M; kernel_rfl
noncomputable def T39v1ur1 (N : Nat) (R : Type) : LTab R := mkTab ⟨78, 302231454903657293676543⟩ (csF39v1 N R) (noY) [] [] [(30, fun st k => callLoop CX 3 295147905179285717056 ceJ39v1a30 sgJ39v1a30 seJ39v1a30 ⟨78, 302231454903657293676543⟩ (LFJ39v1a30 N) elJ39v1a30 st k)]
theorem okT39v1ur1 (N : Nat) (R : Type) : (T39v1ur1 N R).Ok CX code39 := mkTab_ok (hcsF39v1 N R) (noY_ok) (trivial) (trivial) (⟨cut_ok hX (path := [false, true, true, true]) (by kernel_rfl) (by rfl) (okT39v1uc30 N OJ39v1a30) (hsJ39v1a30 N) hxJ39v1a30 rfl heJ39v1a30, trivial⟩)
def rsF39v1 : List ResultVar := [.tmp 6]
def F39v1 : Nat → TF39v1
  | 0 => fun _ _ _ _ _ _ _ => none
  | N + 1 => fun x0c0 x0c1 x0c2 x0c3 x0c4 x1 x2 =>
    match F50v1 N x0c0 x1 with
    | none => none
    | some (.r rx0c0v1 rx0c1v1 rx0c2v1 rx0c3v1 rx0c4v1 rx0c5v1 rx0c6v1 rx0c7v1 rx0c8v1 rx0c9v1 rx0c10v1 rx0c11v1 rx0c12v1 rx0c13v1 rx0c14v1 rx0c15v1 rx0c16v1 rx0c17v1 rx1v1) =>
      match F50v1 N x0c0 x2 with
      | none => none
      | some (.r rx0c0v2 rx0c1v2 rx0c2v2 rx0c3v2 rx0c4v2 rx0c5v2 rx0c6v2 rx0c7v2 rx0c8v2 rx0c9v2 rx0c10v2 rx0c11v2 rx0c12v2 rx0c13v2 rx0c14v2 rx0c15v2 rx0c16v2 rx0c17v2 rx1v2) =>
        match J39v1a30 N x1 x2 rx1v1 rx1v2 x0c0 x0c1 x0c2 x0c3 x0c4 rx0c0v1 rx0c1v1 rx0c2v1 rx0c3v1 rx0c4v1 rx0c5v1 rx0c6v1 rx0c7v1 rx0c8v1 rx0c9v1 rx0c10v1 rx0c11v1 rx0c12v1 rx0c13v1 rx0c14v1 rx0c15v1 rx0c16v1 rx0c17v1 rx0c0v2 rx0c1v2 rx0c2v2 rx0c3v2 rx0c4v2 rx0c5v2 rx0c6v2 rx0c7v2 rx0c8v2 rx0c9v2 rx0c10v2 rx0c11v2 rx0c12v2 rx0c13v2 rx0c14v2 rx0c15v2 rx0c16v2 rx0c17v2 with
        | none => none
        | some (.nx b0c0v8 b0c1v8 b0c2v8 b0c3v8 b0c4v8 b1c0v8 b1c1v8 b1c2v8 b1c3v8 b1c4v8 b1c5v8 b1c6v8 b1c7v8 b1c8v8 b1c9v8 b1c10v8 b1c11v8 b1c12v8 b1c13v8 b1c14v8 b1c15v8 b1c16v8 b1c17v8 b2c0v8 b2c1v8 b2c2v8 b2c3v8 b2c4v8 b2c5v8 b2c6v8 b2c7v8 b2c8v8 b2c9v8 b2c10v8 b2c11v8 b2c12v8 b2c13v8 b2c14v8 b2c15v8 b2c16v8 b2c17v8) =>
          match F52 N b1c0v8 with
          | none => none
          | some (.r rx0v9) =>
            match rx0v9 with
            | true =>
              match F52 N b2c0v8 with
              | none => none
              | some (.r rx0v10) =>
                some (.r rx0v10)
            | false =>
              some (.r false)
        | some (.ret x6v11 b0c0v11 b0c1v11 b0c2v11 b0c3v11 b0c4v11 b1c0v11 b1c1v11 b1c2v11 b1c3v11 b1c4v11 b1c5v11 b1c6v11 b1c7v11 b1c8v11 b1c9v11 b1c10v11 b1c11v11 b1c12v11 b1c13v11 b1c14v11 b1c15v11 b1c16v11 b1c17v11 b2c0v11 b2c1v11 b2c2v11 b2c3v11 b2c4v11 b2c5v11 b2c6v11 b2c7v11 b2c8v11 b2c9v11 b2c10v11 b2c11v11 b2c12v11 b2c13v11 b2c14v11 b2c15v11 b2c16v11 b2c17v11) =>
          some (.r x6v11)
def xRF39v1 : XSh R39v1 := ⟨[], ⟨[(0, .one (.cell (.bool)))], []⟩, fun _ => [], fun s => .r ((Eng.look s.env 0).toB)⟩
theorem fsF39v1 : ∀ (N : Nat) (lk : Nat → AV) (M : List Blk), FFF39v1 (F39v1 (N + 1)) (canS sgF39v1 lk M) = evfn CX (T39v1ur1 N R39v1) code39 rsF39v1 (argsE 3 (canS sgF39v1 lk M).env) (canS sgF39v1 lk M).mem (goR CX 0 (fun _ => some xRF39v1)) := by intro N lk M; kernel_rfl
theorem soundF39v1 : ∀ N, RecOkF39v1 (F39v1 N)
  | 0, lk, M, o, h => by cases h
  | N + 1, lk, M, o, h => fn_sound hX (okT39v1ur1 N R39v1) Tryd.func39 hb39 rfl en39 (by kernel_rfl) (ys := fun _ => some xRF39v1) (fun st y h => by injection h with h; subst h; exact fun lk M => ⟨rfl, rfl⟩) ((fsF39v1 N lk M).symm.trans h)
def cvce39v1n0 : List Cv := []
def selce39v1n0 : St → List Nat := fun _ => []
noncomputable def ce39v1n0 (Fx : TF39v1) (R : Type) (test : List AV → List Blk → Bool) : CE R := ⟨39, test, fun args M => some (selce39v1n0 ⟨argEnv 0 args, M, [], .unk⟩), fun args M k => tst (Nat.beq args.length 3) (callFn CX 0 cvce39v1n0 sgF39v1 selce39v1n0 (FFF39v1 Fx) elF39v1 args M k)⟩
theorem okce39v1n0 (Fx : TF39v1) (h : RecOkF39v1 Fx) (R : Type) (test : List AV → List Blk → Bool) : CeOk CX (ce39v1n0 Fx R test) := ce_ok hX (fun o k => by cases o; rfl) h en39 (fun args M ids h => by injection h with h; exact ⟨rfl, h.symm⟩)
end Go.Proofs.YtdennlgnbecojaaDoor

namespace Go.Proofs.YtdennlgnbecojaaDoor
open Go Go.Eng
set_option maxRecDepth 100000

/-! ### F38v1: ceiling/level.Convert.2 -/
inductive R38v1 where
  | r (x0 : Bool) (b0c0 : List Row) (b0c1 : List Row) (b0c2 : List Row) (b0c3 : List Row) (b0c4 : List Row) (b1c0 : Int) (b2c0 : Int)
abbrev TF38v1 := List Row → List Row → List Row → List Row → List Row → Int → Int → Option R38v1
def sgF38v1 : LSh := ⟨[(0, .one (.ptr 0 0 0)), (1, .one (.ptr 1 0 0)), (2, .one (.ptr 2 0 0))], [.var [.any, .any, .any, .any, .any] [.cell (.slice 58), .cell (.slice 74), .cell (.slice 45), .cell (.slice 113), .cell (.slice 117)], .var [.int .i64] [.cell (.int .i64)], .var [.int .i64] [.cell (.int .i64)]]⟩
def FFF38v1 (Fx : TF38v1) (s : St) : Option R38v1 := Fx (((s.mem.getD 0 .dead).cells.getD 0 .top).rows) (((s.mem.getD 0 .dead).cells.getD 1 .top).rows) (((s.mem.getD 0 .dead).cells.getD 2 .top).rows) (((s.mem.getD 0 .dead).cells.getD 3 .top).rows) (((s.mem.getD 0 .dead).cells.getD 4 .top).rows) (((s.mem.getD 1 .dead).cells.getD 0 .top).toI) (((s.mem.getD 2 .dead).cells.getD 0 .top).toI)
def valF38v1 (o : R38v1) : AV := match o with | .r x0 b0c0 b0c1 b0c2 b0c3 b0c4 b1c0 b2c0 => .bool x0
def memF38v1 (o : R38v1) : List Blk := match o with | .r x0 b0c0 b0c1 b0c2 b0c3 b0c4 b1c0 b2c0 => [.var [.any, .any, .any, .any, .any] [.list 58 b0c0, .list 74 b0c1, .list 45 b0c2, .list 113 b0c3, .list 117 b0c4], .var [.int .i64] [.int .i64 b1c0], .var [.int .i64] [.int .i64 b2c0]]
def elF38v1 {R : Type} (o : R38v1) (k : AV → List Blk → Option R) : Option R := match o with | .r x0 b0c0 b0c1 b0c2 b0c3 b0c4 b1c0 b2c0 => k (.bool x0) [.var [.any, .any, .any, .any, .any] [.list 58 b0c0, .list 74 b0c1, .list 45 b0c2, .list 113 b0c3, .list 117 b0c4], .var [.int .i64] [.int .i64 b1c0], .var [.int .i64] [.int .i64 b2c0]]
def RecOkF38v1 (Fx : TF38v1) : Prop := ∀ lk M o, FFF38v1 Fx (canS sgF38v1 lk M) = some o → FCalls CX 38 3 (argsE 3 (canS sgF38v1 lk M).env) (canS sgF38v1 lk M).mem (valF38v1 o) (memF38v1 o)
noncomputable def csF38v1 (N : Nat) (R : Type) : List (CE R) := [ce39v1n0 (F39v1 N) R (fun _ _ => true)]
theorem hcsF38v1 (N : Nat) (R : Type) : AllE (CeOk CX) (csF38v1 N R) := ⟨okce39v1n0 (F39v1 N) (soundF39v1 N) R (fun _ _ => true), trivial⟩
noncomputable def T38v1ur1 (N : Nat) (R : Type) : LTab R := mkTab ⟨26, 67108863⟩ (csF38v1 N R) (noY) [] [] []
theorem okT38v1ur1 (N : Nat) (R : Type) : (T38v1ur1 N R).Ok CX code38 := mkTab_ok (hcsF38v1 N R) (noY_ok) (trivial) (trivial) (trivial)
def rsF38v1 : List ResultVar := [.tmp 3]
def F38v1 : Nat → TF38v1
  | 0 => fun _ _ _ _ _ _ _ => none
  | N + 1 => fun b0c0 b0c1 b0c2 b0c3 b0c4 b1c0 b2c0 =>
    tst (decide ((0 : Int) ≤ b1c0) && decide (b1c0 < ((b0c0.length : Int)))) <|
    match ((((b0c0.getD b1c0.toNat [])).getD 0 .top).toI) == (6 : Int) with
    | true =>
      tst (decide ((0 : Int) ≤ b2c0) && decide (b2c0 < ((b0c0.length : Int)))) <|
      match ((((b0c0.getD b2c0.toNat [])).getD 0 .top).toI) == (6 : Int) with
      | true =>
        match F39v1 N b0c0 b0c1 b0c2 b0c3 b0c4 b1c0 b2c0 with
        | none => none
        | some (.r rx0v1) =>
          some (.r rx0v1 b0c0 b0c1 b0c2 b0c3 b0c4 b1c0 b2c0)
      | false =>
        some (.r false b0c0 b0c1 b0c2 b0c3 b0c4 b1c0 b2c0)
    | false =>
      some (.r false b0c0 b0c1 b0c2 b0c3 b0c4 b1c0 b2c0)
def xRF38v1 : XSh R38v1 := ⟨[], ⟨[(0, .one (.cell (.bool)))], [.var [.any, .any, .any, .any, .any] [.cell (.slice 58), .cell (.slice 74), .cell (.slice 45), .cell (.slice 113), .cell (.slice 117)], .var [.int .i64] [.cell (.int .i64)], .var [.int .i64] [.cell (.int .i64)]]⟩, fun st => [0, 1, 2], fun s => .r ((Eng.look s.env 0).toB) (((s.mem.getD 0 .dead).cells.getD 0 .top).rows) (((s.mem.getD 0 .dead).cells.getD 1 .top).rows) (((s.mem.getD 0 .dead).cells.getD 2 .top).rows) (((s.mem.getD 0 .dead).cells.getD 3 .top).rows) (((s.mem.getD 0 .dead).cells.getD 4 .top).rows) (((s.mem.getD 1 .dead).cells.getD 0 .top).toI) (((s.mem.getD 2 .dead).cells.getD 0 .top).toI)⟩
theorem fsF38v1 : ∀ (N : Nat) (lk : Nat → AV) (M : List Blk), FFF38v1 (F38v1 (N + 1)) (canS sgF38v1 lk M) = evfn CX (T38v1ur1 N R38v1) code38 rsF38v1 (argsE 3 (canS sgF38v1 lk M).env) (canS sgF38v1 lk M).mem (goR CX 3 (fun _ => some xRF38v1)) := by intro N lk M; kernel_rfl
theorem soundF38v1 : ∀ N, RecOkF38v1 (F38v1 N)
  | 0, lk, M, o, h => by cases h
  | N + 1, lk, M, o, h => fn_sound hX (okT38v1ur1 N R38v1) Tryd.func38 hb38 rfl en38 (by kernel_rfl) (ys := fun _ => some xRF38v1) (fun st y h => by injection h with h; subst h; exact fun lk M => ⟨rfl, rfl⟩) ((fsF38v1 N lk M).symm.trans h)
def cvce38v1n0 : List Cv := []
def selce38v1n0 : St → List Nat := fun st => [(Eng.look st.env 0).id, (Eng.look st.env 1).id, (Eng.look st.env 2).id]
noncomputable def ce38v1n0 (Fx : TF38v1) (R : Type) (test : List AV → List Blk → Bool) : CE R := ⟨38, test, fun args M => some (selce38v1n0 ⟨argEnv 0 args, M, [], .unk⟩), fun args M k => tst (Nat.beq args.length 3) (callFn CX 3 cvce38v1n0 sgF38v1 selce38v1n0 (FFF38v1 Fx) elF38v1 args M k)⟩
theorem okce38v1n0 (Fx : TF38v1) (h : RecOkF38v1 Fx) (R : Type) (test : List AV → List Blk → Bool) : CeOk CX (ce38v1n0 Fx R test) := ce_ok hX (fun o k => by cases o; rfl) h en38 (fun args M ids h => by injection h with h; exact ⟨rfl, h.symm⟩)
end Go.Proofs.YtdennlgnbecojaaDoor

namespace Go.Proofs.YtdennlgnbecojaaDoor
open Go Go.Eng
set_option maxRecDepth 100000

/-! ### F40v1: ceiling/level.Convert.3 -/
inductive R40v1 where
  | r (x0 : Bool) (b0c0 : List Row) (b0c1 : List Row) (b0c2 : List Row) (b0c3 : List Row) (b0c4 : List Row) (b1c0 : Int) (b2c0 : Int)
abbrev TF40v1 := List Row → List Row → List Row → List Row → List Row → Int → Int → Option R40v1
def sgF40v1 : LSh := ⟨[(0, .one (.ptr 0 0 0)), (1, .one (.ptr 1 0 0)), (2, .one (.ptr 2 0 0))], [.var [.any, .any, .any, .any, .any] [.cell (.slice 58), .cell (.slice 74), .cell (.slice 45), .cell (.slice 113), .cell (.slice 117)], .var [.int .i64] [.cell (.int .i64)], .var [.int .i64] [.cell (.int .i64)]]⟩
def FFF40v1 (Fx : TF40v1) (s : St) : Option R40v1 := Fx (((s.mem.getD 0 .dead).cells.getD 0 .top).rows) (((s.mem.getD 0 .dead).cells.getD 1 .top).rows) (((s.mem.getD 0 .dead).cells.getD 2 .top).rows) (((s.mem.getD 0 .dead).cells.getD 3 .top).rows) (((s.mem.getD 0 .dead).cells.getD 4 .top).rows) (((s.mem.getD 1 .dead).cells.getD 0 .top).toI) (((s.mem.getD 2 .dead).cells.getD 0 .top).toI)
def valF40v1 (o : R40v1) : AV := match o with | .r x0 b0c0 b0c1 b0c2 b0c3 b0c4 b1c0 b2c0 => .bool x0
def memF40v1 (o : R40v1) : List Blk := match o with | .r x0 b0c0 b0c1 b0c2 b0c3 b0c4 b1c0 b2c0 => [.var [.any, .any, .any, .any, .any] [.list 58 b0c0, .list 74 b0c1, .list 45 b0c2, .list 113 b0c3, .list 117 b0c4], .var [.int .i64] [.int .i64 b1c0], .var [.int .i64] [.int .i64 b2c0]]
def elF40v1 {R : Type} (o : R40v1) (k : AV → List Blk → Option R) : Option R := match o with | .r x0 b0c0 b0c1 b0c2 b0c3 b0c4 b1c0 b2c0 => k (.bool x0) [.var [.any, .any, .any, .any, .any] [.list 58 b0c0, .list 74 b0c1, .list 45 b0c2, .list 113 b0c3, .list 117 b0c4], .var [.int .i64] [.int .i64 b1c0], .var [.int .i64] [.int .i64 b2c0]]
def RecOkF40v1 (Fx : TF40v1) : Prop := ∀ lk M o, FFF40v1 Fx (canS sgF40v1 lk M) = some o → FCalls CX 40 3 (argsE 3 (canS sgF40v1 lk M).env) (canS sgF40v1 lk M).mem (valF40v1 o) (memF40v1 o)
noncomputable def csF40v1 (N : Nat) (R : Type) : List (CE R) := []
theorem hcsF40v1 (N : Nat) (R : Type) : AllE (CeOk CX) (csF40v1 N R) := trivial
noncomputable def T40v1ur1 (N : Nat) (R : Type) : LTab R := mkTab ⟨17, 131071⟩ (csF40v1 N R) (noY) [] [] []
theorem okT40v1ur1 (N : Nat) (R : Type) : (T40v1ur1 N R).Ok CX code40 := mkTab_ok (hcsF40v1 N R) (noY_ok) (trivial) (trivial) (trivial)
def rsF40v1 : List ResultVar := [.tmp 3]
def F40v1 : Nat → TF40v1
  | 0 => fun _ _ _ _ _ _ _ => none
  | N + 1 => fun b0c0 b0c1 b0c2 b0c3 b0c4 b1c0 b2c0 =>
    tst (decide ((0 : Int) ≤ b1c0) && decide (b1c0 < ((b0c0.length : Int)))) <|
    tst (decide ((0 : Int) ≤ b2c0) && decide (b2c0 < ((b0c0.length : Int)))) <|
    some (.r (decide (((((b0c0.getD b1c0.toNat [])).getD 17 .top).toI) ≤ ((((b0c0.getD b2c0.toNat [])).getD 17 .top).toI))) b0c0 b0c1 b0c2 b0c3 b0c4 b1c0 b2c0)
def xRF40v1 : XSh R40v1 := ⟨[], ⟨[(0, .one (.cell (.bool)))], [.var [.any, .any, .any, .any, .any] [.cell (.slice 58), .cell (.slice 74), .cell (.slice 45), .cell (.slice 113), .cell (.slice 117)], .var [.int .i64] [.cell (.int .i64)], .var [.int .i64] [.cell (.int .i64)]]⟩, fun st => [0, 1, 2], fun s => .r ((Eng.look s.env 0).toB) (((s.mem.getD 0 .dead).cells.getD 0 .top).rows) (((s.mem.getD 0 .dead).cells.getD 1 .top).rows) (((s.mem.getD 0 .dead).cells.getD 2 .top).rows) (((s.mem.getD 0 .dead).cells.getD 3 .top).rows) (((s.mem.getD 0 .dead).cells.getD 4 .top).rows) (((s.mem.getD 1 .dead).cells.getD 0 .top).toI) (((s.mem.getD 2 .dead).cells.getD 0 .top).toI)⟩
theorem fsF40v1 : ∀ (N : Nat) (lk : Nat → AV) (M : List Blk), FFF40v1 (F40v1 (N + 1)) (canS sgF40v1 lk M) = evfn CX (T40v1ur1 N R40v1) code40 rsF40v1 (argsE 3 (canS sgF40v1 lk M).env) (canS sgF40v1 lk M).mem (goR CX 3 (fun _ => some xRF40v1)) := by intro N lk M; kernel_rfl
theorem soundF40v1 : ∀ N, RecOkF40v1 (F40v1 N)
  | 0, lk, M, o, h => by cases h
  | N + 1, lk, M, o, h => fn_sound hX (okT40v1ur1 N R40v1) Tryd.func40 hb40 rfl en40 (by kernel_rfl) (ys := fun _ => some xRF40v1) (fun st y h => by injection h with h; subst h; exact fun lk M => ⟨rfl, rfl⟩) ((fsF40v1 N lk M).symm.trans h)
def cvce40v1n0 : List Cv := []
def selce40v1n0 : St → List Nat := fun st => [(Eng.look st.env 0).id, (Eng.look st.env 1).id, (Eng.look st.env 2).id]
noncomputable def ce40v1n0 (Fx : TF40v1) (R : Type) (test : List AV → List Blk → Bool) : CE R := ⟨40, test, fun args M => some (selce40v1n0 ⟨argEnv 0 args, M, [], .unk⟩), fun args M k => tst (Nat.beq args.length 3) (callFn CX 3 cvce40v1n0 sgF40v1 selce40v1n0 (FFF40v1 Fx) elF40v1 args M k)⟩
theorem okce40v1n0 (Fx : TF40v1) (h : RecOkF40v1 Fx) (R : Type) (test : List AV → List Blk → Bool) : CeOk CX (ce40v1n0 Fx R test) := ce_ok hX (fun o k => by cases o; rfl) h en40 (fun args M ids h => by injection h with h; exact ⟨rfl, h.symm⟩)
end Go.Proofs.YtdennlgnbecojaaDoor

namespace Go.Proofs.YtdennlgnbecojaaDoor
open Go Go.Eng
set_option maxRecDepth 100000

/-! ### F18v1: ceiling/level.Convert -/
inductive R18v1 where
  | r (x0 : Int)
abbrev TF18v1 := List Row → List Row → List Row → List Row → List Row → Int → Int → Option R18v1
def sgF18v1 : LSh := ⟨[(0, .agg [.cell (.slice 58), .cell (.slice 74), .cell (.slice 45), .cell (.slice 113), .cell (.slice 117)]), (1, .one (.cell (.int .i64))), (2, .one (.cell (.int .i64)))], []⟩
def FFF18v1 (Fx : TF18v1) (s : St) : Option R18v1 := Fx (((Eng.look s.env 0).cells.getD 0 .top).rows) (((Eng.look s.env 0).cells.getD 1 .top).rows) (((Eng.look s.env 0).cells.getD 2 .top).rows) (((Eng.look s.env 0).cells.getD 3 .top).rows) (((Eng.look s.env 0).cells.getD 4 .top).rows) ((Eng.look s.env 1).toI) ((Eng.look s.env 2).toI)
def valF18v1 (o : R18v1) : AV := match o with | .r x0 => .int .i64 x0
def memF18v1 (o : R18v1) : List Blk := match o with | .r x0 => []
def elF18v1 {R : Type} (o : R18v1) (k : AV → List Blk → Option R) : Option R := match o with | .r x0 => k (.int .i64 x0) []
def RecOkF18v1 (Fx : TF18v1) : Prop := ∀ lk M o, FFF18v1 Fx (canS sgF18v1 lk M) = some o → FCalls CX 18 0 (argsE 3 (canS sgF18v1 lk M).env) (canS sgF18v1 lk M).mem (valF18v1 o) (memF18v1 o)
noncomputable def csF18v1b (N : Nat) (R : Type) : List (CE R) := [ce37v1n0 (F37v1 N) R (fun _ _ => true), ce38v1n0 (F38v1 N) R (fun _ _ => true), ce40v1n0 (F40v1 N) R (fun _ _ => true)]
theorem hcsF18v1b (N : Nat) (R : Type) : AllE (CeOk CX) (csF18v1b N R) := ⟨okce37v1n0 (F37v1 N) (soundF37v1 N) R (fun _ _ => true), okce38v1n0 (F38v1 N) (soundF38v1 N) R (fun _ _ => true), okce40v1n0 (F40v1 N) (soundF40v1 N) R (fun _ _ => true), trivial⟩
def rs18v1n27 : List ResultVar := [.tmp 2]
noncomputable def bd18v1n27ul26 : Code := match codeAt code27 [false, true, false, true] with | some (.loop c) => c | _ => .skip
noncomputable def T18v1n27ul26 (N : Nat) (R : Type) : LTab R := mkTab ⟨18, 262143⟩ (csF18v1b N R) (noY) [] [] []
theorem okT18v1n27ul26 (N : Nat) (R : Type) : (T18v1n27ul26 N R).Ok CX code27 := mkTab_ok (hcsF18v1b N R) (noY_ok) (trivial) (trivial) (trivial)
noncomputable def T18v1n27ur1 (N : Nat) (R : Type) : LTab R := mkTab ⟨18, 262143⟩ (csF18v1b N R) (noY) [(26, fun st k => unroll CX (T18v1n27ul26 N R) bd18v1n27ul26 (2 * 26) 4 st k)] [] []
theorem okT18v1n27ur1 (N : Nat) (R : Type) : (T18v1n27ur1 N R).Ok CX code27 := mkTab_ok (hcsF18v1b N R) (noY_ok) (⟨unroll_ok hX (path := [false, true, false, true]) (by kernel_rfl) (by rfl) (okT18v1n27ul26 N R) rfl, trivial⟩) (trivial) (trivial)
noncomputable def csF18v1 (N : Nat) (R : Type) : List (CE R) := ⟨27, fun _ _ => true, fun _ M => some (List.range M.length), fun args M k => evfn CX (T18v1n27ur1 N R) code27 rs18v1n27 args M fun x M' => tst (Nat.ble M.length M'.length) (k x M')⟩ :: csF18v1b N R
theorem hcsF18v1 (N : Nat) (R : Type) : AllE (CeOk CX) (csF18v1 N R) := ⟨inl1_ok (run := fun args M k => evfn CX (T18v1n27ur1 N R) code27 rs18v1n27 args M k) fun {args M k r} h => evfn_sound hX (okT18v1n27ur1 N R) Tryd.func27 hb27 rfl en27 (by kernel_rfl) h, hcsF18v1b N R⟩
noncomputable def T18v1ur1 (N : Nat) (R : Type) : LTab R := mkTab ⟨15, 32767⟩ (csF18v1 N R) (noY) [] [] []
theorem okT18v1ur1 (N : Nat) (R : Type) : (T18v1ur1 N R).Ok CX code18 := mkTab_ok (hcsF18v1 N R) (noY_ok) (trivial) (trivial) (trivial)
def rsF18v1 : List ResultVar := [.tmp 6]
def F18v1 : Nat → TF18v1
  | 0 => fun _ _ _ _ _ _ _ => none
  | N + 1 => fun x0c0 x0c1 x0c2 x0c3 x0c4 x1 x2 =>
    match F37v1 N x0c0 x0c1 x0c2 x0c3 x0c4 x1 x2 with
    | none => none
    | some (.r rx0v1 rb0c0v1 rb0c1v1 rb0c2v1 rb0c3v1 rb0c4v1 rb1c0v1 rb2c0v1) =>
      match !rx0v1 with
      | true =>
        some (.r 2)
      | false =>
        match F38v1 N rb0c0v1 rb0c1v1 rb0c2v1 rb0c3v1 rb0c4v1 rb1c0v1 rb2c0v1 with
        | none => none
        | some (.r rx0v2 rb0c0v2 rb0c1v2 rb0c2v2 rb0c3v2 rb0c4v2 rb1c0v2 rb2c0v2) =>
          match !rx0v2 with
          | true =>
            some (.r 90)
          | false =>
            match F40v1 N rb0c0v2 rb0c1v2 rb0c2v2 rb0c3v2 rb0c4v2 rb1c0v2 rb2c0v2 with
            | none => none
            | some (.r rx0v3 rb0c0v3 rb0c1v3 rb0c2v3 rb0c3v3 rb0c4v3 rb1c0v3 rb2c0v3) =>
              match !rx0v3 with
              | true =>
                some (.r 120)
              | false =>
                some (.r 0)
def xRF18v1 : XSh R18v1 := ⟨[], ⟨[(0, .one (.cell (.int .i64)))], []⟩, fun _ => [], fun s => .r ((Eng.look s.env 0).toI)⟩
theorem fsF18v1 : ∀ (N : Nat) (lk : Nat → AV) (M : List Blk), FFF18v1 (F18v1 (N + 1)) (canS sgF18v1 lk M) = evfn CX (T18v1ur1 N R18v1) code18 rsF18v1 (argsE 3 (canS sgF18v1 lk M).env) (canS sgF18v1 lk M).mem (goR CX 0 (fun _ => some xRF18v1)) := by intro N lk M; kernel_rfl
theorem soundF18v1 : ∀ N, RecOkF18v1 (F18v1 N)
  | 0, lk, M, o, h => by cases h
  | N + 1, lk, M, o, h => fn_sound hX (okT18v1ur1 N R18v1) Tryd.func18 hb18 rfl en18 (by kernel_rfl) (ys := fun _ => some xRF18v1) (fun st y h => by injection h with h; subst h; exact fun lk M => ⟨rfl, rfl⟩) ((fsF18v1 N lk M).symm.trans h)
def cvce18v1n0 : List Cv := []
def selce18v1n0 : St → List Nat := fun _ => []
noncomputable def ce18v1n0 (Fx : TF18v1) (R : Type) (test : List AV → List Blk → Bool) : CE R := ⟨18, test, fun args M => some (selce18v1n0 ⟨argEnv 0 args, M, [], .unk⟩), fun args M k => tst (Nat.beq args.length 3) (callFn CX 0 cvce18v1n0 sgF18v1 selce18v1n0 (FFF18v1 Fx) elF18v1 args M k)⟩
theorem okce18v1n0 (Fx : TF18v1) (h : RecOkF18v1 Fx) (R : Type) (test : List AV → List Blk → Bool) : CeOk CX (ce18v1n0 Fx R test) := ce_ok hX (fun o k => by cases o; rfl) h en18 (fun args M ids h => by injection h with h; exact ⟨rfl, h.symm⟩)
end Go.Proofs.YtdennlgnbecojaaDoor

namespace Go.Proofs.YtdennlgnbecojaaDoor
open Go Go.Eng
set_option maxRecDepth 100000

/-! ### F53: ceiling/ceilingref06.Root -/
inductive R53 where
  | r (x0 : Int)
abbrev TF53 := List Row → List Row → List Row → List Row → List Row → Int → Option R53
def sgF53 : LSh := ⟨[(0, .agg [.cell (.slice 58), .cell (.slice 74), .cell (.slice 45), .cell (.slice 113), .cell (.slice 117)]), (1, .one (.cell (.int .i64)))], []⟩
def FFF53 (Fx : TF53) (s : St) : Option R53 := Fx (((Eng.look s.env 0).cells.getD 0 .top).rows) (((Eng.look s.env 0).cells.getD 1 .top).rows) (((Eng.look s.env 0).cells.getD 2 .top).rows) (((Eng.look s.env 0).cells.getD 3 .top).rows) (((Eng.look s.env 0).cells.getD 4 .top).rows) ((Eng.look s.env 1).toI)
def valF53 (o : R53) : AV := match o with | .r x0 => .int .i64 x0
def memF53 (o : R53) : List Blk := match o with | .r x0 => []
def elF53 {R : Type} (o : R53) (k : AV → List Blk → Option R) : Option R := match o with | .r x0 => k (.int .i64 x0) []
def RecOkF53 (Fx : TF53) : Prop := ∀ lk M o, FFF53 Fx (canS sgF53 lk M) = some o → FCalls CX 53 0 (argsE 2 (canS sgF53 lk M).env) (canS sgF53 lk M).mem (valF53 o) (memF53 o)
noncomputable def csF53 (N : Nat) (R : Type) : List (CE R) := [ce49n0 (F49 N) R (fun _ _ => true)]
theorem hcsF53 (N : Nat) (R : Type) : AllE (CeOk CX) (csF53 N R) := ⟨okce49n0 (F49 N) (soundF49 N) R (fun _ _ => true), trivial⟩
inductive OL53a28 where
  | x0 (x1 : Int) (b0c0 : List Row) (b0c1 : List Row) (b0c2 : List Row) (b0c3 : List Row) (b0c4 : List Row)
def L53a28 (N : Nat) : Nat → Int → List Row → List Row → List Row → List Row → List Row → Option OL53a28
  | 0 => fun _ _ _ _ _ _ => none
  | n + 1 => fun x1 b0c0 b0c1 b0c2 b0c3 b0c4 =>
    tst (decide ((0 : Int) ≤ x1) && decide (x1 < ((b0c0.length : Int)))) <|
    match F49 N ((((b0c0.getD x1.toNat [])).getD 2 .top).toI) x1 with
    | none => none
    | some (.r rx0v2) =>
      match rx0v2 with
      | true =>
        tst (decide ((0 : Int) ≤ x1) && decide (x1 < ((b0c0.length : Int)))) <|
        L53a28 N n ((((b0c0.getD x1.toNat [])).getD 2 .top).toI) b0c0 b0c1 b0c2 b0c3 b0c4
      | false =>
        some (.x0 x1 b0c0 b0c1 b0c2 b0c3 b0c4)
def LFL53a28 (N : Nat) (n : Nat) (s : St) : Option OL53a28 := L53a28 N n ((Eng.look s.env 1).toI) (((s.mem.getD 0 .dead).cells.getD 0 .top).rows) (((s.mem.getD 0 .dead).cells.getD 1 .top).rows) (((s.mem.getD 0 .dead).cells.getD 2 .top).rows) (((s.mem.getD 0 .dead).cells.getD 3 .top).rows) (((s.mem.getD 0 .dead).cells.getD 4 .top).rows)
def sgL53a28 : LSh := ⟨[(1, .one (.cell (.int .i64))), (2, .one (.ptr 0 0 0))], [.var [.any, .any, .any, .any, .any] [.cell (.slice 58), .cell (.slice 74), .cell (.slice 45), .cell (.slice 113), .cell (.slice 117)]]⟩
def ceL53a28 : List Cv := []
def seL53a28 : St → List Nat := fun st => [(Eng.look st.env 2).id]
def xL53a28wx0 : XSh OL53a28 := ⟨[], ⟨[(1, .one (.cell (.int .i64)))], [.var [.any, .any, .any, .any, .any] [.cell (.slice 58), .cell (.slice 74), .cell (.slice 45), .cell (.slice 113), .cell (.slice 117)]]⟩, fun st => [0], fun s => .x0 ((Eng.look s.env 1).toI) (((s.mem.getD 0 .dead).cells.getD 0 .top).rows) (((s.mem.getD 0 .dead).cells.getD 1 .top).rows) (((s.mem.getD 0 .dead).cells.getD 2 .top).rows) (((s.mem.getD 0 .dead).cells.getD 3 .top).rows) (((s.mem.getD 0 .dead).cells.getD 4 .top).rows)⟩
def xsL53a28 : Ex → St → Option (XSh OL53a28) := fun e st => match e with
  | .exit 0 => some xL53a28wx0
  | _ => none
def exL53a28 (o : OL53a28) : Ex := match o with | .x0 x1 b0c0 b0c1 b0c2 b0c3 b0c4 => (.exit 0)
def stL53a28 (o : OL53a28) : St := match o with | .x0 x1 b0c0 b0c1 b0c2 b0c3 b0c4 => ⟨[(1, .int .i64 x1)], [.var [.any, .any, .any, .any, .any] [.list 58 b0c0, .list 74 b0c1, .list 45 b0c2, .list 113 b0c3, .list 117 b0c4]], [], .unk⟩
def elL53a28 {R : Type} (o : OL53a28) (k : Ex → St → Option R) : Option R := match o with | .x0 x1 b0c0 b0c1 b0c2 b0c3 b0c4 => k (.exit 0) ⟨[(1, .int .i64 x1)], [.var [.any, .any, .any, .any, .any] [.list 58 b0c0, .list 74 b0c1, .list 45 b0c2, .list 113 b0c3, .list 117 b0c4]], [], .unk⟩
theorem heL53a28 {R : Type} (o : OL53a28) (k : Ex → St → Option R) : elL53a28 o k = k (exL53a28 o) (stL53a28 o) := by cases o <;> rfl
theorem hxL53a28 : ∀ e st x, xsL53a28 e st = some x → outOk x e exL53a28 stL53a28 := by
  intro e st x h
  unfold xsL53a28 at h
  repeat' split at h
  all_goals first
    | (injection h with h; subst h; exact fun lk M => ⟨rfl, rfl⟩)
    | cases h
noncomputable def T53ul28 (N : Nat) (R : Type) : LTab R := mkTab ⟨26, 33552386⟩ (csF53 N R) (noY) [] [] []
theorem okT53ul28 (N : Nat) (R : Type) : (T53ul28 N R).Ok CX code53 := mkTab_ok (hcsF53 N R) (noY_ok) (trivial) (trivial) (trivial)
noncomputable def bdL53a28 : Code := match codeAt code53 [false, false, true, true] with | some (.loop c) => c | _ => .skip
theorem hsL53a28 (N : Nat) : ∀ (n : Nat) (lk : Nat → AV) (M : List Blk), LFL53a28 N (n + 1) (canS sgL53a28 lk M) = evk CX (T53ul28 N OL53a28) bdL53a28 (2 * 28) (canS sgL53a28 lk M) (kont CX 1 [] sgL53a28 (fun st => [0]) xsL53a28 (LFL53a28 N n)) := by intro n lk M; kernel_rfl
noncomputable def T53ur1 (N : Nat) (R : Type) : LTab R := mkTab ⟨26, 67108863⟩ (csF53 N R) (noY) [(28, fun st k => callLoop CX 1 33552386 ceL53a28 sgL53a28 seL53a28 ⟨26, 67108863⟩ (LFL53a28 N N) elL53a28 st k)] [] []
theorem okT53ur1 (N : Nat) (R : Type) : (T53ur1 N R).Ok CX code53 := mkTab_ok (hcsF53 N R) (noY_ok) (⟨loop_ok hX (path := [false, false, true, true]) (by kernel_rfl) (by rfl) (okT53ul28 N OL53a28) (fun _ _ => rfl) (hsL53a28 N) hxL53a28 rfl heL53a28, trivial⟩) (trivial) (trivial)
def rsF53 : List ResultVar := [.tmp 4]
def F53 : Nat → TF53
  | 0 => fun _ _ _ _ _ _ => none
  | N + 1 => fun x0c0 x0c1 x0c2 x0c3 x0c4 x1 =>
    match F49 N x1 ((x0c0.length : Int)) with
    | none => none
    | some (.r rx0v1) =>
      match !rx0v1 with
      | true =>
        some (.r ((-1)))
      | false =>
        match L53a28 N N x1 x0c0 x0c1 x0c2 x0c3 x0c4 with
        | none => none
        | some (.x0 x1v3 b0c0v3 b0c1v3 b0c2v3 b0c3v3 b0c4v3) =>
          some (.r x1v3)
def xRF53 : XSh R53 := ⟨[], ⟨[(0, .one (.cell (.int .i64)))], []⟩, fun _ => [], fun s => .r ((Eng.look s.env 0).toI)⟩
theorem fsF53 : ∀ (N : Nat) (lk : Nat → AV) (M : List Blk), FFF53 (F53 (N + 1)) (canS sgF53 lk M) = evfn CX (T53ur1 N R53) code53 rsF53 (argsE 2 (canS sgF53 lk M).env) (canS sgF53 lk M).mem (goR CX 0 (fun _ => some xRF53)) := by intro N lk M; kernel_rfl
theorem soundF53 : ∀ N, RecOkF53 (F53 N)
  | 0, lk, M, o, h => by cases h
  | N + 1, lk, M, o, h => fn_sound hX (okT53ur1 N R53) Tryd.func53 hb53 rfl en53 (by kernel_rfl) (ys := fun _ => some xRF53) (fun st y h => by injection h with h; subst h; exact fun lk M => ⟨rfl, rfl⟩) ((fsF53 N lk M).symm.trans h)
def cvce53n0 : List Cv := []
def selce53n0 : St → List Nat := fun _ => []
noncomputable def ce53n0 (Fx : TF53) (R : Type) (test : List AV → List Blk → Bool) : CE R := ⟨53, test, fun args M => some (selce53n0 ⟨argEnv 0 args, M, [], .unk⟩), fun args M k => tst (Nat.beq args.length 2) (callFn CX 0 cvce53n0 sgF53 selce53n0 (FFF53 Fx) elF53 args M k)⟩
theorem okce53n0 (Fx : TF53) (h : RecOkF53 Fx) (R : Type) (test : List AV → List Blk → Bool) : CeOk CX (ce53n0 Fx R test) := ce_ok hX (fun o k => by cases o; rfl) h en53 (fun args M ids h => by injection h with h; exact ⟨rfl, h.symm⟩)
end Go.Proofs.YtdennlgnbecojaaDoor

namespace Go.Proofs.YtdennlgnbecojaaDoor
open Go Go.Eng
set_option maxRecDepth 100000

/-! ### F41: ceiling/ceilingref06.Converts -/
inductive R41 where
  | r (x0 : Bool)
abbrev TF41 := List Row → List Row → List Row → List Row → List Row → Int → Int → Option R41
def sgF41 : LSh := ⟨[(0, .agg [.cell (.slice 58), .cell (.slice 74), .cell (.slice 45), .cell (.slice 113), .cell (.slice 117)]), (1, .one (.cell (.int .i64))), (2, .one (.cell (.int .i64)))], []⟩
def FFF41 (Fx : TF41) (s : St) : Option R41 := Fx (((Eng.look s.env 0).cells.getD 0 .top).rows) (((Eng.look s.env 0).cells.getD 1 .top).rows) (((Eng.look s.env 0).cells.getD 2 .top).rows) (((Eng.look s.env 0).cells.getD 3 .top).rows) (((Eng.look s.env 0).cells.getD 4 .top).rows) ((Eng.look s.env 1).toI) ((Eng.look s.env 2).toI)
def valF41 (o : R41) : AV := match o with | .r x0 => .bool x0
def memF41 (o : R41) : List Blk := match o with | .r x0 => []
def elF41 {R : Type} (o : R41) (k : AV → List Blk → Option R) : Option R := match o with | .r x0 => k (.bool x0) []
def RecOkF41 (Fx : TF41) : Prop := ∀ lk M o, FFF41 Fx (canS sgF41 lk M) = some o → FCalls CX 41 0 (argsE 3 (canS sgF41 lk M).env) (canS sgF41 lk M).mem (valF41 o) (memF41 o)
noncomputable def csF41 (N : Nat) (R : Type) : List (CE R) := [ce36n0 (F36 N) R (fun _ _ => true), ce49n0 (F49 N) R (fun _ _ => true), ce53n0 (F53 N) R (fun _ _ => true)]
theorem hcsF41 (N : Nat) (R : Type) : AllE (CeOk CX) (csF41 N R) := ⟨okce36n0 (F36 N) (soundF36 N) R (fun _ _ => true), okce49n0 (F49 N) (soundF49 N) R (fun _ _ => true), okce53n0 (F53 N) (soundF53 N) R (fun _ _ => true), trivial⟩
inductive OJ41a6 where
  | nx (b0c0 : List Row) (b0c1 : List Row) (b0c2 : List Row) (b0c3 : List Row) (b0c4 : List Row)
  | ret (x6 : Bool) (b0c0 : List Row) (b0c1 : List Row) (b0c2 : List Row) (b0c3 : List Row) (b0c4 : List Row)
def J41a6 (N : Nat) : Int → Int → List Row → List Row → List Row → List Row → List Row → Option OJ41a6 := fun x1 x2 b0c0 b0c1 b0c2 b0c3 b0c4 =>
    match F49 N x1 ((b0c0.length : Int)) with
    | none => none
    | some (.r rx0v1) =>
      match !rx0v1 with
      | true =>
        some (.ret false b0c0 b0c1 b0c2 b0c3 b0c4)
      | false =>
        match F49 N x2 ((b0c0.length : Int)) with
        | none => none
        | some (.r rx0v2) =>
          match !rx0v2 with
          | true =>
            some (.ret false b0c0 b0c1 b0c2 b0c3 b0c4)
          | false =>
            some (.nx b0c0 b0c1 b0c2 b0c3 b0c4)
def LFJ41a6 (N : Nat) (s : St) : Option OJ41a6 := J41a6 N ((Eng.look s.env 1).toI) ((Eng.look s.env 2).toI) (((s.mem.getD 0 .dead).cells.getD 0 .top).rows) (((s.mem.getD 0 .dead).cells.getD 1 .top).rows) (((s.mem.getD 0 .dead).cells.getD 2 .top).rows) (((s.mem.getD 0 .dead).cells.getD 3 .top).rows) (((s.mem.getD 0 .dead).cells.getD 4 .top).rows)
def sgJ41a6 : LSh := ⟨[(1, .one (.cell (.int .i64))), (2, .one (.cell (.int .i64))), (3, .one (.ptr 0 0 0))], [.var [.any, .any, .any, .any, .any] [.cell (.slice 58), .cell (.slice 74), .cell (.slice 45), .cell (.slice 113), .cell (.slice 117)]]⟩
def ceJ41a6 : List Cv := []
def seJ41a6 : St → List Nat := fun st => [(Eng.look st.env 3).id]
def xJ41a6wnx : XSh OJ41a6 := ⟨[], ⟨[], [.var [.any, .any, .any, .any, .any] [.cell (.slice 58), .cell (.slice 74), .cell (.slice 45), .cell (.slice 113), .cell (.slice 117)]]⟩, fun st => [0], fun s => .nx (((s.mem.getD 0 .dead).cells.getD 0 .top).rows) (((s.mem.getD 0 .dead).cells.getD 1 .top).rows) (((s.mem.getD 0 .dead).cells.getD 2 .top).rows) (((s.mem.getD 0 .dead).cells.getD 3 .top).rows) (((s.mem.getD 0 .dead).cells.getD 4 .top).rows)⟩
def xJ41a6wret : XSh OJ41a6 := ⟨[], ⟨[(6, .one (.cell (.bool)))], [.var [.any, .any, .any, .any, .any] [.cell (.slice 58), .cell (.slice 74), .cell (.slice 45), .cell (.slice 113), .cell (.slice 117)]]⟩, fun st => [0], fun s => .ret ((Eng.look s.env 6).toB) (((s.mem.getD 0 .dead).cells.getD 0 .top).rows) (((s.mem.getD 0 .dead).cells.getD 1 .top).rows) (((s.mem.getD 0 .dead).cells.getD 2 .top).rows) (((s.mem.getD 0 .dead).cells.getD 3 .top).rows) (((s.mem.getD 0 .dead).cells.getD 4 .top).rows)⟩
def xsJ41a6 : Ex → St → Option (XSh OJ41a6) := fun e st => match e with
  | .normal => some xJ41a6wnx
  | .ret => some xJ41a6wret
  | _ => none
def exJ41a6 (o : OJ41a6) : Ex := match o with | .nx b0c0 b0c1 b0c2 b0c3 b0c4 => .normal | .ret x6 b0c0 b0c1 b0c2 b0c3 b0c4 => .ret
def stJ41a6 (o : OJ41a6) : St := match o with | .nx b0c0 b0c1 b0c2 b0c3 b0c4 => ⟨[], [.var [.any, .any, .any, .any, .any] [.list 58 b0c0, .list 74 b0c1, .list 45 b0c2, .list 113 b0c3, .list 117 b0c4]], [], .unk⟩ | .ret x6 b0c0 b0c1 b0c2 b0c3 b0c4 => ⟨[(6, .bool x6)], [.var [.any, .any, .any, .any, .any] [.list 58 b0c0, .list 74 b0c1, .list 45 b0c2, .list 113 b0c3, .list 117 b0c4]], [], .unk⟩
def elJ41a6 {R : Type} (o : OJ41a6) (k : Ex → St → Option R) : Option R := match o with | .nx b0c0 b0c1 b0c2 b0c3 b0c4 => k .normal ⟨[], [.var [.any, .any, .any, .any, .any] [.list 58 b0c0, .list 74 b0c1, .list 45 b0c2, .list 113 b0c3, .list 117 b0c4]], [], .unk⟩ | .ret x6 b0c0 b0c1 b0c2 b0c3 b0c4 => k .ret ⟨[(6, .bool x6)], [.var [.any, .any, .any, .any, .any] [.list 58 b0c0, .list 74 b0c1, .list 45 b0c2, .list 113 b0c3, .list 117 b0c4]], [], .unk⟩
theorem heJ41a6 {R : Type} (o : OJ41a6) (k : Ex → St → Option R) : elJ41a6 o k = k (exJ41a6 o) (stJ41a6 o) := by cases o <;> rfl
theorem hxJ41a6 : ∀ e st x, xsJ41a6 e st = some x → outOk x e exJ41a6 stJ41a6 := by
  intro e st x h
  unfold xsJ41a6 at h
  repeat' split at h
  all_goals first
    | (injection h with h; subst h; exact fun lk M => ⟨rfl, rfl⟩)
    | cases h
noncomputable def T41uc6 (N : Nat) (R : Type) : LTab R := mkTab ⟨97, 33552448⟩ (csF41 N R) (noY) [] [] []
theorem okT41uc6 (N : Nat) (R : Type) : (T41uc6 N R).Ok CX code41 := mkTab_ok (hcsF41 N R) (noY_ok) (trivial) (trivial) (trivial)
noncomputable def bdJ41a6 : Code := (codeAt code41 [false, true]).getD .skip
theorem hsJ41a6 (N : Nat) : ∀ (lk : Nat → AV) (M : List Blk), LFJ41a6 N (canS sgJ41a6 lk M) = evk CX (T41uc6 N OJ41a6) bdJ41a6 6 (canS sgJ41a6 lk M) (kontX CX 1 xsJ41a6) := by intro lk M; kernel_rfl
inductive OJ41a62 where
  | nx (x9 : Bool) (b0c0 : Int) (b0c1 : ByteArray) (b0c2 : Int) (b0c3 : Int) (b0c4 : List Row) (b0c5 : Int) (b0c6 : Int) (b0c7 : Int) (b0c8 : ByteArray) (b0c9 : Bool) (b0c10 : Int) (b0c11 : List Row) (b0c12 : Int) (b0c13 : Int) (b0c14 : Bool) (b0c15 : Int) (b0c16 : Int) (b0c17 : Int) (b1c0 : Int) (b1c1 : ByteArray) (b1c2 : Int) (b1c3 : Int) (b1c4 : List Row) (b1c5 : Int) (b1c6 : Int) (b1c7 : Int) (b1c8 : ByteArray) (b1c9 : Bool) (b1c10 : Int) (b1c11 : List Row) (b1c12 : Int) (b1c13 : Int) (b1c14 : Bool) (b1c15 : Int) (b1c16 : Int) (b1c17 : Int)
def J41a62 (N : Nat) : Int → ByteArray → Int → Int → List Row → Int → Int → Int → ByteArray → Bool → Int → List Row → Int → Int → Bool → Int → Int → Int → Int → ByteArray → Int → Int → List Row → Int → Int → Int → ByteArray → Bool → Int → List Row → Int → Int → Bool → Int → Int → Int → Option OJ41a62 := fun b0c0 b0c1 b0c2 b0c3 b0c4 b0c5 b0c6 b0c7 b0c8 b0c9 b0c10 b0c11 b0c12 b0c13 b0c14 b0c15 b0c16 b0c17 b1c0 b1c1 b1c2 b1c3 b1c4 b1c5 b1c6 b1c7 b1c8 b1c9 b1c10 b1c11 b1c12 b1c13 b1c14 b1c15 b1c16 b1c17 =>
    match b0c0 == (1 : Int) with
    | true =>
      match b1c0 == (1 : Int) with
      | true =>
        some (.nx true b0c0 b0c1 b0c2 b0c3 b0c4 b0c5 b0c6 b0c7 b0c8 b0c9 b0c10 b0c11 b0c12 b0c13 b0c14 b0c15 b0c16 b0c17 b1c0 b1c1 b1c2 b1c3 b1c4 b1c5 b1c6 b1c7 b1c8 b1c9 b1c10 b1c11 b1c12 b1c13 b1c14 b1c15 b1c16 b1c17)
      | false =>
        some (.nx (b1c0 == (2 : Int)) b0c0 b0c1 b0c2 b0c3 b0c4 b0c5 b0c6 b0c7 b0c8 b0c9 b0c10 b0c11 b0c12 b0c13 b0c14 b0c15 b0c16 b0c17 b1c0 b1c1 b1c2 b1c3 b1c4 b1c5 b1c6 b1c7 b1c8 b1c9 b1c10 b1c11 b1c12 b1c13 b1c14 b1c15 b1c16 b1c17)
    | false =>
      match b0c0 == (2 : Int) with
      | true =>
        match b1c0 == (1 : Int) with
        | true =>
          some (.nx true b0c0 b0c1 b0c2 b0c3 b0c4 b0c5 b0c6 b0c7 b0c8 b0c9 b0c10 b0c11 b0c12 b0c13 b0c14 b0c15 b0c16 b0c17 b1c0 b1c1 b1c2 b1c3 b1c4 b1c5 b1c6 b1c7 b1c8 b1c9 b1c10 b1c11 b1c12 b1c13 b1c14 b1c15 b1c16 b1c17)
        | false =>
          some (.nx (b1c0 == (2 : Int)) b0c0 b0c1 b0c2 b0c3 b0c4 b0c5 b0c6 b0c7 b0c8 b0c9 b0c10 b0c11 b0c12 b0c13 b0c14 b0c15 b0c16 b0c17 b1c0 b1c1 b1c2 b1c3 b1c4 b1c5 b1c6 b1c7 b1c8 b1c9 b1c10 b1c11 b1c12 b1c13 b1c14 b1c15 b1c16 b1c17)
      | false =>
        some (.nx false b0c0 b0c1 b0c2 b0c3 b0c4 b0c5 b0c6 b0c7 b0c8 b0c9 b0c10 b0c11 b0c12 b0c13 b0c14 b0c15 b0c16 b0c17 b1c0 b1c1 b1c2 b1c3 b1c4 b1c5 b1c6 b1c7 b1c8 b1c9 b1c10 b1c11 b1c12 b1c13 b1c14 b1c15 b1c16 b1c17)
def LFJ41a62 (N : Nat) (s : St) : Option OJ41a62 := J41a62 N (((s.mem.getD 0 .dead).cells.getD 0 .top).toI) (((s.mem.getD 0 .dead).cells.getD 1 .top).toS) (((s.mem.getD 0 .dead).cells.getD 2 .top).toI) (((s.mem.getD 0 .dead).cells.getD 3 .top).toI) (((s.mem.getD 0 .dead).cells.getD 4 .top).rows) (((s.mem.getD 0 .dead).cells.getD 5 .top).toI) (((s.mem.getD 0 .dead).cells.getD 6 .top).toI) (((s.mem.getD 0 .dead).cells.getD 7 .top).toI) (((s.mem.getD 0 .dead).cells.getD 8 .top).toS) (((s.mem.getD 0 .dead).cells.getD 9 .top).toB) (((s.mem.getD 0 .dead).cells.getD 10 .top).toI) (((s.mem.getD 0 .dead).cells.getD 11 .top).rows) (((s.mem.getD 0 .dead).cells.getD 12 .top).toI) (((s.mem.getD 0 .dead).cells.getD 13 .top).toI) (((s.mem.getD 0 .dead).cells.getD 14 .top).toB) (((s.mem.getD 0 .dead).cells.getD 15 .top).toI) (((s.mem.getD 0 .dead).cells.getD 16 .top).toI) (((s.mem.getD 0 .dead).cells.getD 17 .top).toI) (((s.mem.getD 1 .dead).cells.getD 0 .top).toI) (((s.mem.getD 1 .dead).cells.getD 1 .top).toS) (((s.mem.getD 1 .dead).cells.getD 2 .top).toI) (((s.mem.getD 1 .dead).cells.getD 3 .top).toI) (((s.mem.getD 1 .dead).cells.getD 4 .top).rows) (((s.mem.getD 1 .dead).cells.getD 5 .top).toI) (((s.mem.getD 1 .dead).cells.getD 6 .top).toI) (((s.mem.getD 1 .dead).cells.getD 7 .top).toI) (((s.mem.getD 1 .dead).cells.getD 8 .top).toS) (((s.mem.getD 1 .dead).cells.getD 9 .top).toB) (((s.mem.getD 1 .dead).cells.getD 10 .top).toI) (((s.mem.getD 1 .dead).cells.getD 11 .top).rows) (((s.mem.getD 1 .dead).cells.getD 12 .top).toI) (((s.mem.getD 1 .dead).cells.getD 13 .top).toI) (((s.mem.getD 1 .dead).cells.getD 14 .top).toB) (((s.mem.getD 1 .dead).cells.getD 15 .top).toI) (((s.mem.getD 1 .dead).cells.getD 16 .top).toI) (((s.mem.getD 1 .dead).cells.getD 17 .top).toI)
def sgJ41a62 : LSh := ⟨[(7, .one (.ptr 0 0 0)), (8, .one (.ptr 1 0 0))], [.var [.int .u8, .str, .int .i64, .int .i64, .any, .int .i64, .int .i64, .int .i64, .str, .bool, .int .i64, .any, .int .i64, .int .u8, .bool, .int .i64, .int .i64, .int .i64] [.cell (.int .u8), .cell (.str), .cell (.int .i64), .cell (.int .i64), .cell (.slice 9), .cell (.int .i64), .cell (.int .i64), .cell (.int .i64), .cell (.str), .cell (.bool), .cell (.int .i64), .cell (.slice 120), .cell (.int .i64), .cell (.int .u8), .cell (.bool), .cell (.int .i64), .cell (.int .i64), .cell (.int .i64)], .var [.int .u8, .str, .int .i64, .int .i64, .any, .int .i64, .int .i64, .int .i64, .str, .bool, .int .i64, .any, .int .i64, .int .u8, .bool, .int .i64, .int .i64, .int .i64] [.cell (.int .u8), .cell (.str), .cell (.int .i64), .cell (.int .i64), .cell (.slice 9), .cell (.int .i64), .cell (.int .i64), .cell (.int .i64), .cell (.str), .cell (.bool), .cell (.int .i64), .cell (.slice 120), .cell (.int .i64), .cell (.int .u8), .cell (.bool), .cell (.int .i64), .cell (.int .i64), .cell (.int .i64)]]⟩
def ceJ41a62 : List Cv := []
def seJ41a62 : St → List Nat := fun st => [(Eng.look st.env 7).id, (Eng.look st.env 8).id]
def xJ41a62wnx : XSh OJ41a62 := ⟨[], ⟨[(9, .one (.cell (.bool)))], [.var [.int .u8, .str, .int .i64, .int .i64, .any, .int .i64, .int .i64, .int .i64, .str, .bool, .int .i64, .any, .int .i64, .int .u8, .bool, .int .i64, .int .i64, .int .i64] [.cell (.int .u8), .cell (.str), .cell (.int .i64), .cell (.int .i64), .cell (.slice 9), .cell (.int .i64), .cell (.int .i64), .cell (.int .i64), .cell (.str), .cell (.bool), .cell (.int .i64), .cell (.slice 120), .cell (.int .i64), .cell (.int .u8), .cell (.bool), .cell (.int .i64), .cell (.int .i64), .cell (.int .i64)], .var [.int .u8, .str, .int .i64, .int .i64, .any, .int .i64, .int .i64, .int .i64, .str, .bool, .int .i64, .any, .int .i64, .int .u8, .bool, .int .i64, .int .i64, .int .i64] [.cell (.int .u8), .cell (.str), .cell (.int .i64), .cell (.int .i64), .cell (.slice 9), .cell (.int .i64), .cell (.int .i64), .cell (.int .i64), .cell (.str), .cell (.bool), .cell (.int .i64), .cell (.slice 120), .cell (.int .i64), .cell (.int .u8), .cell (.bool), .cell (.int .i64), .cell (.int .i64), .cell (.int .i64)]]⟩, fun st => [0, 1], fun s => .nx ((Eng.look s.env 9).toB) (((s.mem.getD 0 .dead).cells.getD 0 .top).toI) (((s.mem.getD 0 .dead).cells.getD 1 .top).toS) (((s.mem.getD 0 .dead).cells.getD 2 .top).toI) (((s.mem.getD 0 .dead).cells.getD 3 .top).toI) (((s.mem.getD 0 .dead).cells.getD 4 .top).rows) (((s.mem.getD 0 .dead).cells.getD 5 .top).toI) (((s.mem.getD 0 .dead).cells.getD 6 .top).toI) (((s.mem.getD 0 .dead).cells.getD 7 .top).toI) (((s.mem.getD 0 .dead).cells.getD 8 .top).toS) (((s.mem.getD 0 .dead).cells.getD 9 .top).toB) (((s.mem.getD 0 .dead).cells.getD 10 .top).toI) (((s.mem.getD 0 .dead).cells.getD 11 .top).rows) (((s.mem.getD 0 .dead).cells.getD 12 .top).toI) (((s.mem.getD 0 .dead).cells.getD 13 .top).toI) (((s.mem.getD 0 .dead).cells.getD 14 .top).toB) (((s.mem.getD 0 .dead).cells.getD 15 .top).toI) (((s.mem.getD 0 .dead).cells.getD 16 .top).toI) (((s.mem.getD 0 .dead).cells.getD 17 .top).toI) (((s.mem.getD 1 .dead).cells.getD 0 .top).toI) (((s.mem.getD 1 .dead).cells.getD 1 .top).toS) (((s.mem.getD 1 .dead).cells.getD 2 .top).toI) (((s.mem.getD 1 .dead).cells.getD 3 .top).toI) (((s.mem.getD 1 .dead).cells.getD 4 .top).rows) (((s.mem.getD 1 .dead).cells.getD 5 .top).toI) (((s.mem.getD 1 .dead).cells.getD 6 .top).toI) (((s.mem.getD 1 .dead).cells.getD 7 .top).toI) (((s.mem.getD 1 .dead).cells.getD 8 .top).toS) (((s.mem.getD 1 .dead).cells.getD 9 .top).toB) (((s.mem.getD 1 .dead).cells.getD 10 .top).toI) (((s.mem.getD 1 .dead).cells.getD 11 .top).rows) (((s.mem.getD 1 .dead).cells.getD 12 .top).toI) (((s.mem.getD 1 .dead).cells.getD 13 .top).toI) (((s.mem.getD 1 .dead).cells.getD 14 .top).toB) (((s.mem.getD 1 .dead).cells.getD 15 .top).toI) (((s.mem.getD 1 .dead).cells.getD 16 .top).toI) (((s.mem.getD 1 .dead).cells.getD 17 .top).toI)⟩
def xsJ41a62 : Ex → St → Option (XSh OJ41a62) := fun e st => match e with
  | .normal => some xJ41a62wnx
  | _ => none
def exJ41a62 (o : OJ41a62) : Ex := match o with | .nx x9 b0c0 b0c1 b0c2 b0c3 b0c4 b0c5 b0c6 b0c7 b0c8 b0c9 b0c10 b0c11 b0c12 b0c13 b0c14 b0c15 b0c16 b0c17 b1c0 b1c1 b1c2 b1c3 b1c4 b1c5 b1c6 b1c7 b1c8 b1c9 b1c10 b1c11 b1c12 b1c13 b1c14 b1c15 b1c16 b1c17 => .normal
def stJ41a62 (o : OJ41a62) : St := match o with | .nx x9 b0c0 b0c1 b0c2 b0c3 b0c4 b0c5 b0c6 b0c7 b0c8 b0c9 b0c10 b0c11 b0c12 b0c13 b0c14 b0c15 b0c16 b0c17 b1c0 b1c1 b1c2 b1c3 b1c4 b1c5 b1c6 b1c7 b1c8 b1c9 b1c10 b1c11 b1c12 b1c13 b1c14 b1c15 b1c16 b1c17 => ⟨[(9, .bool x9)], [.var [.int .u8, .str, .int .i64, .int .i64, .any, .int .i64, .int .i64, .int .i64, .str, .bool, .int .i64, .any, .int .i64, .int .u8, .bool, .int .i64, .int .i64, .int .i64] [.int .u8 b0c0, .str b0c1, .int .i64 b0c2, .int .i64 b0c3, .list 9 b0c4, .int .i64 b0c5, .int .i64 b0c6, .int .i64 b0c7, .str b0c8, .bool b0c9, .int .i64 b0c10, .list 120 b0c11, .int .i64 b0c12, .int .u8 b0c13, .bool b0c14, .int .i64 b0c15, .int .i64 b0c16, .int .i64 b0c17], .var [.int .u8, .str, .int .i64, .int .i64, .any, .int .i64, .int .i64, .int .i64, .str, .bool, .int .i64, .any, .int .i64, .int .u8, .bool, .int .i64, .int .i64, .int .i64] [.int .u8 b1c0, .str b1c1, .int .i64 b1c2, .int .i64 b1c3, .list 9 b1c4, .int .i64 b1c5, .int .i64 b1c6, .int .i64 b1c7, .str b1c8, .bool b1c9, .int .i64 b1c10, .list 120 b1c11, .int .i64 b1c12, .int .u8 b1c13, .bool b1c14, .int .i64 b1c15, .int .i64 b1c16, .int .i64 b1c17]], [], .unk⟩
def elJ41a62 {R : Type} (o : OJ41a62) (k : Ex → St → Option R) : Option R := match o with | .nx x9 b0c0 b0c1 b0c2 b0c3 b0c4 b0c5 b0c6 b0c7 b0c8 b0c9 b0c10 b0c11 b0c12 b0c13 b0c14 b0c15 b0c16 b0c17 b1c0 b1c1 b1c2 b1c3 b1c4 b1c5 b1c6 b1c7 b1c8 b1c9 b1c10 b1c11 b1c12 b1c13 b1c14 b1c15 b1c16 b1c17 => k .normal ⟨[(9, .bool x9)], [.var [.int .u8, .str, .int .i64, .int .i64, .any, .int .i64, .int .i64, .int .i64, .str, .bool, .int .i64, .any, .int .i64, .int .u8, .bool, .int .i64, .int .i64, .int .i64] [.int .u8 b0c0, .str b0c1, .int .i64 b0c2, .int .i64 b0c3, .list 9 b0c4, .int .i64 b0c5, .int .i64 b0c6, .int .i64 b0c7, .str b0c8, .bool b0c9, .int .i64 b0c10, .list 120 b0c11, .int .i64 b0c12, .int .u8 b0c13, .bool b0c14, .int .i64 b0c15, .int .i64 b0c16, .int .i64 b0c17], .var [.int .u8, .str, .int .i64, .int .i64, .any, .int .i64, .int .i64, .int .i64, .str, .bool, .int .i64, .any, .int .i64, .int .u8, .bool, .int .i64, .int .i64, .int .i64] [.int .u8 b1c0, .str b1c1, .int .i64 b1c2, .int .i64 b1c3, .list 9 b1c4, .int .i64 b1c5, .int .i64 b1c6, .int .i64 b1c7, .str b1c8, .bool b1c9, .int .i64 b1c10, .list 120 b1c11, .int .i64 b1c12, .int .u8 b1c13, .bool b1c14, .int .i64 b1c15, .int .i64 b1c16, .int .i64 b1c17]], [], .unk⟩
theorem heJ41a62 {R : Type} (o : OJ41a62) (k : Ex → St → Option R) : elJ41a62 o k = k (exJ41a62 o) (stJ41a62 o) := by cases o <;> rfl
theorem hxJ41a62 : ∀ e st x, xsJ41a62 e st = some x → outOk x e exJ41a62 stJ41a62 := by
  intro e st x h
  unfold xsJ41a62 at h
  repeat' split at h
  all_goals first
    | (injection h with h; subst h; exact fun lk M => ⟨rfl, rfl⟩)
    | cases h
noncomputable def T41uc62 (N : Nat) (R : Type) : LTab R := mkTab ⟨97, 9007164895003136⟩ (csF41 N R) (noY) [] [] []
theorem okT41uc62 (N : Nat) (R : Type) : (T41uc62 N R).Ok CX code41 := mkTab_ok (hcsF41 N R) (noY_ok) (trivial) (trivial) (trivial)
noncomputable def bdJ41a62 : Code := (codeAt code41 [false, true, true, true, true]).getD .skip
theorem hsJ41a62 (N : Nat) : ∀ (lk : Nat → AV) (M : List Blk), LFJ41a62 N (canS sgJ41a62 lk M) = evk CX (T41uc62 N OJ41a62) bdJ41a62 62 (canS sgJ41a62 lk M) (kontX CX 2 xsJ41a62) := by intro lk M; kernel_rfl
inductive OJ41a126 where
  | nx (x10 : Bool) (b0c0 : List Row) (b0c1 : List Row) (b0c2 : List Row) (b0c3 : List Row) (b0c4 : List Row) (b1c0 : Int) (b1c1 : ByteArray) (b1c2 : Int) (b1c3 : Int) (b1c4 : List Row) (b1c5 : Int) (b1c6 : Int) (b1c7 : Int) (b1c8 : ByteArray) (b1c9 : Bool) (b1c10 : Int) (b1c11 : List Row) (b1c12 : Int) (b1c13 : Int) (b1c14 : Bool) (b1c15 : Int) (b1c16 : Int) (b1c17 : Int) (b2c0 : Int) (b2c1 : ByteArray) (b2c2 : Int) (b2c3 : Int) (b2c4 : List Row) (b2c5 : Int) (b2c6 : Int) (b2c7 : Int) (b2c8 : ByteArray) (b2c9 : Bool) (b2c10 : Int) (b2c11 : List Row) (b2c12 : Int) (b2c13 : Int) (b2c14 : Bool) (b2c15 : Int) (b2c16 : Int) (b2c17 : Int)
def J41a126 (N : Nat) : Int → Int → List Row → List Row → List Row → List Row → List Row → Int → ByteArray → Int → Int → List Row → Int → Int → Int → ByteArray → Bool → Int → List Row → Int → Int → Bool → Int → Int → Int → Int → ByteArray → Int → Int → List Row → Int → Int → Int → ByteArray → Bool → Int → List Row → Int → Int → Bool → Int → Int → Int → Option OJ41a126 := fun x1 x2 b0c0 b0c1 b0c2 b0c3 b0c4 b1c0 b1c1 b1c2 b1c3 b1c4 b1c5 b1c6 b1c7 b1c8 b1c9 b1c10 b1c11 b1c12 b1c13 b1c14 b1c15 b1c16 b1c17 b2c0 b2c1 b2c2 b2c3 b2c4 b2c5 b2c6 b2c7 b2c8 b2c9 b2c10 b2c11 b2c12 b2c13 b2c14 b2c15 b2c16 b2c17 =>
    match b1c0 == (3 : Int) with
    | true =>
      match b2c0 == (3 : Int) with
      | true =>
        match F53 N b0c0 b0c1 b0c2 b0c3 b0c4 x1 with
        | none => none
        | some (.r rx0v5) =>
          match F53 N b0c0 b0c1 b0c2 b0c3 b0c4 x2 with
          | none => none
          | some (.r rx0v6) =>
            some (.nx (rx0v5 == rx0v6) b0c0 b0c1 b0c2 b0c3 b0c4 b1c0 b1c1 b1c2 b1c3 b1c4 b1c5 b1c6 b1c7 b1c8 b1c9 b1c10 b1c11 b1c12 b1c13 b1c14 b1c15 b1c16 b1c17 b2c0 b2c1 b2c2 b2c3 b2c4 b2c5 b2c6 b2c7 b2c8 b2c9 b2c10 b2c11 b2c12 b2c13 b2c14 b2c15 b2c16 b2c17)
      | false =>
        some (.nx false b0c0 b0c1 b0c2 b0c3 b0c4 b1c0 b1c1 b1c2 b1c3 b1c4 b1c5 b1c6 b1c7 b1c8 b1c9 b1c10 b1c11 b1c12 b1c13 b1c14 b1c15 b1c16 b1c17 b2c0 b2c1 b2c2 b2c3 b2c4 b2c5 b2c6 b2c7 b2c8 b2c9 b2c10 b2c11 b2c12 b2c13 b2c14 b2c15 b2c16 b2c17)
    | false =>
      some (.nx false b0c0 b0c1 b0c2 b0c3 b0c4 b1c0 b1c1 b1c2 b1c3 b1c4 b1c5 b1c6 b1c7 b1c8 b1c9 b1c10 b1c11 b1c12 b1c13 b1c14 b1c15 b1c16 b1c17 b2c0 b2c1 b2c2 b2c3 b2c4 b2c5 b2c6 b2c7 b2c8 b2c9 b2c10 b2c11 b2c12 b2c13 b2c14 b2c15 b2c16 b2c17)
def LFJ41a126 (N : Nat) (s : St) : Option OJ41a126 := J41a126 N ((Eng.look s.env 1).toI) ((Eng.look s.env 2).toI) (((s.mem.getD 0 .dead).cells.getD 0 .top).rows) (((s.mem.getD 0 .dead).cells.getD 1 .top).rows) (((s.mem.getD 0 .dead).cells.getD 2 .top).rows) (((s.mem.getD 0 .dead).cells.getD 3 .top).rows) (((s.mem.getD 0 .dead).cells.getD 4 .top).rows) (((s.mem.getD 1 .dead).cells.getD 0 .top).toI) (((s.mem.getD 1 .dead).cells.getD 1 .top).toS) (((s.mem.getD 1 .dead).cells.getD 2 .top).toI) (((s.mem.getD 1 .dead).cells.getD 3 .top).toI) (((s.mem.getD 1 .dead).cells.getD 4 .top).rows) (((s.mem.getD 1 .dead).cells.getD 5 .top).toI) (((s.mem.getD 1 .dead).cells.getD 6 .top).toI) (((s.mem.getD 1 .dead).cells.getD 7 .top).toI) (((s.mem.getD 1 .dead).cells.getD 8 .top).toS) (((s.mem.getD 1 .dead).cells.getD 9 .top).toB) (((s.mem.getD 1 .dead).cells.getD 10 .top).toI) (((s.mem.getD 1 .dead).cells.getD 11 .top).rows) (((s.mem.getD 1 .dead).cells.getD 12 .top).toI) (((s.mem.getD 1 .dead).cells.getD 13 .top).toI) (((s.mem.getD 1 .dead).cells.getD 14 .top).toB) (((s.mem.getD 1 .dead).cells.getD 15 .top).toI) (((s.mem.getD 1 .dead).cells.getD 16 .top).toI) (((s.mem.getD 1 .dead).cells.getD 17 .top).toI) (((s.mem.getD 2 .dead).cells.getD 0 .top).toI) (((s.mem.getD 2 .dead).cells.getD 1 .top).toS) (((s.mem.getD 2 .dead).cells.getD 2 .top).toI) (((s.mem.getD 2 .dead).cells.getD 3 .top).toI) (((s.mem.getD 2 .dead).cells.getD 4 .top).rows) (((s.mem.getD 2 .dead).cells.getD 5 .top).toI) (((s.mem.getD 2 .dead).cells.getD 6 .top).toI) (((s.mem.getD 2 .dead).cells.getD 7 .top).toI) (((s.mem.getD 2 .dead).cells.getD 8 .top).toS) (((s.mem.getD 2 .dead).cells.getD 9 .top).toB) (((s.mem.getD 2 .dead).cells.getD 10 .top).toI) (((s.mem.getD 2 .dead).cells.getD 11 .top).rows) (((s.mem.getD 2 .dead).cells.getD 12 .top).toI) (((s.mem.getD 2 .dead).cells.getD 13 .top).toI) (((s.mem.getD 2 .dead).cells.getD 14 .top).toB) (((s.mem.getD 2 .dead).cells.getD 15 .top).toI) (((s.mem.getD 2 .dead).cells.getD 16 .top).toI) (((s.mem.getD 2 .dead).cells.getD 17 .top).toI)
def sgJ41a126 : LSh := ⟨[(1, .one (.cell (.int .i64))), (2, .one (.cell (.int .i64))), (3, .one (.ptr 0 0 0)), (7, .one (.ptr 1 0 0)), (8, .one (.ptr 2 0 0))], [.var [.any, .any, .any, .any, .any] [.cell (.slice 58), .cell (.slice 74), .cell (.slice 45), .cell (.slice 113), .cell (.slice 117)], .var [.int .u8, .str, .int .i64, .int .i64, .any, .int .i64, .int .i64, .int .i64, .str, .bool, .int .i64, .any, .int .i64, .int .u8, .bool, .int .i64, .int .i64, .int .i64] [.cell (.int .u8), .cell (.str), .cell (.int .i64), .cell (.int .i64), .cell (.slice 9), .cell (.int .i64), .cell (.int .i64), .cell (.int .i64), .cell (.str), .cell (.bool), .cell (.int .i64), .cell (.slice 120), .cell (.int .i64), .cell (.int .u8), .cell (.bool), .cell (.int .i64), .cell (.int .i64), .cell (.int .i64)], .var [.int .u8, .str, .int .i64, .int .i64, .any, .int .i64, .int .i64, .int .i64, .str, .bool, .int .i64, .any, .int .i64, .int .u8, .bool, .int .i64, .int .i64, .int .i64] [.cell (.int .u8), .cell (.str), .cell (.int .i64), .cell (.int .i64), .cell (.slice 9), .cell (.int .i64), .cell (.int .i64), .cell (.int .i64), .cell (.str), .cell (.bool), .cell (.int .i64), .cell (.slice 120), .cell (.int .i64), .cell (.int .u8), .cell (.bool), .cell (.int .i64), .cell (.int .i64), .cell (.int .i64)]]⟩
def ceJ41a126 : List Cv := []
def seJ41a126 : St → List Nat := fun st => [(Eng.look st.env 3).id, (Eng.look st.env 7).id, (Eng.look st.env 8).id]
def xJ41a126wnx : XSh OJ41a126 := ⟨[], ⟨[(10, .one (.cell (.bool)))], [.var [.any, .any, .any, .any, .any] [.cell (.slice 58), .cell (.slice 74), .cell (.slice 45), .cell (.slice 113), .cell (.slice 117)], .var [.int .u8, .str, .int .i64, .int .i64, .any, .int .i64, .int .i64, .int .i64, .str, .bool, .int .i64, .any, .int .i64, .int .u8, .bool, .int .i64, .int .i64, .int .i64] [.cell (.int .u8), .cell (.str), .cell (.int .i64), .cell (.int .i64), .cell (.slice 9), .cell (.int .i64), .cell (.int .i64), .cell (.int .i64), .cell (.str), .cell (.bool), .cell (.int .i64), .cell (.slice 120), .cell (.int .i64), .cell (.int .u8), .cell (.bool), .cell (.int .i64), .cell (.int .i64), .cell (.int .i64)], .var [.int .u8, .str, .int .i64, .int .i64, .any, .int .i64, .int .i64, .int .i64, .str, .bool, .int .i64, .any, .int .i64, .int .u8, .bool, .int .i64, .int .i64, .int .i64] [.cell (.int .u8), .cell (.str), .cell (.int .i64), .cell (.int .i64), .cell (.slice 9), .cell (.int .i64), .cell (.int .i64), .cell (.int .i64), .cell (.str), .cell (.bool), .cell (.int .i64), .cell (.slice 120), .cell (.int .i64), .cell (.int .u8), .cell (.bool), .cell (.int .i64), .cell (.int .i64), .cell (.int .i64)]]⟩, fun st => [0, 1, 2], fun s => .nx ((Eng.look s.env 10).toB) (((s.mem.getD 0 .dead).cells.getD 0 .top).rows) (((s.mem.getD 0 .dead).cells.getD 1 .top).rows) (((s.mem.getD 0 .dead).cells.getD 2 .top).rows) (((s.mem.getD 0 .dead).cells.getD 3 .top).rows) (((s.mem.getD 0 .dead).cells.getD 4 .top).rows) (((s.mem.getD 1 .dead).cells.getD 0 .top).toI) (((s.mem.getD 1 .dead).cells.getD 1 .top).toS) (((s.mem.getD 1 .dead).cells.getD 2 .top).toI) (((s.mem.getD 1 .dead).cells.getD 3 .top).toI) (((s.mem.getD 1 .dead).cells.getD 4 .top).rows) (((s.mem.getD 1 .dead).cells.getD 5 .top).toI) (((s.mem.getD 1 .dead).cells.getD 6 .top).toI) (((s.mem.getD 1 .dead).cells.getD 7 .top).toI) (((s.mem.getD 1 .dead).cells.getD 8 .top).toS) (((s.mem.getD 1 .dead).cells.getD 9 .top).toB) (((s.mem.getD 1 .dead).cells.getD 10 .top).toI) (((s.mem.getD 1 .dead).cells.getD 11 .top).rows) (((s.mem.getD 1 .dead).cells.getD 12 .top).toI) (((s.mem.getD 1 .dead).cells.getD 13 .top).toI) (((s.mem.getD 1 .dead).cells.getD 14 .top).toB) (((s.mem.getD 1 .dead).cells.getD 15 .top).toI) (((s.mem.getD 1 .dead).cells.getD 16 .top).toI) (((s.mem.getD 1 .dead).cells.getD 17 .top).toI) (((s.mem.getD 2 .dead).cells.getD 0 .top).toI) (((s.mem.getD 2 .dead).cells.getD 1 .top).toS) (((s.mem.getD 2 .dead).cells.getD 2 .top).toI) (((s.mem.getD 2 .dead).cells.getD 3 .top).toI) (((s.mem.getD 2 .dead).cells.getD 4 .top).rows) (((s.mem.getD 2 .dead).cells.getD 5 .top).toI) (((s.mem.getD 2 .dead).cells.getD 6 .top).toI) (((s.mem.getD 2 .dead).cells.getD 7 .top).toI) (((s.mem.getD 2 .dead).cells.getD 8 .top).toS) (((s.mem.getD 2 .dead).cells.getD 9 .top).toB) (((s.mem.getD 2 .dead).cells.getD 10 .top).toI) (((s.mem.getD 2 .dead).cells.getD 11 .top).rows) (((s.mem.getD 2 .dead).cells.getD 12 .top).toI) (((s.mem.getD 2 .dead).cells.getD 13 .top).toI) (((s.mem.getD 2 .dead).cells.getD 14 .top).toB) (((s.mem.getD 2 .dead).cells.getD 15 .top).toI) (((s.mem.getD 2 .dead).cells.getD 16 .top).toI) (((s.mem.getD 2 .dead).cells.getD 17 .top).toI)⟩
def xsJ41a126 : Ex → St → Option (XSh OJ41a126) := fun e st => match e with
  | .normal => some xJ41a126wnx
  | _ => none
def exJ41a126 (o : OJ41a126) : Ex := match o with | .nx x10 b0c0 b0c1 b0c2 b0c3 b0c4 b1c0 b1c1 b1c2 b1c3 b1c4 b1c5 b1c6 b1c7 b1c8 b1c9 b1c10 b1c11 b1c12 b1c13 b1c14 b1c15 b1c16 b1c17 b2c0 b2c1 b2c2 b2c3 b2c4 b2c5 b2c6 b2c7 b2c8 b2c9 b2c10 b2c11 b2c12 b2c13 b2c14 b2c15 b2c16 b2c17 => .normal
def stJ41a126 (o : OJ41a126) : St := match o with | .nx x10 b0c0 b0c1 b0c2 b0c3 b0c4 b1c0 b1c1 b1c2 b1c3 b1c4 b1c5 b1c6 b1c7 b1c8 b1c9 b1c10 b1c11 b1c12 b1c13 b1c14 b1c15 b1c16 b1c17 b2c0 b2c1 b2c2 b2c3 b2c4 b2c5 b2c6 b2c7 b2c8 b2c9 b2c10 b2c11 b2c12 b2c13 b2c14 b2c15 b2c16 b2c17 => ⟨[(10, .bool x10)], [.var [.any, .any, .any, .any, .any] [.list 58 b0c0, .list 74 b0c1, .list 45 b0c2, .list 113 b0c3, .list 117 b0c4], .var [.int .u8, .str, .int .i64, .int .i64, .any, .int .i64, .int .i64, .int .i64, .str, .bool, .int .i64, .any, .int .i64, .int .u8, .bool, .int .i64, .int .i64, .int .i64] [.int .u8 b1c0, .str b1c1, .int .i64 b1c2, .int .i64 b1c3, .list 9 b1c4, .int .i64 b1c5, .int .i64 b1c6, .int .i64 b1c7, .str b1c8, .bool b1c9, .int .i64 b1c10, .list 120 b1c11, .int .i64 b1c12, .int .u8 b1c13, .bool b1c14, .int .i64 b1c15, .int .i64 b1c16, .int .i64 b1c17], .var [.int .u8, .str, .int .i64, .int .i64, .any, .int .i64, .int .i64, .int .i64, .str, .bool, .int .i64, .any, .int .i64, .int .u8, .bool, .int .i64, .int .i64, .int .i64] [.int .u8 b2c0, .str b2c1, .int .i64 b2c2, .int .i64 b2c3, .list 9 b2c4, .int .i64 b2c5, .int .i64 b2c6, .int .i64 b2c7, .str b2c8, .bool b2c9, .int .i64 b2c10, .list 120 b2c11, .int .i64 b2c12, .int .u8 b2c13, .bool b2c14, .int .i64 b2c15, .int .i64 b2c16, .int .i64 b2c17]], [], .unk⟩
def elJ41a126 {R : Type} (o : OJ41a126) (k : Ex → St → Option R) : Option R := match o with | .nx x10 b0c0 b0c1 b0c2 b0c3 b0c4 b1c0 b1c1 b1c2 b1c3 b1c4 b1c5 b1c6 b1c7 b1c8 b1c9 b1c10 b1c11 b1c12 b1c13 b1c14 b1c15 b1c16 b1c17 b2c0 b2c1 b2c2 b2c3 b2c4 b2c5 b2c6 b2c7 b2c8 b2c9 b2c10 b2c11 b2c12 b2c13 b2c14 b2c15 b2c16 b2c17 => k .normal ⟨[(10, .bool x10)], [.var [.any, .any, .any, .any, .any] [.list 58 b0c0, .list 74 b0c1, .list 45 b0c2, .list 113 b0c3, .list 117 b0c4], .var [.int .u8, .str, .int .i64, .int .i64, .any, .int .i64, .int .i64, .int .i64, .str, .bool, .int .i64, .any, .int .i64, .int .u8, .bool, .int .i64, .int .i64, .int .i64] [.int .u8 b1c0, .str b1c1, .int .i64 b1c2, .int .i64 b1c3, .list 9 b1c4, .int .i64 b1c5, .int .i64 b1c6, .int .i64 b1c7, .str b1c8, .bool b1c9, .int .i64 b1c10, .list 120 b1c11, .int .i64 b1c12, .int .u8 b1c13, .bool b1c14, .int .i64 b1c15, .int .i64 b1c16, .int .i64 b1c17], .var [.int .u8, .str, .int .i64, .int .i64, .any, .int .i64, .int .i64, .int .i64, .str, .bool, .int .i64, .any, .int .i64, .int .u8, .bool, .int .i64, .int .i64, .int .i64] [.int .u8 b2c0, .str b2c1, .int .i64 b2c2, .int .i64 b2c3, .list 9 b2c4, .int .i64 b2c5, .int .i64 b2c6, .int .i64 b2c7, .str b2c8, .bool b2c9, .int .i64 b2c10, .list 120 b2c11, .int .i64 b2c12, .int .u8 b2c13, .bool b2c14, .int .i64 b2c15, .int .i64 b2c16, .int .i64 b2c17]], [], .unk⟩
theorem heJ41a126 {R : Type} (o : OJ41a126) (k : Ex → St → Option R) : elJ41a126 o k = k (exJ41a126 o) (stJ41a126 o) := by cases o <;> rfl
theorem hxJ41a126 : ∀ e st x, xsJ41a126 e st = some x → outOk x e exJ41a126 stJ41a126 := by
  intro e st x h
  unfold xsJ41a126 at h
  repeat' split at h
  all_goals first
    | (injection h with h; subst h; exact fun lk M => ⟨rfl, rfl⟩)
    | cases h
noncomputable def T41uc126 (N : Nat) (R : Type) : LTab R := mkTab ⟨97, 1180582613518156563456⟩ (csF41 N R) (noY) [] [] []
theorem okT41uc126 (N : Nat) (R : Type) : (T41uc126 N R).Ok CX code41 := mkTab_ok (hcsF41 N R) (noY_ok) (trivial) (trivial) (trivial)
noncomputable def bdJ41a126 : Code := (codeAt code41 [false, true, true, true, true, true]).getD .skip
theorem hsJ41a126 (N : Nat) : ∀ (lk : Nat → AV) (M : List Blk), LFJ41a126 N (canS sgJ41a126 lk M) = evk CX (T41uc126 N OJ41a126) bdJ41a126 126 (canS sgJ41a126 lk M) (kontX CX 3 xsJ41a126) := by intro lk M; kernel_rfl
noncomputable def T41ur1 (N : Nat) (R : Type) : LTab R := mkTab ⟨97, 158456325028528675187087900671⟩ (csF41 N R) (noY) [] [] [(6, fun st k => callLoop CX 1 33552448 ceJ41a6 sgJ41a6 seJ41a6 ⟨97, 158456325028528675187087900671⟩ (LFJ41a6 N) elJ41a6 st k), (62, fun st k => callLoop CX 2 9007164895003136 ceJ41a62 sgJ41a62 seJ41a62 ⟨97, 158456325028528675187087900671⟩ (LFJ41a62 N) elJ41a62 st k), (126, fun st k => callLoop CX 3 1180582613518156563456 ceJ41a126 sgJ41a126 seJ41a126 ⟨97, 158456325028528675187087900671⟩ (LFJ41a126 N) elJ41a126 st k)]
theorem okT41ur1 (N : Nat) (R : Type) : (T41ur1 N R).Ok CX code41 := mkTab_ok (hcsF41 N R) (noY_ok) (trivial) (trivial) (⟨cut_ok hX (path := [false, true]) (by kernel_rfl) (by rfl) (okT41uc6 N OJ41a6) (hsJ41a6 N) hxJ41a6 rfl heJ41a6, cut_ok hX (path := [false, true, true, true, true]) (by kernel_rfl) (by rfl) (okT41uc62 N OJ41a62) (hsJ41a62 N) hxJ41a62 rfl heJ41a62, cut_ok hX (path := [false, true, true, true, true, true]) (by kernel_rfl) (by rfl) (okT41uc126 N OJ41a126) (hsJ41a126 N) hxJ41a126 rfl heJ41a126, trivial⟩)
def rsF41 : List ResultVar := [.tmp 6]
def F41 : Nat → TF41
  | 0 => fun _ _ _ _ _ _ _ => none
  | N + 1 => fun x0c0 x0c1 x0c2 x0c3 x0c4 x1 x2 =>
    match J41a6 N x1 x2 x0c0 x0c1 x0c2 x0c3 x0c4 with
    | none => none
    | some (.nx b0c0v3 b0c1v3 b0c2v3 b0c3v3 b0c4v3) =>
      tst (decide ((0 : Int) ≤ x1) && decide (x1 < ((b0c0v3.length : Int)))) <|
      tst (decide ((0 : Int) ≤ x2) && decide (x2 < ((b0c0v3.length : Int)))) <|
      match J41a62 N ((((b0c0v3.getD x1.toNat [])).getD 0 .top).toI) ((((b0c0v3.getD x1.toNat [])).getD 1 .top).toS) ((((b0c0v3.getD x1.toNat [])).getD 2 .top).toI) ((((b0c0v3.getD x1.toNat [])).getD 3 .top).toI) ((((b0c0v3.getD x1.toNat [])).getD 4 .top).rows) ((((b0c0v3.getD x1.toNat [])).getD 5 .top).toI) ((((b0c0v3.getD x1.toNat [])).getD 6 .top).toI) ((((b0c0v3.getD x1.toNat [])).getD 7 .top).toI) ((((b0c0v3.getD x1.toNat [])).getD 8 .top).toS) ((((b0c0v3.getD x1.toNat [])).getD 9 .top).toB) ((((b0c0v3.getD x1.toNat [])).getD 10 .top).toI) ((((b0c0v3.getD x1.toNat [])).getD 11 .top).rows) ((((b0c0v3.getD x1.toNat [])).getD 12 .top).toI) ((((b0c0v3.getD x1.toNat [])).getD 13 .top).toI) ((((b0c0v3.getD x1.toNat [])).getD 14 .top).toB) ((((b0c0v3.getD x1.toNat [])).getD 15 .top).toI) ((((b0c0v3.getD x1.toNat [])).getD 16 .top).toI) ((((b0c0v3.getD x1.toNat [])).getD 17 .top).toI) ((((b0c0v3.getD x2.toNat [])).getD 0 .top).toI) ((((b0c0v3.getD x2.toNat [])).getD 1 .top).toS) ((((b0c0v3.getD x2.toNat [])).getD 2 .top).toI) ((((b0c0v3.getD x2.toNat [])).getD 3 .top).toI) ((((b0c0v3.getD x2.toNat [])).getD 4 .top).rows) ((((b0c0v3.getD x2.toNat [])).getD 5 .top).toI) ((((b0c0v3.getD x2.toNat [])).getD 6 .top).toI) ((((b0c0v3.getD x2.toNat [])).getD 7 .top).toI) ((((b0c0v3.getD x2.toNat [])).getD 8 .top).toS) ((((b0c0v3.getD x2.toNat [])).getD 9 .top).toB) ((((b0c0v3.getD x2.toNat [])).getD 10 .top).toI) ((((b0c0v3.getD x2.toNat [])).getD 11 .top).rows) ((((b0c0v3.getD x2.toNat [])).getD 12 .top).toI) ((((b0c0v3.getD x2.toNat [])).getD 13 .top).toI) ((((b0c0v3.getD x2.toNat [])).getD 14 .top).toB) ((((b0c0v3.getD x2.toNat [])).getD 15 .top).toI) ((((b0c0v3.getD x2.toNat [])).getD 16 .top).toI) ((((b0c0v3.getD x2.toNat [])).getD 17 .top).toI) with
      | none => none
      | some (.nx x9v4 b0c0v4 b0c1v4 b0c2v4 b0c3v4 b0c4v4 b0c5v4 b0c6v4 b0c7v4 b0c8v4 b0c9v4 b0c10v4 b0c11v4 b0c12v4 b0c13v4 b0c14v4 b0c15v4 b0c16v4 b0c17v4 b1c0v4 b1c1v4 b1c2v4 b1c3v4 b1c4v4 b1c5v4 b1c6v4 b1c7v4 b1c8v4 b1c9v4 b1c10v4 b1c11v4 b1c12v4 b1c13v4 b1c14v4 b1c15v4 b1c16v4 b1c17v4) =>
        match J41a126 N x1 x2 b0c0v3 b0c1v3 b0c2v3 b0c3v3 b0c4v3 b0c0v4 b0c1v4 b0c2v4 b0c3v4 b0c4v4 b0c5v4 b0c6v4 b0c7v4 b0c8v4 b0c9v4 b0c10v4 b0c11v4 b0c12v4 b0c13v4 b0c14v4 b0c15v4 b0c16v4 b0c17v4 b1c0v4 b1c1v4 b1c2v4 b1c3v4 b1c4v4 b1c5v4 b1c6v4 b1c7v4 b1c8v4 b1c9v4 b1c10v4 b1c11v4 b1c12v4 b1c13v4 b1c14v4 b1c15v4 b1c16v4 b1c17v4 with
        | none => none
        | some (.nx x10v7 b0c0v7 b0c1v7 b0c2v7 b0c3v7 b0c4v7 b1c0v7 b1c1v7 b1c2v7 b1c3v7 b1c4v7 b1c5v7 b1c6v7 b1c7v7 b1c8v7 b1c9v7 b1c10v7 b1c11v7 b1c12v7 b1c13v7 b1c14v7 b1c15v7 b1c16v7 b1c17v7 b2c0v7 b2c1v7 b2c2v7 b2c3v7 b2c4v7 b2c5v7 b2c6v7 b2c7v7 b2c8v7 b2c9v7 b2c10v7 b2c11v7 b2c12v7 b2c13v7 b2c14v7 b2c15v7 b2c16v7 b2c17v7) =>
          match x1 == x2 with
          | true =>
            some (.r true)
          | false =>
            match x9v4 with
            | true =>
              some (.r true)
            | false =>
              match x10v7 with
              | true =>
                some (.r true)
              | false =>
                match b1c0v7 == (6 : Int) with
                | true =>
                  match b2c0v7 == (6 : Int) with
                  | true =>
                    match F36 N b0c0v7 b0c1v7 b0c2v7 b0c3v7 b0c4v7 b1c12v7 b2c12v7 with
                    | none => none
                    | some (.r rx0v8) =>
                      some (.r rx0v8)
                  | false =>
                    some (.r false)
                | false =>
                  some (.r false)
    | some (.ret x6v9 b0c0v9 b0c1v9 b0c2v9 b0c3v9 b0c4v9) =>
      some (.r x6v9)
def xRF41 : XSh R41 := ⟨[], ⟨[(0, .one (.cell (.bool)))], []⟩, fun _ => [], fun s => .r ((Eng.look s.env 0).toB)⟩
theorem fsF41 : ∀ (N : Nat) (lk : Nat → AV) (M : List Blk), FFF41 (F41 (N + 1)) (canS sgF41 lk M) = evfn CX (T41ur1 N R41) code41 rsF41 (argsE 3 (canS sgF41 lk M).env) (canS sgF41 lk M).mem (goR CX 0 (fun _ => some xRF41)) := by intro N lk M; kernel_rfl
theorem soundF41 : ∀ N, RecOkF41 (F41 N)
  | 0, lk, M, o, h => by cases h
  | N + 1, lk, M, o, h => fn_sound hX (okT41ur1 N R41) Tryd.func41 hb41 rfl en41 (by kernel_rfl) (ys := fun _ => some xRF41) (fun st y h => by injection h with h; subst h; exact fun lk M => ⟨rfl, rfl⟩) ((fsF41 N lk M).symm.trans h)
def cvce41n0 : List Cv := []
def selce41n0 : St → List Nat := fun _ => []
noncomputable def ce41n0 (Fx : TF41) (R : Type) (test : List AV → List Blk → Bool) : CE R := ⟨41, test, fun args M => some (selce41n0 ⟨argEnv 0 args, M, [], .unk⟩), fun args M k => tst (Nat.beq args.length 3) (callFn CX 0 cvce41n0 sgF41 selce41n0 (FFF41 Fx) elF41 args M k)⟩
theorem okce41n0 (Fx : TF41) (h : RecOkF41 Fx) (R : Type) (test : List AV → List Blk → Bool) : CeOk CX (ce41n0 Fx R test) := ce_ok hX (fun o k => by cases o; rfl) h en41 (fun args M ids h => by injection h with h; exact ⟨rfl, h.symm⟩)
end Go.Proofs.YtdennlgnbecojaaDoor

namespace Go.Proofs.YtdennlgnbecojaaDoor
open Go Go.Eng
set_option maxRecDepth 100000

/-! ### F19: ceiling/ceilingref12.Convert -/
inductive R19 where
  | r (x0 : Int)
abbrev TF19 := List Row → List Row → List Row → List Row → List Row → Int → Int → Option R19
def sgF19 : LSh := ⟨[(0, .agg [.cell (.slice 58), .cell (.slice 74), .cell (.slice 45), .cell (.slice 113), .cell (.slice 117)]), (1, .one (.cell (.int .i64))), (2, .one (.cell (.int .i64)))], []⟩
def FFF19 (Fx : TF19) (s : St) : Option R19 := Fx (((Eng.look s.env 0).cells.getD 0 .top).rows) (((Eng.look s.env 0).cells.getD 1 .top).rows) (((Eng.look s.env 0).cells.getD 2 .top).rows) (((Eng.look s.env 0).cells.getD 3 .top).rows) (((Eng.look s.env 0).cells.getD 4 .top).rows) ((Eng.look s.env 1).toI) ((Eng.look s.env 2).toI)
def valF19 (o : R19) : AV := match o with | .r x0 => .int .i64 x0
def memF19 (o : R19) : List Blk := match o with | .r x0 => []
def elF19 {R : Type} (o : R19) (k : AV → List Blk → Option R) : Option R := match o with | .r x0 => k (.int .i64 x0) []
def RecOkF19 (Fx : TF19) : Prop := ∀ lk M o, FFF19 Fx (canS sgF19 lk M) = some o → FCalls CX 19 0 (argsE 3 (canS sgF19 lk M).env) (canS sgF19 lk M).mem (valF19 o) (memF19 o)
noncomputable def csF19 (N : Nat) (R : Type) : List (CE R) := [ce34n0 (F34 N) R (fun _ _ => true), ce41n0 (F41 N) R (fun _ _ => true)]
theorem hcsF19 (N : Nat) (R : Type) : AllE (CeOk CX) (csF19 N R) := ⟨okce34n0 (F34 N) (soundF34 N) R (fun _ _ => true), okce41n0 (F41 N) (soundF41 N) R (fun _ _ => true), trivial⟩
inductive OJ19a30 where
  | nx
  | ret (x6 : Int)
def J19a30 (N : Nat) : Bool → Bool → Option OJ19a30 := fun x7 x9 =>
    match !x7 with
    | true =>
      some (.ret 2)
    | false =>
      match !x9 with
      | true =>
        some (.ret 2)
      | false =>
        some .nx
def LFJ19a30 (N : Nat) (s : St) : Option OJ19a30 := J19a30 N ((Eng.look s.env 7).toB) ((Eng.look s.env 9).toB)
def sgJ19a30 : LSh := ⟨[(7, .one (.cell (.bool))), (9, .one (.cell (.bool)))], []⟩
def ceJ19a30 : List Cv := []
def seJ19a30 : St → List Nat := fun _ => []
def xJ19a30wnx : XSh OJ19a30 := ⟨[], ⟨[], []⟩, fun _ => [], fun s => .nx ⟩
def xJ19a30wret : XSh OJ19a30 := ⟨[], ⟨[(6, .one (.cell (.int .i64)))], []⟩, fun _ => [], fun s => .ret ((Eng.look s.env 6).toI)⟩
def xsJ19a30 : Ex → St → Option (XSh OJ19a30) := fun e st => match e with
  | .normal => some xJ19a30wnx
  | .ret => some xJ19a30wret
  | _ => none
def exJ19a30 (o : OJ19a30) : Ex := match o with | .nx => .normal | .ret x6 => .ret
def stJ19a30 (o : OJ19a30) : St := match o with | .nx => ⟨[], [], [], .unk⟩ | .ret x6 => ⟨[(6, .int .i64 x6)], [], [], .unk⟩
def elJ19a30 {R : Type} (o : OJ19a30) (k : Ex → St → Option R) : Option R := match o with | .nx => k .normal ⟨[], [], [], .unk⟩ | .ret x6 => k .ret ⟨[(6, .int .i64 x6)], [], [], .unk⟩
theorem heJ19a30 {R : Type} (o : OJ19a30) (k : Ex → St → Option R) : elJ19a30 o k = k (exJ19a30 o) (stJ19a30 o) := by cases o <;> rfl
theorem hxJ19a30 : ∀ e st x, xsJ19a30 e st = some x → outOk x e exJ19a30 stJ19a30 := by
  intro e st x h
  unfold xsJ19a30 at h
  repeat' split at h
  all_goals first
    | (injection h with h; subst h; exact fun lk M => ⟨rfl, rfl⟩)
    | cases h
noncomputable def T19uc30 (N : Nat) (R : Type) : LTab R := mkTab ⟨55, 528482368⟩ (csF19 N R) (noY) [] [] []
theorem okT19uc30 (N : Nat) (R : Type) : (T19uc30 N R).Ok CX code19 := mkTab_ok (hcsF19 N R) (noY_ok) (trivial) (trivial) (trivial)
noncomputable def bdJ19a30 : Code := (codeAt code19 [false, true, true, true]).getD .skip
theorem hsJ19a30 (N : Nat) : ∀ (lk : Nat → AV) (M : List Blk), LFJ19a30 N (canS sgJ19a30 lk M) = evk CX (T19uc30 N OJ19a30) bdJ19a30 30 (canS sgJ19a30 lk M) (kontX CX 0 xsJ19a30) := by intro lk M; kernel_rfl
inductive OJ19a62 where
  | nx (b0c0 : List Row) (b0c1 : List Row) (b0c2 : List Row) (b0c3 : List Row) (b0c4 : List Row)
  | ret (x6 : Int) (b0c0 : List Row) (b0c1 : List Row) (b0c2 : List Row) (b0c3 : List Row) (b0c4 : List Row)
def J19a62 (N : Nat) : Int → Int → Bool → Bool → List Row → List Row → List Row → List Row → List Row → Option OJ19a62 := fun x1 x2 x8 x10 b0c0 b0c1 b0c2 b0c3 b0c4 =>
    match !x8 with
    | true =>
      some (.ret 90 b0c0 b0c1 b0c2 b0c3 b0c4)
    | false =>
      match !x10 with
      | true =>
        some (.ret 90 b0c0 b0c1 b0c2 b0c3 b0c4)
      | false =>
        match F41 N b0c0 b0c1 b0c2 b0c3 b0c4 x1 x2 with
        | none => none
        | some (.r rx0v4) =>
          match !rx0v4 with
          | true =>
            some (.ret 90 b0c0 b0c1 b0c2 b0c3 b0c4)
          | false =>
            some (.nx b0c0 b0c1 b0c2 b0c3 b0c4)
def LFJ19a62 (N : Nat) (s : St) : Option OJ19a62 := J19a62 N ((Eng.look s.env 1).toI) ((Eng.look s.env 2).toI) ((Eng.look s.env 8).toB) ((Eng.look s.env 10).toB) (((s.mem.getD 0 .dead).cells.getD 0 .top).rows) (((s.mem.getD 0 .dead).cells.getD 1 .top).rows) (((s.mem.getD 0 .dead).cells.getD 2 .top).rows) (((s.mem.getD 0 .dead).cells.getD 3 .top).rows) (((s.mem.getD 0 .dead).cells.getD 4 .top).rows)
def sgJ19a62 : LSh := ⟨[(1, .one (.cell (.int .i64))), (2, .one (.cell (.int .i64))), (3, .one (.ptr 0 0 0)), (8, .one (.cell (.bool))), (10, .one (.cell (.bool)))], [.var [.any, .any, .any, .any, .any] [.cell (.slice 58), .cell (.slice 74), .cell (.slice 45), .cell (.slice 113), .cell (.slice 117)]]⟩
def ceJ19a62 : List Cv := []
def seJ19a62 : St → List Nat := fun st => [(Eng.look st.env 3).id]
def xJ19a62wnx : XSh OJ19a62 := ⟨[], ⟨[], [.var [.any, .any, .any, .any, .any] [.cell (.slice 58), .cell (.slice 74), .cell (.slice 45), .cell (.slice 113), .cell (.slice 117)]]⟩, fun st => [0], fun s => .nx (((s.mem.getD 0 .dead).cells.getD 0 .top).rows) (((s.mem.getD 0 .dead).cells.getD 1 .top).rows) (((s.mem.getD 0 .dead).cells.getD 2 .top).rows) (((s.mem.getD 0 .dead).cells.getD 3 .top).rows) (((s.mem.getD 0 .dead).cells.getD 4 .top).rows)⟩
def xJ19a62wret : XSh OJ19a62 := ⟨[], ⟨[(6, .one (.cell (.int .i64)))], [.var [.any, .any, .any, .any, .any] [.cell (.slice 58), .cell (.slice 74), .cell (.slice 45), .cell (.slice 113), .cell (.slice 117)]]⟩, fun st => [0], fun s => .ret ((Eng.look s.env 6).toI) (((s.mem.getD 0 .dead).cells.getD 0 .top).rows) (((s.mem.getD 0 .dead).cells.getD 1 .top).rows) (((s.mem.getD 0 .dead).cells.getD 2 .top).rows) (((s.mem.getD 0 .dead).cells.getD 3 .top).rows) (((s.mem.getD 0 .dead).cells.getD 4 .top).rows)⟩
def xsJ19a62 : Ex → St → Option (XSh OJ19a62) := fun e st => match e with
  | .normal => some xJ19a62wnx
  | .ret => some xJ19a62wret
  | _ => none
def exJ19a62 (o : OJ19a62) : Ex := match o with | .nx b0c0 b0c1 b0c2 b0c3 b0c4 => .normal | .ret x6 b0c0 b0c1 b0c2 b0c3 b0c4 => .ret
def stJ19a62 (o : OJ19a62) : St := match o with | .nx b0c0 b0c1 b0c2 b0c3 b0c4 => ⟨[], [.var [.any, .any, .any, .any, .any] [.list 58 b0c0, .list 74 b0c1, .list 45 b0c2, .list 113 b0c3, .list 117 b0c4]], [], .unk⟩ | .ret x6 b0c0 b0c1 b0c2 b0c3 b0c4 => ⟨[(6, .int .i64 x6)], [.var [.any, .any, .any, .any, .any] [.list 58 b0c0, .list 74 b0c1, .list 45 b0c2, .list 113 b0c3, .list 117 b0c4]], [], .unk⟩
def elJ19a62 {R : Type} (o : OJ19a62) (k : Ex → St → Option R) : Option R := match o with | .nx b0c0 b0c1 b0c2 b0c3 b0c4 => k .normal ⟨[], [.var [.any, .any, .any, .any, .any] [.list 58 b0c0, .list 74 b0c1, .list 45 b0c2, .list 113 b0c3, .list 117 b0c4]], [], .unk⟩ | .ret x6 b0c0 b0c1 b0c2 b0c3 b0c4 => k .ret ⟨[(6, .int .i64 x6)], [.var [.any, .any, .any, .any, .any] [.list 58 b0c0, .list 74 b0c1, .list 45 b0c2, .list 113 b0c3, .list 117 b0c4]], [], .unk⟩
theorem heJ19a62 {R : Type} (o : OJ19a62) (k : Ex → St → Option R) : elJ19a62 o k = k (exJ19a62 o) (stJ19a62 o) := by cases o <;> rfl
theorem hxJ19a62 : ∀ e st x, xsJ19a62 e st = some x → outOk x e exJ19a62 stJ19a62 := by
  intro e st x h
  unfold xsJ19a62 at h
  repeat' split at h
  all_goals first
    | (injection h with h; subst h; exact fun lk M => ⟨rfl, rfl⟩)
    | cases h
noncomputable def T19uc62 (N : Nat) (R : Type) : LTab R := mkTab ⟨55, 4397509640256⟩ (csF19 N R) (noY) [] [] []
theorem okT19uc62 (N : Nat) (R : Type) : (T19uc62 N R).Ok CX code19 := mkTab_ok (hcsF19 N R) (noY_ok) (trivial) (trivial) (trivial)
noncomputable def bdJ19a62 : Code := (codeAt code19 [false, true, true, true, true]).getD .skip
theorem hsJ19a62 (N : Nat) : ∀ (lk : Nat → AV) (M : List Blk), LFJ19a62 N (canS sgJ19a62 lk M) = evk CX (T19uc62 N OJ19a62) bdJ19a62 62 (canS sgJ19a62 lk M) (kontX CX 1 xsJ19a62) := by intro lk M; kernel_rfl
noncomputable def T19ur1 (N : Nat) (R : Type) : LTab R := mkTab ⟨55, 36028797018963967⟩ (csF19 N R) (noY) [] [] [(30, fun st k => callLoop CX 0 528482368 ceJ19a30 sgJ19a30 seJ19a30 ⟨55, 36028797018963967⟩ (LFJ19a30 N) elJ19a30 st k), (62, fun st k => callLoop CX 1 4397509640256 ceJ19a62 sgJ19a62 seJ19a62 ⟨55, 36028797018963967⟩ (LFJ19a62 N) elJ19a62 st k)]
theorem okT19ur1 (N : Nat) (R : Type) : (T19ur1 N R).Ok CX code19 := mkTab_ok (hcsF19 N R) (noY_ok) (trivial) (trivial) (⟨cut_ok hX (path := [false, true, true, true]) (by kernel_rfl) (by rfl) (okT19uc30 N OJ19a30) (hsJ19a30 N) hxJ19a30 rfl heJ19a30, cut_ok hX (path := [false, true, true, true, true]) (by kernel_rfl) (by rfl) (okT19uc62 N OJ19a62) (hsJ19a62 N) hxJ19a62 rfl heJ19a62, trivial⟩)
def rsF19 : List ResultVar := [.tmp 6]
def F19 : Nat → TF19
  | 0 => fun _ _ _ _ _ _ _ => none
  | N + 1 => fun x0c0 x0c1 x0c2 x0c3 x0c4 x1 x2 =>
    match F34 N x0c0 x0c1 x0c2 x0c3 x0c4 x1 with
    | none => none
    | some (.r rx0v1 rx1v1) =>
      match F34 N x0c0 x0c1 x0c2 x0c3 x0c4 x2 with
      | none => none
      | some (.r rx0v2 rx1v2) =>
        match J19a30 N rx0v1 rx0v2 with
        | none => none
        | some (.nx) =>
          match J19a62 N x1 x2 rx1v1 rx1v2 x0c0 x0c1 x0c2 x0c3 x0c4 with
          | none => none
          | some (.nx b0c0v5 b0c1v5 b0c2v5 b0c3v5 b0c4v5) =>
            tst (decide ((0 : Int) ≤ x1) && decide (x1 < ((b0c0v5.length : Int)))) <|
            tst (decide ((0 : Int) ≤ x2) && decide (x2 < ((b0c0v5.length : Int)))) <|
            match decide (((((b0c0v5.getD x2.toNat [])).getD 17 .top).toI) < ((((b0c0v5.getD x1.toNat [])).getD 17 .top).toI)) with
            | true =>
              some (.r 120)
            | false =>
              some (.r 0)
          | some (.ret x6v6 b0c0v6 b0c1v6 b0c2v6 b0c3v6 b0c4v6) =>
            some (.r x6v6)
        | some (.ret x6v7) =>
          some (.r x6v7)
def xRF19 : XSh R19 := ⟨[], ⟨[(0, .one (.cell (.int .i64)))], []⟩, fun _ => [], fun s => .r ((Eng.look s.env 0).toI)⟩
theorem fsF19 : ∀ (N : Nat) (lk : Nat → AV) (M : List Blk), FFF19 (F19 (N + 1)) (canS sgF19 lk M) = evfn CX (T19ur1 N R19) code19 rsF19 (argsE 3 (canS sgF19 lk M).env) (canS sgF19 lk M).mem (goR CX 0 (fun _ => some xRF19)) := by intro N lk M; kernel_rfl
theorem soundF19 : ∀ N, RecOkF19 (F19 N)
  | 0, lk, M, o, h => by cases h
  | N + 1, lk, M, o, h => fn_sound hX (okT19ur1 N R19) Tryd.func19 hb19 rfl en19 (by kernel_rfl) (ys := fun _ => some xRF19) (fun st y h => by injection h with h; subst h; exact fun lk M => ⟨rfl, rfl⟩) ((fsF19 N lk M).symm.trans h)
def cvce19n0 : List Cv := []
def selce19n0 : St → List Nat := fun _ => []
noncomputable def ce19n0 (Fx : TF19) (R : Type) (test : List AV → List Blk → Bool) : CE R := ⟨19, test, fun args M => some (selce19n0 ⟨argEnv 0 args, M, [], .unk⟩), fun args M k => tst (Nat.beq args.length 3) (callFn CX 0 cvce19n0 sgF19 selce19n0 (FFF19 Fx) elF19 args M k)⟩
theorem okce19n0 (Fx : TF19) (h : RecOkF19 Fx) (R : Type) (test : List AV → List Blk → Bool) : CeOk CX (ce19n0 Fx R test) := ce_ok hX (fun o k => by cases o; rfl) h en19 (fun args M ids h => by injection h with h; exact ⟨rfl, h.symm⟩)
end Go.Proofs.YtdennlgnbecojaaDoor

namespace Go.Proofs.YtdennlgnbecojaaDoor
open Go Go.Eng
set_option maxRecDepth 100000

/-! ### F4: ceiling/ceilinglaw12.LevelChecks -/
inductive R4 where
  | r (x0 : Bool)
abbrev TF4 := List Row → List Row → List Row → List Row → List Row → Int → Int → Int → Option R4
def sgF4 : LSh := ⟨[(0, .agg [.cell (.slice 58), .cell (.slice 74), .cell (.slice 45), .cell (.slice 113), .cell (.slice 117)]), (1, .one (.cell (.int .i64))), (2, .one (.cell (.int .i64))), (3, .one (.cell (.int .i64)))], []⟩
def FFF4 (Fx : TF4) (s : St) : Option R4 := Fx (((Eng.look s.env 0).cells.getD 0 .top).rows) (((Eng.look s.env 0).cells.getD 1 .top).rows) (((Eng.look s.env 0).cells.getD 2 .top).rows) (((Eng.look s.env 0).cells.getD 3 .top).rows) (((Eng.look s.env 0).cells.getD 4 .top).rows) ((Eng.look s.env 1).toI) ((Eng.look s.env 2).toI) ((Eng.look s.env 3).toI)
def valF4 (o : R4) : AV := match o with | .r x0 => .bool x0
def memF4 (o : R4) : List Blk := match o with | .r x0 => []
def elF4 {R : Type} (o : R4) (k : AV → List Blk → Option R) : Option R := match o with | .r x0 => k (.bool x0) []
def RecOkF4 (Fx : TF4) : Prop := ∀ lk M o, FFF4 Fx (canS sgF4 lk M) = some o → FCalls CX 4 0 (argsE 4 (canS sgF4 lk M).env) (canS sgF4 lk M).mem (valF4 o) (memF4 o)
noncomputable def csF4 (N : Nat) (R : Type) : List (CE R) := [ce8n0 (F8 N) R (fun _ _ => true), ce9n0 (F9 N) R (fun _ _ => true), ce16v1n0 (F16v1 N) R (fun _ _ => true), ce17n0 (F17 N) R (fun _ _ => true), ce18v1n0 (F18v1 N) R (fun _ _ => true), ce19n0 (F19 N) R (fun _ _ => true)]
theorem hcsF4 (N : Nat) (R : Type) : AllE (CeOk CX) (csF4 N R) := ⟨okce8n0 (F8 N) (soundF8 N) R (fun _ _ => true), okce9n0 (F9 N) (soundF9 N) R (fun _ _ => true), okce16v1n0 (F16v1 N) (soundF16v1 N) R (fun _ _ => true), okce17n0 (F17 N) (soundF17 N) R (fun _ _ => true), okce18v1n0 (F18v1 N) (soundF18v1 N) R (fun _ _ => true), okce19n0 (F19 N) (soundF19 N) R (fun _ _ => true), trivial⟩
noncomputable def T4ur1 (N : Nat) (R : Type) : LTab R := mkTab ⟨35, 34359738367⟩ (csF4 N R) (noY) [] [] []
theorem okT4ur1 (N : Nat) (R : Type) : (T4ur1 N R).Ok CX code4 := mkTab_ok (hcsF4 N R) (noY_ok) (trivial) (trivial) (trivial)
def rsF4 : List ResultVar := [.tmp 8]
def F4 : Nat → TF4
  | 0 => fun _ _ _ _ _ _ _ _ => none
  | N + 1 => fun x0c0 x0c1 x0c2 x0c3 x0c4 x1 x2 x3 =>
    match F8 N x0c0 x0c1 x0c2 x0c3 x0c4 with
    | none => none
    | some (.r rx0v1) =>
      match rx0v1 with
      | true =>
        match F9 N  with
        | none => none
        | some (.r rx0v2) =>
          some (.r rx0v2)
      | false =>
        match F16v1 N x0c0 x0c1 x0c2 x0c3 x0c4 x1 x2 with
        | none => none
        | some (.r rx0v3) =>
          match F17 N x0c0 x0c1 x0c2 x0c3 x0c4 x1 x2 with
          | none => none
          | some (.r rx0v4) =>
            match rx0v3 == rx0v4 with
            | true =>
              match F18v1 N x0c0 x0c1 x0c2 x0c3 x0c4 x2 x3 with
              | none => none
              | some (.r rx0v5) =>
                match F19 N x0c0 x0c1 x0c2 x0c3 x0c4 x2 x3 with
                | none => none
                | some (.r rx0v6) =>
                  match rx0v5 == rx0v6 with
                  | true =>
                    match F9 N  with
                    | none => none
                    | some (.r rx0v7) =>
                      some (.r rx0v7)
                  | false =>
                    some (.r false)
            | false =>
              some (.r false)
def xRF4 : XSh R4 := ⟨[], ⟨[(0, .one (.cell (.bool)))], []⟩, fun _ => [], fun s => .r ((Eng.look s.env 0).toB)⟩
theorem fsF4 : ∀ (N : Nat) (lk : Nat → AV) (M : List Blk), FFF4 (F4 (N + 1)) (canS sgF4 lk M) = evfn CX (T4ur1 N R4) code4 rsF4 (argsE 4 (canS sgF4 lk M).env) (canS sgF4 lk M).mem (goR CX 0 (fun _ => some xRF4)) := by intro N lk M; kernel_rfl
theorem soundF4 : ∀ N, RecOkF4 (F4 N)
  | 0, lk, M, o, h => by cases h
  | N + 1, lk, M, o, h => fn_sound hX (okT4ur1 N R4) Tryd.func4 hb4 rfl en4 (by kernel_rfl) (ys := fun _ => some xRF4) (fun st y h => by injection h with h; subst h; exact fun lk M => ⟨rfl, rfl⟩) ((fsF4 N lk M).symm.trans h)
end Go.Proofs.YtdennlgnbecojaaDoor

namespace Go.Proofs.YtdennlgnbecojaaDoor
open Go Go.Eng
set_option maxRecDepth 100000

/-! ### F6: ceiling/ceilinglaw12.LevelChain -/
inductive R6 where
  | r (x0 : Bool)
abbrev TF6 := List Row → List Row → List Row → List Row → List Row → Int → Int → Int → Int → Option R6
def sgF6 : LSh := ⟨[(0, .agg [.cell (.slice 58), .cell (.slice 74), .cell (.slice 45), .cell (.slice 113), .cell (.slice 117)]), (1, .one (.cell (.int .i64))), (2, .one (.cell (.int .i64))), (3, .one (.cell (.int .i64))), (4, .one (.cell (.int .i64)))], []⟩
def FFF6 (Fx : TF6) (s : St) : Option R6 := Fx (((Eng.look s.env 0).cells.getD 0 .top).rows) (((Eng.look s.env 0).cells.getD 1 .top).rows) (((Eng.look s.env 0).cells.getD 2 .top).rows) (((Eng.look s.env 0).cells.getD 3 .top).rows) (((Eng.look s.env 0).cells.getD 4 .top).rows) ((Eng.look s.env 1).toI) ((Eng.look s.env 2).toI) ((Eng.look s.env 3).toI) ((Eng.look s.env 4).toI)
def valF6 (o : R6) : AV := match o with | .r x0 => .bool x0
def memF6 (o : R6) : List Blk := match o with | .r x0 => []
def elF6 {R : Type} (o : R6) (k : AV → List Blk → Option R) : Option R := match o with | .r x0 => k (.bool x0) []
def RecOkF6 (Fx : TF6) : Prop := ∀ lk M o, FFF6 Fx (canS sgF6 lk M) = some o → FCalls CX 6 0 (argsE 5 (canS sgF6 lk M).env) (canS sgF6 lk M).mem (valF6 o) (memF6 o)
noncomputable def csF6 (N : Nat) (R : Type) : List (CE R) := [ce8n0 (F8 N) R (fun _ _ => true), ce9n0 (F9 N) R (fun _ _ => true), ce16v1n0 (F16v1 N) R (fun _ _ => true), ce18v1n0 (F18v1 N) R (fun _ _ => true)]
theorem hcsF6 (N : Nat) (R : Type) : AllE (CeOk CX) (csF6 N R) := ⟨okce8n0 (F8 N) (soundF8 N) R (fun _ _ => true), okce9n0 (F9 N) (soundF9 N) R (fun _ _ => true), okce16v1n0 (F16v1 N) (soundF16v1 N) R (fun _ _ => true), okce18v1n0 (F18v1 N) (soundF18v1 N) R (fun _ _ => true), trivial⟩
inductive OJ6a30 where
  | nx (b0c0 : List Row) (b0c1 : List Row) (b0c2 : List Row) (b0c3 : List Row) (b0c4 : List Row)
  | ret (x10 : Bool) (b0c0 : List Row) (b0c1 : List Row) (b0c2 : List Row) (b0c3 : List Row) (b0c4 : List Row)
def J6a30 (N : Nat) : Int → Int → Int → Int → Int → Int → Int → List Row → List Row → List Row → List Row → List Row → Option OJ6a30 := fun x1 x2 x3 x4 x11 x12 x13 b0c0 b0c1 b0c2 b0c3 b0c4 =>
    match x11 == (0 : Int) with
    | true =>
      match x12 == (0 : Int) with
      | true =>
        match F16v1 N b0c0 b0c1 b0c2 b0c3 b0c4 x1 x3 with
        | none => none
        | some (.r rx0v6) =>
          match rx0v6 != (0 : Int) with
          | true =>
            some (.ret false b0c0 b0c1 b0c2 b0c3 b0c4)
          | false =>
            match x12 == (0 : Int) with
            | true =>
              match x13 == (0 : Int) with
              | true =>
                match F18v1 N b0c0 b0c1 b0c2 b0c3 b0c4 x2 x4 with
                | none => none
                | some (.r rx0v7) =>
                  match rx0v7 != (0 : Int) with
                  | true =>
                    some (.ret false b0c0 b0c1 b0c2 b0c3 b0c4)
                  | false =>
                    some (.nx b0c0 b0c1 b0c2 b0c3 b0c4)
              | false =>
                some (.nx b0c0 b0c1 b0c2 b0c3 b0c4)
            | false =>
              some (.nx b0c0 b0c1 b0c2 b0c3 b0c4)
      | false =>
        match x12 == (0 : Int) with
        | true =>
          match x13 == (0 : Int) with
          | true =>
            match F18v1 N b0c0 b0c1 b0c2 b0c3 b0c4 x2 x4 with
            | none => none
            | some (.r rx0v8) =>
              match rx0v8 != (0 : Int) with
              | true =>
                some (.ret false b0c0 b0c1 b0c2 b0c3 b0c4)
              | false =>
                some (.nx b0c0 b0c1 b0c2 b0c3 b0c4)
          | false =>
            some (.nx b0c0 b0c1 b0c2 b0c3 b0c4)
        | false =>
          some (.nx b0c0 b0c1 b0c2 b0c3 b0c4)
    | false =>
      match x12 == (0 : Int) with
      | true =>
        match x13 == (0 : Int) with
        | true =>
          match F18v1 N b0c0 b0c1 b0c2 b0c3 b0c4 x2 x4 with
          | none => none
          | some (.r rx0v9) =>
            match rx0v9 != (0 : Int) with
            | true =>
              some (.ret false b0c0 b0c1 b0c2 b0c3 b0c4)
            | false =>
              some (.nx b0c0 b0c1 b0c2 b0c3 b0c4)
        | false =>
          some (.nx b0c0 b0c1 b0c2 b0c3 b0c4)
      | false =>
        some (.nx b0c0 b0c1 b0c2 b0c3 b0c4)
def LFJ6a30 (N : Nat) (s : St) : Option OJ6a30 := J6a30 N ((Eng.look s.env 1).toI) ((Eng.look s.env 2).toI) ((Eng.look s.env 3).toI) ((Eng.look s.env 4).toI) ((Eng.look s.env 11).toI) ((Eng.look s.env 12).toI) ((Eng.look s.env 13).toI) (((s.mem.getD 0 .dead).cells.getD 0 .top).rows) (((s.mem.getD 0 .dead).cells.getD 1 .top).rows) (((s.mem.getD 0 .dead).cells.getD 2 .top).rows) (((s.mem.getD 0 .dead).cells.getD 3 .top).rows) (((s.mem.getD 0 .dead).cells.getD 4 .top).rows)
def sgJ6a30 : LSh := ⟨[(1, .one (.cell (.int .i64))), (2, .one (.cell (.int .i64))), (3, .one (.cell (.int .i64))), (4, .one (.cell (.int .i64))), (5, .one (.ptr 0 0 0)), (11, .one (.cell (.int .i64))), (12, .one (.cell (.int .i64))), (13, .one (.cell (.int .i64)))], [.var [.any, .any, .any, .any, .any] [.cell (.slice 58), .cell (.slice 74), .cell (.slice 45), .cell (.slice 113), .cell (.slice 117)]]⟩
def ceJ6a30 : List Cv := []
def seJ6a30 : St → List Nat := fun st => [(Eng.look st.env 5).id]
def xJ6a30wnx : XSh OJ6a30 := ⟨[], ⟨[], [.var [.any, .any, .any, .any, .any] [.cell (.slice 58), .cell (.slice 74), .cell (.slice 45), .cell (.slice 113), .cell (.slice 117)]]⟩, fun st => [0], fun s => .nx (((s.mem.getD 0 .dead).cells.getD 0 .top).rows) (((s.mem.getD 0 .dead).cells.getD 1 .top).rows) (((s.mem.getD 0 .dead).cells.getD 2 .top).rows) (((s.mem.getD 0 .dead).cells.getD 3 .top).rows) (((s.mem.getD 0 .dead).cells.getD 4 .top).rows)⟩
def xJ6a30wret : XSh OJ6a30 := ⟨[], ⟨[(10, .one (.cell (.bool)))], [.var [.any, .any, .any, .any, .any] [.cell (.slice 58), .cell (.slice 74), .cell (.slice 45), .cell (.slice 113), .cell (.slice 117)]]⟩, fun st => [0], fun s => .ret ((Eng.look s.env 10).toB) (((s.mem.getD 0 .dead).cells.getD 0 .top).rows) (((s.mem.getD 0 .dead).cells.getD 1 .top).rows) (((s.mem.getD 0 .dead).cells.getD 2 .top).rows) (((s.mem.getD 0 .dead).cells.getD 3 .top).rows) (((s.mem.getD 0 .dead).cells.getD 4 .top).rows)⟩
def xsJ6a30 : Ex → St → Option (XSh OJ6a30) := fun e st => match e with
  | .normal => some xJ6a30wnx
  | .ret => some xJ6a30wret
  | _ => none
def exJ6a30 (o : OJ6a30) : Ex := match o with | .nx b0c0 b0c1 b0c2 b0c3 b0c4 => .normal | .ret x10 b0c0 b0c1 b0c2 b0c3 b0c4 => .ret
def stJ6a30 (o : OJ6a30) : St := match o with | .nx b0c0 b0c1 b0c2 b0c3 b0c4 => ⟨[], [.var [.any, .any, .any, .any, .any] [.list 58 b0c0, .list 74 b0c1, .list 45 b0c2, .list 113 b0c3, .list 117 b0c4]], [], .unk⟩ | .ret x10 b0c0 b0c1 b0c2 b0c3 b0c4 => ⟨[(10, .bool x10)], [.var [.any, .any, .any, .any, .any] [.list 58 b0c0, .list 74 b0c1, .list 45 b0c2, .list 113 b0c3, .list 117 b0c4]], [], .unk⟩
def elJ6a30 {R : Type} (o : OJ6a30) (k : Ex → St → Option R) : Option R := match o with | .nx b0c0 b0c1 b0c2 b0c3 b0c4 => k .normal ⟨[], [.var [.any, .any, .any, .any, .any] [.list 58 b0c0, .list 74 b0c1, .list 45 b0c2, .list 113 b0c3, .list 117 b0c4]], [], .unk⟩ | .ret x10 b0c0 b0c1 b0c2 b0c3 b0c4 => k .ret ⟨[(10, .bool x10)], [.var [.any, .any, .any, .any, .any] [.list 58 b0c0, .list 74 b0c1, .list 45 b0c2, .list 113 b0c3, .list 117 b0c4]], [], .unk⟩
theorem heJ6a30 {R : Type} (o : OJ6a30) (k : Ex → St → Option R) : elJ6a30 o k = k (exJ6a30 o) (stJ6a30 o) := by cases o <;> rfl
theorem hxJ6a30 : ∀ e st x, xsJ6a30 e st = some x → outOk x e exJ6a30 stJ6a30 := by
  intro e st x h
  unfold xsJ6a30 at h
  repeat' split at h
  all_goals first
    | (injection h with h; subst h; exact fun lk M => ⟨rfl, rfl⟩)
    | cases h
noncomputable def T6uc30 (N : Nat) (R : Type) : LTab R := mkTab ⟨74, 144115187538985984⟩ (csF6 N R) (noY) [] [] []
theorem okT6uc30 (N : Nat) (R : Type) : (T6uc30 N R).Ok CX code6 := mkTab_ok (hcsF6 N R) (noY_ok) (trivial) (trivial) (trivial)
noncomputable def bdJ6a30 : Code := (codeAt code6 [false, true, true, true]).getD .skip
theorem hsJ6a30 (N : Nat) : ∀ (lk : Nat → AV) (M : List Blk), LFJ6a30 N (canS sgJ6a30 lk M) = evk CX (T6uc30 N OJ6a30) bdJ6a30 30 (canS sgJ6a30 lk M) (kontX CX 1 xsJ6a30) := by intro lk M; kernel_rfl
noncomputable def T6ur1 (N : Nat) (R : Type) : LTab R := mkTab ⟨74, 18889465931478580854783⟩ (csF6 N R) (noY) [] [] [(30, fun st k => callLoop CX 1 144115187538985984 ceJ6a30 sgJ6a30 seJ6a30 ⟨74, 18889465931478580854783⟩ (LFJ6a30 N) elJ6a30 st k)]
theorem okT6ur1 (N : Nat) (R : Type) : (T6ur1 N R).Ok CX code6 := mkTab_ok (hcsF6 N R) (noY_ok) (trivial) (trivial) (⟨cut_ok hX (path := [false, true, true, true]) (by kernel_rfl) (by rfl) (okT6uc30 N OJ6a30) (hsJ6a30 N) hxJ6a30 rfl heJ6a30, trivial⟩)
def rsF6 : List ResultVar := [.tmp 10]
def F6 : Nat → TF6
  | 0 => fun _ _ _ _ _ _ _ _ _ => none
  | N + 1 => fun x0c0 x0c1 x0c2 x0c3 x0c4 x1 x2 x3 x4 =>
    match F8 N x0c0 x0c1 x0c2 x0c3 x0c4 with
    | none => none
    | some (.r rx0v1) =>
      match rx0v1 with
      | true =>
        match F9 N  with
        | none => none
        | some (.r rx0v2) =>
          some (.r rx0v2)
      | false =>
        match F16v1 N x0c0 x0c1 x0c2 x0c3 x0c4 x1 x2 with
        | none => none
        | some (.r rx0v3) =>
          match F18v1 N x0c0 x0c1 x0c2 x0c3 x0c4 x2 x3 with
          | none => none
          | some (.r rx0v4) =>
            match F18v1 N x0c0 x0c1 x0c2 x0c3 x0c4 x3 x4 with
            | none => none
            | some (.r rx0v5) =>
              match J6a30 N x1 x2 x3 x4 rx0v3 rx0v4 rx0v5 x0c0 x0c1 x0c2 x0c3 x0c4 with
              | none => none
              | some (.nx b0c0v10 b0c1v10 b0c2v10 b0c3v10 b0c4v10) =>
                match rx0v3 == (0 : Int) with
                | true =>
                  match F18v1 N b0c0v10 b0c1v10 b0c2v10 b0c3v10 b0c4v10 x2 x2 with
                  | none => none
                  | some (.r rx0v11) =>
                    match rx0v11 != (0 : Int) with
                    | true =>
                      some (.r false)
                    | false =>
                      match F16v1 N b0c0v10 b0c1v10 b0c2v10 b0c3v10 b0c4v10 x1 x2 with
                      | none => none
                      | some (.r rx0v12) =>
                        match rx0v12 != (0 : Int) with
                        | true =>
                          some (.r false)
                        | false =>
                          match F9 N  with
                          | none => none
                          | some (.r rx0v13) =>
                            some (.r rx0v13)
                | false =>
                  match F9 N  with
                  | none => none
                  | some (.r rx0v14) =>
                    some (.r rx0v14)
              | some (.ret x10v15 b0c0v15 b0c1v15 b0c2v15 b0c3v15 b0c4v15) =>
                some (.r x10v15)
def xRF6 : XSh R6 := ⟨[], ⟨[(0, .one (.cell (.bool)))], []⟩, fun _ => [], fun s => .r ((Eng.look s.env 0).toB)⟩
theorem fsF6 : ∀ (N : Nat) (lk : Nat → AV) (M : List Blk), FFF6 (F6 (N + 1)) (canS sgF6 lk M) = evfn CX (T6ur1 N R6) code6 rsF6 (argsE 5 (canS sgF6 lk M).env) (canS sgF6 lk M).mem (goR CX 0 (fun _ => some xRF6)) := by intro N lk M; kernel_rfl
theorem soundF6 : ∀ N, RecOkF6 (F6 N)
  | 0, lk, M, o, h => by cases h
  | N + 1, lk, M, o, h => fn_sound hX (okT6ur1 N R6) Tryd.func6 hb6 rfl en6 (by kernel_rfl) (ys := fun _ => some xRF6) (fun st y h => by injection h with h; subst h; exact fun lk M => ⟨rfl, rfl⟩) ((fsF6 N lk M).symm.trans h)
end Go.Proofs.YtdennlgnbecojaaDoor

namespace Go.Proofs.YtdennlgnbecojaaDoor
open Go Go.Eng
theorem head_true : F9 300 = some (.r true) := by kernel_rfl
end Go.Proofs.YtdennlgnbecojaaDoor

namespace Go.Proofs.YtdennlgnbecojaaDoor
open Go Go.Eng

def inI (x : Int) : Prop := -9223372036854775808 ≤ x ∧ x ≤ 9223372036854775807
theorem wrap_id {n : Int} (h : inI n) : IntKind.wrap .i64 n = n := by
  obtain ⟨h0, h1⟩ := h
  simp [IntKind.wrap, IntKind.bits, IntKind.signed]
  split <;> omega
theorem beq_f {x k : Int} (h : x ≠ k) : (x == k) = false := by simpa using h
theorem beq_t {x k : Int} (h : x = k) : (x == k) = true := by simpa using h
/-- A cell of a row. -/
def cI (E : List Row) (i : Nat) (c : Nat) : Int := ((E.getD i []).getD c .top).toI
def cB (E : List Row) (i : Nat) (c : Nat) : Bool := ((E.getD i []).getD c .top).toB
def kd (E : List Row) (i : Nat) : Int := cI E i 0
def ow (E : List Row) (i : Nat) : Int := cI E i 2
def plain (k : Int) : Bool := k == 3 || k == 4 || k == 12 || k == 14 || k == 18 || k == 17
theorem F25_eq {N : Nat} (hN : 0 < N) (k : Int) : F25 N k = some (.r (plain k)) := by
  obtain ⟨N, rfl⟩ : ∃ m, N = m + 1 := ⟨N - 1, by omega⟩
  simp only [F25, plain]
  cases (k == 3) <;> cases (k == 4) <;> cases (k == 12) <;> cases (k == 14) <;> cases (k == 18) <;> rfl
def addS (k : Int) : Int := if k = 2 ∨ k = 13 then 1 else if plain k = true then 2 else 0
theorem adds_all : ((List.range 256).all fun k => (gl0.getD (0 + k * 1) .top).toI == addS (k : Int)) = true := by kernel_rfl
theorem adds_eq {k : Int} (h0 : 0 ≤ k) (h1 : k ≤ 255) : (gl0.getD (0 + k.toNat * 1) .top).toI = addS k := by
  have := List.all_eq_true.1 adds_all k.toNat (List.mem_range.2 (by omega))
  rw [show ((k.toNat : Nat) : Int) = k by omega] at this
  simpa using this

/-- The level of a region. -/
def reg (E : List Row) (r : Nat) : Int :=
  if r < E.length then
    if kd E r = 1 then 0
    else if h : 0 ≤ ow E r ∧ ow E r < (r : Int) then
      (if reg E (ow E r).toNat < 0 then -1 else if kd E r = 2 ∨ kd E r = 13 then reg E (ow E r).toNat else if plain (kd E r) = true then reg E (ow E r).toNat + 1 else -1)
    else -1
  else -1
termination_by r
decreasing_by all_goals omega
theorem reg_bd (E : List Row) : ∀ r : Nat, -1 ≤ reg E r ∧ reg E r ≤ r := by
  intro r
  induction r using Nat.strongRecOn with
  | _ r ih =>
    rw [reg]
    split
    · split
      · omega
      · split
        · rename_i h
          have := ih (ow E r).toNat (by omega)
          repeat' split
          all_goals omega
        · omega
    · omega
def regI (E : List Row) (x : Int) : Int := if 0 ≤ x then reg E x.toNat else -1
theorem regI_nat (E : List Row) (r : Nat) : regI E (r : Int) = reg E r := by unfold regI; rw [if_pos (by omega)]; rfl
theorem regI_big {E : List Row} {x : Int} (h : ¬ (0 ≤ x ∧ x < (E.length : Int))) : regI E x = -1 := by
  unfold regI
  split
  · rw [reg, if_neg (by omega)]
  · rfl
theorem F24_eq {N : Nat} (hN : 0 < N) (A B E C D : List Row) (x : Int) : F24 N A B E C D x = some (.r (decide (0 ≤ x) && decide (x < (E.length : Int)))) := by
  obtain ⟨N, rfl⟩ : ∃ m, N = m + 1 := ⟨N - 1, by omega⟩
  simp only [F24]
  cases decide (0 ≤ x) <;> rfl

theorem F11_eq (A B E C D : List Row) (hl : E.length ≤ 100000) : ∀ (r N : Nat), r + 2 ≤ N → F11 N A B E C D (r : Int) = some (.r (reg E r)) := by
  intro r
  induction r using Nat.strongRecOn with
  | _ r ih =>
    intro N hN
    obtain ⟨N, rfl⟩ : ∃ m, N = m + 1 := ⟨N - 1, by omega⟩
    have hp : 0 < N := by omega
    rw [reg]
    by_cases hr : r < E.length
    · have e1 : (decide ((0 : Int) ≤ (r : Int)) && decide ((r : Int) < (E.length : Int))) = true := by simp; omega
      have ek : ((((E.getD ((r : Int).toNat) [])).getD 0 .top).toI) = kd E r := rfl
      have eo : ((((E.getD ((r : Int).toNat) [])).getD 2 .top).toI) = ow E r := rfl
      simp only [F11, F24_eq hp, e1, Bool.not_true, tst, ek, eo, if_pos hr]
      by_cases hk : kd E r = 1
      · simp only [beq_t hk, if_pos hk]
      · simp only [beq_f hk, if_neg hk, J11a62]
        by_cases h1 : ow E r < 0
        · rw [decide_eq_true h1, dif_neg (by omega)]
        · rw [decide_eq_false h1]
          by_cases h2 : (r : Int) ≤ ow E r
          · rw [decide_eq_true h2, dif_neg (by omega)]
          · rw [decide_eq_false h2, dif_pos (by omega)]
            have := ih (ow E r).toNat (by omega) N (by omega)
            rw [show (((ow E r).toNat : Nat) : Int) = ow E r by omega] at this
            simp only [this]
            have hb := reg_bd E (ow E r).toNat
            by_cases h3 : reg E (ow E r).toNat < 0
            · simp only [h3, decide_true, if_true]
            · simp only [h3, decide_false, if_false, F25_eq hp]
              by_cases h4 : kd E r = 2
              · rw [if_pos (Or.inl h4)]
                simp only [beq_t h4]
              · by_cases h5 : kd E r = 13
                · rw [if_pos (Or.inr h5)]
                  simp only [beq_f h4, beq_t h5]
                · rw [if_neg (fun h => h.elim h4 h5)]
                  simp only [beq_f h4, beq_f h5]
                  cases plain (kd E r) with
                  | true =>
                    simp only [if_true]
                    rw [wrap_id (by unfold inI; omega)]
                  | false => simp only [Bool.false_eq_true, if_false]
    · have e1 : (decide ((0 : Int) ≤ (r : Int)) && decide ((r : Int) < (E.length : Int))) = false := by simp; omega
      simp only [F11, F24_eq hp, e1, Bool.not_false, if_neg hr]
theorem F11_eqI (A B E C D : List Row) (hl : E.length ≤ 200) (x : Int) (N : Nat) (hN : 202 ≤ N) : F11 N A B E C D x = some (.r (regI E x)) := by
  by_cases h : 0 ≤ x ∧ x < (E.length : Int)
  · obtain ⟨r, rfl⟩ := Int.eq_ofNat_of_zero_le h.1
    rw [F11_eq A B E C D (by omega) r N (by omega), regI_nat]
  · rw [regI_big h]
    obtain ⟨N, rfl⟩ : ∃ m, N = m + 1 := ⟨N - 1, by omega⟩
    have hp : 0 < N := by omega
    have e1 : (decide ((0 : Int) ≤ x) && decide (x < (E.length : Int))) = false := by
      rw [Bool.eq_false_iff]; intro hc; simp only [Bool.and_eq_true, decide_eq_true_eq] at hc; exact h hc
    simp only [F11, F24_eq hp, e1, Bool.not_false]

/-- The kinds are numbers of one byte. -/
def okE (E : List Row) : Prop := ∀ i, i < E.length → 0 ≤ kd E i ∧ kd E i ≤ 255
theorem addS_cases {k : Int} (h : k ≠ 1) : (addS k = 1 ∧ (k = 2 ∨ k = 13)) ∨ (addS k = 2 ∧ ¬ (k = 2 ∨ k = 13) ∧ plain k = true) ∨ (addS k = 0 ∧ ¬ (k = 2 ∨ k = 13) ∧ plain k = false) := by
  unfold addS
  by_cases h1 : k = 2 ∨ k = 13
  · left; rw [if_pos h1]; exact ⟨rfl, h1⟩
  · rw [if_neg h1]
    cases hp : plain k with
    | true => right; left; exact ⟨if_pos rfl, h1, rfl⟩
    | false => right; right; exact ⟨if_neg (by decide), h1, rfl⟩
theorem idx_ok {k : Int} (h0 : 0 ≤ k) (h1 : k ≤ 255) : (decide ((0 : Int) ≤ k) && decide (k < (256 : Int))) = true ∧ decide ((0 + k.toNat * 1) + 1 ≤ 256) = true := by
  constructor
  · simp; omega
  · simp; omega

def v10 : OL10v1i58f45a6 → Int
  | .ret _ _ _ _ _ v _ => v
  | _ => -1
theorem L10_out (A B E C D : List Row) {N n : Nat} {x last res acc : Int} (h : ¬ (0 ≤ x ∧ x < last)) : ∃ o, L10v1i58f45a6 N (n + 1) x last A B E C D res acc = some o ∧ v10 o = -1 := by
  refine ⟨.x0 A B E C D res acc, ?_, rfl⟩
  simp only [L10v1i58f45a6, J10v1i58f45a24]
  by_cases h1 : 0 ≤ x
  · rw [decide_eq_true h1, decide_eq_false (by omega)]
  · rw [decide_eq_false h1]
/-- The walk outwards. -/
theorem L10_eq (A B E C D : List Row) (hE : okE E) (hl : E.length ≤ 100000) : ∀ (r : Nat) (n N : Nat) (last acc res : Int), r + 1 < n → (r : Int) < last → last ≤ E.length → 0 ≤ acc → acc + r ≤ 100000 →
    ∃ o, L10v1i58f45a6 N n (r : Int) last A B E C D res acc = some o ∧ v10 o = if reg E r < 0 then -1 else acc + reg E r := by
  intro r
  induction r using Nat.strongRecOn with
  | _ r ih =>
    intro n N last acc res hn hlast hle ha hb
    obtain ⟨n, rfl⟩ : ∃ m, n = m + 1 := ⟨n - 1, by omega⟩
    have hr : r < E.length := by omega
    have ek : ((((E.getD ((r : Int).toNat) [])).getD 0 .top).toI) = kd E r := rfl
    have eo : ((((E.getD ((r : Int).toNat) [])).getD 2 .top).toI) = ow E r := rfl
    have e0 : decide ((0 : Int) ≤ (r : Int)) = true := by simp
    have e1 : decide ((r : Int) < last) = true := by simp; omega
    have e2 : decide ((r : Int) < (E.length : Int)) = true := by simp; omega
    obtain ⟨k0, k1⟩ := hE r hr
    obtain ⟨i1, i2⟩ := idx_ok k0 k1
    have hreg := reg.eq_1 E r
    rw [if_pos hr] at hreg
    simp only [L10v1i58f45a6, J10v1i58f45a24, J10v1i58f45a50, e0, e1, e2, Bool.and_self, tst, ek, eo, i1, i2, adds_eq k0 k1]
    by_cases hk : kd E r = 1
    · rw [if_pos hk] at hreg
      simp only [beq_t hk]
      exact ⟨_, rfl, by rw [hreg]; simp [v10]⟩
    · rw [if_neg hk] at hreg
      simp only [beq_f hk]
      rcases addS_cases hk with ⟨e3, h4⟩ | ⟨e3, h4, h5⟩ | ⟨e3, h4, h5⟩
      · rw [e3]
        simp only [beq_f (show (1 : Int) ≠ 0 by decide)]
        have ew : IntKind.wrap .i64 (acc + IntKind.wrap .i64 ((1 : Int) - 1)) = acc := by
          rw [show (1 : Int) - 1 = 0 by decide, wrap_id (n := 0) (by unfold inI; omega), wrap_id (by unfold inI; omega)]; omega
        rw [ew]
        simp only [e2, Bool.and_self, eo]
        by_cases ho : 0 ≤ ow E r ∧ ow E r < (r : Int)
        · rw [dif_pos ho] at hreg
          obtain ⟨o, h, h2⟩ := ih (ow E r).toNat (by omega) n N (r : Int) acc res (by omega) (by omega) (by omega) ha (by omega)
          rw [show (((ow E r).toNat : Nat) : Int) = ow E r by omega] at h
          refine ⟨o, h, ?_⟩
          rw [h2, hreg, if_pos h4]
          split <;> simp_all
        · rw [dif_neg ho] at hreg
          obtain ⟨n, rfl⟩ : ∃ m, n = m + 1 := ⟨n - 1, by omega⟩
          obtain ⟨o, h, h2⟩ := L10_out A B E C D (N := N) (n := n) (res := res) (acc := acc) ho
          refine ⟨o, h, ?_⟩
          rw [h2, hreg]; rfl
      · rw [e3]
        simp only [beq_f (show (2 : Int) ≠ 0 by decide)]
        have ew : IntKind.wrap .i64 (acc + IntKind.wrap .i64 ((2 : Int) - 1)) = acc + 1 := by
          rw [show (2 : Int) - 1 = 1 by decide, wrap_id (n := 1) (by unfold inI; omega), wrap_id (by unfold inI; omega)]
        rw [ew]
        simp only [e2, Bool.and_self, eo]
        by_cases ho : 0 ≤ ow E r ∧ ow E r < (r : Int)
        · rw [dif_pos ho] at hreg
          obtain ⟨o, h, h2⟩ := ih (ow E r).toNat (by omega) n N (r : Int) (acc + 1) res (by omega) (by omega) (by omega) (by omega) (by omega)
          rw [show (((ow E r).toNat : Nat) : Int) = ow E r by omega] at h
          refine ⟨o, h, ?_⟩
          have hb := reg_bd E (ow E r).toNat
          rw [h2, hreg, if_neg h4, if_pos h5]
          by_cases h6 : reg E (ow E r).toNat < 0
          · rw [if_pos h6, if_pos h6]; rfl
          · rw [if_neg h6, if_neg h6, if_neg (by omega)]; omega
        · rw [dif_neg ho] at hreg
          obtain ⟨n, rfl⟩ : ∃ m, n = m + 1 := ⟨n - 1, by omega⟩
          obtain ⟨o, h, h2⟩ := L10_out A B E C D (N := N) (n := n) (res := res) (acc := acc + 1) ho
          refine ⟨o, h, ?_⟩
          rw [h2, hreg]; rfl
      · simp only [e3, beq_self_eq_true]
        refine ⟨_, rfl, ?_⟩
        rw [if_neg h4, if_neg (show ¬ plain (kd E r) = true by rw [h5]; decide)] at hreg
        rw [if_pos (by rw [hreg]; repeat' split
                       all_goals omega)]
        rfl
theorem F10_eqI (A B E C D : List Row) (hE : okE E) (hl : E.length ≤ 200) (x : Int) (N : Nat) (hN : 210 ≤ N) : F10v1 N A B E C D x = some (.r (regI E x)) := by
  obtain ⟨N, rfl⟩ : ∃ m, N = m + 2 := ⟨N - 2, by omega⟩
  simp only [F10v1, F23v1]
  by_cases h : 0 ≤ x ∧ x < (E.length : Int)
  · obtain ⟨r, rfl⟩ := Int.eq_ofNat_of_zero_le h.1
    obtain ⟨o, h1, h2⟩ := L10_eq A B E C D hE (by omega) r (N + 1) (N + 1) E.length 0 0 (by omega) (by omega) (by omega) (by omega) (by omega)
    have e1 : L10v1i58f45a6 (N + 1) (N + 1) (r : Int) (E.length : Int) A B E C D 0 0 = some o := h1
    have e2 : v10 o = regI E (r : Int) := by
      rw [h2, regI_nat]
      have := reg_bd E r
      split <;> omega
    rw [e1, ← e2]
    cases o <;> rfl
  · obtain ⟨o, h1, h2⟩ := L10_out A B E C D (N := N + 1) (n := N) (x := x) (last := E.length) (res := 0) (acc := 0) h
    rw [regI_big h]
    rw [h1, ← h2]
    cases o <;> rfl
end Go.Proofs.YtdennlgnbecojaaDoor

namespace Go.Proofs.YtdennlgnbecojaaDoor
open Go Go.Eng
/-- The master of a region. -/
def mst (E : List Row) (r : Nat) : Int :=
  if reg E r < 0 then -1
  else if kd E r = 1 ∨ plain (kd E r) = true then r
  else if h : 0 ≤ ow E r ∧ ow E r < (r : Int) then mst E (ow E r).toNat else -1
termination_by r
decreasing_by omega
theorem reg_pos {E : List Row} {r : Nat} (h : 0 ≤ reg E r) (hk : kd E r ≠ 1) : r < E.length ∧ (0 ≤ ow E r ∧ ow E r < (r : Int)) ∧ 0 ≤ reg E (ow E r).toNat ∧ ((kd E r = 2 ∨ kd E r = 13) ∧ plain (kd E r) = false ∨ ¬ (kd E r = 2 ∨ kd E r = 13) ∧ plain (kd E r) = true) := by
  rw [reg] at h
  split at h
  · rename_i hr
    refine ⟨hr, ?_⟩
    split at h
    · rename_i ho
      refine ⟨ho, ?_⟩
      split at h
      · omega
      · rename_i h2
        refine ⟨by omega, ?_⟩
        split at h
        · rename_i h3
          left
          refine ⟨h3, ?_⟩
          rcases h3 with h3 | h3 <;> rw [h3] <;> rfl
        · rename_i h3
          split at h
          · rename_i h4; exact .inr ⟨h3, h4⟩
          · omega
    · omega
  · omega
theorem reg_lt {E : List Row} {r : Nat} (h : 0 ≤ reg E r) : r < E.length := by
  rw [reg] at h
  split at h
  · assumption
  · omega
theorem F13_eq (A B E C D : List Row) (hl : E.length ≤ 100000) : ∀ (r N : Nat), r + 4 ≤ N → F13 N A B E C D (r : Int) = some (.r (mst E r)) := by
  intro r
  induction r using Nat.strongRecOn with
  | _ r ih =>
    intro N hN
    obtain ⟨N, rfl⟩ : ∃ m, N = m + 1 := ⟨N - 1, by omega⟩
    have hp : 0 < N := by omega
    have ek : ((((E.getD ((r : Int).toNat) [])).getD 0 .top).toI) = kd E r := rfl
    have eo : ((((E.getD ((r : Int).toNat) [])).getD 2 .top).toI) = ow E r := rfl
    rw [mst]
    simp only [F13, F11_eq A B E C D hl r N (by omega)]
    by_cases h1 : reg E r < 0
    · rw [if_pos h1, decide_eq_true h1]
    · have hr := reg_lt (E := E) (r := r) (by omega)
      have e1 : (decide ((0 : Int) ≤ (r : Int)) && decide ((r : Int) < (E.length : Int))) = true := by simp; omega
      rw [if_neg h1, decide_eq_false h1]
      simp only [e1, tst, ek, eo]
      by_cases hk : kd E r = 1
      · rw [if_pos (Or.inl hk), beq_t hk]
      · obtain ⟨_, ho, h2, h3⟩ := reg_pos (by omega) hk
        simp only [beq_f hk, F25_eq hp]
        have := ih (ow E r).toNat (by omega) N (by omega)
        rw [show (((ow E r).toNat : Nat) : Int) = ow E r by omega] at this
        rcases h3 with ⟨h3, h4⟩ | ⟨h3, h4⟩
        · rw [h4, if_neg (by rintro (h | h); exact hk h; cases h), dif_pos ho]
          simp only [this]
        · rw [h4, if_pos (Or.inr rfl)]
def mstI (E : List Row) (x : Int) : Int := if 0 ≤ x then mst E x.toNat else -1
theorem mst_none {E : List Row} {x : Int} (h : regI E x < 0) : mstI E x = -1 := by
  unfold mstI
  unfold regI at h
  split
  · rw [if_pos (by assumption)] at h
    rw [mst, if_pos h]
  · rfl
theorem F13_eqI (A B E C D : List Row) (hl : E.length ≤ 200) (x : Int) (N : Nat) (hN : 210 ≤ N) : F13 N A B E C D x = some (.r (mstI E x)) := by
  by_cases h : 0 ≤ x ∧ x < (E.length : Int)
  · obtain ⟨r, rfl⟩ := Int.eq_ofNat_of_zero_le h.1
    rw [F13_eq A B E C D (by omega) r N (by omega)]
    unfold mstI
    rw [if_pos (by omega)]; rfl
  · have hx := regI_big h
    rw [mst_none (by omega)]
    obtain ⟨N, rfl⟩ : ∃ m, N = m + 1 := ⟨N - 1, by omega⟩
    simp only [F13, F11_eqI A B E C D hl x N (by omega), hx]
    rfl
def v12 : OL12v1i106f45a6 → Int
  | .ret _ _ _ _ _ v => v
  | _ => -1
/-- The walk to the master. -/
theorem L12_eq (A B E C D : List Row) (hE : okE E) (hl : E.length ≤ 100000) : ∀ (r : Nat) (n N : Nat) (last res : Int), r + 1 < n → (r : Int) < last → last ≤ E.length → 0 ≤ reg E r →
    ∃ o, L12v1i106f45a6 N n (r : Int) last A B E C D res = some o ∧ v12 o = mst E r := by
  intro r
  induction r using Nat.strongRecOn with
  | _ r ih =>
    intro n N last res hn hlast hle hreg
    obtain ⟨n, rfl⟩ : ∃ m, n = m + 1 := ⟨n - 1, by omega⟩
    have hr : r < E.length := by omega
    have ek : ((((E.getD ((r : Int).toNat) [])).getD 0 .top).toI) = kd E r := rfl
    have eo : ((((E.getD ((r : Int).toNat) [])).getD 2 .top).toI) = ow E r := rfl
    have e0 : decide ((0 : Int) ≤ (r : Int)) = true := by simp
    have e1 : decide ((r : Int) < last) = true := by simp; omega
    have e2 : decide ((r : Int) < (E.length : Int)) = true := by simp; omega
    obtain ⟨k0, k1⟩ := hE r hr
    obtain ⟨i1, i2⟩ := idx_ok k0 k1
    rw [mst, if_neg (by omega)]
    simp only [L12v1i106f45a6, J12v1i106f45a24, J12v1i106f45a50, e0, e1, e2, Bool.and_self, tst, ek, eo, i1, i2, adds_eq k0 k1]
    by_cases hk : kd E r = 1
    · rw [if_pos (Or.inl hk)]
      simp only [beq_t hk]
      exact ⟨_, rfl, rfl⟩
    · obtain ⟨_, ho, h2, h3⟩ := reg_pos hreg hk
      simp only [beq_f hk]
      rcases h3 with ⟨h3, h4⟩ | ⟨h3, h4⟩
      · have e3 : addS (kd E r) = 1 := by unfold addS; rw [if_pos h3]
        rw [h4, if_neg (by rintro (h | h); exact hk h; cases h), dif_pos ho, e3]
        simp only [beq_f (show (1 : Int) ≠ 0 by decide), beq_f (show (1 : Int) ≠ 2 by decide), e2, Bool.and_self]
        obtain ⟨o, h, h2⟩ := ih (ow E r).toNat (by omega) n N (r : Int) res (by omega) (by omega) (by omega) h2
        rw [show (((ow E r).toNat : Nat) : Int) = ow E r by omega] at h
        exact ⟨o, h, h2⟩
      · have e3 : addS (kd E r) = 2 := by unfold addS; rw [if_neg h3, if_pos h4]
        rw [h4, if_pos (Or.inr rfl), e3]
        simp only [beq_self_eq_true]
        exact ⟨_, rfl, rfl⟩
theorem F12_eqI (A B E C D : List Row) (hE : okE E) (hl : E.length ≤ 200) (x : Int) (N : Nat) (hN : 220 ≤ N) : F12v1 N A B E C D x = some (.r (mstI E x)) := by
  obtain ⟨N, rfl⟩ : ∃ m, N = m + 2 := ⟨N - 2, by omega⟩
  simp only [F12v1, F23v1, F10_eqI A B E C D hE hl x (N + 1) (by omega)]
  by_cases h : 0 ≤ regI E x
  · have hx : 0 ≤ x ∧ x < (E.length : Int) := by
      refine Classical.byContradiction fun hc => ?_
      rw [regI_big hc] at h; omega
    obtain ⟨r, rfl⟩ := Int.eq_ofNat_of_zero_le hx.1
    rw [regI_nat] at h
    obtain ⟨o, h1, h2⟩ := L12_eq A B E C D hE (by omega) r (N + 1) (N + 1) E.length 0 (by omega) (by omega) (by omega) h
    have e2 : v12 o = mstI E (r : Int) := by rw [h2]; unfold mstI; rw [if_pos (by omega)]; rfl
    have e1 : L12v1i106f45a6 (N + 1) (N + 1) (r : Int) (E.length : Int) A B E C D 0 = some o := h1
    rw [regI_nat, decide_eq_true h]
    simp only [e1, ← e2]
    cases o <;> rfl
  · rw [decide_eq_false h, mst_none (by omega)]
end Go.Proofs.YtdennlgnbecojaaDoor
