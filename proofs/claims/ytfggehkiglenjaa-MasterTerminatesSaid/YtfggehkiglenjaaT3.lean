/-
  The functions of the code as typed functions, and that the code runs so. Printed by gen2.py.
  The functions of the code as typed functions, and that the code runs so. Printed by gen2.py.
  The functions of the code as typed functions, and that the code runs so. Printed by gen2.py.
  The functions of the code as typed functions, and that the code runs so. Printed by gen2.py.
  The functions of the code as typed functions, and that the code runs so. Printed by gen2.py.
  The functions of the code as typed functions, and that the code runs so. Printed by gen2.py.
  The functions of the code as typed functions, and that the code runs so. Printed by gen2.py.
  The functions of the code as typed functions, and that the code runs so. Printed by gen2.py.
  The functions of the code as typed functions, and that the code runs so. Printed by gen2.py.
  The functions of the code as typed functions, and that the code runs so. Printed by gen2.py.
  The functions of the code as typed functions, and that the code runs so. Printed by gen2.py.
  The functions of the code as typed functions, and that the code runs so. Printed by gen2.py.
  The functions of the code as typed functions, and that the code runs so. Printed by gen2.py.
  The functions of the code as typed functions, and that the code runs so. Printed by gen2.py.
  The functions of the code as typed functions, and that the code runs so. Printed by gen2.py.
  The functions of the code as typed functions, and that the code runs so. Printed by gen2.py.
  The functions of the code as typed functions, and that the code runs so. Printed by gen2.py.
  The functions of the code as typed functions, and that the code runs so. Printed by gen2.py.
  The functions of the code as typed functions, and that the code runs so. Printed by gen2.py.
  The functions of the code as typed functions, and that the code runs so. Printed by gen2.py.
  The functions of the code as typed functions, and that the code runs so. Printed by gen2.py.
-/
import Derived.Test.YtfggehkiglenjaaT2
import Derived.KernelRfl
set_option linter.all false
set_option linter.deprecated false
namespace Go.Proofs.Ytfggehkiglenjaa
open Go Go.Eng
set_option maxRecDepth 100000

/-! ### F16: ceiling/master.May -/
inductive R16 where
  | r (x0 : Bool)
abbrev TF16 := List Row → Option R16
def sgF16 : LSh := ⟨[(0, .one (.cell (.slice 30)))], []⟩
def FFF16 (Fx : TF16) (s : St) : Option R16 := Fx ((Eng.look s.env 0).rows)
def valF16 (o : R16) : AV := match o with | .r x0 => .bool x0
def memF16 (o : R16) : List Blk := match o with | .r x0 => []
def elF16 {R : Type} (o : R16) (k : AV → List Blk → Option R) : Option R := match o with | .r x0 => k (.bool x0) []
def RecOkF16 (Fx : TF16) : Prop := ∀ lk M o, FFF16 Fx (canS sgF16 lk M) = some o → FCalls CX 16 0 (argsE 1 (canS sgF16 lk M).env) (canS sgF16 lk M).mem (valF16 o) (memF16 o)
noncomputable def csF16 (N : Nat) (R : Type) : List (CE R) := []
theorem hcsF16 (N : Nat) (R : Type) : AllE (CeOk CX) (csF16 N R) := trivial
inductive OJ16a7474 where
  | nx (x5 : Bool) (b0c0 : Bool) (b0c1 : Bool) (b0c2 : Bool) (b0c3 : Bool) (b0c4 : Bool) (b0c5 : Int) (b0c6 : Int) (b0c7 : Int)
def J16a7474 (N : Nat) : Bool → Bool → Bool → Bool → Bool → Int → Int → Int → Option OJ16a7474 := fun b0c0 b0c1 b0c2 b0c3 b0c4 b0c5 b0c6 b0c7 =>
    match b0c0 with
    | true =>
      some (.nx (!b0c1) b0c0 b0c1 b0c2 b0c3 b0c4 b0c5 b0c6 b0c7)
    | false =>
      some (.nx false b0c0 b0c1 b0c2 b0c3 b0c4 b0c5 b0c6 b0c7)
def LFJ16a7474 (N : Nat) (s : St) : Option OJ16a7474 := J16a7474 N (((s.mem.getD 0 .dead).cells.getD 0 .top).toB) (((s.mem.getD 0 .dead).cells.getD 1 .top).toB) (((s.mem.getD 0 .dead).cells.getD 2 .top).toB) (((s.mem.getD 0 .dead).cells.getD 3 .top).toB) (((s.mem.getD 0 .dead).cells.getD 4 .top).toB) (((s.mem.getD 0 .dead).cells.getD 5 .top).toI) (((s.mem.getD 0 .dead).cells.getD 6 .top).toI) (((s.mem.getD 0 .dead).cells.getD 7 .top).toI)
def sgJ16a7474 : LSh := ⟨[(4, .one (.ptr 0 0 0))], [.var [.bool, .bool, .bool, .bool, .bool, .int .i64, .int .i64, .int .i64] [.cell (.bool), .cell (.bool), .cell (.bool), .cell (.bool), .cell (.bool), .cell (.int .i64), .cell (.int .i64), .cell (.int .i64)]]⟩
def ceJ16a7474 : List Cv := []
def seJ16a7474 : St → List Nat := fun st => [(Eng.look st.env 4).id]
def xJ16a7474wnx : XSh OJ16a7474 := ⟨[], ⟨[(5, .one (.cell (.bool)))], [.var [.bool, .bool, .bool, .bool, .bool, .int .i64, .int .i64, .int .i64] [.cell (.bool), .cell (.bool), .cell (.bool), .cell (.bool), .cell (.bool), .cell (.int .i64), .cell (.int .i64), .cell (.int .i64)]]⟩, fun st => [0], fun s => .nx ((Eng.look s.env 5).toB) (((s.mem.getD 0 .dead).cells.getD 0 .top).toB) (((s.mem.getD 0 .dead).cells.getD 1 .top).toB) (((s.mem.getD 0 .dead).cells.getD 2 .top).toB) (((s.mem.getD 0 .dead).cells.getD 3 .top).toB) (((s.mem.getD 0 .dead).cells.getD 4 .top).toB) (((s.mem.getD 0 .dead).cells.getD 5 .top).toI) (((s.mem.getD 0 .dead).cells.getD 6 .top).toI) (((s.mem.getD 0 .dead).cells.getD 7 .top).toI)⟩
def xsJ16a7474 : Ex → St → Option (XSh OJ16a7474) := fun e st => match e with
  | .normal => some xJ16a7474wnx
  | _ => none
def exJ16a7474 (o : OJ16a7474) : Ex := match o with | .nx x5 b0c0 b0c1 b0c2 b0c3 b0c4 b0c5 b0c6 b0c7 => .normal
def stJ16a7474 (o : OJ16a7474) : St := match o with | .nx x5 b0c0 b0c1 b0c2 b0c3 b0c4 b0c5 b0c6 b0c7 => ⟨[(5, .bool x5)], [.var [.bool, .bool, .bool, .bool, .bool, .int .i64, .int .i64, .int .i64] [.bool b0c0, .bool b0c1, .bool b0c2, .bool b0c3, .bool b0c4, .int .i64 b0c5, .int .i64 b0c6, .int .i64 b0c7]], [], .unk⟩
def elJ16a7474 {R : Type} (o : OJ16a7474) (k : Ex → St → Option R) : Option R := match o with | .nx x5 b0c0 b0c1 b0c2 b0c3 b0c4 b0c5 b0c6 b0c7 => k .normal ⟨[(5, .bool x5)], [.var [.bool, .bool, .bool, .bool, .bool, .int .i64, .int .i64, .int .i64] [.bool b0c0, .bool b0c1, .bool b0c2, .bool b0c3, .bool b0c4, .int .i64 b0c5, .int .i64 b0c6, .int .i64 b0c7]], [], .unk⟩
theorem heJ16a7474 {R : Type} (o : OJ16a7474) (k : Ex → St → Option R) : elJ16a7474 o k = k (exJ16a7474 o) (stJ16a7474 o) := by cases o <;> rfl
theorem hxJ16a7474 : ∀ e st x, xsJ16a7474 e st = some x → outOk x e exJ16a7474 stJ16a7474 := by
  intro e st x h
  unfold xsJ16a7474 at h
  repeat' split at h
  all_goals first
    | (injection h with h; subst h; exact fun lk M => ⟨rfl, rfl⟩)
    | cases h
noncomputable def T16uc7474 (N : Nat) (R : Type) : LTab R := mkTab ⟨116, 8323104⟩ (csF16 N R) (noY) [] [] []
theorem okT16uc7474 (N : Nat) (R : Type) : (T16uc7474 N R).Ok CX code16 := mkTab_ok (hcsF16 N R) (noY_ok) (trivial) (trivial) (trivial)
noncomputable def bdJ16a7474 : Code := (codeAt code16 [false, true, false, false, true, true, false, false, true, false, true, true]).getD .skip
theorem hsJ16a7474 (N : Nat) : ∀ (lk : Nat → AV) (M : List Blk), LFJ16a7474 N (canS sgJ16a7474 lk M) = evk CX (T16uc7474 N OJ16a7474) bdJ16a7474 7474 (canS sgJ16a7474 lk M) (kontX CX 1 xsJ16a7474) := by intro lk M; kernel_rfl
inductive OJ16a29900 where
  | nx (x23 : Bool) (b0c0 : Bool) (b0c1 : Bool) (b0c2 : Bool) (b0c3 : Bool) (b0c4 : Bool) (b0c5 : Int) (b0c6 : Int) (b0c7 : Int)
def J16a29900 (N : Nat) : Int → Bool → Bool → Bool → Bool → Bool → Int → Int → Int → Option OJ16a29900 := fun x3 b0c0 b0c1 b0c2 b0c3 b0c4 b0c5 b0c6 b0c7 =>
    match x3 == (0 : Int) with
    | true =>
      match b0c5 != (-1 : Int) with
      | true =>
        some (.nx true b0c0 b0c1 b0c2 b0c3 b0c4 b0c5 b0c6 b0c7)
      | false =>
        some (.nx (b0c6 != (-1 : Int)) b0c0 b0c1 b0c2 b0c3 b0c4 b0c5 b0c6 b0c7)
    | false =>
      some (.nx false b0c0 b0c1 b0c2 b0c3 b0c4 b0c5 b0c6 b0c7)
def LFJ16a29900 (N : Nat) (s : St) : Option OJ16a29900 := J16a29900 N ((Eng.look s.env 3).toI) (((s.mem.getD 0 .dead).cells.getD 0 .top).toB) (((s.mem.getD 0 .dead).cells.getD 1 .top).toB) (((s.mem.getD 0 .dead).cells.getD 2 .top).toB) (((s.mem.getD 0 .dead).cells.getD 3 .top).toB) (((s.mem.getD 0 .dead).cells.getD 4 .top).toB) (((s.mem.getD 0 .dead).cells.getD 5 .top).toI) (((s.mem.getD 0 .dead).cells.getD 6 .top).toI) (((s.mem.getD 0 .dead).cells.getD 7 .top).toI)
def sgJ16a29900 : LSh := ⟨[(3, .one (.cell (.int .i64))), (4, .one (.ptr 0 0 0))], [.var [.bool, .bool, .bool, .bool, .bool, .int .i64, .int .i64, .int .i64] [.cell (.bool), .cell (.bool), .cell (.bool), .cell (.bool), .cell (.bool), .cell (.int .i64), .cell (.int .i64), .cell (.int .i64)]]⟩
def ceJ16a29900 : List Cv := []
def seJ16a29900 : St → List Nat := fun st => [(Eng.look st.env 4).id]
def xJ16a29900wnx : XSh OJ16a29900 := ⟨[], ⟨[(23, .one (.cell (.bool)))], [.var [.bool, .bool, .bool, .bool, .bool, .int .i64, .int .i64, .int .i64] [.cell (.bool), .cell (.bool), .cell (.bool), .cell (.bool), .cell (.bool), .cell (.int .i64), .cell (.int .i64), .cell (.int .i64)]]⟩, fun st => [0], fun s => .nx ((Eng.look s.env 23).toB) (((s.mem.getD 0 .dead).cells.getD 0 .top).toB) (((s.mem.getD 0 .dead).cells.getD 1 .top).toB) (((s.mem.getD 0 .dead).cells.getD 2 .top).toB) (((s.mem.getD 0 .dead).cells.getD 3 .top).toB) (((s.mem.getD 0 .dead).cells.getD 4 .top).toB) (((s.mem.getD 0 .dead).cells.getD 5 .top).toI) (((s.mem.getD 0 .dead).cells.getD 6 .top).toI) (((s.mem.getD 0 .dead).cells.getD 7 .top).toI)⟩
def xsJ16a29900 : Ex → St → Option (XSh OJ16a29900) := fun e st => match e with
  | .normal => some xJ16a29900wnx
  | _ => none
def exJ16a29900 (o : OJ16a29900) : Ex := match o with | .nx x23 b0c0 b0c1 b0c2 b0c3 b0c4 b0c5 b0c6 b0c7 => .normal
def stJ16a29900 (o : OJ16a29900) : St := match o with | .nx x23 b0c0 b0c1 b0c2 b0c3 b0c4 b0c5 b0c6 b0c7 => ⟨[(23, .bool x23)], [.var [.bool, .bool, .bool, .bool, .bool, .int .i64, .int .i64, .int .i64] [.bool b0c0, .bool b0c1, .bool b0c2, .bool b0c3, .bool b0c4, .int .i64 b0c5, .int .i64 b0c6, .int .i64 b0c7]], [], .unk⟩
def elJ16a29900 {R : Type} (o : OJ16a29900) (k : Ex → St → Option R) : Option R := match o with | .nx x23 b0c0 b0c1 b0c2 b0c3 b0c4 b0c5 b0c6 b0c7 => k .normal ⟨[(23, .bool x23)], [.var [.bool, .bool, .bool, .bool, .bool, .int .i64, .int .i64, .int .i64] [.bool b0c0, .bool b0c1, .bool b0c2, .bool b0c3, .bool b0c4, .int .i64 b0c5, .int .i64 b0c6, .int .i64 b0c7]], [], .unk⟩
theorem heJ16a29900 {R : Type} (o : OJ16a29900) (k : Ex → St → Option R) : elJ16a29900 o k = k (exJ16a29900 o) (stJ16a29900 o) := by cases o <;> rfl
theorem hxJ16a29900 : ∀ e st x, xsJ16a29900 e st = some x → outOk x e exJ16a29900 stJ16a29900 := by
  intro e st x h
  unfold xsJ16a29900 at h
  repeat' split at h
  all_goals first
    | (injection h with h; subst h; exact fun lk M => ⟨rfl, rfl⟩)
    | cases h
noncomputable def T16uc29900 (N : Nat) (R : Type) : LTab R := mkTab ⟨116, 68711088128⟩ (csF16 N R) (noY) [] [] []
theorem okT16uc29900 (N : Nat) (R : Type) : (T16uc29900 N R).Ok CX code16 := mkTab_ok (hcsF16 N R) (noY_ok) (trivial) (trivial) (trivial)
noncomputable def bdJ16a29900 : Code := (codeAt code16 [false, false, true, true, false, false, true, true, false, false, true, false, true, true]).getD .skip
theorem hsJ16a29900 (N : Nat) : ∀ (lk : Nat → AV) (M : List Blk), LFJ16a29900 N (canS sgJ16a29900 lk M) = evk CX (T16uc29900 N OJ16a29900) bdJ16a29900 29900 (canS sgJ16a29900 lk M) (kontX CX 1 xsJ16a29900) := by intro lk M; kernel_rfl
inductive OJ16a119606 where
  | nx (x36 : Bool) (b0c0 : Bool) (b0c1 : Bool) (b0c2 : Bool) (b0c3 : Bool) (b0c4 : Bool) (b0c5 : Int) (b0c6 : Int) (b0c7 : Int)
def J16a119606 (N : Nat) : Int → Bool → Bool → Bool → Bool → Bool → Int → Int → Int → Option OJ16a119606 := fun x3 b0c0 b0c1 b0c2 b0c3 b0c4 b0c5 b0c6 b0c7 =>
    match decide ((0 : Int) < x3) with
    | true =>
      match decide (b0c5 < (0 : Int)) with
      | true =>
        some (.nx true b0c0 b0c1 b0c2 b0c3 b0c4 b0c5 b0c6 b0c7)
      | false =>
        match decide (x3 ≤ b0c5) with
        | true =>
          some (.nx true b0c0 b0c1 b0c2 b0c3 b0c4 b0c5 b0c6 b0c7)
        | false =>
          some (.nx (decide (b0c6 < (0 : Int))) b0c0 b0c1 b0c2 b0c3 b0c4 b0c5 b0c6 b0c7)
    | false =>
      some (.nx false b0c0 b0c1 b0c2 b0c3 b0c4 b0c5 b0c6 b0c7)
def LFJ16a119606 (N : Nat) (s : St) : Option OJ16a119606 := J16a119606 N ((Eng.look s.env 3).toI) (((s.mem.getD 0 .dead).cells.getD 0 .top).toB) (((s.mem.getD 0 .dead).cells.getD 1 .top).toB) (((s.mem.getD 0 .dead).cells.getD 2 .top).toB) (((s.mem.getD 0 .dead).cells.getD 3 .top).toB) (((s.mem.getD 0 .dead).cells.getD 4 .top).toB) (((s.mem.getD 0 .dead).cells.getD 5 .top).toI) (((s.mem.getD 0 .dead).cells.getD 6 .top).toI) (((s.mem.getD 0 .dead).cells.getD 7 .top).toI)
def sgJ16a119606 : LSh := ⟨[(3, .one (.cell (.int .i64))), (4, .one (.ptr 0 0 0))], [.var [.bool, .bool, .bool, .bool, .bool, .int .i64, .int .i64, .int .i64] [.cell (.bool), .cell (.bool), .cell (.bool), .cell (.bool), .cell (.bool), .cell (.int .i64), .cell (.int .i64), .cell (.int .i64)]]⟩
def ceJ16a119606 : List Cv := []
def seJ16a119606 : St → List Nat := fun st => [(Eng.look st.env 4).id]
def xJ16a119606wnx : XSh OJ16a119606 := ⟨[], ⟨[(36, .one (.cell (.bool)))], [.var [.bool, .bool, .bool, .bool, .bool, .int .i64, .int .i64, .int .i64] [.cell (.bool), .cell (.bool), .cell (.bool), .cell (.bool), .cell (.bool), .cell (.int .i64), .cell (.int .i64), .cell (.int .i64)]]⟩, fun st => [0], fun s => .nx ((Eng.look s.env 36).toB) (((s.mem.getD 0 .dead).cells.getD 0 .top).toB) (((s.mem.getD 0 .dead).cells.getD 1 .top).toB) (((s.mem.getD 0 .dead).cells.getD 2 .top).toB) (((s.mem.getD 0 .dead).cells.getD 3 .top).toB) (((s.mem.getD 0 .dead).cells.getD 4 .top).toB) (((s.mem.getD 0 .dead).cells.getD 5 .top).toI) (((s.mem.getD 0 .dead).cells.getD 6 .top).toI) (((s.mem.getD 0 .dead).cells.getD 7 .top).toI)⟩
def xsJ16a119606 : Ex → St → Option (XSh OJ16a119606) := fun e st => match e with
  | .normal => some xJ16a119606wnx
  | _ => none
def exJ16a119606 (o : OJ16a119606) : Ex := match o with | .nx x36 b0c0 b0c1 b0c2 b0c3 b0c4 b0c5 b0c6 b0c7 => .normal
def stJ16a119606 (o : OJ16a119606) : St := match o with | .nx x36 b0c0 b0c1 b0c2 b0c3 b0c4 b0c5 b0c6 b0c7 => ⟨[(36, .bool x36)], [.var [.bool, .bool, .bool, .bool, .bool, .int .i64, .int .i64, .int .i64] [.bool b0c0, .bool b0c1, .bool b0c2, .bool b0c3, .bool b0c4, .int .i64 b0c5, .int .i64 b0c6, .int .i64 b0c7]], [], .unk⟩
def elJ16a119606 {R : Type} (o : OJ16a119606) (k : Ex → St → Option R) : Option R := match o with | .nx x36 b0c0 b0c1 b0c2 b0c3 b0c4 b0c5 b0c6 b0c7 => k .normal ⟨[(36, .bool x36)], [.var [.bool, .bool, .bool, .bool, .bool, .int .i64, .int .i64, .int .i64] [.bool b0c0, .bool b0c1, .bool b0c2, .bool b0c3, .bool b0c4, .int .i64 b0c5, .int .i64 b0c6, .int .i64 b0c7]], [], .unk⟩
theorem heJ16a119606 {R : Type} (o : OJ16a119606) (k : Ex → St → Option R) : elJ16a119606 o k = k (exJ16a119606 o) (stJ16a119606 o) := by cases o <;> rfl
theorem hxJ16a119606 : ∀ e st x, xsJ16a119606 e st = some x → outOk x e exJ16a119606 stJ16a119606 := by
  intro e st x h
  unfold xsJ16a119606 at h
  repeat' split at h
  all_goals first
    | (injection h with h; subst h; exact fun lk M => ⟨rfl, rfl⟩)
    | cases h
noncomputable def T16uc119606 (N : Nat) (R : Type) : LTab R := mkTab ⟨116, 36028728299487232⟩ (csF16 N R) (noY) [] [] []
theorem okT16uc119606 (N : Nat) (R : Type) : (T16uc119606 N R).Ok CX code16 := mkTab_ok (hcsF16 N R) (noY_ok) (trivial) (trivial) (trivial)
noncomputable def bdJ16a119606 : Code := (codeAt code16 [false, true, true, false, true, true, false, false, true, true, false, false, true, false, true, true]).getD .skip
theorem hsJ16a119606 (N : Nat) : ∀ (lk : Nat → AV) (M : List Blk), LFJ16a119606 N (canS sgJ16a119606 lk M) = evk CX (T16uc119606 N OJ16a119606) bdJ16a119606 119606 (canS sgJ16a119606 lk M) (kontX CX 1 xsJ16a119606) := by intro lk M; kernel_rfl
inductive OJ16a956860 where
  | nx (x55 : Bool) (b0c0 : Bool) (b0c1 : Bool) (b0c2 : Bool) (b0c3 : Bool) (b0c4 : Bool) (b0c5 : Int) (b0c6 : Int) (b0c7 : Int)
def J16a956860 (N : Nat) : Bool → Bool → Bool → Bool → Bool → Int → Int → Int → Option OJ16a956860 := fun b0c0 b0c1 b0c2 b0c3 b0c4 b0c5 b0c6 b0c7 =>
    match !b0c0 with
    | true =>
      match b0c1 with
      | true =>
        some (.nx true b0c0 b0c1 b0c2 b0c3 b0c4 b0c5 b0c6 b0c7)
      | false =>
        some (.nx b0c2 b0c0 b0c1 b0c2 b0c3 b0c4 b0c5 b0c6 b0c7)
    | false =>
      some (.nx false b0c0 b0c1 b0c2 b0c3 b0c4 b0c5 b0c6 b0c7)
def LFJ16a956860 (N : Nat) (s : St) : Option OJ16a956860 := J16a956860 N (((s.mem.getD 0 .dead).cells.getD 0 .top).toB) (((s.mem.getD 0 .dead).cells.getD 1 .top).toB) (((s.mem.getD 0 .dead).cells.getD 2 .top).toB) (((s.mem.getD 0 .dead).cells.getD 3 .top).toB) (((s.mem.getD 0 .dead).cells.getD 4 .top).toB) (((s.mem.getD 0 .dead).cells.getD 5 .top).toI) (((s.mem.getD 0 .dead).cells.getD 6 .top).toI) (((s.mem.getD 0 .dead).cells.getD 7 .top).toI)
def sgJ16a956860 : LSh := ⟨[(4, .one (.ptr 0 0 0))], [.var [.bool, .bool, .bool, .bool, .bool, .int .i64, .int .i64, .int .i64] [.cell (.bool), .cell (.bool), .cell (.bool), .cell (.bool), .cell (.bool), .cell (.int .i64), .cell (.int .i64), .cell (.int .i64)]]⟩
def ceJ16a956860 : List Cv := []
def seJ16a956860 : St → List Nat := fun st => [(Eng.look st.env 4).id]
def xJ16a956860wnx : XSh OJ16a956860 := ⟨[], ⟨[(55, .one (.cell (.bool)))], [.var [.bool, .bool, .bool, .bool, .bool, .int .i64, .int .i64, .int .i64] [.cell (.bool), .cell (.bool), .cell (.bool), .cell (.bool), .cell (.bool), .cell (.int .i64), .cell (.int .i64), .cell (.int .i64)]]⟩, fun st => [0], fun s => .nx ((Eng.look s.env 55).toB) (((s.mem.getD 0 .dead).cells.getD 0 .top).toB) (((s.mem.getD 0 .dead).cells.getD 1 .top).toB) (((s.mem.getD 0 .dead).cells.getD 2 .top).toB) (((s.mem.getD 0 .dead).cells.getD 3 .top).toB) (((s.mem.getD 0 .dead).cells.getD 4 .top).toB) (((s.mem.getD 0 .dead).cells.getD 5 .top).toI) (((s.mem.getD 0 .dead).cells.getD 6 .top).toI) (((s.mem.getD 0 .dead).cells.getD 7 .top).toI)⟩
def xsJ16a956860 : Ex → St → Option (XSh OJ16a956860) := fun e st => match e with
  | .normal => some xJ16a956860wnx
  | _ => none
def exJ16a956860 (o : OJ16a956860) : Ex := match o with | .nx x55 b0c0 b0c1 b0c2 b0c3 b0c4 b0c5 b0c6 b0c7 => .normal
def stJ16a956860 (o : OJ16a956860) : St := match o with | .nx x55 b0c0 b0c1 b0c2 b0c3 b0c4 b0c5 b0c6 b0c7 => ⟨[(55, .bool x55)], [.var [.bool, .bool, .bool, .bool, .bool, .int .i64, .int .i64, .int .i64] [.bool b0c0, .bool b0c1, .bool b0c2, .bool b0c3, .bool b0c4, .int .i64 b0c5, .int .i64 b0c6, .int .i64 b0c7]], [], .unk⟩
def elJ16a956860 {R : Type} (o : OJ16a956860) (k : Ex → St → Option R) : Option R := match o with | .nx x55 b0c0 b0c1 b0c2 b0c3 b0c4 b0c5 b0c6 b0c7 => k .normal ⟨[(55, .bool x55)], [.var [.bool, .bool, .bool, .bool, .bool, .int .i64, .int .i64, .int .i64] [.bool b0c0, .bool b0c1, .bool b0c2, .bool b0c3, .bool b0c4, .int .i64 b0c5, .int .i64 b0c6, .int .i64 b0c7]], [], .unk⟩
theorem heJ16a956860 {R : Type} (o : OJ16a956860) (k : Ex → St → Option R) : elJ16a956860 o k = k (exJ16a956860 o) (stJ16a956860 o) := by cases o <;> rfl
theorem hxJ16a956860 : ∀ e st x, xsJ16a956860 e st = some x → outOk x e exJ16a956860 stJ16a956860 := by
  intro e st x h
  unfold xsJ16a956860 at h
  repeat' split at h
  all_goals first
    | (injection h with h; subst h; exact fun lk M => ⟨rfl, rfl⟩)
    | cases h
noncomputable def T16uc956860 (N : Nat) (R : Type) : LTab R := mkTab ⟨116, 147537923792657448960⟩ (csF16 N R) (noY) [] [] []
theorem okT16uc956860 (N : Nat) (R : Type) : (T16uc956860 N R).Ok CX code16 := mkTab_ok (hcsF16 N R) (noY_ok) (trivial) (trivial) (trivial)
noncomputable def bdJ16a956860 : Code := (codeAt code16 [false, false, true, true, true, true, false, true, true, false, false, true, true, false, false, true, false, true, true]).getD .skip
theorem hsJ16a956860 (N : Nat) : ∀ (lk : Nat → AV) (M : List Blk), LFJ16a956860 N (canS sgJ16a956860 lk M) = evk CX (T16uc956860 N OJ16a956860) bdJ16a956860 956860 (canS sgJ16a956860 lk M) (kontX CX 1 xsJ16a956860) := by intro lk M; kernel_rfl
inductive OJ16a3827446 where
  | nx (x55 : Bool) (b0c0 : Bool) (b0c1 : Bool) (b0c2 : Bool) (b0c3 : Bool) (b0c4 : Bool) (b0c5 : Int) (b0c6 : Int) (b0c7 : Int)
def J16a3827446 (N : Nat) : Bool → Bool → Bool → Bool → Bool → Bool → Int → Int → Int → Option OJ16a3827446 := fun x5 b0c0 b0c1 b0c2 b0c3 b0c4 b0c5 b0c6 b0c7 =>
    match !x5 with
    | true =>
      match b0c3 with
      | true =>
        some (.nx true b0c0 b0c1 b0c2 b0c3 b0c4 b0c5 b0c6 b0c7)
      | false =>
        match b0c4 with
        | true =>
          some (.nx true b0c0 b0c1 b0c2 b0c3 b0c4 b0c5 b0c6 b0c7)
        | false =>
          some (.nx (b0c7 != (-1 : Int)) b0c0 b0c1 b0c2 b0c3 b0c4 b0c5 b0c6 b0c7)
    | false =>
      some (.nx false b0c0 b0c1 b0c2 b0c3 b0c4 b0c5 b0c6 b0c7)
def LFJ16a3827446 (N : Nat) (s : St) : Option OJ16a3827446 := J16a3827446 N ((Eng.look s.env 5).toB) (((s.mem.getD 0 .dead).cells.getD 0 .top).toB) (((s.mem.getD 0 .dead).cells.getD 1 .top).toB) (((s.mem.getD 0 .dead).cells.getD 2 .top).toB) (((s.mem.getD 0 .dead).cells.getD 3 .top).toB) (((s.mem.getD 0 .dead).cells.getD 4 .top).toB) (((s.mem.getD 0 .dead).cells.getD 5 .top).toI) (((s.mem.getD 0 .dead).cells.getD 6 .top).toI) (((s.mem.getD 0 .dead).cells.getD 7 .top).toI)
def sgJ16a3827446 : LSh := ⟨[(4, .one (.ptr 0 0 0)), (5, .one (.cell (.bool)))], [.var [.bool, .bool, .bool, .bool, .bool, .int .i64, .int .i64, .int .i64] [.cell (.bool), .cell (.bool), .cell (.bool), .cell (.bool), .cell (.bool), .cell (.int .i64), .cell (.int .i64), .cell (.int .i64)]]⟩
def ceJ16a3827446 : List Cv := []
def seJ16a3827446 : St → List Nat := fun st => [(Eng.look st.env 4).id]
def xJ16a3827446wnx : XSh OJ16a3827446 := ⟨[], ⟨[(55, .one (.cell (.bool)))], [.var [.bool, .bool, .bool, .bool, .bool, .int .i64, .int .i64, .int .i64] [.cell (.bool), .cell (.bool), .cell (.bool), .cell (.bool), .cell (.bool), .cell (.int .i64), .cell (.int .i64), .cell (.int .i64)]]⟩, fun st => [0], fun s => .nx ((Eng.look s.env 55).toB) (((s.mem.getD 0 .dead).cells.getD 0 .top).toB) (((s.mem.getD 0 .dead).cells.getD 1 .top).toB) (((s.mem.getD 0 .dead).cells.getD 2 .top).toB) (((s.mem.getD 0 .dead).cells.getD 3 .top).toB) (((s.mem.getD 0 .dead).cells.getD 4 .top).toB) (((s.mem.getD 0 .dead).cells.getD 5 .top).toI) (((s.mem.getD 0 .dead).cells.getD 6 .top).toI) (((s.mem.getD 0 .dead).cells.getD 7 .top).toI)⟩
def xsJ16a3827446 : Ex → St → Option (XSh OJ16a3827446) := fun e st => match e with
  | .normal => some xJ16a3827446wnx
  | _ => none
def exJ16a3827446 (o : OJ16a3827446) : Ex := match o with | .nx x55 b0c0 b0c1 b0c2 b0c3 b0c4 b0c5 b0c6 b0c7 => .normal
def stJ16a3827446 (o : OJ16a3827446) : St := match o with | .nx x55 b0c0 b0c1 b0c2 b0c3 b0c4 b0c5 b0c6 b0c7 => ⟨[(55, .bool x55)], [.var [.bool, .bool, .bool, .bool, .bool, .int .i64, .int .i64, .int .i64] [.bool b0c0, .bool b0c1, .bool b0c2, .bool b0c3, .bool b0c4, .int .i64 b0c5, .int .i64 b0c6, .int .i64 b0c7]], [], .unk⟩
def elJ16a3827446 {R : Type} (o : OJ16a3827446) (k : Ex → St → Option R) : Option R := match o with | .nx x55 b0c0 b0c1 b0c2 b0c3 b0c4 b0c5 b0c6 b0c7 => k .normal ⟨[(55, .bool x55)], [.var [.bool, .bool, .bool, .bool, .bool, .int .i64, .int .i64, .int .i64] [.bool b0c0, .bool b0c1, .bool b0c2, .bool b0c3, .bool b0c4, .int .i64 b0c5, .int .i64 b0c6, .int .i64 b0c7]], [], .unk⟩
theorem heJ16a3827446 {R : Type} (o : OJ16a3827446) (k : Ex → St → Option R) : elJ16a3827446 o k = k (exJ16a3827446 o) (stJ16a3827446 o) := by cases o <;> rfl
theorem hxJ16a3827446 : ∀ e st x, xsJ16a3827446 e st = some x → outOk x e exJ16a3827446 stJ16a3827446 := by
  intro e st x h
  unfold xsJ16a3827446 at h
  repeat' split at h
  all_goals first
    | (injection h with h; subst h; exact fun lk M => ⟨rfl, rfl⟩)
    | cases h
noncomputable def T16uc3827446 (N : Nat) (R : Type) : LTab R := mkTab ⟨116, 4835555740534724041375744⟩ (csF16 N R) (noY) [] [] []
theorem okT16uc3827446 (N : Nat) (R : Type) : (T16uc3827446 N R).Ok CX code16 := mkTab_ok (hcsF16 N R) (noY_ok) (trivial) (trivial) (trivial)
noncomputable def bdJ16a3827446 : Code := (codeAt code16 [false, true, true, false, true, true, true, true, false, true, true, false, false, true, true, false, false, true, false, true, true]).getD .skip
theorem hsJ16a3827446 (N : Nat) : ∀ (lk : Nat → AV) (M : List Blk), LFJ16a3827446 N (canS sgJ16a3827446 lk M) = evk CX (T16uc3827446 N OJ16a3827446) bdJ16a3827446 3827446 (canS sgJ16a3827446 lk M) (kontX CX 1 xsJ16a3827446) := by intro lk M; kernel_rfl
inductive OJ16a478430 where
  | nx (x55 : Bool) (b0c0 : Bool) (b0c1 : Bool) (b0c2 : Bool) (b0c3 : Bool) (b0c4 : Bool) (b0c5 : Int) (b0c6 : Int) (b0c7 : Int)
def J16a478430 (N : Nat) : Bool → Bool → Bool → Bool → Bool → Bool → Int → Int → Int → Option OJ16a478430 := fun x5 b0c0 b0c1 b0c2 b0c3 b0c4 b0c5 b0c6 b0c7 =>
    match J16a956860 N b0c0 b0c1 b0c2 b0c3 b0c4 b0c5 b0c6 b0c7 with
    | none => none
    | some (.nx x55v4 b0c0v4 b0c1v4 b0c2v4 b0c3v4 b0c4v4 b0c5v4 b0c6v4 b0c7v4) =>
      match x55v4 with
      | true =>
        some (.nx true b0c0v4 b0c1v4 b0c2v4 b0c3v4 b0c4v4 b0c5v4 b0c6v4 b0c7v4)
      | false =>
        match J16a3827446 N x5 b0c0v4 b0c1v4 b0c2v4 b0c3v4 b0c4v4 b0c5v4 b0c6v4 b0c7v4 with
        | none => none
        | some (.nx x55v5 b0c0v5 b0c1v5 b0c2v5 b0c3v5 b0c4v5 b0c5v5 b0c6v5 b0c7v5) =>
          match x55v5 with
          | true =>
            some (.nx true b0c0v5 b0c1v5 b0c2v5 b0c3v5 b0c4v5 b0c5v5 b0c6v5 b0c7v5)
          | false =>
            match decide (b0c7v5 < (-1 : Int)) with
            | true =>
              some (.nx true b0c0v5 b0c1v5 b0c2v5 b0c3v5 b0c4v5 b0c5v5 b0c6v5 b0c7v5)
            | false =>
              match b0c3v5 with
              | true =>
                some (.nx (b0c7v5 != (-1 : Int)) b0c0v5 b0c1v5 b0c2v5 b0c3v5 b0c4v5 b0c5v5 b0c6v5 b0c7v5)
              | false =>
                some (.nx false b0c0v5 b0c1v5 b0c2v5 b0c3v5 b0c4v5 b0c5v5 b0c6v5 b0c7v5)
def LFJ16a478430 (N : Nat) (s : St) : Option OJ16a478430 := J16a478430 N ((Eng.look s.env 5).toB) (((s.mem.getD 0 .dead).cells.getD 0 .top).toB) (((s.mem.getD 0 .dead).cells.getD 1 .top).toB) (((s.mem.getD 0 .dead).cells.getD 2 .top).toB) (((s.mem.getD 0 .dead).cells.getD 3 .top).toB) (((s.mem.getD 0 .dead).cells.getD 4 .top).toB) (((s.mem.getD 0 .dead).cells.getD 5 .top).toI) (((s.mem.getD 0 .dead).cells.getD 6 .top).toI) (((s.mem.getD 0 .dead).cells.getD 7 .top).toI)
def sgJ16a478430 : LSh := ⟨[(4, .one (.ptr 0 0 0)), (5, .one (.cell (.bool)))], [.var [.bool, .bool, .bool, .bool, .bool, .int .i64, .int .i64, .int .i64] [.cell (.bool), .cell (.bool), .cell (.bool), .cell (.bool), .cell (.bool), .cell (.int .i64), .cell (.int .i64), .cell (.int .i64)]]⟩
def ceJ16a478430 : List Cv := []
def seJ16a478430 : St → List Nat := fun st => [(Eng.look st.env 4).id]
def xJ16a478430wnx : XSh OJ16a478430 := ⟨[], ⟨[(55, .one (.cell (.bool)))], [.var [.bool, .bool, .bool, .bool, .bool, .int .i64, .int .i64, .int .i64] [.cell (.bool), .cell (.bool), .cell (.bool), .cell (.bool), .cell (.bool), .cell (.int .i64), .cell (.int .i64), .cell (.int .i64)]]⟩, fun st => [0], fun s => .nx ((Eng.look s.env 55).toB) (((s.mem.getD 0 .dead).cells.getD 0 .top).toB) (((s.mem.getD 0 .dead).cells.getD 1 .top).toB) (((s.mem.getD 0 .dead).cells.getD 2 .top).toB) (((s.mem.getD 0 .dead).cells.getD 3 .top).toB) (((s.mem.getD 0 .dead).cells.getD 4 .top).toB) (((s.mem.getD 0 .dead).cells.getD 5 .top).toI) (((s.mem.getD 0 .dead).cells.getD 6 .top).toI) (((s.mem.getD 0 .dead).cells.getD 7 .top).toI)⟩
def xsJ16a478430 : Ex → St → Option (XSh OJ16a478430) := fun e st => match e with
  | .normal => some xJ16a478430wnx
  | _ => none
def exJ16a478430 (o : OJ16a478430) : Ex := match o with | .nx x55 b0c0 b0c1 b0c2 b0c3 b0c4 b0c5 b0c6 b0c7 => .normal
def stJ16a478430 (o : OJ16a478430) : St := match o with | .nx x55 b0c0 b0c1 b0c2 b0c3 b0c4 b0c5 b0c6 b0c7 => ⟨[(55, .bool x55)], [.var [.bool, .bool, .bool, .bool, .bool, .int .i64, .int .i64, .int .i64] [.bool b0c0, .bool b0c1, .bool b0c2, .bool b0c3, .bool b0c4, .int .i64 b0c5, .int .i64 b0c6, .int .i64 b0c7]], [], .unk⟩
def elJ16a478430 {R : Type} (o : OJ16a478430) (k : Ex → St → Option R) : Option R := match o with | .nx x55 b0c0 b0c1 b0c2 b0c3 b0c4 b0c5 b0c6 b0c7 => k .normal ⟨[(55, .bool x55)], [.var [.bool, .bool, .bool, .bool, .bool, .int .i64, .int .i64, .int .i64] [.bool b0c0, .bool b0c1, .bool b0c2, .bool b0c3, .bool b0c4, .int .i64 b0c5, .int .i64 b0c6, .int .i64 b0c7]], [], .unk⟩
theorem heJ16a478430 {R : Type} (o : OJ16a478430) (k : Ex → St → Option R) : elJ16a478430 o k = k (exJ16a478430 o) (stJ16a478430 o) := by cases o <;> rfl
theorem hxJ16a478430 : ∀ e st x, xsJ16a478430 e st = some x → outOk x e exJ16a478430 stJ16a478430 := by
  intro e st x h
  unfold xsJ16a478430 at h
  repeat' split at h
  all_goals first
    | (injection h with h; subst h; exact fun lk M => ⟨rfl, rfl⟩)
    | cases h
noncomputable def T16uc478430 (N : Nat) (R : Type) : LTab R := mkTab ⟨116, 4951760157105492302577532928⟩ (csF16 N R) (noY) [] [] [(956860, fun st k => callLoop CX 1 147537923792657448960 ceJ16a956860 sgJ16a956860 seJ16a956860 ⟨116, 4951760157105492302577532928⟩ (LFJ16a956860 N) elJ16a956860 st k), (3827446, fun st k => callLoop CX 1 4835555740534724041375744 ceJ16a3827446 sgJ16a3827446 seJ16a3827446 ⟨116, 4951760157105492302577532928⟩ (LFJ16a3827446 N) elJ16a3827446 st k)]
theorem okT16uc478430 (N : Nat) (R : Type) : (T16uc478430 N R).Ok CX code16 := mkTab_ok (hcsF16 N R) (noY_ok) (trivial) (trivial) (⟨cut_ok hX (path := [false, false, true, true, true, true, false, true, true, false, false, true, true, false, false, true, false, true, true]) (by kernel_rfl) (by rfl) (okT16uc956860 N OJ16a956860) (hsJ16a956860 N) hxJ16a956860 rfl heJ16a956860, cut_ok hX (path := [false, true, true, false, true, true, true, true, false, true, true, false, false, true, true, false, false, true, false, true, true]) (by kernel_rfl) (by rfl) (okT16uc3827446 N OJ16a3827446) (hsJ16a3827446 N) hxJ16a3827446 rfl heJ16a3827446, trivial⟩)
noncomputable def bdJ16a478430 : Code := (codeAt code16 [false, true, true, true, true, false, true, true, false, false, true, true, false, false, true, false, true, true]).getD .skip
theorem hsJ16a478430 (N : Nat) : ∀ (lk : Nat → AV) (M : List Blk), LFJ16a478430 N (canS sgJ16a478430 lk M) = evk CX (T16uc478430 N OJ16a478430) bdJ16a478430 478430 (canS sgJ16a478430 lk M) (kontX CX 1 xsJ16a478430) := by intro lk M; kernel_rfl
inductive OL16a58 where
  | ret (x2 : Bool)
  | x0
def L16a58 (N : Nat) : Nat → List Row → List Row → Int → Int → Option OL16a58
  | 0 => fun _ _ _ _ => none
  | n + 1 => fun x0 x9 x10 x11 =>
    match decide (x11 < x10) with
    | true =>
      tst (decide ((0 : Int) ≤ x11) && decide (x11 < ((x9.length : Int)))) <|
      match J16a7474 N ((((x9.getD x11.toNat [])).getD 0 .top).toB) ((((x9.getD x11.toNat [])).getD 1 .top).toB) ((((x9.getD x11.toNat [])).getD 2 .top).toB) ((((x9.getD x11.toNat [])).getD 3 .top).toB) ((((x9.getD x11.toNat [])).getD 4 .top).toB) ((((x9.getD x11.toNat [])).getD 5 .top).toI) ((((x9.getD x11.toNat [])).getD 6 .top).toI) ((((x9.getD x11.toNat [])).getD 7 .top).toI) with
      | none => none
      | some (.nx x5v1 b0c0v1 b0c1v1 b0c2v1 b0c3v1 b0c4v1 b0c5v1 b0c6v1 b0c7v1) =>
        match J16a29900 N x11 b0c0v1 b0c1v1 b0c2v1 b0c3v1 b0c4v1 b0c5v1 b0c6v1 b0c7v1 with
        | none => none
        | some (.nx x23v2 b0c0v2 b0c1v2 b0c2v2 b0c3v2 b0c4v2 b0c5v2 b0c6v2 b0c7v2) =>
          match x23v2 with
          | true =>
            some (.ret false)
          | false =>
            match J16a119606 N x11 b0c0v2 b0c1v2 b0c2v2 b0c3v2 b0c4v2 b0c5v2 b0c6v2 b0c7v2 with
            | none => none
            | some (.nx x36v3 b0c0v3 b0c1v3 b0c2v3 b0c3v3 b0c4v3 b0c5v3 b0c6v3 b0c7v3) =>
              match x36v3 with
              | true =>
                some (.ret false)
              | false =>
                match J16a478430 N x5v1 b0c0v3 b0c1v3 b0c2v3 b0c3v3 b0c4v3 b0c5v3 b0c6v3 b0c7v3 with
                | none => none
                | some (.nx x55v6 b0c0v6 b0c1v6 b0c2v6 b0c3v6 b0c4v6 b0c5v6 b0c6v6 b0c7v6) =>
                  match x55v6 with
                  | true =>
                    some (.ret false)
                  | false =>
                    match decide ((0 : Int) < x11) with
                    | true =>
                      match x5v1 with
                      | true =>
                        tst (decide ((0 : Int) ≤ b0c5v6) && decide (b0c5v6 < ((x0.length : Int)))) <|
                        match !((((x0.getD b0c5v6.toNat [])).getD 0 .top).toB) with
                        | true =>
                          some (.ret false)
                        | false =>
                          tst (decide ((0 : Int) ≤ b0c5v6) && decide (b0c5v6 < ((x0.length : Int)))) <|
                          match (((x0.getD b0c5v6.toNat [])).getD 1 .top).toB with
                          | true =>
                            some (.ret false)
                          | false =>
                            L16a58 N n x0 x9 x10 (IntKind.wrap .i64 (x11 + (1 : Int)))
                      | false =>
                        L16a58 N n x0 x9 x10 (IntKind.wrap .i64 (x11 + (1 : Int)))
                    | false =>
                      L16a58 N n x0 x9 x10 (IntKind.wrap .i64 (x11 + (1 : Int)))
    | false =>
      some .x0
def LFL16a58 (N : Nat) (n : Nat) (s : St) : Option OL16a58 := L16a58 N n ((Eng.look s.env 0).rows) ((Eng.look s.env 9).rows) ((Eng.look s.env 10).toI) ((Eng.look s.env 11).toI)
def sgL16a58 : LSh := ⟨[(0, .one (.cell (.slice 30))), (9, .one (.cell (.slice 30))), (10, .one (.cell (.int .i64))), (11, .one (.cell (.int .i64)))], []⟩
def ceL16a58 : List Cv := []
def seL16a58 : St → List Nat := fun _ => []
def xL16a58wret : XSh OL16a58 := ⟨[], ⟨[(2, .one (.cell (.bool)))], []⟩, fun _ => [], fun s => .ret ((Eng.look s.env 2).toB)⟩
def xL16a58wx0 : XSh OL16a58 := ⟨[], ⟨[], []⟩, fun _ => [], fun s => .x0 ⟩
def xsL16a58 : Ex → St → Option (XSh OL16a58) := fun e st => match e with
  | .ret => some xL16a58wret
  | .exit 0 => some xL16a58wx0
  | _ => none
def exL16a58 (o : OL16a58) : Ex := match o with | .ret x2 => .ret | .x0 => (.exit 0)
def stL16a58 (o : OL16a58) : St := match o with | .ret x2 => ⟨[(2, .bool x2)], [], [], .unk⟩ | .x0 => ⟨[], [], [], .unk⟩
def elL16a58 {R : Type} (o : OL16a58) (k : Ex → St → Option R) : Option R := match o with | .ret x2 => k .ret ⟨[(2, .bool x2)], [], [], .unk⟩ | .x0 => k (.exit 0) ⟨[], [], [], .unk⟩
theorem heL16a58 {R : Type} (o : OL16a58) (k : Ex → St → Option R) : elL16a58 o k = k (exL16a58 o) (stL16a58 o) := by cases o <;> rfl
theorem hxL16a58 : ∀ e st x, xsL16a58 e st = some x → outOk x e exL16a58 stL16a58 := by
  intro e st x h
  unfold xsL16a58 at h
  repeat' split at h
  all_goals first
    | (injection h with h; subst h; exact fun lk M => ⟨rfl, rfl⟩)
    | cases h
noncomputable def T16ul58 (N : Nat) (R : Type) : LTab R := mkTab ⟨116, 83076749736557242056487941267519548⟩ (csF16 N R) (noY) [] [] [(7474, fun st k => callLoop CX 1 8323104 ceJ16a7474 sgJ16a7474 seJ16a7474 ⟨116, 83076749736557242056487941267519548⟩ (LFJ16a7474 N) elJ16a7474 st k), (29900, fun st k => callLoop CX 1 68711088128 ceJ16a29900 sgJ16a29900 seJ16a29900 ⟨116, 83076749736557242056487941267519548⟩ (LFJ16a29900 N) elJ16a29900 st k), (119606, fun st k => callLoop CX 1 36028728299487232 ceJ16a119606 sgJ16a119606 seJ16a119606 ⟨116, 83076749736557242056487941267519548⟩ (LFJ16a119606 N) elJ16a119606 st k), (478430, fun st k => callLoop CX 1 4951760157105492302577532928 ceJ16a478430 sgJ16a478430 seJ16a478430 ⟨116, 83076749736557242056487941267519548⟩ (LFJ16a478430 N) elJ16a478430 st k)]
theorem okT16ul58 (N : Nat) (R : Type) : (T16ul58 N R).Ok CX code16 := mkTab_ok (hcsF16 N R) (noY_ok) (trivial) (trivial) (⟨cut_ok hX (path := [false, true, false, false, true, true, false, false, true, false, true, true]) (by kernel_rfl) (by rfl) (okT16uc7474 N OJ16a7474) (hsJ16a7474 N) hxJ16a7474 rfl heJ16a7474, cut_ok hX (path := [false, false, true, true, false, false, true, true, false, false, true, false, true, true]) (by kernel_rfl) (by rfl) (okT16uc29900 N OJ16a29900) (hsJ16a29900 N) hxJ16a29900 rfl heJ16a29900, cut_ok hX (path := [false, true, true, false, true, true, false, false, true, true, false, false, true, false, true, true]) (by kernel_rfl) (by rfl) (okT16uc119606 N OJ16a119606) (hsJ16a119606 N) hxJ16a119606 rfl heJ16a119606, cut_ok hX (path := [false, true, true, true, true, false, true, true, false, false, true, true, false, false, true, false, true, true]) (by kernel_rfl) (by rfl) (okT16uc478430 N OJ16a478430) (hsJ16a478430 N) hxJ16a478430 rfl heJ16a478430, trivial⟩)
noncomputable def bdL16a58 : Code := match codeAt code16 [false, true, false, true, true] with | some (.loop c) => c | _ => .skip
theorem hsL16a58 (N : Nat) : ∀ (n : Nat) (lk : Nat → AV) (M : List Blk), LFL16a58 N (n + 1) (canS sgL16a58 lk M) = evk CX (T16ul58 N OL16a58) bdL16a58 (2 * 58) (canS sgL16a58 lk M) (kont CX 0 [] sgL16a58 (fun _ => []) xsL16a58 (LFL16a58 N n)) := by intro n lk M; kernel_rfl
noncomputable def T16ur1 (N : Nat) (R : Type) : LTab R := mkTab ⟨116, 83076749736557242056487941267521535⟩ (csF16 N R) (noY) [(58, fun st k => callLoop CX 0 83076749736557242056487941267519548 ceL16a58 sgL16a58 seL16a58 ⟨116, 83076749736557242056487941267521535⟩ (LFL16a58 N N) elL16a58 st k)] [] []
theorem okT16ur1 (N : Nat) (R : Type) : (T16ur1 N R).Ok CX code16 := mkTab_ok (hcsF16 N R) (noY_ok) (⟨loop_ok hX (path := [false, true, false, true, true]) (by kernel_rfl) (by rfl) (okT16ul58 N OL16a58) (fun _ _ => rfl) (hsL16a58 N) hxL16a58 rfl heL16a58, trivial⟩) (trivial) (trivial)
def rsF16 : List ResultVar := [.tmp 2]
def F16 : Nat → TF16
  | 0 => fun _ => none
  | N + 1 => fun x0 =>
    match decide ((32 : Int) < ((x0.length : Int))) with
    | true =>
      some (.r false)
    | false =>
      match L16a58 N N x0 x0 ((x0.length : Int)) 0 with
      | none => none
      | some (.ret x2v7) =>
        some (.r x2v7)
      | some (.x0) =>
        some (.r true)
def xRF16 : XSh R16 := ⟨[], ⟨[(0, .one (.cell (.bool)))], []⟩, fun _ => [], fun s => .r ((Eng.look s.env 0).toB)⟩
theorem fsF16 : ∀ (N : Nat) (lk : Nat → AV) (M : List Blk), FFF16 (F16 (N + 1)) (canS sgF16 lk M) = evfn CX (T16ur1 N R16) code16 rsF16 (argsE 1 (canS sgF16 lk M).env) (canS sgF16 lk M).mem (goR CX 0 (fun _ => some xRF16)) := by intro N lk M; kernel_rfl
theorem soundF16 : ∀ N, RecOkF16 (F16 N)
  | 0, lk, M, o, h => by cases h
  | N + 1, lk, M, o, h => fn_sound hX (okT16ur1 N R16) Try.func16 hb16 rfl en16 (by kernel_rfl) (ys := fun _ => some xRF16) (fun st y h => by injection h with h; subst h; exact fun lk M => ⟨rfl, rfl⟩) ((fsF16 N lk M).symm.trans h)
def cvce16n0 : List Cv := []
def selce16n0 : St → List Nat := fun _ => []
noncomputable def ce16n0 (Fx : TF16) (R : Type) (test : List AV → List Blk → Bool) : CE R := ⟨16, test, fun args M => some (selce16n0 ⟨argEnv 0 args, M, [], .unk⟩), fun args M k => tst (Nat.beq args.length 1) (callFn CX 0 cvce16n0 sgF16 selce16n0 (FFF16 Fx) elF16 args M k)⟩
theorem okce16n0 (Fx : TF16) (h : RecOkF16 Fx) (R : Type) (test : List AV → List Blk → Bool) : CeOk CX (ce16n0 Fx R test) := ce_ok hX (fun o k => by cases o; rfl) h en16 (fun args M ids h => by injection h with h; exact ⟨rfl, h.symm⟩)
def cvce16n1 : List Cv := [.frz 0 (.slice 30)]
def selce16n1 : St → List Nat := fun _ => []
noncomputable def ce16n1 (Fx : TF16) (R : Type) (test : List AV → List Blk → Bool) : CE R := ⟨16, test, fun _ _ => none, fun args M k => tst (Nat.beq args.length 1) (callFn CX 0 cvce16n1 sgF16 selce16n1 (FFF16 Fx) elF16 args M k)⟩
theorem okce16n1 (Fx : TF16) (h : RecOkF16 Fx) (R : Type) (test : List AV → List Blk → Bool) : CeOk CX (ce16n1 Fx R test) := ce_ok hX (fun o k => by cases o; rfl) h en16 (fun args M ids h => by cases h)
end Go.Proofs.Ytfggehkiglenjaa

namespace Go.Proofs.Ytfggehkiglenjaa
open Go Go.Eng
set_option maxRecDepth 100000

/-! ### F23: ceiling/master.owned -/
inductive R23 where
  | r (b0c0 : List Row) (b1c0 : Int) (b2c0 : Int)
abbrev TF23 := List Row → Int → Int → Option R23
def sgF23 : LSh := ⟨[(0, .one (.cell (.slice 30))), (1, .one (.cell (.int .i64))), (2, .one (.cell (.int .i64)))], []⟩
def FFF23 (Fx : TF23) (s : St) : Option R23 := Fx ((Eng.look s.env 0).rows) ((Eng.look s.env 1).toI) ((Eng.look s.env 2).toI)
def valF23 (o : R23) : AV := match o with | .r b0c0 b1c0 b2c0 => .clos 31 [] [.ptr 0 0 0, .ptr 1 0 0, .ptr 2 0 0]
def memF23 (o : R23) : List Blk := match o with | .r b0c0 b1c0 b2c0 => [.var [.any] [.list 30 b0c0], .var [.int .i64] [.int .i64 b1c0], .var [.int .i64] [.int .i64 b2c0]]
def elF23 {R : Type} (o : R23) (k : AV → List Blk → Option R) : Option R := match o with | .r b0c0 b1c0 b2c0 => k (.clos 31 [] [.ptr 0 0 0, .ptr 1 0 0, .ptr 2 0 0]) [.var [.any] [.list 30 b0c0], .var [.int .i64] [.int .i64 b1c0], .var [.int .i64] [.int .i64 b2c0]]
def RecOkF23 (Fx : TF23) : Prop := ∀ lk M o, FFF23 Fx (canS sgF23 lk M) = some o → FCalls CX 23 0 (argsE 3 (canS sgF23 lk M).env) (canS sgF23 lk M).mem (valF23 o) (memF23 o)
noncomputable def csF23 (N : Nat) (R : Type) : List (CE R) := []
theorem hcsF23 (N : Nat) (R : Type) : AllE (CeOk CX) (csF23 N R) := trivial
noncomputable def T23ur1 (N : Nat) (R : Type) : LTab R := mkTab ⟨8, 255⟩ (csF23 N R) (noY) [] [] []
theorem okT23ur1 (N : Nat) (R : Type) : (T23ur1 N R).Ok CX code23 := mkTab_ok (hcsF23 N R) (noY_ok) (trivial) (trivial) (trivial)
def rsF23 : List ResultVar := [.tmp 6]
def F23 : Nat → TF23
  | 0 => fun _ _ _ => none
  | N + 1 => fun x0 x1 x2 =>
    some (.r x0 x1 x2)
def xRF23 : XSh R23 := ⟨[], ⟨[(0, .one (.cl 31 [(0, 0, 0), (1, 0, 0), (2, 0, 0)]))], [.var [.any] [.cell (.slice 30)], .var [.int .i64] [.cell (.int .i64)], .var [.int .i64] [.cell (.int .i64)]]⟩, fun st => [((Eng.look st.env 0).caps.getD 0 .top).id, ((Eng.look st.env 0).caps.getD 1 .top).id, ((Eng.look st.env 0).caps.getD 2 .top).id], fun s => .r (((s.mem.getD 0 .dead).cells.getD 0 .top).rows) (((s.mem.getD 1 .dead).cells.getD 0 .top).toI) (((s.mem.getD 2 .dead).cells.getD 0 .top).toI)⟩
theorem fsF23 : ∀ (N : Nat) (lk : Nat → AV) (M : List Blk), FFF23 (F23 (N + 1)) (canS sgF23 lk M) = evfn CX (T23ur1 N R23) code23 rsF23 (argsE 3 (canS sgF23 lk M).env) (canS sgF23 lk M).mem (goR CX 0 (fun _ => some xRF23)) := by intro N lk M; kernel_rfl
theorem soundF23 : ∀ N, RecOkF23 (F23 N)
  | 0, lk, M, o, h => by cases h
  | N + 1, lk, M, o, h => fn_sound hX (okT23ur1 N R23) Try.func23 hb23 rfl en23 (by kernel_rfl) (ys := fun _ => some xRF23) (fun st y h => by injection h with h; subst h; exact fun lk M => ⟨rfl, rfl⟩) ((fsF23 N lk M).symm.trans h)
def cvce23n0 : List Cv := []
def selce23n0 : St → List Nat := fun _ => []
noncomputable def ce23n0 (Fx : TF23) (R : Type) (test : List AV → List Blk → Bool) : CE R := ⟨23, test, fun args M => some (selce23n0 ⟨argEnv 0 args, M, [], .unk⟩), fun args M k => tst (Nat.beq args.length 3) (callFn CX 0 cvce23n0 sgF23 selce23n0 (FFF23 Fx) elF23 args M k)⟩
theorem okce23n0 (Fx : TF23) (h : RecOkF23 Fx) (R : Type) (test : List AV → List Blk → Bool) : CeOk CX (ce23n0 Fx R test) := ce_ok hX (fun o k => by cases o; rfl) h en23 (fun args M ids h => by injection h with h; exact ⟨rfl, h.symm⟩)
end Go.Proofs.Ytfggehkiglenjaa

namespace Go.Proofs.Ytfggehkiglenjaa
open Go Go.Eng
set_option maxRecDepth 100000

/-! ### F22: ceiling/master.quiet -/
inductive R22 where
  | r (x0 : Bool)
abbrev TF22 := List Row → Int → Option R22
def sgF22 : LSh := ⟨[(0, .one (.cell (.slice 30))), (1, .one (.cell (.int .i64)))], []⟩
def FFF22 (Fx : TF22) (s : St) : Option R22 := Fx ((Eng.look s.env 0).rows) ((Eng.look s.env 1).toI)
def valF22 (o : R22) : AV := match o with | .r x0 => .bool x0
def memF22 (o : R22) : List Blk := match o with | .r x0 => []
def elF22 {R : Type} (o : R22) (k : AV → List Blk → Option R) : Option R := match o with | .r x0 => k (.bool x0) []
def RecOkF22 (Fx : TF22) : Prop := ∀ lk M o, FFF22 Fx (canS sgF22 lk M) = some o → FCalls CX 22 0 (argsE 2 (canS sgF22 lk M).env) (canS sgF22 lk M).mem (valF22 o) (memF22 o)
def cvce22n0 : List Cv := []
def selce22n0 : St → List Nat := fun _ => []
noncomputable def ce22n0 (Fx : TF22) (R : Type) (test : List AV → List Blk → Bool) : CE R := ⟨22, test, fun args M => some (selce22n0 ⟨argEnv 0 args, M, [], .unk⟩), fun args M k => tst (Nat.beq args.length 2) (callFn CX 0 cvce22n0 sgF22 selce22n0 (FFF22 Fx) elF22 args M k)⟩
theorem okce22n0 (Fx : TF22) (h : RecOkF22 Fx) (R : Type) (test : List AV → List Blk → Bool) : CeOk CX (ce22n0 Fx R test) := ce_ok hX (fun o k => by cases o; rfl) h en22 (fun args M ids h => by injection h with h; exact ⟨rfl, h.symm⟩)
noncomputable def csF22 (rec : TF22) (N : Nat) (R : Type) : List (CE R) := [ce22n0 rec R (fun _ _ => true), ce23n0 (F23 N) R (fun _ _ => true)]
theorem hcsF22 (rec : TF22) (hrec : RecOkF22 rec) (N : Nat) (R : Type) : AllE (CeOk CX) (csF22 rec N R) := ⟨okce22n0 rec hrec R (fun _ _ => true), okce23n0 (F23 N) (soundF23 N) R (fun _ _ => true), trivial⟩
noncomputable def T22us122 (rec : TF22) (N : Nat) (R : Type) : LTab R := mkTab ⟨39, 549755813887⟩ (csF22 rec N R) (noY) [] [] []
theorem okT22us122 (rec : TF22) (hrec : RecOkF22 rec) (N : Nat) (R : Type) : (T22us122 rec N R).Ok CX code22 := mkTab_ok (hcsF22 rec hrec N R) (noY_ok) (trivial) (trivial) (trivial)
def rs22i122f31 : List ResultVar := []
inductive OL22i122f31a6 where
  | ret (b1c0 : Int) (b2c0 : Int) (b3c0 : List Row) (b4c0 : Bool)
  | x0 (b1c0 : Int) (b2c0 : Int) (b3c0 : List Row) (b4c0 : Bool)
def L22i122f31a6 (rec : TF22) (N : Nat) : Nat → List Row → Int → Int → Int → Int → List Row → Bool → Option OL22i122f31a6
  | 0 => fun _ _ _ _ _ _ _ => none
  | n + 1 => fun x7 x8 x9 b1c0 b2c0 b3c0 b4c0 =>
    match decide (x9 < x8) with
    | true =>
      tst (decide ((0 : Int) ≤ x9) && decide (x9 < ((x7.length : Int)))) <|
      match decide ((0 : Int) < x9) with
      | true =>
        match ((((x7.getD x9.toNat [])).getD 5 .top).toI) == b1c0 with
        | true =>
          match decide (b2c0 < (0 : Int)) with
          | true =>
            tst (decide ((0 : Int) ≤ x9) && decide (x9 < ((b3c0.length : Int)))) <|
            match (((b3c0.getD x9.toNat [])).getD 0 .top).toB with
            | true =>
              match rec b3c0 x9 with
              | none => none
              | some (.r rx0v3) =>
                match !rx0v3 with
                | true =>
                  some (.ret b1c0 b2c0 b3c0 false)
                | false =>
                  L22i122f31a6 rec N n x7 x8 (IntKind.wrap .i64 (x9 + (1 : Int))) b1c0 b2c0 b3c0 b4c0
            | false =>
              L22i122f31a6 rec N n x7 x8 (IntKind.wrap .i64 (x9 + (1 : Int))) b1c0 b2c0 b3c0 b4c0
          | false =>
            match ((((x7.getD x9.toNat [])).getD 6 .top).toI) == b2c0 with
            | true =>
              tst (decide ((0 : Int) ≤ x9) && decide (x9 < ((b3c0.length : Int)))) <|
              match (((b3c0.getD x9.toNat [])).getD 0 .top).toB with
              | true =>
                match rec b3c0 x9 with
                | none => none
                | some (.r rx0v4) =>
                  match !rx0v4 with
                  | true =>
                    some (.ret b1c0 b2c0 b3c0 false)
                  | false =>
                    L22i122f31a6 rec N n x7 x8 (IntKind.wrap .i64 (x9 + (1 : Int))) b1c0 b2c0 b3c0 b4c0
              | false =>
                L22i122f31a6 rec N n x7 x8 (IntKind.wrap .i64 (x9 + (1 : Int))) b1c0 b2c0 b3c0 b4c0
            | false =>
              L22i122f31a6 rec N n x7 x8 (IntKind.wrap .i64 (x9 + (1 : Int))) b1c0 b2c0 b3c0 b4c0
        | false =>
          L22i122f31a6 rec N n x7 x8 (IntKind.wrap .i64 (x9 + (1 : Int))) b1c0 b2c0 b3c0 b4c0
      | false =>
        L22i122f31a6 rec N n x7 x8 (IntKind.wrap .i64 (x9 + (1 : Int))) b1c0 b2c0 b3c0 b4c0
    | false =>
      some (.x0 b1c0 b2c0 b3c0 b4c0)
def LFL22i122f31a6 (rec : TF22) (N : Nat) (n : Nat) (s : St) : Option OL22i122f31a6 := L22i122f31a6 rec N n ((Eng.look s.env 7).rows) ((Eng.look s.env 8).toI) ((Eng.look s.env 9).toI) (((s.mem.getD 1 .dead).cells.getD 0 .top).toI) (((s.mem.getD 2 .dead).cells.getD 0 .top).toI) (((s.mem.getD 3 .dead).cells.getD 0 .top).rows) (((s.mem.getD 4 .dead).cells.getD 0 .top).toB)
def sgL22i122f31a6 : LSh := ⟨[(0, .one (.yld 0)), (2, .one (.ptr 1 0 0)), (3, .one (.ptr 2 0 0)), (7, .one (.cell (.slice 30))), (8, .one (.cell (.int .i64))), (9, .one (.cell (.int .i64)))], [.loop 0 [(2, .one (.ptr 3 0 0)), (4, .one (.ptr 4 0 0))] none, .var [.int .i64] [.cell (.int .i64)], .var [.int .i64] [.cell (.int .i64)], .var [.any] [.cell (.slice 30)], .var [.bool] [.cell (.bool)]]⟩
def ceL22i122f31a6 : List Cv := []
def seL22i122f31a6 : St → List Nat := fun st => [(Eng.look st.env 0).id, (Eng.look st.env 2).id, (Eng.look st.env 3).id, ((st.mem.getD ((Eng.look st.env 0).id) .dead).lenv.getD 0 (0, .top)).2.id, ((st.mem.getD ((Eng.look st.env 0).id) .dead).lenv.getD 1 (0, .top)).2.id]
def xL22i122f31a6wret : XSh OL22i122f31a6 := ⟨[], ⟨[], [.loop 0 [(2, .one (.ptr 3 0 0)), (4, .one (.ptr 4 0 0))] (some .ret), .var [.int .i64] [.cell (.int .i64)], .var [.int .i64] [.cell (.int .i64)], .var [.any] [.cell (.slice 30)], .var [.bool] [.cell (.bool)]]⟩, fun st => [0, 1, 2, 3, 4], fun s => .ret (((s.mem.getD 1 .dead).cells.getD 0 .top).toI) (((s.mem.getD 2 .dead).cells.getD 0 .top).toI) (((s.mem.getD 3 .dead).cells.getD 0 .top).rows) (((s.mem.getD 4 .dead).cells.getD 0 .top).toB)⟩
def xL22i122f31a6wx0 : XSh OL22i122f31a6 := ⟨[], ⟨[], [.loop 0 [(2, .one (.ptr 3 0 0)), (4, .one (.ptr 4 0 0))] none, .var [.int .i64] [.cell (.int .i64)], .var [.int .i64] [.cell (.int .i64)], .var [.any] [.cell (.slice 30)], .var [.bool] [.cell (.bool)]]⟩, fun st => [0, 1, 2, 3, 4], fun s => .x0 (((s.mem.getD 1 .dead).cells.getD 0 .top).toI) (((s.mem.getD 2 .dead).cells.getD 0 .top).toI) (((s.mem.getD 3 .dead).cells.getD 0 .top).rows) (((s.mem.getD 4 .dead).cells.getD 0 .top).toB)⟩
def xsL22i122f31a6 : Ex → St → Option (XSh OL22i122f31a6) := fun e st => match e with
  | .ret => some xL22i122f31a6wret
  | .exit 0 => some xL22i122f31a6wx0
  | _ => none
def exL22i122f31a6 (o : OL22i122f31a6) : Ex := match o with | .ret b1c0 b2c0 b3c0 b4c0 => .ret | .x0 b1c0 b2c0 b3c0 b4c0 => (.exit 0)
def stL22i122f31a6 (o : OL22i122f31a6) : St := match o with | .ret b1c0 b2c0 b3c0 b4c0 => ⟨[], [.loop 0 [(2, .ptr 3 0 0), (4, .ptr 4 0 0)] false (some .ret), .var [.int .i64] [.int .i64 b1c0], .var [.int .i64] [.int .i64 b2c0], .var [.any] [.list 30 b3c0], .var [.bool] [.bool b4c0]], [], .unk⟩ | .x0 b1c0 b2c0 b3c0 b4c0 => ⟨[], [.loop 0 [(2, .ptr 3 0 0), (4, .ptr 4 0 0)] false none, .var [.int .i64] [.int .i64 b1c0], .var [.int .i64] [.int .i64 b2c0], .var [.any] [.list 30 b3c0], .var [.bool] [.bool b4c0]], [], .unk⟩
def elL22i122f31a6 {R : Type} (o : OL22i122f31a6) (k : Ex → St → Option R) : Option R := match o with | .ret b1c0 b2c0 b3c0 b4c0 => k .ret ⟨[], [.loop 0 [(2, .ptr 3 0 0), (4, .ptr 4 0 0)] false (some .ret), .var [.int .i64] [.int .i64 b1c0], .var [.int .i64] [.int .i64 b2c0], .var [.any] [.list 30 b3c0], .var [.bool] [.bool b4c0]], [], .unk⟩ | .x0 b1c0 b2c0 b3c0 b4c0 => k (.exit 0) ⟨[], [.loop 0 [(2, .ptr 3 0 0), (4, .ptr 4 0 0)] false none, .var [.int .i64] [.int .i64 b1c0], .var [.int .i64] [.int .i64 b2c0], .var [.any] [.list 30 b3c0], .var [.bool] [.bool b4c0]], [], .unk⟩
theorem heL22i122f31a6 {R : Type} (o : OL22i122f31a6) (k : Ex → St → Option R) : elL22i122f31a6 o k = k (exL22i122f31a6 o) (stL22i122f31a6 o) := by cases o <;> rfl
theorem hxL22i122f31a6 : ∀ e st x, xsL22i122f31a6 e st = some x → outOk x e exL22i122f31a6 stL22i122f31a6 := by
  intro e st x h
  unfold xsL22i122f31a6 at h
  repeat' split at h
  all_goals first
    | (injection h with h; subst h; exact fun lk M => ⟨rfl, rfl⟩)
    | cases h
noncomputable def T22i122f31ul6 (rec : TF22) (N : Nat) (R : Type) : LTab R := mkTab ⟨39, 549755813472⟩ (csF22 rec N R) (pickY [(0, fun id args M k => evyield CX (T22us122 rec N R) 0 122 id args M k)]) [] [] []
theorem okT22i122f31ul6 (rec : TF22) (hrec : RecOkF22 rec) (N : Nat) (R : Type) : (T22i122f31ul6 rec N R).Ok CX code31 := mkTab_ok (hcsF22 rec hrec N R) (pickY_ok (es := [(0, fun id args M k => evyield CX (T22us122 rec N R) 0 122 id args M k)]) ⟨fun {id args M k r} h => evyield_sound hX (okT22us122 rec hrec N R) (g := nd0.1) (ps := nd0.2.1) ⟨[false, true, false, true, true, true], by rfl, by kernel_rfl⟩ h, trivial⟩) (trivial) (trivial) (trivial)
noncomputable def bdL22i122f31a6 : Code := match codeAt code31 [false, true] with | some (.loop c) => c | _ => .skip
theorem hsL22i122f31a6 (rec : TF22) (N : Nat) : ∀ (n : Nat) (lk : Nat → AV) (M : List Blk), LFL22i122f31a6 rec N (n + 1) (canS sgL22i122f31a6 lk M) = evk CX (T22i122f31ul6 rec N OL22i122f31a6) bdL22i122f31a6 (2 * 6) (canS sgL22i122f31a6 lk M) (kont CX 5 [] sgL22i122f31a6 (fun st => [0, 1, 2, 3, 4]) xsL22i122f31a6 (LFL22i122f31a6 rec N n)) := by intro n lk M; kernel_rfl
noncomputable def T22i122f31ur1 (rec : TF22) (N : Nat) (R : Type) : LTab R := mkTab ⟨39, 549755813887⟩ (csF22 rec N R) (pickY [(0, fun id args M k => evyield CX (T22us122 rec N R) 0 122 id args M k)]) [(6, fun st k => callLoop CX 5 549755813472 ceL22i122f31a6 sgL22i122f31a6 seL22i122f31a6 ⟨39, 549755813887⟩ (LFL22i122f31a6 rec N N) elL22i122f31a6 st k)] [] []
theorem okT22i122f31ur1 (rec : TF22) (hrec : RecOkF22 rec) (N : Nat) (R : Type) : (T22i122f31ur1 rec N R).Ok CX code31 := mkTab_ok (hcsF22 rec hrec N R) (pickY_ok (es := [(0, fun id args M k => evyield CX (T22us122 rec N R) 0 122 id args M k)]) ⟨fun {id args M k r} h => evyield_sound hX (okT22us122 rec hrec N R) (g := nd0.1) (ps := nd0.2.1) ⟨[false, true, false, true, true, true], by rfl, by kernel_rfl⟩ h, trivial⟩) (⟨loop_ok hX (path := [false, true]) (by kernel_rfl) (by rfl) (okT22i122f31ul6 rec hrec N OL22i122f31a6) (fun _ _ => rfl) (hsL22i122f31a6 rec N) hxL22i122f31a6 rfl heL22i122f31a6, trivial⟩) (trivial) (trivial)
inductive OJ22a14 where
  | nx (b0c0 : Bool) (b1c0 : Bool) (b1c1 : Bool) (b1c2 : Bool) (b1c3 : Bool) (b1c4 : Bool) (b1c5 : Int) (b1c6 : Int) (b1c7 : Int)
  | ret (b0c0 : Bool) (b1c0 : Bool) (b1c1 : Bool) (b1c2 : Bool) (b1c3 : Bool) (b1c4 : Bool) (b1c5 : Int) (b1c6 : Int) (b1c7 : Int)
def J22a14 (rec : TF22) (N : Nat) : Bool → Bool → Bool → Bool → Bool → Bool → Int → Int → Int → Option OJ22a14 := fun b0c0 b1c0 b1c1 b1c2 b1c3 b1c4 b1c5 b1c6 b1c7 =>
    match b1c1 with
    | true =>
      some (.ret b1c1 b1c0 b1c1 b1c2 b1c3 b1c4 b1c5 b1c6 b1c7)
    | false =>
      match !b1c3 with
      | true =>
        some (.ret b1c1 b1c0 b1c1 b1c2 b1c3 b1c4 b1c5 b1c6 b1c7)
      | false =>
        match b1c2 with
        | true =>
          some (.ret b1c1 b1c0 b1c1 b1c2 b1c3 b1c4 b1c5 b1c6 b1c7)
        | false =>
          some (.nx b0c0 b1c0 b1c1 b1c2 b1c3 b1c4 b1c5 b1c6 b1c7)
def LFJ22a14 (rec : TF22) (N : Nat) (s : St) : Option OJ22a14 := J22a14 rec N (((s.mem.getD 0 .dead).cells.getD 0 .top).toB) (((s.mem.getD 1 .dead).cells.getD 0 .top).toB) (((s.mem.getD 1 .dead).cells.getD 1 .top).toB) (((s.mem.getD 1 .dead).cells.getD 2 .top).toB) (((s.mem.getD 1 .dead).cells.getD 3 .top).toB) (((s.mem.getD 1 .dead).cells.getD 4 .top).toB) (((s.mem.getD 1 .dead).cells.getD 5 .top).toI) (((s.mem.getD 1 .dead).cells.getD 6 .top).toI) (((s.mem.getD 1 .dead).cells.getD 7 .top).toI)
def sgJ22a14 : LSh := ⟨[(4, .one (.ptr 0 0 0)), (5, .one (.ptr 1 0 0))], [.var [.bool] [.cell (.bool)], .var [.bool, .bool, .bool, .bool, .bool, .int .i64, .int .i64, .int .i64] [.cell (.bool), .cell (.bool), .cell (.bool), .cell (.bool), .cell (.bool), .cell (.int .i64), .cell (.int .i64), .cell (.int .i64)]]⟩
def ceJ22a14 : List Cv := []
def seJ22a14 : St → List Nat := fun st => [(Eng.look st.env 4).id, (Eng.look st.env 5).id]
def xJ22a14wnx : XSh OJ22a14 := ⟨[], ⟨[], [.var [.bool] [.cell (.bool)], .var [.bool, .bool, .bool, .bool, .bool, .int .i64, .int .i64, .int .i64] [.cell (.bool), .cell (.bool), .cell (.bool), .cell (.bool), .cell (.bool), .cell (.int .i64), .cell (.int .i64), .cell (.int .i64)]]⟩, fun st => [0, 1], fun s => .nx (((s.mem.getD 0 .dead).cells.getD 0 .top).toB) (((s.mem.getD 1 .dead).cells.getD 0 .top).toB) (((s.mem.getD 1 .dead).cells.getD 1 .top).toB) (((s.mem.getD 1 .dead).cells.getD 2 .top).toB) (((s.mem.getD 1 .dead).cells.getD 3 .top).toB) (((s.mem.getD 1 .dead).cells.getD 4 .top).toB) (((s.mem.getD 1 .dead).cells.getD 5 .top).toI) (((s.mem.getD 1 .dead).cells.getD 6 .top).toI) (((s.mem.getD 1 .dead).cells.getD 7 .top).toI)⟩
def xJ22a14wret : XSh OJ22a14 := ⟨[], ⟨[], [.var [.bool] [.cell (.bool)], .var [.bool, .bool, .bool, .bool, .bool, .int .i64, .int .i64, .int .i64] [.cell (.bool), .cell (.bool), .cell (.bool), .cell (.bool), .cell (.bool), .cell (.int .i64), .cell (.int .i64), .cell (.int .i64)]]⟩, fun st => [0, 1], fun s => .ret (((s.mem.getD 0 .dead).cells.getD 0 .top).toB) (((s.mem.getD 1 .dead).cells.getD 0 .top).toB) (((s.mem.getD 1 .dead).cells.getD 1 .top).toB) (((s.mem.getD 1 .dead).cells.getD 2 .top).toB) (((s.mem.getD 1 .dead).cells.getD 3 .top).toB) (((s.mem.getD 1 .dead).cells.getD 4 .top).toB) (((s.mem.getD 1 .dead).cells.getD 5 .top).toI) (((s.mem.getD 1 .dead).cells.getD 6 .top).toI) (((s.mem.getD 1 .dead).cells.getD 7 .top).toI)⟩
def xsJ22a14 : Ex → St → Option (XSh OJ22a14) := fun e st => match e with
  | .normal => some xJ22a14wnx
  | .ret => some xJ22a14wret
  | _ => none
def exJ22a14 (o : OJ22a14) : Ex := match o with | .nx b0c0 b1c0 b1c1 b1c2 b1c3 b1c4 b1c5 b1c6 b1c7 => .normal | .ret b0c0 b1c0 b1c1 b1c2 b1c3 b1c4 b1c5 b1c6 b1c7 => .ret
def stJ22a14 (o : OJ22a14) : St := match o with | .nx b0c0 b1c0 b1c1 b1c2 b1c3 b1c4 b1c5 b1c6 b1c7 => ⟨[], [.var [.bool] [.bool b0c0], .var [.bool, .bool, .bool, .bool, .bool, .int .i64, .int .i64, .int .i64] [.bool b1c0, .bool b1c1, .bool b1c2, .bool b1c3, .bool b1c4, .int .i64 b1c5, .int .i64 b1c6, .int .i64 b1c7]], [], .unk⟩ | .ret b0c0 b1c0 b1c1 b1c2 b1c3 b1c4 b1c5 b1c6 b1c7 => ⟨[], [.var [.bool] [.bool b0c0], .var [.bool, .bool, .bool, .bool, .bool, .int .i64, .int .i64, .int .i64] [.bool b1c0, .bool b1c1, .bool b1c2, .bool b1c3, .bool b1c4, .int .i64 b1c5, .int .i64 b1c6, .int .i64 b1c7]], [], .unk⟩
def elJ22a14 {R : Type} (o : OJ22a14) (k : Ex → St → Option R) : Option R := match o with | .nx b0c0 b1c0 b1c1 b1c2 b1c3 b1c4 b1c5 b1c6 b1c7 => k .normal ⟨[], [.var [.bool] [.bool b0c0], .var [.bool, .bool, .bool, .bool, .bool, .int .i64, .int .i64, .int .i64] [.bool b1c0, .bool b1c1, .bool b1c2, .bool b1c3, .bool b1c4, .int .i64 b1c5, .int .i64 b1c6, .int .i64 b1c7]], [], .unk⟩ | .ret b0c0 b1c0 b1c1 b1c2 b1c3 b1c4 b1c5 b1c6 b1c7 => k .ret ⟨[], [.var [.bool] [.bool b0c0], .var [.bool, .bool, .bool, .bool, .bool, .int .i64, .int .i64, .int .i64] [.bool b1c0, .bool b1c1, .bool b1c2, .bool b1c3, .bool b1c4, .int .i64 b1c5, .int .i64 b1c6, .int .i64 b1c7]], [], .unk⟩
theorem heJ22a14 {R : Type} (o : OJ22a14) (k : Ex → St → Option R) : elJ22a14 o k = k (exJ22a14 o) (stJ22a14 o) := by cases o <;> rfl
theorem hxJ22a14 : ∀ e st x, xsJ22a14 e st = some x → outOk x e exJ22a14 stJ22a14 := by
  intro e st x h
  unfold xsJ22a14 at h
  repeat' split at h
  all_goals first
    | (injection h with h; subst h; exact fun lk M => ⟨rfl, rfl⟩)
    | cases h
noncomputable def T22uc14 (rec : TF22) (N : Nat) (R : Type) : LTab R := mkTab ⟨39, 16775168⟩ (csF22 rec N R) (noY) [] [] []
theorem okT22uc14 (rec : TF22) (hrec : RecOkF22 rec) (N : Nat) (R : Type) : (T22uc14 rec N R).Ok CX code22 := mkTab_ok (hcsF22 rec hrec N R) (noY_ok) (trivial) (trivial) (trivial)
noncomputable def bdJ22a14 : Code := (codeAt code22 [false, true, true]).getD .skip
theorem hsJ22a14 (rec : TF22) (N : Nat) : ∀ (lk : Nat → AV) (M : List Blk), LFJ22a14 rec N (canS sgJ22a14 lk M) = evk CX (T22uc14 rec N OJ22a14) bdJ22a14 14 (canS sgJ22a14 lk M) (kontX CX 2 xsJ22a14) := by intro lk M; kernel_rfl
noncomputable def T22ur1 (rec : TF22) (N : Nat) (R : Type) : LTab R := mkTab ⟨39, 549755813887⟩ (csF22 rec N R) (noY) [] [(122, fun st k => evrange CX (oneTab ⟨39, 549755813887⟩ (inl 31 (fun args M k => evfn CX (T22i122f31ur1 rec N R) code31 rs22i122f31 args M k))) 0 [2, 4] (.tmp 26) st k)] [(14, fun st k => callLoop CX 2 16775168 ceJ22a14 sgJ22a14 seJ22a14 ⟨39, 549755813887⟩ (LFJ22a14 rec N) elJ22a14 st k)]
theorem okT22ur1 (rec : TF22) (hrec : RecOkF22 rec) (N : Nat) (R : Type) : (T22ur1 rec N R).Ok CX code22 := mkTab_ok (hcsF22 rec hrec N R) (noY_ok) (trivial) (⟨range_ok hX (path := [false, true, false, true, true, true]) (ps0 := nd0.2.1) (a0 := nd0.2.2.1) (b0 := nd0.2.2.2) (by kernel_rfl) (by rfl) (inl_ok fun {args M k r} h => evfn_sound hX (okT22i122f31ur1 rec hrec N R) Try.func31 hb31 rfl en31 (by kernel_rfl) h) (by kernel_rfl), trivial⟩) (⟨cut_ok hX (path := [false, true, true]) (by kernel_rfl) (by rfl) (okT22uc14 rec hrec N OJ22a14) (hsJ22a14 rec N) hxJ22a14 rfl heJ22a14, trivial⟩)
def rsF22 : List ResultVar := [.cell 4 4]
def F22 : Nat → TF22
  | 0 => fun _ _ => none
  | N + 1 => fun x0 x1 =>
    tst (decide ((0 : Int) ≤ x1) && decide (x1 < ((x0.length : Int)))) <|
    match J22a14 (F22 N) N false ((((x0.getD x1.toNat [])).getD 0 .top).toB) ((((x0.getD x1.toNat [])).getD 1 .top).toB) ((((x0.getD x1.toNat [])).getD 2 .top).toB) ((((x0.getD x1.toNat [])).getD 3 .top).toB) ((((x0.getD x1.toNat [])).getD 4 .top).toB) ((((x0.getD x1.toNat [])).getD 5 .top).toI) ((((x0.getD x1.toNat [])).getD 6 .top).toI) ((((x0.getD x1.toNat [])).getD 7 .top).toI) with
    | none => none
    | some (.nx b0c0v1 b1c0v1 b1c1v1 b1c2v1 b1c3v1 b1c4v1 b1c5v1 b1c6v1 b1c7v1) =>
      match F23 N x0 x1 ((-1)) with
      | none => none
      | some (.r rb0c0v2 rb1c0v2 rb2c0v2) =>
        match L22i122f31a6 (F22 N) N N rb0c0v2 ((rb0c0v2.length : Int)) 0 rb1c0v2 rb2c0v2 x0 b0c0v1 with
        | none => none
        | some (.ret b1c0v5 b2c0v5 b3c0v5 b4c0v5) =>
          some (.r b4c0v5)
        | some (.x0 b1c0v6 b2c0v6 b3c0v6 b4c0v6) =>
          some (.r true)
    | some (.ret b0c0v7 b1c0v7 b1c1v7 b1c2v7 b1c3v7 b1c4v7 b1c5v7 b1c6v7 b1c7v7) =>
      some (.r b0c0v7)
def xRF22 : XSh R22 := ⟨[], ⟨[(0, .one (.cell (.bool)))], []⟩, fun _ => [], fun s => .r ((Eng.look s.env 0).toB)⟩
theorem fsF22 : ∀ (N : Nat) (lk : Nat → AV) (M : List Blk), FFF22 (F22 (N + 1)) (canS sgF22 lk M) = evfn CX (T22ur1 (F22 N) N R22) code22 rsF22 (argsE 2 (canS sgF22 lk M).env) (canS sgF22 lk M).mem (goR CX 0 (fun _ => some xRF22)) := by intro N lk M; kernel_rfl
theorem soundF22 : ∀ N, RecOkF22 (F22 N)
  | 0, lk, M, o, h => by cases h
  | N + 1, lk, M, o, h => fn_sound hX (okT22ur1 (F22 N) (soundF22 N) N R22) Try.func22 hb22 rfl en22 (by kernel_rfl) (ys := fun _ => some xRF22) (fun st y h => by injection h with h; subst h; exact fun lk M => ⟨rfl, rfl⟩) ((fsF22 N lk M).symm.trans h)
end Go.Proofs.Ytfggehkiglenjaa

namespace Go.Proofs.Ytfggehkiglenjaa
open Go Go.Eng
set_option maxRecDepth 100000

/-! ### F9: ceiling/master.Ready -/
inductive R9 where
  | r (b0 : List Row)
abbrev TF9 := List Row → Option R9
def sgF9 : LSh := ⟨[(0, .one (.cell (.slice 30)))], []⟩
def FFF9 (Fx : TF9) (s : St) : Option R9 := Fx ((Eng.look s.env 0).rows)
def valF9 (o : R9) : AV := match o with | .r b0 => .own 0
def memF9 (o : R9) : List Blk := match o with | .r b0 => [.row 3 b0]
def elF9 {R : Type} (o : R9) (k : AV → List Blk → Option R) : Option R := match o with | .r b0 => k (.own 0) [.row 3 b0]
def RecOkF9 (Fx : TF9) : Prop := ∀ lk M o, FFF9 Fx (canS sgF9 lk M) = some o → FCalls CX 9 0 (argsE 1 (canS sgF9 lk M).env) (canS sgF9 lk M).mem (valF9 o) (memF9 o)
noncomputable def csF9 (N : Nat) (R : Type) : List (CE R) := [ce16n0 (F16 N) R (fun _ _ => true), ce22n0 (F22 N) R (fun _ _ => true), ce23n0 (F23 N) R (fun _ _ => true)]
theorem hcsF9 (N : Nat) (R : Type) : AllE (CeOk CX) (csF9 N R) := ⟨okce16n0 (F16 N) (soundF16 N) R (fun _ _ => true), okce22n0 (F22 N) (soundF22 N) R (fun _ _ => true), okce23n0 (F23 N) (soundF23 N) R (fun _ _ => true), trivial⟩
noncomputable def T9us223642 (N : Nat) (R : Type) : LTab R := mkTab ⟨69, 590295810358705651711⟩ (csF9 N R) (noY) [] [] []
theorem okT9us223642 (N : Nat) (R : Type) : (T9us223642 N R).Ok CX code9 := mkTab_ok (hcsF9 N R) (noY_ok) (trivial) (trivial) (trivial)
def rs9i223642f31 : List ResultVar := []
inductive OL9i223642f31a6 where
  | ret (b1c0 : Int) (b2c0 : Int) (b3c0 : List Row)
  | x0 (b1c0 : Int) (b2c0 : Int) (b3c0 : List Row)
def L9i223642f31a6 (N : Nat) : Nat → List Row → Int → Int → Int → Int → List Row → Option OL9i223642f31a6
  | 0 => fun _ _ _ _ _ _ => none
  | n + 1 => fun x7 x8 x9 b1c0 b2c0 b3c0 =>
    match decide (x9 < x8) with
    | true =>
      tst (decide ((0 : Int) ≤ x9) && decide (x9 < ((x7.length : Int)))) <|
      match decide ((0 : Int) < x9) with
      | true =>
        match ((((x7.getD x9.toNat [])).getD 5 .top).toI) == b1c0 with
        | true =>
          match decide (b2c0 < (0 : Int)) with
          | true =>
            tst (decide ((0 : Int) ≤ x9) && decide (x9 < ((b3c0.length : Int)))) <|
            match (((b3c0.getD x9.toNat [])).getD 0 .top).toB with
            | true =>
              match F22 N b3c0 x9 with
              | none => none
              | some (.r rx0v5) =>
                match !rx0v5 with
                | true =>
                  some (.ret b1c0 b2c0 b3c0)
                | false =>
                  L9i223642f31a6 N n x7 x8 (IntKind.wrap .i64 (x9 + (1 : Int))) b1c0 b2c0 b3c0
            | false =>
              L9i223642f31a6 N n x7 x8 (IntKind.wrap .i64 (x9 + (1 : Int))) b1c0 b2c0 b3c0
          | false =>
            match ((((x7.getD x9.toNat [])).getD 6 .top).toI) == b2c0 with
            | true =>
              tst (decide ((0 : Int) ≤ x9) && decide (x9 < ((b3c0.length : Int)))) <|
              match (((b3c0.getD x9.toNat [])).getD 0 .top).toB with
              | true =>
                match F22 N b3c0 x9 with
                | none => none
                | some (.r rx0v6) =>
                  match !rx0v6 with
                  | true =>
                    some (.ret b1c0 b2c0 b3c0)
                  | false =>
                    L9i223642f31a6 N n x7 x8 (IntKind.wrap .i64 (x9 + (1 : Int))) b1c0 b2c0 b3c0
              | false =>
                L9i223642f31a6 N n x7 x8 (IntKind.wrap .i64 (x9 + (1 : Int))) b1c0 b2c0 b3c0
            | false =>
              L9i223642f31a6 N n x7 x8 (IntKind.wrap .i64 (x9 + (1 : Int))) b1c0 b2c0 b3c0
        | false =>
          L9i223642f31a6 N n x7 x8 (IntKind.wrap .i64 (x9 + (1 : Int))) b1c0 b2c0 b3c0
      | false =>
        L9i223642f31a6 N n x7 x8 (IntKind.wrap .i64 (x9 + (1 : Int))) b1c0 b2c0 b3c0
    | false =>
      some (.x0 b1c0 b2c0 b3c0)
def LFL9i223642f31a6 (N : Nat) (n : Nat) (s : St) : Option OL9i223642f31a6 := L9i223642f31a6 N n ((Eng.look s.env 7).rows) ((Eng.look s.env 8).toI) ((Eng.look s.env 9).toI) (((s.mem.getD 1 .dead).cells.getD 0 .top).toI) (((s.mem.getD 2 .dead).cells.getD 0 .top).toI) (((s.mem.getD 3 .dead).cells.getD 0 .top).rows)
def sgL9i223642f31a6 : LSh := ⟨[(0, .one (.yld 0)), (2, .one (.ptr 1 0 0)), (3, .one (.ptr 2 0 0)), (7, .one (.cell (.slice 30))), (8, .one (.cell (.int .i64))), (9, .one (.cell (.int .i64)))], [.loop 1 [(1, .one (.ptr 3 0 0))] none, .var [.int .i64] [.cell (.int .i64)], .var [.int .i64] [.cell (.int .i64)], .var [.any] [.cell (.slice 30)]]⟩
def ceL9i223642f31a6 : List Cv := []
def seL9i223642f31a6 : St → List Nat := fun st => [(Eng.look st.env 0).id, (Eng.look st.env 2).id, (Eng.look st.env 3).id, ((st.mem.getD ((Eng.look st.env 0).id) .dead).lenv.getD 0 (0, .top)).2.id]
def xL9i223642f31a6wret : XSh OL9i223642f31a6 := ⟨[], ⟨[], [.loop 1 [(1, .one (.ptr 3 0 0))] (some (.exit 1)), .var [.int .i64] [.cell (.int .i64)], .var [.int .i64] [.cell (.int .i64)], .var [.any] [.cell (.slice 30)]]⟩, fun st => [0, 1, 2, 3], fun s => .ret (((s.mem.getD 1 .dead).cells.getD 0 .top).toI) (((s.mem.getD 2 .dead).cells.getD 0 .top).toI) (((s.mem.getD 3 .dead).cells.getD 0 .top).rows)⟩
def xL9i223642f31a6wx0 : XSh OL9i223642f31a6 := ⟨[], ⟨[], [.loop 1 [(1, .one (.ptr 3 0 0))] none, .var [.int .i64] [.cell (.int .i64)], .var [.int .i64] [.cell (.int .i64)], .var [.any] [.cell (.slice 30)]]⟩, fun st => [0, 1, 2, 3], fun s => .x0 (((s.mem.getD 1 .dead).cells.getD 0 .top).toI) (((s.mem.getD 2 .dead).cells.getD 0 .top).toI) (((s.mem.getD 3 .dead).cells.getD 0 .top).rows)⟩
def xsL9i223642f31a6 : Ex → St → Option (XSh OL9i223642f31a6) := fun e st => match e with
  | .ret => some xL9i223642f31a6wret
  | .exit 0 => some xL9i223642f31a6wx0
  | _ => none
def exL9i223642f31a6 (o : OL9i223642f31a6) : Ex := match o with | .ret b1c0 b2c0 b3c0 => .ret | .x0 b1c0 b2c0 b3c0 => (.exit 0)
def stL9i223642f31a6 (o : OL9i223642f31a6) : St := match o with | .ret b1c0 b2c0 b3c0 => ⟨[], [.loop 1 [(1, .ptr 3 0 0)] false (some (.exit 1)), .var [.int .i64] [.int .i64 b1c0], .var [.int .i64] [.int .i64 b2c0], .var [.any] [.list 30 b3c0]], [], .unk⟩ | .x0 b1c0 b2c0 b3c0 => ⟨[], [.loop 1 [(1, .ptr 3 0 0)] false none, .var [.int .i64] [.int .i64 b1c0], .var [.int .i64] [.int .i64 b2c0], .var [.any] [.list 30 b3c0]], [], .unk⟩
def elL9i223642f31a6 {R : Type} (o : OL9i223642f31a6) (k : Ex → St → Option R) : Option R := match o with | .ret b1c0 b2c0 b3c0 => k .ret ⟨[], [.loop 1 [(1, .ptr 3 0 0)] false (some (.exit 1)), .var [.int .i64] [.int .i64 b1c0], .var [.int .i64] [.int .i64 b2c0], .var [.any] [.list 30 b3c0]], [], .unk⟩ | .x0 b1c0 b2c0 b3c0 => k (.exit 0) ⟨[], [.loop 1 [(1, .ptr 3 0 0)] false none, .var [.int .i64] [.int .i64 b1c0], .var [.int .i64] [.int .i64 b2c0], .var [.any] [.list 30 b3c0]], [], .unk⟩
theorem heL9i223642f31a6 {R : Type} (o : OL9i223642f31a6) (k : Ex → St → Option R) : elL9i223642f31a6 o k = k (exL9i223642f31a6 o) (stL9i223642f31a6 o) := by cases o <;> rfl
theorem hxL9i223642f31a6 : ∀ e st x, xsL9i223642f31a6 e st = some x → outOk x e exL9i223642f31a6 stL9i223642f31a6 := by
  intro e st x h
  unfold xsL9i223642f31a6 at h
  repeat' split at h
  all_goals first
    | (injection h with h; subst h; exact fun lk M => ⟨rfl, rfl⟩)
    | cases h
noncomputable def T9i223642f31ul6 (N : Nat) (R : Type) : LTab R := mkTab ⟨39, 549755813472⟩ (csF9 N R) (pickY [(1, fun id args M k => evyield CX (T9us223642 N R) 1 223642 id args M k)]) [] [] []
theorem okT9i223642f31ul6 (N : Nat) (R : Type) : (T9i223642f31ul6 N R).Ok CX code31 := mkTab_ok (hcsF9 N R) (pickY_ok (es := [(1, fun id args M k => evyield CX (T9us223642 N R) 1 223642 id args M k)]) ⟨fun {id args M k r} h => evyield_sound hX (okT9us223642 N R) (g := nd1.1) (ps := nd1.2.1) ⟨[false, true, false, true, true, false, false, true, true, false, false, true, false, true, true, false, true], by rfl, by kernel_rfl⟩ h, trivial⟩) (trivial) (trivial) (trivial)
noncomputable def bdL9i223642f31a6 : Code := match codeAt code31 [false, true] with | some (.loop c) => c | _ => .skip
theorem hsL9i223642f31a6 (N : Nat) : ∀ (n : Nat) (lk : Nat → AV) (M : List Blk), LFL9i223642f31a6 N (n + 1) (canS sgL9i223642f31a6 lk M) = evk CX (T9i223642f31ul6 N OL9i223642f31a6) bdL9i223642f31a6 (2 * 6) (canS sgL9i223642f31a6 lk M) (kont CX 4 [] sgL9i223642f31a6 (fun st => [0, 1, 2, 3]) xsL9i223642f31a6 (LFL9i223642f31a6 N n)) := by intro n lk M; kernel_rfl
noncomputable def T9i223642f31ur1 (N : Nat) (R : Type) : LTab R := mkTab ⟨39, 549755813887⟩ (csF9 N R) (pickY [(1, fun id args M k => evyield CX (T9us223642 N R) 1 223642 id args M k)]) [(6, fun st k => callLoop CX 4 549755813472 ceL9i223642f31a6 sgL9i223642f31a6 seL9i223642f31a6 ⟨39, 549755813887⟩ (LFL9i223642f31a6 N N) elL9i223642f31a6 st k)] [] []
theorem okT9i223642f31ur1 (N : Nat) (R : Type) : (T9i223642f31ur1 N R).Ok CX code31 := mkTab_ok (hcsF9 N R) (pickY_ok (es := [(1, fun id args M k => evyield CX (T9us223642 N R) 1 223642 id args M k)]) ⟨fun {id args M k r} h => evyield_sound hX (okT9us223642 N R) (g := nd1.1) (ps := nd1.2.1) ⟨[false, true, false, true, true, false, false, true, true, false, false, true, false, true, true, false, true], by rfl, by kernel_rfl⟩ h, trivial⟩) (⟨loop_ok hX (path := [false, true]) (by kernel_rfl) (by rfl) (okT9i223642f31ul6 N OL9i223642f31a6) (fun _ _ => rfl) (hsL9i223642f31a6 N) hxL9i223642f31a6 rfl heL9i223642f31a6, trivial⟩) (trivial) (trivial)
inductive OJ9a27954 where
  | nx (b0c0 : List Row) (b1c0 : Bool) (b1c1 : Bool) (b1c2 : Bool) (b1c3 : Bool) (b1c4 : Bool) (b1c5 : Int) (b1c6 : Int) (b1c7 : Int)
  | x1 (b0c0 : List Row) (b1c0 : Bool) (b1c1 : Bool) (b1c2 : Bool) (b1c3 : Bool) (b1c4 : Bool) (b1c5 : Int) (b1c6 : Int) (b1c7 : Int)
def J9a27954 (N : Nat) : Int → List Row → Bool → Bool → Bool → Bool → Bool → Int → Int → Int → Option OJ9a27954 := fun x3 b0c0 b1c0 b1c1 b1c2 b1c3 b1c4 b1c5 b1c6 b1c7 =>
    match !b1c3 with
    | true =>
      some (.x1 b0c0 b1c0 b1c1 b1c2 b1c3 b1c4 b1c5 b1c6 b1c7)
    | false =>
      match b1c4 with
      | true =>
        some (.x1 b0c0 b1c0 b1c1 b1c2 b1c3 b1c4 b1c5 b1c6 b1c7)
      | false =>
        match decide (b1c5 < (0 : Int)) with
        | true =>
          some (.x1 b0c0 b1c0 b1c1 b1c2 b1c3 b1c4 b1c5 b1c6 b1c7)
        | false =>
          tst (decide ((0 : Int) ≤ b1c5) && decide (b1c5 < ((b0c0.length : Int)))) <|
          match ((((b0c0.getD b1c5.toNat [])).getD 7 .top).toI) != b1c6 with
          | true =>
            some (.x1 b0c0 b1c0 b1c1 b1c2 b1c3 b1c4 b1c5 b1c6 b1c7)
          | false =>
            match F22 N b0c0 x3 with
            | none => none
            | some (.r rx0v2) =>
              match !rx0v2 with
              | true =>
                some (.x1 b0c0 b1c0 b1c1 b1c2 b1c3 b1c4 b1c5 b1c6 b1c7)
              | false =>
                some (.nx b0c0 b1c0 b1c1 b1c2 b1c3 b1c4 b1c5 b1c6 b1c7)
def LFJ9a27954 (N : Nat) (s : St) : Option OJ9a27954 := J9a27954 N ((Eng.look s.env 3).toI) (((s.mem.getD 0 .dead).cells.getD 0 .top).rows) (((s.mem.getD 1 .dead).cells.getD 0 .top).toB) (((s.mem.getD 1 .dead).cells.getD 1 .top).toB) (((s.mem.getD 1 .dead).cells.getD 2 .top).toB) (((s.mem.getD 1 .dead).cells.getD 3 .top).toB) (((s.mem.getD 1 .dead).cells.getD 4 .top).toB) (((s.mem.getD 1 .dead).cells.getD 5 .top).toI) (((s.mem.getD 1 .dead).cells.getD 6 .top).toI) (((s.mem.getD 1 .dead).cells.getD 7 .top).toI)
def sgJ9a27954 : LSh := ⟨[(1, .one (.ptr 0 0 0)), (3, .one (.cell (.int .i64))), (4, .one (.ptr 1 0 0))], [.var [.any] [.cell (.slice 30)], .var [.bool, .bool, .bool, .bool, .bool, .int .i64, .int .i64, .int .i64] [.cell (.bool), .cell (.bool), .cell (.bool), .cell (.bool), .cell (.bool), .cell (.int .i64), .cell (.int .i64), .cell (.int .i64)]]⟩
def ceJ9a27954 : List Cv := []
def seJ9a27954 : St → List Nat := fun st => [(Eng.look st.env 1).id, (Eng.look st.env 4).id]
def xJ9a27954wnx : XSh OJ9a27954 := ⟨[], ⟨[], [.var [.any] [.cell (.slice 30)], .var [.bool, .bool, .bool, .bool, .bool, .int .i64, .int .i64, .int .i64] [.cell (.bool), .cell (.bool), .cell (.bool), .cell (.bool), .cell (.bool), .cell (.int .i64), .cell (.int .i64), .cell (.int .i64)]]⟩, fun st => [0, 1], fun s => .nx (((s.mem.getD 0 .dead).cells.getD 0 .top).rows) (((s.mem.getD 1 .dead).cells.getD 0 .top).toB) (((s.mem.getD 1 .dead).cells.getD 1 .top).toB) (((s.mem.getD 1 .dead).cells.getD 2 .top).toB) (((s.mem.getD 1 .dead).cells.getD 3 .top).toB) (((s.mem.getD 1 .dead).cells.getD 4 .top).toB) (((s.mem.getD 1 .dead).cells.getD 5 .top).toI) (((s.mem.getD 1 .dead).cells.getD 6 .top).toI) (((s.mem.getD 1 .dead).cells.getD 7 .top).toI)⟩
def xJ9a27954wx1 : XSh OJ9a27954 := ⟨[], ⟨[], [.var [.any] [.cell (.slice 30)], .var [.bool, .bool, .bool, .bool, .bool, .int .i64, .int .i64, .int .i64] [.cell (.bool), .cell (.bool), .cell (.bool), .cell (.bool), .cell (.bool), .cell (.int .i64), .cell (.int .i64), .cell (.int .i64)]]⟩, fun st => [0, 1], fun s => .x1 (((s.mem.getD 0 .dead).cells.getD 0 .top).rows) (((s.mem.getD 1 .dead).cells.getD 0 .top).toB) (((s.mem.getD 1 .dead).cells.getD 1 .top).toB) (((s.mem.getD 1 .dead).cells.getD 2 .top).toB) (((s.mem.getD 1 .dead).cells.getD 3 .top).toB) (((s.mem.getD 1 .dead).cells.getD 4 .top).toB) (((s.mem.getD 1 .dead).cells.getD 5 .top).toI) (((s.mem.getD 1 .dead).cells.getD 6 .top).toI) (((s.mem.getD 1 .dead).cells.getD 7 .top).toI)⟩
def xsJ9a27954 : Ex → St → Option (XSh OJ9a27954) := fun e st => match e with
  | .normal => some xJ9a27954wnx
  | .exit 1 => some xJ9a27954wx1
  | _ => none
def exJ9a27954 (o : OJ9a27954) : Ex := match o with | .nx b0c0 b1c0 b1c1 b1c2 b1c3 b1c4 b1c5 b1c6 b1c7 => .normal | .x1 b0c0 b1c0 b1c1 b1c2 b1c3 b1c4 b1c5 b1c6 b1c7 => (.exit 1)
def stJ9a27954 (o : OJ9a27954) : St := match o with | .nx b0c0 b1c0 b1c1 b1c2 b1c3 b1c4 b1c5 b1c6 b1c7 => ⟨[], [.var [.any] [.list 30 b0c0], .var [.bool, .bool, .bool, .bool, .bool, .int .i64, .int .i64, .int .i64] [.bool b1c0, .bool b1c1, .bool b1c2, .bool b1c3, .bool b1c4, .int .i64 b1c5, .int .i64 b1c6, .int .i64 b1c7]], [], .unk⟩ | .x1 b0c0 b1c0 b1c1 b1c2 b1c3 b1c4 b1c5 b1c6 b1c7 => ⟨[], [.var [.any] [.list 30 b0c0], .var [.bool, .bool, .bool, .bool, .bool, .int .i64, .int .i64, .int .i64] [.bool b1c0, .bool b1c1, .bool b1c2, .bool b1c3, .bool b1c4, .int .i64 b1c5, .int .i64 b1c6, .int .i64 b1c7]], [], .unk⟩
def elJ9a27954 {R : Type} (o : OJ9a27954) (k : Ex → St → Option R) : Option R := match o with | .nx b0c0 b1c0 b1c1 b1c2 b1c3 b1c4 b1c5 b1c6 b1c7 => k .normal ⟨[], [.var [.any] [.list 30 b0c0], .var [.bool, .bool, .bool, .bool, .bool, .int .i64, .int .i64, .int .i64] [.bool b1c0, .bool b1c1, .bool b1c2, .bool b1c3, .bool b1c4, .int .i64 b1c5, .int .i64 b1c6, .int .i64 b1c7]], [], .unk⟩ | .x1 b0c0 b1c0 b1c1 b1c2 b1c3 b1c4 b1c5 b1c6 b1c7 => k (.exit 1) ⟨[], [.var [.any] [.list 30 b0c0], .var [.bool, .bool, .bool, .bool, .bool, .int .i64, .int .i64, .int .i64] [.bool b1c0, .bool b1c1, .bool b1c2, .bool b1c3, .bool b1c4, .int .i64 b1c5, .int .i64 b1c6, .int .i64 b1c7]], [], .unk⟩
theorem heJ9a27954 {R : Type} (o : OJ9a27954) (k : Ex → St → Option R) : elJ9a27954 o k = k (exJ9a27954 o) (stJ9a27954 o) := by cases o <;> rfl
theorem hxJ9a27954 : ∀ e st x, xsJ9a27954 e st = some x → outOk x e exJ9a27954 stJ9a27954 := by
  intro e st x h
  unfold xsJ9a27954 at h
  repeat' split at h
  all_goals first
    | (injection h with h; subst h; exact fun lk M => ⟨rfl, rfl⟩)
    | cases h
noncomputable def T9uc27954 (N : Nat) (R : Type) : LTab R := mkTab ⟨69, 35184372023296⟩ (csF9 N R) (noY) [] [] []
theorem okT9uc27954 (N : Nat) (R : Type) : (T9uc27954 N R).Ok CX code9 := mkTab_ok (hcsF9 N R) (noY_ok) (trivial) (trivial) (trivial)
noncomputable def bdJ9a27954 : Code := (codeAt code9 [false, true, false, false, true, true, false, false, true, false, true, true, false, true]).getD .skip
theorem hsJ9a27954 (N : Nat) : ∀ (lk : Nat → AV) (M : List Blk), LFJ9a27954 N (canS sgJ9a27954 lk M) = evk CX (T9uc27954 N OJ9a27954) bdJ9a27954 27954 (canS sgJ9a27954 lk M) (kontX CX 2 xsJ9a27954) := by intro lk M; kernel_rfl
inductive OL9a218 where
  | x0 (b0c0 : List Row) (b1 : List Row)
def L9a218 (N : Nat) : Nat → List Row → Int → Int → List Row → List Row → Option OL9a218
  | 0 => fun _ _ _ _ _ => none
  | n + 1 => fun x9 x10 x11 b0c0 b1 =>
    match decide (x11 < x10) with
    | true =>
      tst (decide ((0 : Int) ≤ x11) && decide (x11 < ((x9.length : Int)))) <|
      match J9a27954 N x11 b0c0 ((((x9.getD x11.toNat [])).getD 0 .top).toB) ((((x9.getD x11.toNat [])).getD 1 .top).toB) ((((x9.getD x11.toNat [])).getD 2 .top).toB) ((((x9.getD x11.toNat [])).getD 3 .top).toB) ((((x9.getD x11.toNat [])).getD 4 .top).toB) ((((x9.getD x11.toNat [])).getD 5 .top).toI) ((((x9.getD x11.toNat [])).getD 6 .top).toI) ((((x9.getD x11.toNat [])).getD 7 .top).toI) with
      | none => none
      | some (.nx b0c0v3 b1c0v3 b1c1v3 b1c2v3 b1c3v3 b1c4v3 b1c5v3 b1c6v3 b1c7v3) =>
        match F23 N b0c0v3 b1c5v3 b1c6v3 with
        | none => none
        | some (.r rb0c0v4 rb1c0v4 rb2c0v4) =>
          match L9i223642f31a6 N N rb0c0v4 ((rb0c0v4.length : Int)) 0 rb1c0v4 rb2c0v4 b0c0v3 with
          | none => none
          | some (.ret b1c0v7 b2c0v7 b3c0v7) =>
            L9a218 N n x9 x10 (IntKind.wrap .i64 (x11 + (1 : Int))) b3c0v7 b1
          | some (.x0 b1c0v8 b2c0v8 b3c0v8) =>
            tst (decide (((b1.length + 1) * 8) ≤ 140737488355328)) <|
            L9a218 N n x9 x10 (IntKind.wrap .i64 (x11 + (1 : Int))) b3c0v8 (b1 ++ (([[.int .i64 x11]] : List Row)))
      | some (.x1 b0c0v9 b1c0v9 b1c1v9 b1c2v9 b1c3v9 b1c4v9 b1c5v9 b1c6v9 b1c7v9) =>
        L9a218 N n x9 x10 (IntKind.wrap .i64 (x11 + (1 : Int))) b0c0v9 b1
    | false =>
      some (.x0 b0c0 b1)
def LFL9a218 (N : Nat) (n : Nat) (s : St) : Option OL9a218 := L9a218 N n ((Eng.look s.env 9).rows) ((Eng.look s.env 10).toI) ((Eng.look s.env 11).toI) (((s.mem.getD 0 .dead).cells.getD 0 .top).rows) ((s.mem.getD 1 .dead).rows)
def sgL9a218 : LSh := ⟨[(1, .one (.ptr 0 0 0)), (2, .one (.own 1)), (9, .one (.cell (.slice 30))), (10, .one (.cell (.int .i64))), (11, .one (.cell (.int .i64)))], [.var [.any] [.cell (.slice 30)], .row 3]⟩
def ceL9a218 : List Cv := [.mk 2 3]
def seL9a218 : St → List Nat := fun st => [(Eng.look st.env 1).id, (Eng.look st.env 2).id]
def xL9a218wx0 : XSh OL9a218 := ⟨[], ⟨[(2, .one (.own 1))], [.var [.any] [.cell (.slice 30)], .row 3]⟩, fun st => [0, (Eng.look st.env 2).id], fun s => .x0 (((s.mem.getD 0 .dead).cells.getD 0 .top).rows) ((s.mem.getD 1 .dead).rows)⟩
def xsL9a218 : Ex → St → Option (XSh OL9a218) := fun e st => match e with
  | .exit 0 => some xL9a218wx0
  | _ => none
def exL9a218 (o : OL9a218) : Ex := match o with | .x0 b0c0 b1 => (.exit 0)
def stL9a218 (o : OL9a218) : St := match o with | .x0 b0c0 b1 => ⟨[(2, .own 1)], [.var [.any] [.list 30 b0c0], .row 3 b1], [], .unk⟩
def elL9a218 {R : Type} (o : OL9a218) (k : Ex → St → Option R) : Option R := match o with | .x0 b0c0 b1 => k (.exit 0) ⟨[(2, .own 1)], [.var [.any] [.list 30 b0c0], .row 3 b1], [], .unk⟩
theorem heL9a218 {R : Type} (o : OL9a218) (k : Ex → St → Option R) : elL9a218 o k = k (exL9a218 o) (stL9a218 o) := by cases o <;> rfl
theorem hxL9a218 : ∀ e st x, xsL9a218 e st = some x → outOk x e exL9a218 stL9a218 := by
  intro e st x h
  unfold xsL9a218 at h
  repeat' split at h
  all_goals first
    | (injection h with h; subst h; exact fun lk M => ⟨rfl, rfl⟩)
    | cases h
noncomputable def T9ul218 (N : Nat) (R : Type) : LTab R := mkTab ⟨69, 285926784942311733276⟩ (csF9 N R) (noY) [] [(223642, fun st k => evrange CX (oneTab ⟨69, 285926784942311733276⟩ (inl 31 (fun args M k => evfn CX (T9i223642f31ur1 N R) code31 rs9i223642f31 args M k))) 1 [1] (.tmp 50) st k)] [(27954, fun st k => callLoop CX 2 35184372023296 ceJ9a27954 sgJ9a27954 seJ9a27954 ⟨69, 285926784942311733276⟩ (LFJ9a27954 N) elJ9a27954 st k)]
theorem okT9ul218 (N : Nat) (R : Type) : (T9ul218 N R).Ok CX code9 := mkTab_ok (hcsF9 N R) (noY_ok) (trivial) (⟨range_ok hX (path := [false, true, false, true, true, false, false, true, true, false, false, true, false, true, true, false, true]) (ps0 := nd1.2.1) (a0 := nd1.2.2.1) (b0 := nd1.2.2.2) (by kernel_rfl) (by rfl) (inl_ok fun {args M k r} h => evfn_sound hX (okT9i223642f31ur1 N R) Try.func31 hb31 rfl en31 (by kernel_rfl) h) (by kernel_rfl), trivial⟩) (⟨cut_ok hX (path := [false, true, false, false, true, true, false, false, true, false, true, true, false, true]) (by kernel_rfl) (by rfl) (okT9uc27954 N OJ9a27954) (hsJ9a27954 N) hxJ9a27954 rfl heJ9a27954, trivial⟩)
noncomputable def bdL9a218 : Code := match codeAt code9 [false, true, false, true, true, false, true] with | some (.loop c) => c | _ => .skip
theorem hsL9a218 (N : Nat) : ∀ (n : Nat) (lk : Nat → AV) (M : List Blk), LFL9a218 N (n + 1) (canS sgL9a218 lk M) = evk CX (T9ul218 N OL9a218) bdL9a218 (2 * 218) (canS sgL9a218 lk M) (kont CX 1 [] sgL9a218 (fun st => [0, (Eng.look st.env 2).id]) xsL9a218 (LFL9a218 N n)) := by intro n lk M; kernel_rfl
noncomputable def T9ur1 (N : Nat) (R : Type) : LTab R := mkTab ⟨69, 590295810358705651711⟩ (csF9 N R) (noY) [(218, fun st k => callLoop CX 1 285926784942311733276 ceL9a218 sgL9a218 seL9a218 ⟨69, 590295810358705651711⟩ (LFL9a218 N N) elL9a218 st k)] [] []
theorem okT9ur1 (N : Nat) (R : Type) : (T9ur1 N R).Ok CX code9 := mkTab_ok (hcsF9 N R) (noY_ok) (⟨loop_ok hX (path := [false, true, false, true, true, false, true]) (by kernel_rfl) (by rfl) (okT9ul218 N OL9a218) (fun _ _ => rfl) (hsL9a218 N) hxL9a218 rfl heL9a218, trivial⟩) (trivial) (trivial)
def rsF9 : List ResultVar := [.tmp 2]
def F9 : Nat → TF9
  | 0 => fun _ => none
  | N + 1 => fun x0 =>
    match F16 N x0 with
    | none => none
    | some (.r rx0v1) =>
      match !rx0v1 with
      | true =>
        some (.r (([] : List Row)))
      | false =>
        match L9a218 N N x0 ((x0.length : Int)) 0 x0 (([] : List Row)) with
        | none => none
        | some (.x0 b0c0v10 b1v10) =>
          some (.r b1v10)
def xRF9 : XSh R9 := ⟨[.mk 0 3], ⟨[(0, .one (.own 0))], [.row 3]⟩, fun st => [(Eng.look st.env 0).id], fun s => .r ((s.mem.getD 0 .dead).rows)⟩
theorem fsF9 : ∀ (N : Nat) (lk : Nat → AV) (M : List Blk), FFF9 (F9 (N + 1)) (canS sgF9 lk M) = evfn CX (T9ur1 N R9) code9 rsF9 (argsE 1 (canS sgF9 lk M).env) (canS sgF9 lk M).mem (goR CX 0 (fun _ => some xRF9)) := by intro N lk M; kernel_rfl
theorem soundF9 : ∀ N, RecOkF9 (F9 N)
  | 0, lk, M, o, h => by cases h
  | N + 1, lk, M, o, h => fn_sound hX (okT9ur1 N R9) Try.func9 hb9 rfl en9 (by kernel_rfl) (ys := fun _ => some xRF9) (fun st y h => by injection h with h; subst h; exact fun lk M => ⟨rfl, rfl⟩) ((fsF9 N lk M).symm.trans h)
def cvce9n0 : List Cv := [.frz 0 (.slice 30)]
def selce9n0 : St → List Nat := fun _ => []
noncomputable def ce9n0 (Fx : TF9) (R : Type) (test : List AV → List Blk → Bool) : CE R := ⟨9, test, fun _ _ => none, fun args M k => tst (Nat.beq args.length 1) (callFn CX 0 cvce9n0 sgF9 selce9n0 (FFF9 Fx) elF9 args M k)⟩
theorem okce9n0 (Fx : TF9) (h : RecOkF9 Fx) (R : Type) (test : List AV → List Blk → Bool) : CeOk CX (ce9n0 Fx R test) := ce_ok hX (fun o k => by cases o; rfl) h en9 (fun args M ids h => by cases h)
def cvce9n1 : List Cv := []
def selce9n1 : St → List Nat := fun _ => []
noncomputable def ce9n1 (Fx : TF9) (R : Type) (test : List AV → List Blk → Bool) : CE R := ⟨9, test, fun args M => some (selce9n1 ⟨argEnv 0 args, M, [], .unk⟩), fun args M k => tst (Nat.beq args.length 1) (callFn CX 0 cvce9n1 sgF9 selce9n1 (FFF9 Fx) elF9 args M k)⟩
theorem okce9n1 (Fx : TF9) (h : RecOkF9 Fx) (R : Type) (test : List AV → List Blk → Bool) : CeOk CX (ce9n1 Fx R test) := ce_ok hX (fun o k => by cases o; rfl) h en9 (fun args M ids h => by injection h with h; exact ⟨rfl, h.symm⟩)
end Go.Proofs.Ytfggehkiglenjaa

namespace Go.Proofs.Ytfggehkiglenjaa
open Go Go.Eng
set_option maxRecDepth 100000

/-! ### F17: ceiling/master.Quiet -/
inductive R17 where
  | r (x0 : Bool)
abbrev TF17 := List Row → Int → Option R17
def sgF17 : LSh := ⟨[(0, .one (.cell (.slice 30))), (1, .one (.cell (.int .i64)))], []⟩
def FFF17 (Fx : TF17) (s : St) : Option R17 := Fx ((Eng.look s.env 0).rows) ((Eng.look s.env 1).toI)
def valF17 (o : R17) : AV := match o with | .r x0 => .bool x0
def memF17 (o : R17) : List Blk := match o with | .r x0 => []
def elF17 {R : Type} (o : R17) (k : AV → List Blk → Option R) : Option R := match o with | .r x0 => k (.bool x0) []
def RecOkF17 (Fx : TF17) : Prop := ∀ lk M o, FFF17 Fx (canS sgF17 lk M) = some o → FCalls CX 17 0 (argsE 2 (canS sgF17 lk M).env) (canS sgF17 lk M).mem (valF17 o) (memF17 o)
noncomputable def csF17 (N : Nat) (R : Type) : List (CE R) := [ce16n0 (F16 N) R (fun _ _ => true), ce22n0 (F22 N) R (fun _ _ => true)]
theorem hcsF17 (N : Nat) (R : Type) : AllE (CeOk CX) (csF17 N R) := ⟨okce16n0 (F16 N) (soundF16 N) R (fun _ _ => true), okce22n0 (F22 N) (soundF22 N) R (fun _ _ => true), trivial⟩
noncomputable def T17ur1 (N : Nat) (R : Type) : LTab R := mkTab ⟨22, 4194303⟩ (csF17 N R) (noY) [] [] []
theorem okT17ur1 (N : Nat) (R : Type) : (T17ur1 N R).Ok CX code17 := mkTab_ok (hcsF17 N R) (noY_ok) (trivial) (trivial) (trivial)
def rsF17 : List ResultVar := [.tmp 4]
def F17 : Nat → TF17
  | 0 => fun _ _ => none
  | N + 1 => fun x0 x1 =>
    match F16 N x0 with
    | none => none
    | some (.r rx0v1) =>
      match rx0v1 with
      | true =>
        match decide ((0 : Int) ≤ x1) with
        | true =>
          match decide (x1 < ((x0.length : Int))) with
          | true =>
            match F22 N x0 x1 with
            | none => none
            | some (.r rx0v2) =>
              some (.r rx0v2)
          | false =>
            some (.r false)
        | false =>
          some (.r false)
      | false =>
        some (.r false)
def xRF17 : XSh R17 := ⟨[], ⟨[(0, .one (.cell (.bool)))], []⟩, fun _ => [], fun s => .r ((Eng.look s.env 0).toB)⟩
theorem fsF17 : ∀ (N : Nat) (lk : Nat → AV) (M : List Blk), FFF17 (F17 (N + 1)) (canS sgF17 lk M) = evfn CX (T17ur1 N R17) code17 rsF17 (argsE 2 (canS sgF17 lk M).env) (canS sgF17 lk M).mem (goR CX 0 (fun _ => some xRF17)) := by intro N lk M; kernel_rfl
theorem soundF17 : ∀ N, RecOkF17 (F17 N)
  | 0, lk, M, o, h => by cases h
  | N + 1, lk, M, o, h => fn_sound hX (okT17ur1 N R17) Try.func17 hb17 rfl en17 (by kernel_rfl) (ys := fun _ => some xRF17) (fun st y h => by injection h with h; subst h; exact fun lk M => ⟨rfl, rfl⟩) ((fsF17 N lk M).symm.trans h)
def cvce17n0 : List Cv := [.frz 0 (.slice 30)]
def selce17n0 : St → List Nat := fun _ => []
noncomputable def ce17n0 (Fx : TF17) (R : Type) (test : List AV → List Blk → Bool) : CE R := ⟨17, test, fun _ _ => none, fun args M k => tst (Nat.beq args.length 2) (callFn CX 0 cvce17n0 sgF17 selce17n0 (FFF17 Fx) elF17 args M k)⟩
theorem okce17n0 (Fx : TF17) (h : RecOkF17 Fx) (R : Type) (test : List AV → List Blk → Bool) : CeOk CX (ce17n0 Fx R test) := ce_ok hX (fun o k => by cases o; rfl) h en17 (fun args M ids h => by cases h)
def cvce17n1 : List Cv := []
def selce17n1 : St → List Nat := fun _ => []
noncomputable def ce17n1 (Fx : TF17) (R : Type) (test : List AV → List Blk → Bool) : CE R := ⟨17, test, fun args M => some (selce17n1 ⟨argEnv 0 args, M, [], .unk⟩), fun args M k => tst (Nat.beq args.length 2) (callFn CX 0 cvce17n1 sgF17 selce17n1 (FFF17 Fx) elF17 args M k)⟩
theorem okce17n1 (Fx : TF17) (h : RecOkF17 Fx) (R : Type) (test : List AV → List Blk → Bool) : CeOk CX (ce17n1 Fx R test) := ce_ok hX (fun o k => by cases o; rfl) h en17 (fun args M ids h => by injection h with h; exact ⟨rfl, h.symm⟩)
end Go.Proofs.Ytfggehkiglenjaa

namespace Go.Proofs.Ytfggehkiglenjaa
open Go Go.Eng
set_option maxRecDepth 100000

/-! ### F14: ceiling/master.Of -/
inductive R14 where
  | r (b0 : List Row)
abbrev TF14 := List Row → Int → Int → Option R14
def sgF14 : LSh := ⟨[(0, .one (.cell (.slice 30))), (1, .one (.cell (.int .i64))), (2, .one (.cell (.int .i64)))], []⟩
def FFF14 (Fx : TF14) (s : St) : Option R14 := Fx ((Eng.look s.env 0).rows) ((Eng.look s.env 1).toI) ((Eng.look s.env 2).toI)
def valF14 (o : R14) : AV := match o with | .r b0 => .own 0
def memF14 (o : R14) : List Blk := match o with | .r b0 => [.row 3 b0]
def elF14 {R : Type} (o : R14) (k : AV → List Blk → Option R) : Option R := match o with | .r b0 => k (.own 0) [.row 3 b0]
def RecOkF14 (Fx : TF14) : Prop := ∀ lk M o, FFF14 Fx (canS sgF14 lk M) = some o → FCalls CX 14 0 (argsE 3 (canS sgF14 lk M).env) (canS sgF14 lk M).mem (valF14 o) (memF14 o)
noncomputable def csF14 (N : Nat) (R : Type) : List (CE R) := [ce16n0 (F16 N) R (fun _ _ => true), ce23n0 (F23 N) R (fun _ _ => true)]
theorem hcsF14 (N : Nat) (R : Type) : AllE (CeOk CX) (csF14 N R) := ⟨okce16n0 (F16 N) (soundF16 N) R (fun _ _ => true), okce23n0 (F23 N) (soundF23 N) R (fun _ _ => true), trivial⟩
noncomputable def T14us58 (N : Nat) (R : Type) : LTab R := mkTab ⟨25, 33554431⟩ (csF14 N R) (noY) [] [] []
theorem okT14us58 (N : Nat) (R : Type) : (T14us58 N R).Ok CX code14 := mkTab_ok (hcsF14 N R) (noY_ok) (trivial) (trivial) (trivial)
def rs14i58f31 : List ResultVar := []
inductive OL14i58f31a6 where
  | x0 (b1c0 : Int) (b2c0 : Int) (b4 : List Row)
def L14i58f31a6 (N : Nat) : Nat → List Row → Int → Int → Int → Int → List Row → Option OL14i58f31a6
  | 0 => fun _ _ _ _ _ _ => none
  | n + 1 => fun x7 x8 x9 b1c0 b2c0 b4 =>
    match decide (x9 < x8) with
    | true =>
      tst (decide ((0 : Int) ≤ x9) && decide (x9 < ((x7.length : Int)))) <|
      match decide ((0 : Int) < x9) with
      | true =>
        match ((((x7.getD x9.toNat [])).getD 5 .top).toI) == b1c0 with
        | true =>
          match decide (b2c0 < (0 : Int)) with
          | true =>
            tst (decide (((b4.length + 1) * 8) ≤ 140737488355328)) <|
            L14i58f31a6 N n x7 x8 (IntKind.wrap .i64 (x9 + (1 : Int))) b1c0 b2c0 (b4 ++ (([[.int .i64 x9]] : List Row)))
          | false =>
            match ((((x7.getD x9.toNat [])).getD 6 .top).toI) == b2c0 with
            | true =>
              tst (decide (((b4.length + 1) * 8) ≤ 140737488355328)) <|
              L14i58f31a6 N n x7 x8 (IntKind.wrap .i64 (x9 + (1 : Int))) b1c0 b2c0 (b4 ++ (([[.int .i64 x9]] : List Row)))
            | false =>
              L14i58f31a6 N n x7 x8 (IntKind.wrap .i64 (x9 + (1 : Int))) b1c0 b2c0 b4
        | false =>
          L14i58f31a6 N n x7 x8 (IntKind.wrap .i64 (x9 + (1 : Int))) b1c0 b2c0 b4
      | false =>
        L14i58f31a6 N n x7 x8 (IntKind.wrap .i64 (x9 + (1 : Int))) b1c0 b2c0 b4
    | false =>
      some (.x0 b1c0 b2c0 b4)
def LFL14i58f31a6 (N : Nat) (n : Nat) (s : St) : Option OL14i58f31a6 := L14i58f31a6 N n ((Eng.look s.env 7).rows) ((Eng.look s.env 8).toI) ((Eng.look s.env 9).toI) (((s.mem.getD 1 .dead).cells.getD 0 .top).toI) (((s.mem.getD 2 .dead).cells.getD 0 .top).toI) ((s.mem.getD 4 .dead).rows)
def sgL14i58f31a6 : LSh := ⟨[(0, .one (.yld 0)), (2, .one (.ptr 1 0 0)), (3, .one (.ptr 2 0 0)), (7, .one (.cell (.slice 30))), (8, .one (.cell (.int .i64))), (9, .one (.cell (.int .i64)))], [.loop 2 [(6, .one (.ptr 3 0 0))] none, .var [.int .i64] [.cell (.int .i64)], .var [.int .i64] [.cell (.int .i64)], .var [.any] [.own 4], .row 3]⟩
def ceL14i58f31a6 : List Cv := [.mkc (fun env M => ((M.getD ((Eng.look env 0).id) .dead).lenv.getD 0 (0, .top)).2.id) 0 3]
def seL14i58f31a6 : St → List Nat := fun st => [(Eng.look st.env 0).id, (Eng.look st.env 2).id, (Eng.look st.env 3).id, ((st.mem.getD ((Eng.look st.env 0).id) .dead).lenv.getD 0 (0, .top)).2.id, ((st.mem.getD (((st.mem.getD ((Eng.look st.env 0).id) .dead).lenv.getD 0 (0, .top)).2.id) .dead).cells.getD 0 .top).id]
def xL14i58f31a6wx0 : XSh OL14i58f31a6 := ⟨[], ⟨[], [.loop 2 [(6, .one (.ptr 3 0 0))] none, .var [.int .i64] [.cell (.int .i64)], .var [.int .i64] [.cell (.int .i64)], .var [.any] [.own 4], .row 3]⟩, fun st => [0, 1, 2, 3, ((st.mem.getD 3 .dead).cells.getD 0 .top).id], fun s => .x0 (((s.mem.getD 1 .dead).cells.getD 0 .top).toI) (((s.mem.getD 2 .dead).cells.getD 0 .top).toI) ((s.mem.getD 4 .dead).rows)⟩
def xsL14i58f31a6 : Ex → St → Option (XSh OL14i58f31a6) := fun e st => match e with
  | .exit 0 => some xL14i58f31a6wx0
  | _ => none
def exL14i58f31a6 (o : OL14i58f31a6) : Ex := match o with | .x0 b1c0 b2c0 b4 => (.exit 0)
def stL14i58f31a6 (o : OL14i58f31a6) : St := match o with | .x0 b1c0 b2c0 b4 => ⟨[], [.loop 2 [(6, .ptr 3 0 0)] false none, .var [.int .i64] [.int .i64 b1c0], .var [.int .i64] [.int .i64 b2c0], .var [.any] [.own 4], .row 3 b4], [], .unk⟩
def elL14i58f31a6 {R : Type} (o : OL14i58f31a6) (k : Ex → St → Option R) : Option R := match o with | .x0 b1c0 b2c0 b4 => k (.exit 0) ⟨[], [.loop 2 [(6, .ptr 3 0 0)] false none, .var [.int .i64] [.int .i64 b1c0], .var [.int .i64] [.int .i64 b2c0], .var [.any] [.own 4], .row 3 b4], [], .unk⟩
theorem heL14i58f31a6 {R : Type} (o : OL14i58f31a6) (k : Ex → St → Option R) : elL14i58f31a6 o k = k (exL14i58f31a6 o) (stL14i58f31a6 o) := by cases o <;> rfl
theorem hxL14i58f31a6 : ∀ e st x, xsL14i58f31a6 e st = some x → outOk x e exL14i58f31a6 stL14i58f31a6 := by
  intro e st x h
  unfold xsL14i58f31a6 at h
  repeat' split at h
  all_goals first
    | (injection h with h; subst h; exact fun lk M => ⟨rfl, rfl⟩)
    | cases h
noncomputable def T14i58f31ul6 (N : Nat) (R : Type) : LTab R := mkTab ⟨39, 549755813472⟩ (csF14 N R) (pickY [(2, fun id args M k => evyield CX (T14us58 N R) 2 58 id args M k)]) [] [] []
theorem okT14i58f31ul6 (N : Nat) (R : Type) : (T14i58f31ul6 N R).Ok CX code31 := mkTab_ok (hcsF14 N R) (pickY_ok (es := [(2, fun id args M k => evyield CX (T14us58 N R) 2 58 id args M k)]) ⟨fun {id args M k r} h => evyield_sound hX (okT14us58 N R) (g := nd2.1) (ps := nd2.2.1) ⟨[false, true, false, true, true], by rfl, by kernel_rfl⟩ h, trivial⟩) (trivial) (trivial) (trivial)
noncomputable def bdL14i58f31a6 : Code := match codeAt code31 [false, true] with | some (.loop c) => c | _ => .skip
theorem hsL14i58f31a6 (N : Nat) : ∀ (n : Nat) (lk : Nat → AV) (M : List Blk), LFL14i58f31a6 N (n + 1) (canS sgL14i58f31a6 lk M) = evk CX (T14i58f31ul6 N OL14i58f31a6) bdL14i58f31a6 (2 * 6) (canS sgL14i58f31a6 lk M) (kont CX 4 [] sgL14i58f31a6 (fun st => [0, 1, 2, 3, ((st.mem.getD 3 .dead).cells.getD 0 .top).id]) xsL14i58f31a6 (LFL14i58f31a6 N n)) := by intro n lk M; kernel_rfl
noncomputable def T14i58f31ur1 (N : Nat) (R : Type) : LTab R := mkTab ⟨39, 549755813887⟩ (csF14 N R) (pickY [(2, fun id args M k => evyield CX (T14us58 N R) 2 58 id args M k)]) [(6, fun st k => callLoop CX 4 549755813472 ceL14i58f31a6 sgL14i58f31a6 seL14i58f31a6 ⟨39, 549755813887⟩ (LFL14i58f31a6 N N) elL14i58f31a6 st k)] [] []
theorem okT14i58f31ur1 (N : Nat) (R : Type) : (T14i58f31ur1 N R).Ok CX code31 := mkTab_ok (hcsF14 N R) (pickY_ok (es := [(2, fun id args M k => evyield CX (T14us58 N R) 2 58 id args M k)]) ⟨fun {id args M k r} h => evyield_sound hX (okT14us58 N R) (g := nd2.1) (ps := nd2.2.1) ⟨[false, true, false, true, true], by rfl, by kernel_rfl⟩ h, trivial⟩) (⟨loop_ok hX (path := [false, true]) (by kernel_rfl) (by rfl) (okT14i58f31ul6 N OL14i58f31a6) (fun _ _ => rfl) (hsL14i58f31a6 N) hxL14i58f31a6 rfl heL14i58f31a6, trivial⟩) (trivial) (trivial)
noncomputable def T14ur1 (N : Nat) (R : Type) : LTab R := mkTab ⟨25, 33554431⟩ (csF14 N R) (noY) [] [(58, fun st k => evrange CX (oneTab ⟨25, 33554431⟩ (inl 31 (fun args M k => evfn CX (T14i58f31ur1 N R) code31 rs14i58f31 args M k))) 2 [6] (.tmp 18) st k)] []
theorem okT14ur1 (N : Nat) (R : Type) : (T14ur1 N R).Ok CX code14 := mkTab_ok (hcsF14 N R) (noY_ok) (trivial) (⟨range_ok hX (path := [false, true, false, true, true]) (ps0 := nd2.2.1) (a0 := nd2.2.2.1) (b0 := nd2.2.2.2) (by kernel_rfl) (by rfl) (inl_ok fun {args M k r} h => evfn_sound hX (okT14i58f31ur1 N R) Try.func31 hb31 rfl en31 (by kernel_rfl) h) (by kernel_rfl), trivial⟩) (trivial)
def rsF14 : List ResultVar := [.cell 6 23]
def F14 : Nat → TF14
  | 0 => fun _ _ _ => none
  | N + 1 => fun x0 x1 x2 =>
    match F16 N x0 with
    | none => none
    | some (.r rx0v1) =>
      match !rx0v1 with
      | true =>
        some (.r (([] : List Row)))
      | false =>
        match decide (x2 < (0 : Int)) with
        | true =>
          some (.r (([] : List Row)))
        | false =>
          match F23 N x0 x1 x2 with
          | none => none
          | some (.r rb0c0v2 rb1c0v2 rb2c0v2) =>
            match L14i58f31a6 N N rb0c0v2 ((rb0c0v2.length : Int)) 0 rb1c0v2 rb2c0v2 (([] : List Row)) with
            | none => none
            | some (.x0 b1c0v3 b2c0v3 b4v3) =>
              some (.r b4v3)
def xRF14 : XSh R14 := ⟨[.mk 0 3], ⟨[(0, .one (.own 0))], [.row 3]⟩, fun st => [(Eng.look st.env 0).id], fun s => .r ((s.mem.getD 0 .dead).rows)⟩
theorem fsF14 : ∀ (N : Nat) (lk : Nat → AV) (M : List Blk), FFF14 (F14 (N + 1)) (canS sgF14 lk M) = evfn CX (T14ur1 N R14) code14 rsF14 (argsE 3 (canS sgF14 lk M).env) (canS sgF14 lk M).mem (goR CX 0 (fun _ => some xRF14)) := by intro N lk M; kernel_rfl
theorem soundF14 : ∀ N, RecOkF14 (F14 N)
  | 0, lk, M, o, h => by cases h
  | N + 1, lk, M, o, h => fn_sound hX (okT14ur1 N R14) Try.func14 hb14 rfl en14 (by kernel_rfl) (ys := fun _ => some xRF14) (fun st y h => by injection h with h; subst h; exact fun lk M => ⟨rfl, rfl⟩) ((fsF14 N lk M).symm.trans h)
def cvce14n0 : List Cv := []
def selce14n0 : St → List Nat := fun _ => []
noncomputable def ce14n0 (Fx : TF14) (R : Type) (test : List AV → List Blk → Bool) : CE R := ⟨14, test, fun args M => some (selce14n0 ⟨argEnv 0 args, M, [], .unk⟩), fun args M k => tst (Nat.beq args.length 3) (callFn CX 0 cvce14n0 sgF14 selce14n0 (FFF14 Fx) elF14 args M k)⟩
theorem okce14n0 (Fx : TF14) (h : RecOkF14 Fx) (R : Type) (test : List AV → List Blk → Bool) : CeOk CX (ce14n0 Fx R test) := ce_ok hX (fun o k => by cases o; rfl) h en14 (fun args M ids h => by injection h with h; exact ⟨rfl, h.symm⟩)
def cvce14n1 : List Cv := [.frz 0 (.slice 30)]
def selce14n1 : St → List Nat := fun _ => []
noncomputable def ce14n1 (Fx : TF14) (R : Type) (test : List AV → List Blk → Bool) : CE R := ⟨14, test, fun _ _ => none, fun args M k => tst (Nat.beq args.length 3) (callFn CX 0 cvce14n1 sgF14 selce14n1 (FFF14 Fx) elF14 args M k)⟩
theorem okce14n1 (Fx : TF14) (h : RecOkF14 Fx) (R : Type) (test : List AV → List Blk → Bool) : CeOk CX (ce14n1 Fx R test) := ce_ok hX (fun o k => by cases o; rfl) h en14 (fun args M ids h => by cases h)
end Go.Proofs.Ytfggehkiglenjaa

namespace Go.Proofs.Ytfggehkiglenjaa
open Go Go.Eng
set_option maxRecDepth 100000

/-! ### F20: ceiling/master.Over -/
inductive R20 where
  | r (x0 : Bool)
abbrev TF20 := List Row → Int → Int → Option R20
def sgF20 : LSh := ⟨[(0, .one (.cell (.slice 30))), (1, .one (.cell (.int .i64))), (2, .one (.cell (.int .i64)))], []⟩
def FFF20 (Fx : TF20) (s : St) : Option R20 := Fx ((Eng.look s.env 0).rows) ((Eng.look s.env 1).toI) ((Eng.look s.env 2).toI)
def valF20 (o : R20) : AV := match o with | .r x0 => .bool x0
def memF20 (o : R20) : List Blk := match o with | .r x0 => []
def elF20 {R : Type} (o : R20) (k : AV → List Blk → Option R) : Option R := match o with | .r x0 => k (.bool x0) []
def RecOkF20 (Fx : TF20) : Prop := ∀ lk M o, FFF20 Fx (canS sgF20 lk M) = some o → FCalls CX 20 0 (argsE 3 (canS sgF20 lk M).env) (canS sgF20 lk M).mem (valF20 o) (memF20 o)
noncomputable def csF20 (N : Nat) (R : Type) : List (CE R) := [ce14n0 (F14 N) R (fun _ _ => true), ce16n0 (F16 N) R (fun _ _ => true)]
theorem hcsF20 (N : Nat) (R : Type) : AllE (CeOk CX) (csF20 N R) := ⟨okce14n0 (F14 N) (soundF14 N) R (fun _ _ => true), okce16n0 (F16 N) (soundF16 N) R (fun _ _ => true), trivial⟩
inductive OJ20a6 where
  | nx
  | ret (x6 : Bool)
def J20a6 (N : Nat) : List Row → Int → Option OJ20a6 := fun x0 x1 =>
    match F16 N x0 with
    | none => none
    | some (.r rx0v1) =>
      match !rx0v1 with
      | true =>
        some (.ret false)
      | false =>
        match decide (x1 < (0 : Int)) with
        | true =>
          some (.ret false)
        | false =>
          match decide (((x0.length : Int)) ≤ x1) with
          | true =>
            some (.ret false)
          | false =>
            some .nx
def LFJ20a6 (N : Nat) (s : St) : Option OJ20a6 := J20a6 N ((Eng.look s.env 0).rows) ((Eng.look s.env 1).toI)
def sgJ20a6 : LSh := ⟨[(0, .one (.cell (.slice 30))), (1, .one (.cell (.int .i64)))], []⟩
def ceJ20a6 : List Cv := []
def seJ20a6 : St → List Nat := fun _ => []
def xJ20a6wnx : XSh OJ20a6 := ⟨[], ⟨[], []⟩, fun _ => [], fun s => .nx ⟩
def xJ20a6wret : XSh OJ20a6 := ⟨[], ⟨[(6, .one (.cell (.bool)))], []⟩, fun _ => [], fun s => .ret ((Eng.look s.env 6).toB)⟩
def xsJ20a6 : Ex → St → Option (XSh OJ20a6) := fun e st => match e with
  | .normal => some xJ20a6wnx
  | .ret => some xJ20a6wret
  | _ => none
def exJ20a6 (o : OJ20a6) : Ex := match o with | .nx => .normal | .ret x6 => .ret
def stJ20a6 (o : OJ20a6) : St := match o with | .nx => ⟨[], [], [], .unk⟩ | .ret x6 => ⟨[(6, .bool x6)], [], [], .unk⟩
def elJ20a6 {R : Type} (o : OJ20a6) (k : Ex → St → Option R) : Option R := match o with | .nx => k .normal ⟨[], [], [], .unk⟩ | .ret x6 => k .ret ⟨[(6, .bool x6)], [], [], .unk⟩
theorem heJ20a6 {R : Type} (o : OJ20a6) (k : Ex → St → Option R) : elJ20a6 o k = k (exJ20a6 o) (stJ20a6 o) := by cases o <;> rfl
theorem hxJ20a6 : ∀ e st x, xsJ20a6 e st = some x → outOk x e exJ20a6 stJ20a6 := by
  intro e st x h
  unfold xsJ20a6 at h
  repeat' split at h
  all_goals first
    | (injection h with h; subst h; exact fun lk M => ⟨rfl, rfl⟩)
    | cases h
noncomputable def T20uc6 (N : Nat) (R : Type) : LTab R := mkTab ⟨38, 4193856⟩ (csF20 N R) (noY) [] [] []
theorem okT20uc6 (N : Nat) (R : Type) : (T20uc6 N R).Ok CX code20 := mkTab_ok (hcsF20 N R) (noY_ok) (trivial) (trivial) (trivial)
noncomputable def bdJ20a6 : Code := (codeAt code20 [false, true]).getD .skip
theorem hsJ20a6 (N : Nat) : ∀ (lk : Nat → AV) (M : List Blk), LFJ20a6 N (canS sgJ20a6 lk M) = evk CX (T20uc6 N OJ20a6) bdJ20a6 6 (canS sgJ20a6 lk M) (kontX CX 0 xsJ20a6) := by intro lk M; kernel_rfl
inductive OL20a58 where
  | ret (x6 : Bool) (b0 : List Row)
  | x0 (b0 : List Row)
def L20a58 (N : Nat) : Nat → List Row → Int → Int → List Row → Option OL20a58
  | 0 => fun _ _ _ _ => none
  | n + 1 => fun x0 x26 x27 b0 =>
    match decide (x27 < x26) with
    | true =>
      tst (decide ((0 : Int) ≤ x27) && decide (x27 < ((b0.length : Int)))) <|
      tst (decide (x27.toNat < b0.length)) <|
      tst (decide ((0 : Int) ≤ ((((b0.getD x27.toNat [])).getD 0 .top).toI)) && decide ((((b0.getD x27.toNat [])).getD 0 .top).toI < ((x0.length : Int)))) <|
      match !((((x0.getD (((((b0.getD x27.toNat [])).getD 0 .top).toI).toNat) [])).getD 1 .top).toB) with
      | true =>
        some (.ret false b0)
      | false =>
        L20a58 N n x0 x26 (IntKind.wrap .i64 (x27 + (1 : Int))) b0
    | false =>
      some (.x0 b0)
def LFL20a58 (N : Nat) (n : Nat) (s : St) : Option OL20a58 := L20a58 N n ((Eng.look s.env 0).rows) ((Eng.look s.env 26).toI) ((Eng.look s.env 27).toI) ((s.mem.getD 0 .dead).rows)
def sgL20a58 : LSh := ⟨[(0, .one (.cell (.slice 30))), (25, .one (.own 0)), (26, .one (.cell (.int .i64))), (27, .one (.cell (.int .i64)))], [.row 3]⟩
def ceL20a58 : List Cv := []
def seL20a58 : St → List Nat := fun st => [(Eng.look st.env 25).id]
def xL20a58wret : XSh OL20a58 := ⟨[], ⟨[(6, .one (.cell (.bool)))], [.row 3]⟩, fun st => [0], fun s => .ret ((Eng.look s.env 6).toB) ((s.mem.getD 0 .dead).rows)⟩
def xL20a58wx0 : XSh OL20a58 := ⟨[], ⟨[], [.row 3]⟩, fun st => [0], fun s => .x0 ((s.mem.getD 0 .dead).rows)⟩
def xsL20a58 : Ex → St → Option (XSh OL20a58) := fun e st => match e with
  | .ret => some xL20a58wret
  | .exit 0 => some xL20a58wx0
  | _ => none
def exL20a58 (o : OL20a58) : Ex := match o with | .ret x6 b0 => .ret | .x0 b0 => (.exit 0)
def stL20a58 (o : OL20a58) : St := match o with | .ret x6 b0 => ⟨[(6, .bool x6)], [.row 3 b0], [], .unk⟩ | .x0 b0 => ⟨[], [.row 3 b0], [], .unk⟩
def elL20a58 {R : Type} (o : OL20a58) (k : Ex → St → Option R) : Option R := match o with | .ret x6 b0 => k .ret ⟨[(6, .bool x6)], [.row 3 b0], [], .unk⟩ | .x0 b0 => k (.exit 0) ⟨[], [.row 3 b0], [], .unk⟩
theorem heL20a58 {R : Type} (o : OL20a58) (k : Ex → St → Option R) : elL20a58 o k = k (exL20a58 o) (stL20a58 o) := by cases o <;> rfl
theorem hxL20a58 : ∀ e st x, xsL20a58 e st = some x → outOk x e exL20a58 stL20a58 := by
  intro e st x h
  unfold xsL20a58 at h
  repeat' split at h
  all_goals first
    | (injection h with h; subst h; exact fun lk M => ⟨rfl, rfl⟩)
    | cases h
noncomputable def T20ul58 (N : Nat) (R : Type) : LTab R := mkTab ⟨38, 274743689536⟩ (csF20 N R) (noY) [] [] []
theorem okT20ul58 (N : Nat) (R : Type) : (T20ul58 N R).Ok CX code20 := mkTab_ok (hcsF20 N R) (noY_ok) (trivial) (trivial) (trivial)
noncomputable def bdL20a58 : Code := match codeAt code20 [false, true, false, true, true] with | some (.loop c) => c | _ => .skip
theorem hsL20a58 (N : Nat) : ∀ (n : Nat) (lk : Nat → AV) (M : List Blk), LFL20a58 N (n + 1) (canS sgL20a58 lk M) = evk CX (T20ul58 N OL20a58) bdL20a58 (2 * 58) (canS sgL20a58 lk M) (kont CX 1 [] sgL20a58 (fun st => [0]) xsL20a58 (LFL20a58 N n)) := by intro n lk M; kernel_rfl
noncomputable def T20ur1 (N : Nat) (R : Type) : LTab R := mkTab ⟨38, 274877906943⟩ (csF20 N R) (noY) [(58, fun st k => callLoop CX 1 274743689536 ceL20a58 sgL20a58 seL20a58 ⟨38, 274877906943⟩ (LFL20a58 N N) elL20a58 st k)] [] [(6, fun st k => callLoop CX 0 4193856 ceJ20a6 sgJ20a6 seJ20a6 ⟨38, 274877906943⟩ (LFJ20a6 N) elJ20a6 st k)]
theorem okT20ur1 (N : Nat) (R : Type) : (T20ur1 N R).Ok CX code20 := mkTab_ok (hcsF20 N R) (noY_ok) (⟨loop_ok hX (path := [false, true, false, true, true]) (by kernel_rfl) (by rfl) (okT20ul58 N OL20a58) (fun _ _ => rfl) (hsL20a58 N) hxL20a58 rfl heL20a58, trivial⟩) (trivial) (⟨cut_ok hX (path := [false, true]) (by kernel_rfl) (by rfl) (okT20uc6 N OJ20a6) (hsJ20a6 N) hxJ20a6 rfl heJ20a6, trivial⟩)
def rsF20 : List ResultVar := [.tmp 6]
def F20 : Nat → TF20
  | 0 => fun _ _ _ => none
  | N + 1 => fun x0 x1 x2 =>
    match J20a6 N x0 x1 with
    | none => none
    | some (.nx) =>
      match F14 N x0 x1 x2 with
      | none => none
      | some (.r rb0v3) =>
        match L20a58 N N x0 ((rb0v3.length : Int)) 0 rb0v3 with
        | none => none
        | some (.ret x6v4 b0v4) =>
          some (.r x6v4)
        | some (.x0 b0v5) =>
          some (.r true)
    | some (.ret x6v6) =>
      some (.r x6v6)
def xRF20 : XSh R20 := ⟨[], ⟨[(0, .one (.cell (.bool)))], []⟩, fun _ => [], fun s => .r ((Eng.look s.env 0).toB)⟩
theorem fsF20 : ∀ (N : Nat) (lk : Nat → AV) (M : List Blk), FFF20 (F20 (N + 1)) (canS sgF20 lk M) = evfn CX (T20ur1 N R20) code20 rsF20 (argsE 3 (canS sgF20 lk M).env) (canS sgF20 lk M).mem (goR CX 0 (fun _ => some xRF20)) := by intro N lk M; kernel_rfl
theorem soundF20 : ∀ N, RecOkF20 (F20 N)
  | 0, lk, M, o, h => by cases h
  | N + 1, lk, M, o, h => fn_sound hX (okT20ur1 N R20) Try.func20 hb20 rfl en20 (by kernel_rfl) (ys := fun _ => some xRF20) (fun st y h => by injection h with h; subst h; exact fun lk M => ⟨rfl, rfl⟩) ((fsF20 N lk M).symm.trans h)
def cvce20n0 : List Cv := []
def selce20n0 : St → List Nat := fun _ => []
noncomputable def ce20n0 (Fx : TF20) (R : Type) (test : List AV → List Blk → Bool) : CE R := ⟨20, test, fun args M => some (selce20n0 ⟨argEnv 0 args, M, [], .unk⟩), fun args M k => tst (Nat.beq args.length 3) (callFn CX 0 cvce20n0 sgF20 selce20n0 (FFF20 Fx) elF20 args M k)⟩
theorem okce20n0 (Fx : TF20) (h : RecOkF20 Fx) (R : Type) (test : List AV → List Blk → Bool) : CeOk CX (ce20n0 Fx R test) := ce_ok hX (fun o k => by cases o; rfl) h en20 (fun args M ids h => by injection h with h; exact ⟨rfl, h.symm⟩)
def cvce20n1 : List Cv := [.frz 0 (.slice 30)]
def selce20n1 : St → List Nat := fun _ => []
noncomputable def ce20n1 (Fx : TF20) (R : Type) (test : List AV → List Blk → Bool) : CE R := ⟨20, test, fun _ _ => none, fun args M k => tst (Nat.beq args.length 3) (callFn CX 0 cvce20n1 sgF20 selce20n1 (FFF20 Fx) elF20 args M k)⟩
theorem okce20n1 (Fx : TF20) (h : RecOkF20 Fx) (R : Type) (test : List AV → List Blk → Bool) : CeOk CX (ce20n1 Fx R test) := ce_ok hX (fun o k => by cases o; rfl) h en20 (fun args M ids h => by cases h)
end Go.Proofs.Ytfggehkiglenjaa

namespace Go.Proofs.Ytfggehkiglenjaa
open Go Go.Eng
set_option maxRecDepth 100000

/-! ### F21: ceiling/ceilinglaw33.some -/
inductive R21 where
  | r (b0 : List Row)
abbrev TF21 := Option R21
def sgF21 : LSh := ⟨[], []⟩
def FFF21 (Fx : TF21) (s : St) : Option R21 := Fx 
def valF21 (o : R21) : AV := match o with | .r b0 => .own 0
def memF21 (o : R21) : List Blk := match o with | .r b0 => [.row 30 b0]
def elF21 {R : Type} (o : R21) (k : AV → List Blk → Option R) : Option R := match o with | .r b0 => k (.own 0) [.row 30 b0]
def RecOkF21 (Fx : TF21) : Prop := ∀ lk M o, FFF21 Fx (canS sgF21 lk M) = some o → FCalls CX 21 0 (argsE 0 (canS sgF21 lk M).env) (canS sgF21 lk M).mem (valF21 o) (memF21 o)
noncomputable def csF21 (N : Nat) (R : Type) : List (CE R) := []
theorem hcsF21 (N : Nat) (R : Type) : AllE (CeOk CX) (csF21 N R) := trivial
noncomputable def T21ur1 (N : Nat) (R : Type) : LTab R := mkTab ⟨7, 127⟩ (csF21 N R) (noY) [] [] []
theorem okT21ur1 (N : Nat) (R : Type) : (T21ur1 N R).Ok CX code21 := mkTab_ok (hcsF21 N R) (noY_ok) (trivial) (trivial) (trivial)
def rsF21 : List ResultVar := [.tmp 0]
def F21 : Nat → TF21
  | 0 => none
  | N + 1 => 
    some (.r (([[.bool true, .bool false, .bool false, .bool false, .bool false, .int .i64 ((-1)), .int .i64 ((-1)), .int .i64 0], [.bool true, .bool false, .bool false, .bool true, .bool false, .int .i64 0, .int .i64 0, .int .i64 ((-1))], [.bool true, .bool false, .bool false, .bool true, .bool false, .int .i64 0, .int .i64 0, .int .i64 ((-1))], [.bool true, .bool false, .bool false, .bool true, .bool false, .int .i64 1, .int .i64 0, .int .i64 ((-1))], [.bool true, .bool false, .bool false, .bool true, .bool false, .int .i64 2, .int .i64 1, .int .i64 ((-1))]] : List Row)))
def xRF21 : XSh R21 := ⟨[], ⟨[(0, .one (.own 0))], [.row 30]⟩, fun st => [(Eng.look st.env 0).id], fun s => .r ((s.mem.getD 0 .dead).rows)⟩
theorem fsF21 : ∀ (N : Nat) (lk : Nat → AV) (M : List Blk), FFF21 (F21 (N + 1)) (canS sgF21 lk M) = evfn CX (T21ur1 N R21) code21 rsF21 (argsE 0 (canS sgF21 lk M).env) (canS sgF21 lk M).mem (goR CX 0 (fun _ => some xRF21)) := by intro N lk M; kernel_rfl
theorem soundF21 : ∀ N, RecOkF21 (F21 N)
  | 0, lk, M, o, h => by cases h
  | N + 1, lk, M, o, h => fn_sound hX (okT21ur1 N R21) Try.func21 hb21 rfl en21 (by kernel_rfl) (ys := fun _ => some xRF21) (fun st y h => by injection h with h; subst h; exact fun lk M => ⟨rfl, rfl⟩) ((fsF21 N lk M).symm.trans h)
def cvce21n0 : List Cv := []
def selce21n0 : St → List Nat := fun _ => []
noncomputable def ce21n0 (Fx : TF21) (R : Type) (test : List AV → List Blk → Bool) : CE R := ⟨21, test, fun args M => some (selce21n0 ⟨argEnv 0 args, M, [], .unk⟩), fun args M k => tst (Nat.beq args.length 0) (callFn CX 0 cvce21n0 sgF21 selce21n0 (FFF21 Fx) elF21 args M k)⟩
theorem okce21n0 (Fx : TF21) (h : RecOkF21 Fx) (R : Type) (test : List AV → List Blk → Bool) : CeOk CX (ce21n0 Fx R test) := ce_ok hX (fun o k => by cases o; rfl) h en21 (fun args M ids h => by injection h with h; exact ⟨rfl, h.symm⟩)
end Go.Proofs.Ytfggehkiglenjaa

namespace Go.Proofs.Ytfggehkiglenjaa
open Go Go.Eng
set_option maxRecDepth 100000

/-! ### F25: ceiling/master.Abort.1 -/
inductive R25 where
  | r (b0c0 : List Row) (b1 : List AV)
abbrev TF25 := Int → List Row → List AV → Option R25
def sgF25 : LSh := ⟨[(0, .one (.cell (.int .i64))), (1, .one (.ptr 0 0 0)), (2, .one (.ptr 1 0 0)), (3, .one (.ptr 2 0 0))], [.var [.any] [.cell (.slice 30)], .arr [.bool, .bool, .bool, .bool, .bool, .bool, .bool, .bool, .bool, .bool, .bool, .bool, .bool, .bool, .bool, .bool, .bool, .bool, .bool, .bool, .bool, .bool, .bool, .bool, .bool, .bool, .bool, .bool, .bool, .bool, .bool, .bool], .var [.any] [.cl 25 [(0, 0, 0), (1, 0, 0), (2, 0, 0)]]]⟩
def FFF25 (Fx : TF25) (s : St) : Option R25 := Fx ((Eng.look s.env 0).toI) (((s.mem.getD 0 .dead).cells.getD 0 .top).rows) ((s.mem.getD 1 .dead).cells)
def valF25 (o : R25) : AV := match o with | .r b0c0 b1 => .tup []
def memF25 (o : R25) : List Blk := match o with | .r b0c0 b1 => [.var [.any] [.list 30 b0c0], .var [.bool, .bool, .bool, .bool, .bool, .bool, .bool, .bool, .bool, .bool, .bool, .bool, .bool, .bool, .bool, .bool, .bool, .bool, .bool, .bool, .bool, .bool, .bool, .bool, .bool, .bool, .bool, .bool, .bool, .bool, .bool, .bool] b1, .var [.any] [.clos 25 [] [.ptr 0 0 0, .ptr 1 0 0, .ptr 2 0 0]]]
def elF25 {R : Type} (o : R25) (k : AV → List Blk → Option R) : Option R := match o with | .r b0c0 b1 => k (.tup []) [.var [.any] [.list 30 b0c0], .var [.bool, .bool, .bool, .bool, .bool, .bool, .bool, .bool, .bool, .bool, .bool, .bool, .bool, .bool, .bool, .bool, .bool, .bool, .bool, .bool, .bool, .bool, .bool, .bool, .bool, .bool, .bool, .bool, .bool, .bool, .bool, .bool] b1, .var [.any] [.clos 25 [] [.ptr 0 0 0, .ptr 1 0 0, .ptr 2 0 0]]]
def RecOkF25 (Fx : TF25) : Prop := ∀ lk M o, FFF25 Fx (canS sgF25 lk M) = some o → FCalls CX 25 3 (argsE 4 (canS sgF25 lk M).env) (canS sgF25 lk M).mem (valF25 o) (memF25 o)
def cvce25n0 : List Cv := []
def selce25n0 : St → List Nat := fun st => [(Eng.look st.env 1).id, (Eng.look st.env 2).id, (Eng.look st.env 3).id]
noncomputable def ce25n0 (Fx : TF25) (R : Type) (test : List AV → List Blk → Bool) : CE R := ⟨25, test, fun args M => some (selce25n0 ⟨argEnv 0 args, M, [], .unk⟩), fun args M k => tst (Nat.beq args.length 4) (callFn CX 3 cvce25n0 sgF25 selce25n0 (FFF25 Fx) elF25 args M k)⟩
theorem okce25n0 (Fx : TF25) (h : RecOkF25 Fx) (R : Type) (test : List AV → List Blk → Bool) : CeOk CX (ce25n0 Fx R test) := ce_ok hX (fun o k => by cases o; rfl) h en25 (fun args M ids h => by injection h with h; exact ⟨rfl, h.symm⟩)
noncomputable def csF25 (rec : TF25) (N : Nat) (R : Type) : List (CE R) := [ce23n0 (F23 N) R (fun _ _ => true), ce25n0 rec R (fun _ _ => true)]
theorem hcsF25 (rec : TF25) (hrec : RecOkF25 rec) (N : Nat) (R : Type) : AllE (CeOk CX) (csF25 rec N R) := ⟨okce23n0 (F23 N) (soundF23 N) R (fun _ _ => true), okce25n0 rec hrec R (fun _ _ => true), trivial⟩
noncomputable def T25us30 (rec : TF25) (N : Nat) (R : Type) : LTab R := mkTab ⟨50, 1125899906842623⟩ (csF25 rec N R) (noY) [] [] []
theorem okT25us30 (rec : TF25) (hrec : RecOkF25 rec) (N : Nat) (R : Type) : (T25us30 rec N R).Ok CX code25 := mkTab_ok (hcsF25 rec hrec N R) (noY_ok) (trivial) (trivial) (trivial)
def rs25i30f31 : List ResultVar := []
inductive OL25i30f31a6 where
  | x0 (b1c0 : Int) (b2c0 : Int) (b4c0 : List Row) (b5 : List AV)
def L25i30f31a6 (rec : TF25) (N : Nat) : Nat → List Row → Int → Int → Int → Int → List Row → List AV → Option OL25i30f31a6
  | 0 => fun _ _ _ _ _ _ _ => none
  | n + 1 => fun x7 x8 x9 b1c0 b2c0 b4c0 b5 =>
    match decide (x9 < x8) with
    | true =>
      tst (decide ((0 : Int) ≤ x9) && decide (x9 < ((x7.length : Int)))) <|
      match decide ((0 : Int) < x9) with
      | true =>
        match ((((x7.getD x9.toNat [])).getD 5 .top).toI) == b1c0 with
        | true =>
          match decide (b2c0 < (0 : Int)) with
          | true =>
            match rec x9 b4c0 b5 with
            | none => none
            | some (.r rb0c0v3 rb1v3) =>
              L25i30f31a6 rec N n x7 x8 (IntKind.wrap .i64 (x9 + (1 : Int))) b1c0 b2c0 rb0c0v3 rb1v3
          | false =>
            match ((((x7.getD x9.toNat [])).getD 6 .top).toI) == b2c0 with
            | true =>
              match rec x9 b4c0 b5 with
              | none => none
              | some (.r rb0c0v4 rb1v4) =>
                L25i30f31a6 rec N n x7 x8 (IntKind.wrap .i64 (x9 + (1 : Int))) b1c0 b2c0 rb0c0v4 rb1v4
            | false =>
              L25i30f31a6 rec N n x7 x8 (IntKind.wrap .i64 (x9 + (1 : Int))) b1c0 b2c0 b4c0 b5
        | false =>
          L25i30f31a6 rec N n x7 x8 (IntKind.wrap .i64 (x9 + (1 : Int))) b1c0 b2c0 b4c0 b5
      | false =>
        L25i30f31a6 rec N n x7 x8 (IntKind.wrap .i64 (x9 + (1 : Int))) b1c0 b2c0 b4c0 b5
    | false =>
      some (.x0 b1c0 b2c0 b4c0 b5)
def LFL25i30f31a6 (rec : TF25) (N : Nat) (n : Nat) (s : St) : Option OL25i30f31a6 := L25i30f31a6 rec N n ((Eng.look s.env 7).rows) ((Eng.look s.env 8).toI) ((Eng.look s.env 9).toI) (((s.mem.getD 1 .dead).cells.getD 0 .top).toI) (((s.mem.getD 2 .dead).cells.getD 0 .top).toI) (((s.mem.getD 4 .dead).cells.getD 0 .top).rows) ((s.mem.getD 5 .dead).cells)
def sgL25i30f31a6 : LSh := ⟨[(0, .one (.yld 0)), (2, .one (.ptr 1 0 0)), (3, .one (.ptr 2 0 0)), (7, .one (.cell (.slice 30))), (8, .one (.cell (.int .i64))), (9, .one (.cell (.int .i64)))], [.loop 3 [(3, .one (.ptr 3 0 0))] none, .var [.int .i64] [.cell (.int .i64)], .var [.int .i64] [.cell (.int .i64)], .var [.any] [.cl 25 [(4, 0, 0), (5, 0, 0), (3, 0, 0)]], .var [.any] [.cell (.slice 30)], .arr [.bool, .bool, .bool, .bool, .bool, .bool, .bool, .bool, .bool, .bool, .bool, .bool, .bool, .bool, .bool, .bool, .bool, .bool, .bool, .bool, .bool, .bool, .bool, .bool, .bool, .bool, .bool, .bool, .bool, .bool, .bool, .bool]]⟩
def ceL25i30f31a6 : List Cv := []
def seL25i30f31a6 : St → List Nat := fun st => [(Eng.look st.env 0).id, (Eng.look st.env 2).id, (Eng.look st.env 3).id, ((st.mem.getD ((Eng.look st.env 0).id) .dead).lenv.getD 0 (0, .top)).2.id, (((st.mem.getD (((st.mem.getD ((Eng.look st.env 0).id) .dead).lenv.getD 0 (0, .top)).2.id) .dead).cells.getD 0 .top).caps.getD 0 .top).id, (((st.mem.getD (((st.mem.getD ((Eng.look st.env 0).id) .dead).lenv.getD 0 (0, .top)).2.id) .dead).cells.getD 0 .top).caps.getD 1 .top).id]
def xL25i30f31a6wx0 : XSh OL25i30f31a6 := ⟨[], ⟨[], [.loop 3 [(3, .one (.ptr 3 0 0))] none, .var [.int .i64] [.cell (.int .i64)], .var [.int .i64] [.cell (.int .i64)], .var [.any] [.cl 25 [(4, 0, 0), (5, 0, 0), (3, 0, 0)]], .var [.any] [.cell (.slice 30)], .arr [.bool, .bool, .bool, .bool, .bool, .bool, .bool, .bool, .bool, .bool, .bool, .bool, .bool, .bool, .bool, .bool, .bool, .bool, .bool, .bool, .bool, .bool, .bool, .bool, .bool, .bool, .bool, .bool, .bool, .bool, .bool, .bool]]⟩, fun st => [0, 1, 2, 3, 4, 5], fun s => .x0 (((s.mem.getD 1 .dead).cells.getD 0 .top).toI) (((s.mem.getD 2 .dead).cells.getD 0 .top).toI) (((s.mem.getD 4 .dead).cells.getD 0 .top).rows) ((s.mem.getD 5 .dead).cells)⟩
def xsL25i30f31a6 : Ex → St → Option (XSh OL25i30f31a6) := fun e st => match e with
  | .exit 0 => some xL25i30f31a6wx0
  | _ => none
def exL25i30f31a6 (o : OL25i30f31a6) : Ex := match o with | .x0 b1c0 b2c0 b4c0 b5 => (.exit 0)
def stL25i30f31a6 (o : OL25i30f31a6) : St := match o with | .x0 b1c0 b2c0 b4c0 b5 => ⟨[], [.loop 3 [(3, .ptr 3 0 0)] false none, .var [.int .i64] [.int .i64 b1c0], .var [.int .i64] [.int .i64 b2c0], .var [.any] [.clos 25 [] [.ptr 4 0 0, .ptr 5 0 0, .ptr 3 0 0]], .var [.any] [.list 30 b4c0], .var [.bool, .bool, .bool, .bool, .bool, .bool, .bool, .bool, .bool, .bool, .bool, .bool, .bool, .bool, .bool, .bool, .bool, .bool, .bool, .bool, .bool, .bool, .bool, .bool, .bool, .bool, .bool, .bool, .bool, .bool, .bool, .bool] b5], [], .unk⟩
def elL25i30f31a6 {R : Type} (o : OL25i30f31a6) (k : Ex → St → Option R) : Option R := match o with | .x0 b1c0 b2c0 b4c0 b5 => k (.exit 0) ⟨[], [.loop 3 [(3, .ptr 3 0 0)] false none, .var [.int .i64] [.int .i64 b1c0], .var [.int .i64] [.int .i64 b2c0], .var [.any] [.clos 25 [] [.ptr 4 0 0, .ptr 5 0 0, .ptr 3 0 0]], .var [.any] [.list 30 b4c0], .var [.bool, .bool, .bool, .bool, .bool, .bool, .bool, .bool, .bool, .bool, .bool, .bool, .bool, .bool, .bool, .bool, .bool, .bool, .bool, .bool, .bool, .bool, .bool, .bool, .bool, .bool, .bool, .bool, .bool, .bool, .bool, .bool] b5], [], .unk⟩
theorem heL25i30f31a6 {R : Type} (o : OL25i30f31a6) (k : Ex → St → Option R) : elL25i30f31a6 o k = k (exL25i30f31a6 o) (stL25i30f31a6 o) := by cases o <;> rfl
theorem hxL25i30f31a6 : ∀ e st x, xsL25i30f31a6 e st = some x → outOk x e exL25i30f31a6 stL25i30f31a6 := by
  intro e st x h
  unfold xsL25i30f31a6 at h
  repeat' split at h
  all_goals first
    | (injection h with h; subst h; exact fun lk M => ⟨rfl, rfl⟩)
    | cases h
noncomputable def T25i30f31ul6 (rec : TF25) (N : Nat) (R : Type) : LTab R := mkTab ⟨39, 549755813472⟩ (csF25 rec N R) (pickY [(3, fun id args M k => evyield CX (T25us30 rec N R) 3 30 id args M k)]) [] [] []
theorem okT25i30f31ul6 (rec : TF25) (hrec : RecOkF25 rec) (N : Nat) (R : Type) : (T25i30f31ul6 rec N R).Ok CX code31 := mkTab_ok (hcsF25 rec hrec N R) (pickY_ok (es := [(3, fun id args M k => evyield CX (T25us30 rec N R) 3 30 id args M k)]) ⟨fun {id args M k r} h => evyield_sound hX (okT25us30 rec hrec N R) (g := nd3.1) (ps := nd3.2.1) ⟨[false, true, true, true], by rfl, by kernel_rfl⟩ h, trivial⟩) (trivial) (trivial) (trivial)
noncomputable def bdL25i30f31a6 : Code := match codeAt code31 [false, true] with | some (.loop c) => c | _ => .skip
theorem hsL25i30f31a6 (rec : TF25) (N : Nat) : ∀ (n : Nat) (lk : Nat → AV) (M : List Blk), LFL25i30f31a6 rec N (n + 1) (canS sgL25i30f31a6 lk M) = evk CX (T25i30f31ul6 rec N OL25i30f31a6) bdL25i30f31a6 (2 * 6) (canS sgL25i30f31a6 lk M) (kont CX 6 [] sgL25i30f31a6 (fun st => [0, 1, 2, 3, 4, 5]) xsL25i30f31a6 (LFL25i30f31a6 rec N n)) := by intro n lk M; kernel_rfl
noncomputable def T25i30f31ur1 (rec : TF25) (N : Nat) (R : Type) : LTab R := mkTab ⟨39, 549755813887⟩ (csF25 rec N R) (pickY [(3, fun id args M k => evyield CX (T25us30 rec N R) 3 30 id args M k)]) [(6, fun st k => callLoop CX 6 549755813472 ceL25i30f31a6 sgL25i30f31a6 seL25i30f31a6 ⟨39, 549755813887⟩ (LFL25i30f31a6 rec N N) elL25i30f31a6 st k)] [] []
theorem okT25i30f31ur1 (rec : TF25) (hrec : RecOkF25 rec) (N : Nat) (R : Type) : (T25i30f31ur1 rec N R).Ok CX code31 := mkTab_ok (hcsF25 rec hrec N R) (pickY_ok (es := [(3, fun id args M k => evyield CX (T25us30 rec N R) 3 30 id args M k)]) ⟨fun {id args M k r} h => evyield_sound hX (okT25us30 rec hrec N R) (g := nd3.1) (ps := nd3.2.1) ⟨[false, true, true, true], by rfl, by kernel_rfl⟩ h, trivial⟩) (⟨loop_ok hX (path := [false, true]) (by kernel_rfl) (by rfl) (okT25i30f31ul6 rec hrec N OL25i30f31a6) (fun _ _ => rfl) (hsL25i30f31a6 rec N) hxL25i30f31a6 rfl heL25i30f31a6, trivial⟩) (trivial) (trivial)
inductive OJ25a2 where
  | nx (b0c0 : List Row) (b1 : List AV)
  | ret (b0c0 : List Row) (b1 : List AV)
def J25a2 (rec : TF25) (N : Nat) : Int → List Row → List AV → Option OJ25a2 := fun x0 b0c0 b1 =>
    match decide (x0 < (0 : Int)) with
    | true =>
      some (.ret b0c0 b1)
    | false =>
      match decide (((b0c0.length : Int)) ≤ x0) with
      | true =>
        some (.ret b0c0 b1)
      | false =>
        tst (decide ((0 : Int) ≤ x0) && decide (x0 < (32 : Int))) <|
        tst (decide (((0 + (x0.toNat * 1)) + 1) ≤ 32)) <|
        match (b1.getD (0 + (x0.toNat * 1)) .top).toB with
        | true =>
          some (.ret b0c0 b1)
        | false =>
          tst (decide ((0 : Int) ≤ x0) && decide (x0 < ((b0c0.length : Int)))) <|
          match !((((b0c0.getD x0.toNat [])).getD 0 .top).toB) with
          | true =>
            some (.ret b0c0 b1)
          | false =>
            tst (decide ((0 : Int) ≤ x0) && decide (x0 < ((b0c0.length : Int)))) <|
            match (((b0c0.getD x0.toNat [])).getD 1 .top).toB with
            | true =>
              some (.ret b0c0 b1)
            | false =>
              tst (decide ((0 : Int) ≤ x0) && decide (x0 < ((b0c0.length : Int)))) <|
              match (((b0c0.getD x0.toNat [])).getD 2 .top).toB with
              | true =>
                some (.ret b0c0 b1)
              | false =>
                some (.nx b0c0 b1)
def LFJ25a2 (rec : TF25) (N : Nat) (s : St) : Option OJ25a2 := J25a2 rec N ((Eng.look s.env 0).toI) (((s.mem.getD 0 .dead).cells.getD 0 .top).rows) ((s.mem.getD 1 .dead).cells)
def sgJ25a2 : LSh := ⟨[(0, .one (.cell (.int .i64))), (1, .one (.ptr 0 0 0)), (2, .one (.ptr 1 0 0))], [.var [.any] [.cell (.slice 30)], .arr [.bool, .bool, .bool, .bool, .bool, .bool, .bool, .bool, .bool, .bool, .bool, .bool, .bool, .bool, .bool, .bool, .bool, .bool, .bool, .bool, .bool, .bool, .bool, .bool, .bool, .bool, .bool, .bool, .bool, .bool, .bool, .bool]]⟩
def ceJ25a2 : List Cv := []
def seJ25a2 : St → List Nat := fun st => [(Eng.look st.env 1).id, (Eng.look st.env 2).id]
def xJ25a2wnx : XSh OJ25a2 := ⟨[], ⟨[], [.var [.any] [.cell (.slice 30)], .arr [.bool, .bool, .bool, .bool, .bool, .bool, .bool, .bool, .bool, .bool, .bool, .bool, .bool, .bool, .bool, .bool, .bool, .bool, .bool, .bool, .bool, .bool, .bool, .bool, .bool, .bool, .bool, .bool, .bool, .bool, .bool, .bool]]⟩, fun st => [0, 1], fun s => .nx (((s.mem.getD 0 .dead).cells.getD 0 .top).rows) ((s.mem.getD 1 .dead).cells)⟩
def xJ25a2wret : XSh OJ25a2 := ⟨[], ⟨[], [.var [.any] [.cell (.slice 30)], .arr [.bool, .bool, .bool, .bool, .bool, .bool, .bool, .bool, .bool, .bool, .bool, .bool, .bool, .bool, .bool, .bool, .bool, .bool, .bool, .bool, .bool, .bool, .bool, .bool, .bool, .bool, .bool, .bool, .bool, .bool, .bool, .bool]]⟩, fun st => [0, 1], fun s => .ret (((s.mem.getD 0 .dead).cells.getD 0 .top).rows) ((s.mem.getD 1 .dead).cells)⟩
def xsJ25a2 : Ex → St → Option (XSh OJ25a2) := fun e st => match e with
  | .normal => some xJ25a2wnx
  | .ret => some xJ25a2wret
  | _ => none
def exJ25a2 (o : OJ25a2) : Ex := match o with | .nx b0c0 b1 => .normal | .ret b0c0 b1 => .ret
def stJ25a2 (o : OJ25a2) : St := match o with | .nx b0c0 b1 => ⟨[], [.var [.any] [.list 30 b0c0], .var [.bool, .bool, .bool, .bool, .bool, .bool, .bool, .bool, .bool, .bool, .bool, .bool, .bool, .bool, .bool, .bool, .bool, .bool, .bool, .bool, .bool, .bool, .bool, .bool, .bool, .bool, .bool, .bool, .bool, .bool, .bool, .bool] b1], [], .unk⟩ | .ret b0c0 b1 => ⟨[], [.var [.any] [.list 30 b0c0], .var [.bool, .bool, .bool, .bool, .bool, .bool, .bool, .bool, .bool, .bool, .bool, .bool, .bool, .bool, .bool, .bool, .bool, .bool, .bool, .bool, .bool, .bool, .bool, .bool, .bool, .bool, .bool, .bool, .bool, .bool, .bool, .bool] b1], [], .unk⟩
def elJ25a2 {R : Type} (o : OJ25a2) (k : Ex → St → Option R) : Option R := match o with | .nx b0c0 b1 => k .normal ⟨[], [.var [.any] [.list 30 b0c0], .var [.bool, .bool, .bool, .bool, .bool, .bool, .bool, .bool, .bool, .bool, .bool, .bool, .bool, .bool, .bool, .bool, .bool, .bool, .bool, .bool, .bool, .bool, .bool, .bool, .bool, .bool, .bool, .bool, .bool, .bool, .bool, .bool] b1], [], .unk⟩ | .ret b0c0 b1 => k .ret ⟨[], [.var [.any] [.list 30 b0c0], .var [.bool, .bool, .bool, .bool, .bool, .bool, .bool, .bool, .bool, .bool, .bool, .bool, .bool, .bool, .bool, .bool, .bool, .bool, .bool, .bool, .bool, .bool, .bool, .bool, .bool, .bool, .bool, .bool, .bool, .bool, .bool, .bool] b1], [], .unk⟩
theorem heJ25a2 {R : Type} (o : OJ25a2) (k : Ex → St → Option R) : elJ25a2 o k = k (exJ25a2 o) (stJ25a2 o) := by cases o <;> rfl
theorem hxJ25a2 : ∀ e st x, xsJ25a2 e st = some x → outOk x e exJ25a2 stJ25a2 := by
  intro e st x h
  unfold xsJ25a2 at h
  repeat' split at h
  all_goals first
    | (injection h with h; subst h; exact fun lk M => ⟨rfl, rfl⟩)
    | cases h
noncomputable def T25uc2 (rec : TF25) (N : Nat) (R : Type) : LTab R := mkTab ⟨50, 2199023255488⟩ (csF25 rec N R) (noY) [] [] []
theorem okT25uc2 (rec : TF25) (hrec : RecOkF25 rec) (N : Nat) (R : Type) : (T25uc2 rec N R).Ok CX code25 := mkTab_ok (hcsF25 rec hrec N R) (noY_ok) (trivial) (trivial) (trivial)
noncomputable def bdJ25a2 : Code := (codeAt code25 [false]).getD .skip
theorem hsJ25a2 (rec : TF25) (N : Nat) : ∀ (lk : Nat → AV) (M : List Blk), LFJ25a2 rec N (canS sgJ25a2 lk M) = evk CX (T25uc2 rec N OJ25a2) bdJ25a2 2 (canS sgJ25a2 lk M) (kontX CX 2 xsJ25a2) := by intro lk M; kernel_rfl
noncomputable def T25ur1 (rec : TF25) (N : Nat) (R : Type) : LTab R := mkTab ⟨50, 1125899906842623⟩ (csF25 rec N R) (noY) [] [(30, fun st k => evrange CX (oneTab ⟨50, 1125899906842623⟩ (inl 31 (fun args M k => evfn CX (T25i30f31ur1 rec N R) code31 rs25i30f31 args M k))) 3 [3] (.tmp 45) st k)] [(2, fun st k => callLoop CX 2 2199023255488 ceJ25a2 sgJ25a2 seJ25a2 ⟨50, 1125899906842623⟩ (LFJ25a2 rec N) elJ25a2 st k)]
theorem okT25ur1 (rec : TF25) (hrec : RecOkF25 rec) (N : Nat) (R : Type) : (T25ur1 rec N R).Ok CX code25 := mkTab_ok (hcsF25 rec hrec N R) (noY_ok) (trivial) (⟨range_ok hX (path := [false, true, true, true]) (ps0 := nd3.2.1) (a0 := nd3.2.2.1) (b0 := nd3.2.2.2) (by kernel_rfl) (by rfl) (inl_ok fun {args M k r} h => evfn_sound hX (okT25i30f31ur1 rec hrec N R) Try.func31 hb31 rfl en31 (by kernel_rfl) h) (by kernel_rfl), trivial⟩) (⟨cut_ok hX (path := [false]) (by kernel_rfl) (by rfl) (okT25uc2 rec hrec N OJ25a2) (hsJ25a2 rec N) hxJ25a2 rfl heJ25a2, trivial⟩)
def rsF25 : List ResultVar := []
def F25 : Nat → TF25
  | 0 => fun _ _ _ => none
  | N + 1 => fun x0 b0c0 b1 =>
    match J25a2 (F25 N) N x0 b0c0 b1 with
    | none => none
    | some (.nx b0c0v1 b1v1) =>
      tst (decide ((0 : Int) ≤ x0) && decide (x0 < (32 : Int))) <|
      tst (decide (((0 + (x0.toNat * 1)) + 1) ≤ 32) && true) <|
      match F23 N b0c0v1 x0 ((-1)) with
      | none => none
      | some (.r rb0c0v2 rb1c0v2 rb2c0v2) =>
        match L25i30f31a6 (F25 N) N N rb0c0v2 ((rb0c0v2.length : Int)) 0 rb1c0v2 rb2c0v2 b0c0v1 (Eng.setAt b1v1 (0 + (x0.toNat * 1)) [.bool true]) with
        | none => none
        | some (.x0 b1c0v5 b2c0v5 b4c0v5 b5v5) =>
          some (.r b4c0v5 b5v5)
    | some (.ret b0c0v6 b1v6) =>
      some (.r b0c0v6 b1v6)
def xRF25 : XSh R25 := ⟨[], ⟨[], [.var [.any] [.cell (.slice 30)], .arr [.bool, .bool, .bool, .bool, .bool, .bool, .bool, .bool, .bool, .bool, .bool, .bool, .bool, .bool, .bool, .bool, .bool, .bool, .bool, .bool, .bool, .bool, .bool, .bool, .bool, .bool, .bool, .bool, .bool, .bool, .bool, .bool], .var [.any] [.cl 25 [(0, 0, 0), (1, 0, 0), (2, 0, 0)]]]⟩, fun st => [0, 1, 2], fun s => .r (((s.mem.getD 0 .dead).cells.getD 0 .top).rows) ((s.mem.getD 1 .dead).cells)⟩
theorem fsF25 : ∀ (N : Nat) (lk : Nat → AV) (M : List Blk), FFF25 (F25 (N + 1)) (canS sgF25 lk M) = evfn CX (T25ur1 (F25 N) N R25) code25 rsF25 (argsE 4 (canS sgF25 lk M).env) (canS sgF25 lk M).mem (goRt CX 3 0 (fun _ => some xRF25)) := by intro N lk M; kernel_rfl
theorem soundF25 : ∀ N, RecOkF25 (F25 N)
  | 0, lk, M, o, h => by cases h
  | N + 1, lk, M, o, h => fn_soundt hX (okT25ur1 (F25 N) (soundF25 N) N R25) Try.func25 hb25 rfl en25 (by kernel_rfl) (ys := fun _ => some xRF25) (fun st y h => by injection h with h; subst h; exact fun lk M => ⟨rfl, rfl⟩) ((fsF25 N lk M).symm.trans h)
end Go.Proofs.Ytfggehkiglenjaa

namespace Go.Proofs.Ytfggehkiglenjaa
open Go Go.Eng
set_option maxRecDepth 100000

/-! ### F26: ceiling/master.chosen -/
inductive R26 where
  | r (b0 : List Row)
abbrev TF26 := List Row → Bool → Bool → Bool → Bool → Bool → Bool → Bool → Bool → Bool → Bool → Bool → Bool → Bool → Bool → Bool → Bool → Bool → Bool → Bool → Bool → Bool → Bool → Bool → Bool → Bool → Bool → Bool → Bool → Bool → Bool → Bool → Bool → Option R26
def sgF26 : LSh := ⟨[(0, .one (.cell (.slice 30))), (1, .agg [.cell (.bool), .cell (.bool), .cell (.bool), .cell (.bool), .cell (.bool), .cell (.bool), .cell (.bool), .cell (.bool), .cell (.bool), .cell (.bool), .cell (.bool), .cell (.bool), .cell (.bool), .cell (.bool), .cell (.bool), .cell (.bool), .cell (.bool), .cell (.bool), .cell (.bool), .cell (.bool), .cell (.bool), .cell (.bool), .cell (.bool), .cell (.bool), .cell (.bool), .cell (.bool), .cell (.bool), .cell (.bool), .cell (.bool), .cell (.bool), .cell (.bool), .cell (.bool)])], []⟩
def FFF26 (Fx : TF26) (s : St) : Option R26 := Fx ((Eng.look s.env 0).rows) (((Eng.look s.env 1).cells.getD 0 .top).toB) (((Eng.look s.env 1).cells.getD 1 .top).toB) (((Eng.look s.env 1).cells.getD 2 .top).toB) (((Eng.look s.env 1).cells.getD 3 .top).toB) (((Eng.look s.env 1).cells.getD 4 .top).toB) (((Eng.look s.env 1).cells.getD 5 .top).toB) (((Eng.look s.env 1).cells.getD 6 .top).toB) (((Eng.look s.env 1).cells.getD 7 .top).toB) (((Eng.look s.env 1).cells.getD 8 .top).toB) (((Eng.look s.env 1).cells.getD 9 .top).toB) (((Eng.look s.env 1).cells.getD 10 .top).toB) (((Eng.look s.env 1).cells.getD 11 .top).toB) (((Eng.look s.env 1).cells.getD 12 .top).toB) (((Eng.look s.env 1).cells.getD 13 .top).toB) (((Eng.look s.env 1).cells.getD 14 .top).toB) (((Eng.look s.env 1).cells.getD 15 .top).toB) (((Eng.look s.env 1).cells.getD 16 .top).toB) (((Eng.look s.env 1).cells.getD 17 .top).toB) (((Eng.look s.env 1).cells.getD 18 .top).toB) (((Eng.look s.env 1).cells.getD 19 .top).toB) (((Eng.look s.env 1).cells.getD 20 .top).toB) (((Eng.look s.env 1).cells.getD 21 .top).toB) (((Eng.look s.env 1).cells.getD 22 .top).toB) (((Eng.look s.env 1).cells.getD 23 .top).toB) (((Eng.look s.env 1).cells.getD 24 .top).toB) (((Eng.look s.env 1).cells.getD 25 .top).toB) (((Eng.look s.env 1).cells.getD 26 .top).toB) (((Eng.look s.env 1).cells.getD 27 .top).toB) (((Eng.look s.env 1).cells.getD 28 .top).toB) (((Eng.look s.env 1).cells.getD 29 .top).toB) (((Eng.look s.env 1).cells.getD 30 .top).toB) (((Eng.look s.env 1).cells.getD 31 .top).toB)
def valF26 (o : R26) : AV := match o with | .r b0 => .own 0
def memF26 (o : R26) : List Blk := match o with | .r b0 => [.row 3 b0]
def elF26 {R : Type} (o : R26) (k : AV → List Blk → Option R) : Option R := match o with | .r b0 => k (.own 0) [.row 3 b0]
def RecOkF26 (Fx : TF26) : Prop := ∀ lk M o, FFF26 Fx (canS sgF26 lk M) = some o → FCalls CX 26 0 (argsE 2 (canS sgF26 lk M).env) (canS sgF26 lk M).mem (valF26 o) (memF26 o)
noncomputable def csF26 (N : Nat) (R : Type) : List (CE R) := []
theorem hcsF26 (N : Nat) (R : Type) : AllE (CeOk CX) (csF26 N R) := trivial
inductive OL26a26 where
  | x0 (b0 : List AV) (b1 : List Row)
def L26a26 (N : Nat) : Nat → Int → Int → List AV → List Row → Option OL26a26
  | 0 => fun _ _ _ _ => none
  | n + 1 => fun x7 x8 b0 b1 =>
    match decide (x8 < x7) with
    | true =>
      tst (decide ((0 : Int) ≤ x8) && decide (x8 < (32 : Int))) <|
      tst (decide (((0 + (x8.toNat * 1)) + 1) ≤ 32)) <|
      match (b0.getD (0 + (x8.toNat * 1)) .top).toB with
      | true =>
        tst (decide (((b1.length + 1) * 8) ≤ 140737488355328)) <|
        L26a26 N n x7 (IntKind.wrap .i64 (x8 + (1 : Int))) b0 (b1 ++ (([[.int .i64 x8]] : List Row)))
      | false =>
        L26a26 N n x7 (IntKind.wrap .i64 (x8 + (1 : Int))) b0 b1
    | false =>
      some (.x0 b0 b1)
def LFL26a26 (N : Nat) (n : Nat) (s : St) : Option OL26a26 := L26a26 N n ((Eng.look s.env 7).toI) ((Eng.look s.env 8).toI) ((s.mem.getD 0 .dead).cells) ((s.mem.getD 1 .dead).rows)
def sgL26a26 : LSh := ⟨[(3, .one (.ptr 0 0 0)), (4, .one (.own 1)), (7, .one (.cell (.int .i64))), (8, .one (.cell (.int .i64)))], [.arr [.bool, .bool, .bool, .bool, .bool, .bool, .bool, .bool, .bool, .bool, .bool, .bool, .bool, .bool, .bool, .bool, .bool, .bool, .bool, .bool, .bool, .bool, .bool, .bool, .bool, .bool, .bool, .bool, .bool, .bool, .bool, .bool], .row 3]⟩
def ceL26a26 : List Cv := [.mk 4 3]
def seL26a26 : St → List Nat := fun st => [(Eng.look st.env 3).id, (Eng.look st.env 4).id]
def xL26a26wx0 : XSh OL26a26 := ⟨[], ⟨[(4, .one (.own 1))], [.arr [.bool, .bool, .bool, .bool, .bool, .bool, .bool, .bool, .bool, .bool, .bool, .bool, .bool, .bool, .bool, .bool, .bool, .bool, .bool, .bool, .bool, .bool, .bool, .bool, .bool, .bool, .bool, .bool, .bool, .bool, .bool, .bool], .row 3]⟩, fun st => [0, (Eng.look st.env 4).id], fun s => .x0 ((s.mem.getD 0 .dead).cells) ((s.mem.getD 1 .dead).rows)⟩
def xsL26a26 : Ex → St → Option (XSh OL26a26) := fun e st => match e with
  | .exit 0 => some xL26a26wx0
  | _ => none
def exL26a26 (o : OL26a26) : Ex := match o with | .x0 b0 b1 => (.exit 0)
def stL26a26 (o : OL26a26) : St := match o with | .x0 b0 b1 => ⟨[(4, .own 1)], [.var [.bool, .bool, .bool, .bool, .bool, .bool, .bool, .bool, .bool, .bool, .bool, .bool, .bool, .bool, .bool, .bool, .bool, .bool, .bool, .bool, .bool, .bool, .bool, .bool, .bool, .bool, .bool, .bool, .bool, .bool, .bool, .bool] b0, .row 3 b1], [], .unk⟩
def elL26a26 {R : Type} (o : OL26a26) (k : Ex → St → Option R) : Option R := match o with | .x0 b0 b1 => k (.exit 0) ⟨[(4, .own 1)], [.var [.bool, .bool, .bool, .bool, .bool, .bool, .bool, .bool, .bool, .bool, .bool, .bool, .bool, .bool, .bool, .bool, .bool, .bool, .bool, .bool, .bool, .bool, .bool, .bool, .bool, .bool, .bool, .bool, .bool, .bool, .bool, .bool] b0, .row 3 b1], [], .unk⟩
theorem heL26a26 {R : Type} (o : OL26a26) (k : Ex → St → Option R) : elL26a26 o k = k (exL26a26 o) (stL26a26 o) := by cases o <;> rfl
theorem hxL26a26 : ∀ e st x, xsL26a26 e st = some x → outOk x e exL26a26 stL26a26 := by
  intro e st x h
  unfold xsL26a26 at h
  repeat' split at h
  all_goals first
    | (injection h with h; subst h; exact fun lk M => ⟨rfl, rfl⟩)
    | cases h
noncomputable def T26ul26 (N : Nat) (R : Type) : LTab R := mkTab ⟨20, 524080⟩ (csF26 N R) (noY) [] [] []
theorem okT26ul26 (N : Nat) (R : Type) : (T26ul26 N R).Ok CX code26 := mkTab_ok (hcsF26 N R) (noY_ok) (trivial) (trivial) (trivial)
noncomputable def bdL26a26 : Code := match codeAt code26 [false, true, false, true] with | some (.loop c) => c | _ => .skip
theorem hsL26a26 (N : Nat) : ∀ (n : Nat) (lk : Nat → AV) (M : List Blk), LFL26a26 N (n + 1) (canS sgL26a26 lk M) = evk CX (T26ul26 N OL26a26) bdL26a26 (2 * 26) (canS sgL26a26 lk M) (kont CX 1 [] sgL26a26 (fun st => [0, (Eng.look st.env 4).id]) xsL26a26 (LFL26a26 N n)) := by intro n lk M; kernel_rfl
noncomputable def T26ur1 (N : Nat) (R : Type) : LTab R := mkTab ⟨20, 1048575⟩ (csF26 N R) (noY) [(26, fun st k => callLoop CX 1 524080 ceL26a26 sgL26a26 seL26a26 ⟨20, 1048575⟩ (LFL26a26 N N) elL26a26 st k)] [] []
theorem okT26ur1 (N : Nat) (R : Type) : (T26ur1 N R).Ok CX code26 := mkTab_ok (hcsF26 N R) (noY_ok) (⟨loop_ok hX (path := [false, true, false, true]) (by kernel_rfl) (by rfl) (okT26ul26 N OL26a26) (fun _ _ => rfl) (hsL26a26 N) hxL26a26 rfl heL26a26, trivial⟩) (trivial) (trivial)
def rsF26 : List ResultVar := [.tmp 4]
def F26 : Nat → TF26
  | 0 => fun _ _ _ _ _ _ _ _ _ _ _ _ _ _ _ _ _ _ _ _ _ _ _ _ _ _ _ _ _ _ _ _ _ => none
  | N + 1 => fun x0 x1c0 x1c1 x1c2 x1c3 x1c4 x1c5 x1c6 x1c7 x1c8 x1c9 x1c10 x1c11 x1c12 x1c13 x1c14 x1c15 x1c16 x1c17 x1c18 x1c19 x1c20 x1c21 x1c22 x1c23 x1c24 x1c25 x1c26 x1c27 x1c28 x1c29 x1c30 x1c31 =>
    match L26a26 N N ((x0.length : Int)) 0 (([.bool x1c0, .bool x1c1, .bool x1c2, .bool x1c3, .bool x1c4, .bool x1c5, .bool x1c6, .bool x1c7, .bool x1c8, .bool x1c9, .bool x1c10, .bool x1c11, .bool x1c12, .bool x1c13, .bool x1c14, .bool x1c15, .bool x1c16, .bool x1c17, .bool x1c18, .bool x1c19, .bool x1c20, .bool x1c21, .bool x1c22, .bool x1c23, .bool x1c24, .bool x1c25, .bool x1c26, .bool x1c27, .bool x1c28, .bool x1c29, .bool x1c30, .bool x1c31] : List AV)) (([] : List Row)) with
    | none => none
    | some (.x0 b0v1 b1v1) =>
      some (.r b1v1)
def xRF26 : XSh R26 := ⟨[], ⟨[(0, .one (.own 0))], [.row 3]⟩, fun st => [(Eng.look st.env 0).id], fun s => .r ((s.mem.getD 0 .dead).rows)⟩
theorem fsF26 : ∀ (N : Nat) (lk : Nat → AV) (M : List Blk), FFF26 (F26 (N + 1)) (canS sgF26 lk M) = evfn CX (T26ur1 N R26) code26 rsF26 (argsE 2 (canS sgF26 lk M).env) (canS sgF26 lk M).mem (goR CX 0 (fun _ => some xRF26)) := by intro N lk M; kernel_rfl
theorem soundF26 : ∀ N, RecOkF26 (F26 N)
  | 0, lk, M, o, h => by cases h
  | N + 1, lk, M, o, h => fn_sound hX (okT26ur1 N R26) Try.func26 hb26 rfl en26 (by kernel_rfl) (ys := fun _ => some xRF26) (fun st y h => by injection h with h; subst h; exact fun lk M => ⟨rfl, rfl⟩) ((fsF26 N lk M).symm.trans h)
def cvce26n0 : List Cv := []
def selce26n0 : St → List Nat := fun _ => []
noncomputable def ce26n0 (Fx : TF26) (R : Type) (test : List AV → List Blk → Bool) : CE R := ⟨26, test, fun args M => some (selce26n0 ⟨argEnv 0 args, M, [], .unk⟩), fun args M k => tst (Nat.beq args.length 2) (callFn CX 0 cvce26n0 sgF26 selce26n0 (FFF26 Fx) elF26 args M k)⟩
theorem okce26n0 (Fx : TF26) (h : RecOkF26 Fx) (R : Type) (test : List AV → List Blk → Bool) : CeOk CX (ce26n0 Fx R test) := ce_ok hX (fun o k => by cases o; rfl) h en26 (fun args M ids h => by injection h with h; exact ⟨rfl, h.symm⟩)
end Go.Proofs.Ytfggehkiglenjaa

namespace Go.Proofs.Ytfggehkiglenjaa
open Go Go.Eng
set_option maxRecDepth 100000

/-! ### F11: ceiling/master.Abort -/
inductive R11 where
  | r (b0 : List Row)
abbrev TF11 := List Row → List Row → Option R11
def sgF11 : LSh := ⟨[(0, .one (.cell (.slice 30))), (1, .one (.cell (.slice 3)))], []⟩
def FFF11 (Fx : TF11) (s : St) : Option R11 := Fx ((Eng.look s.env 0).rows) ((Eng.look s.env 1).rows)
def valF11 (o : R11) : AV := match o with | .r b0 => .own 0
def memF11 (o : R11) : List Blk := match o with | .r b0 => [.row 3 b0]
def elF11 {R : Type} (o : R11) (k : AV → List Blk → Option R) : Option R := match o with | .r b0 => k (.own 0) [.row 3 b0]
def RecOkF11 (Fx : TF11) : Prop := ∀ lk M o, FFF11 Fx (canS sgF11 lk M) = some o → FCalls CX 11 0 (argsE 2 (canS sgF11 lk M).env) (canS sgF11 lk M).mem (valF11 o) (memF11 o)
noncomputable def csF11 (N : Nat) (R : Type) : List (CE R) := [ce16n0 (F16 N) R (fun _ _ => true), ce25n0 (F25 N) R (fun _ _ => true), ce26n0 (F26 N) R (fun _ _ => true)]
theorem hcsF11 (N : Nat) (R : Type) : AllE (CeOk CX) (csF11 N R) := ⟨okce16n0 (F16 N) (soundF16 N) R (fun _ _ => true), okce25n0 (F25 N) (soundF25 N) R (fun _ _ => true), okce26n0 (F26 N) (soundF26 N) R (fun _ _ => true), trivial⟩
inductive OL11a506 where
  | x0 (b1c0 : List Row) (b2 : List AV)
def L11a506 (N : Nat) : Nat → List Row → Int → Int → List Row → List AV → Option OL11a506
  | 0 => fun _ _ _ _ _ => none
  | n + 1 => fun x13 x14 x15 b1c0 b2 =>
    match decide (x15 < x14) with
    | true =>
      tst (decide ((0 : Int) ≤ x15) && decide (x15 < ((x13.length : Int)))) <|
      match F25 N ((((x13.getD x15.toNat [])).getD 0 .top).toI) b1c0 b2 with
      | none => none
      | some (.r rb0c0v2 rb1v2) =>
        L11a506 N n x13 x14 (IntKind.wrap .i64 (x15 + (1 : Int))) rb0c0v2 rb1v2
    | false =>
      some (.x0 b1c0 b2)
def LFL11a506 (N : Nat) (n : Nat) (s : St) : Option OL11a506 := L11a506 N n ((Eng.look s.env 13).rows) ((Eng.look s.env 14).toI) ((Eng.look s.env 15).toI) (((s.mem.getD 1 .dead).cells.getD 0 .top).rows) ((s.mem.getD 2 .dead).cells)
def sgL11a506 : LSh := ⟨[(6, .one (.ptr 0 0 0)), (13, .one (.cell (.slice 3))), (14, .one (.cell (.int .i64))), (15, .one (.cell (.int .i64)))], [.var [.any] [.cl 25 [(1, 0, 0), (2, 0, 0), (0, 0, 0)]], .var [.any] [.cell (.slice 30)], .arr [.bool, .bool, .bool, .bool, .bool, .bool, .bool, .bool, .bool, .bool, .bool, .bool, .bool, .bool, .bool, .bool, .bool, .bool, .bool, .bool, .bool, .bool, .bool, .bool, .bool, .bool, .bool, .bool, .bool, .bool, .bool, .bool]]⟩
def ceL11a506 : List Cv := []
def seL11a506 : St → List Nat := fun st => [(Eng.look st.env 6).id, (((st.mem.getD ((Eng.look st.env 6).id) .dead).cells.getD 0 .top).caps.getD 0 .top).id, (((st.mem.getD ((Eng.look st.env 6).id) .dead).cells.getD 0 .top).caps.getD 1 .top).id]
def xL11a506wx0 : XSh OL11a506 := ⟨[], ⟨[], [.var [.any] [.cl 25 [(1, 0, 0), (2, 0, 0), (0, 0, 0)]], .var [.any] [.cell (.slice 30)], .arr [.bool, .bool, .bool, .bool, .bool, .bool, .bool, .bool, .bool, .bool, .bool, .bool, .bool, .bool, .bool, .bool, .bool, .bool, .bool, .bool, .bool, .bool, .bool, .bool, .bool, .bool, .bool, .bool, .bool, .bool, .bool, .bool]]⟩, fun st => [0, 1, 2], fun s => .x0 (((s.mem.getD 1 .dead).cells.getD 0 .top).rows) ((s.mem.getD 2 .dead).cells)⟩
def xsL11a506 : Ex → St → Option (XSh OL11a506) := fun e st => match e with
  | .exit 0 => some xL11a506wx0
  | _ => none
def exL11a506 (o : OL11a506) : Ex := match o with | .x0 b1c0 b2 => (.exit 0)
def stL11a506 (o : OL11a506) : St := match o with | .x0 b1c0 b2 => ⟨[], [.var [.any] [.clos 25 [] [.ptr 1 0 0, .ptr 2 0 0, .ptr 0 0 0]], .var [.any] [.list 30 b1c0], .var [.bool, .bool, .bool, .bool, .bool, .bool, .bool, .bool, .bool, .bool, .bool, .bool, .bool, .bool, .bool, .bool, .bool, .bool, .bool, .bool, .bool, .bool, .bool, .bool, .bool, .bool, .bool, .bool, .bool, .bool, .bool, .bool] b2], [], .unk⟩
def elL11a506 {R : Type} (o : OL11a506) (k : Ex → St → Option R) : Option R := match o with | .x0 b1c0 b2 => k (.exit 0) ⟨[], [.var [.any] [.clos 25 [] [.ptr 1 0 0, .ptr 2 0 0, .ptr 0 0 0]], .var [.any] [.list 30 b1c0], .var [.bool, .bool, .bool, .bool, .bool, .bool, .bool, .bool, .bool, .bool, .bool, .bool, .bool, .bool, .bool, .bool, .bool, .bool, .bool, .bool, .bool, .bool, .bool, .bool, .bool, .bool, .bool, .bool, .bool, .bool, .bool, .bool] b2], [], .unk⟩
theorem heL11a506 {R : Type} (o : OL11a506) (k : Ex → St → Option R) : elL11a506 o k = k (exL11a506 o) (stL11a506 o) := by cases o <;> rfl
theorem hxL11a506 : ∀ e st x, xsL11a506 e st = some x → outOk x e exL11a506 stL11a506 := by
  intro e st x h
  unfold xsL11a506 at h
  repeat' split at h
  all_goals first
    | (injection h with h; subst h; exact fun lk M => ⟨rfl, rfl⟩)
    | cases h
noncomputable def T11ul506 (N : Nat) (R : Type) : LTab R := mkTab ⟨26, 8356096⟩ (csF11 N R) (noY) [] [] []
theorem okT11ul506 (N : Nat) (R : Type) : (T11ul506 N R).Ok CX code11 := mkTab_ok (hcsF11 N R) (noY_ok) (trivial) (trivial) (trivial)
noncomputable def bdL11a506 : Code := match codeAt code11 [false, true, false, true, true, true, true, true] with | some (.loop c) => c | _ => .skip
theorem hsL11a506 (N : Nat) : ∀ (n : Nat) (lk : Nat → AV) (M : List Blk), LFL11a506 N (n + 1) (canS sgL11a506 lk M) = evk CX (T11ul506 N OL11a506) bdL11a506 (2 * 506) (canS sgL11a506 lk M) (kont CX 3 [] sgL11a506 (fun st => [0, 1, 2]) xsL11a506 (LFL11a506 N n)) := by intro n lk M; kernel_rfl
noncomputable def T11ur1 (N : Nat) (R : Type) : LTab R := mkTab ⟨26, 67108863⟩ (csF11 N R) (noY) [(506, fun st k => callLoop CX 3 8356096 ceL11a506 sgL11a506 seL11a506 ⟨26, 67108863⟩ (LFL11a506 N N) elL11a506 st k)] [] []
theorem okT11ur1 (N : Nat) (R : Type) : (T11ur1 N R).Ok CX code11 := mkTab_ok (hcsF11 N R) (noY_ok) (⟨loop_ok hX (path := [false, true, false, true, true, true, true, true]) (by kernel_rfl) (by rfl) (okT11ul506 N OL11a506) (fun _ _ => rfl) (hsL11a506 N) hxL11a506 rfl heL11a506, trivial⟩) (trivial) (trivial)
def rsF11 : List ResultVar := [.tmp 4]
def F11 : Nat → TF11
  | 0 => fun _ _ => none
  | N + 1 => fun x0 x1 =>
    match F16 N x0 with
    | none => none
    | some (.r rx0v1) =>
      match !rx0v1 with
      | true =>
        some (.r (([] : List Row)))
      | false =>
        match L11a506 N N x1 ((x1.length : Int)) 0 x0 (([.bool false, .bool false, .bool false, .bool false, .bool false, .bool false, .bool false, .bool false, .bool false, .bool false, .bool false, .bool false, .bool false, .bool false, .bool false, .bool false, .bool false, .bool false, .bool false, .bool false, .bool false, .bool false, .bool false, .bool false, .bool false, .bool false, .bool false, .bool false, .bool false, .bool false, .bool false, .bool false] : List AV)) with
        | none => none
        | some (.x0 b1c0v3 b2v3) =>
          match F26 N b1c0v3 ((b2v3.getD 0 .top).toB) ((b2v3.getD 1 .top).toB) ((b2v3.getD 2 .top).toB) ((b2v3.getD 3 .top).toB) ((b2v3.getD 4 .top).toB) ((b2v3.getD 5 .top).toB) ((b2v3.getD 6 .top).toB) ((b2v3.getD 7 .top).toB) ((b2v3.getD 8 .top).toB) ((b2v3.getD 9 .top).toB) ((b2v3.getD 10 .top).toB) ((b2v3.getD 11 .top).toB) ((b2v3.getD 12 .top).toB) ((b2v3.getD 13 .top).toB) ((b2v3.getD 14 .top).toB) ((b2v3.getD 15 .top).toB) ((b2v3.getD 16 .top).toB) ((b2v3.getD 17 .top).toB) ((b2v3.getD 18 .top).toB) ((b2v3.getD 19 .top).toB) ((b2v3.getD 20 .top).toB) ((b2v3.getD 21 .top).toB) ((b2v3.getD 22 .top).toB) ((b2v3.getD 23 .top).toB) ((b2v3.getD 24 .top).toB) ((b2v3.getD 25 .top).toB) ((b2v3.getD 26 .top).toB) ((b2v3.getD 27 .top).toB) ((b2v3.getD 28 .top).toB) ((b2v3.getD 29 .top).toB) ((b2v3.getD 30 .top).toB) ((b2v3.getD 31 .top).toB) with
          | none => none
          | some (.r rb0v4) =>
            some (.r rb0v4)
def xRF11 : XSh R11 := ⟨[.mk 0 3], ⟨[(0, .one (.own 0))], [.row 3]⟩, fun st => [(Eng.look st.env 0).id], fun s => .r ((s.mem.getD 0 .dead).rows)⟩
theorem fsF11 : ∀ (N : Nat) (lk : Nat → AV) (M : List Blk), FFF11 (F11 (N + 1)) (canS sgF11 lk M) = evfn CX (T11ur1 N R11) code11 rsF11 (argsE 2 (canS sgF11 lk M).env) (canS sgF11 lk M).mem (goR CX 0 (fun _ => some xRF11)) := by intro N lk M; kernel_rfl
theorem soundF11 : ∀ N, RecOkF11 (F11 N)
  | 0, lk, M, o, h => by cases h
  | N + 1, lk, M, o, h => fn_sound hX (okT11ur1 N R11) Try.func11 hb11 rfl en11 (by kernel_rfl) (ys := fun _ => some xRF11) (fun st y h => by injection h with h; subst h; exact fun lk M => ⟨rfl, rfl⟩) ((fsF11 N lk M).symm.trans h)
def cvce11n0 : List Cv := [.frz 1 (.slice 3)]
def selce11n0 : St → List Nat := fun _ => []
noncomputable def ce11n0 (Fx : TF11) (R : Type) (test : List AV → List Blk → Bool) : CE R := ⟨11, test, fun _ _ => none, fun args M k => tst (Nat.beq args.length 2) (callFn CX 0 cvce11n0 sgF11 selce11n0 (FFF11 Fx) elF11 args M k)⟩
theorem okce11n0 (Fx : TF11) (h : RecOkF11 Fx) (R : Type) (test : List AV → List Blk → Bool) : CeOk CX (ce11n0 Fx R test) := ce_ok hX (fun o k => by cases o; rfl) h en11 (fun args M ids h => by cases h)
def cvce11n1 : List Cv := [.frz 0 (.slice 30), .frz 1 (.slice 3)]
def selce11n1 : St → List Nat := fun _ => []
noncomputable def ce11n1 (Fx : TF11) (R : Type) (test : List AV → List Blk → Bool) : CE R := ⟨11, test, fun _ _ => none, fun args M k => tst (Nat.beq args.length 2) (callFn CX 0 cvce11n1 sgF11 selce11n1 (FFF11 Fx) elF11 args M k)⟩
theorem okce11n1 (Fx : TF11) (h : RecOkF11 Fx) (R : Type) (test : List AV → List Blk → Bool) : CeOk CX (ce11n1 Fx R test) := ce_ok hX (fun o k => by cases o; rfl) h en11 (fun args M ids h => by cases h)
def cvce11n2 : List Cv := []
def selce11n2 : St → List Nat := fun _ => []
noncomputable def ce11n2 (Fx : TF11) (R : Type) (test : List AV → List Blk → Bool) : CE R := ⟨11, test, fun args M => some (selce11n2 ⟨argEnv 0 args, M, [], .unk⟩), fun args M k => tst (Nat.beq args.length 2) (callFn CX 0 cvce11n2 sgF11 selce11n2 (FFF11 Fx) elF11 args M k)⟩
theorem okce11n2 (Fx : TF11) (h : RecOkF11 Fx) (R : Type) (test : List AV → List Blk → Bool) : CeOk CX (ce11n2 Fx R test) := ce_ok hX (fun o k => by cases o; rfl) h en11 (fun args M ids h => by injection h with h; exact ⟨rfl, h.symm⟩)
def cvce11n3 : List Cv := [.frz 0 (.slice 30)]
def selce11n3 : St → List Nat := fun _ => []
noncomputable def ce11n3 (Fx : TF11) (R : Type) (test : List AV → List Blk → Bool) : CE R := ⟨11, test, fun _ _ => none, fun args M k => tst (Nat.beq args.length 2) (callFn CX 0 cvce11n3 sgF11 selce11n3 (FFF11 Fx) elF11 args M k)⟩
theorem okce11n3 (Fx : TF11) (h : RecOkF11 Fx) (R : Type) (test : List AV → List Blk → Bool) : CeOk CX (ce11n3 Fx R test) := ce_ok hX (fun o k => by cases o; rfl) h en11 (fun args M ids h => by cases h)
end Go.Proofs.Ytfggehkiglenjaa

namespace Go.Proofs.Ytfggehkiglenjaa
open Go Go.Eng
set_option maxRecDepth 100000

/-! ### F29: ceiling/master.Depends.1 -/
inductive R29 where
  | r (b0c0 : List Row) (b1 : List AV)
abbrev TF29 := Int → List Row → List AV → Option R29
def sgF29 : LSh := ⟨[(0, .one (.cell (.int .i64))), (1, .one (.ptr 0 0 0)), (2, .one (.ptr 1 0 0)), (3, .one (.ptr 2 0 0))], [.var [.any] [.cell (.slice 30)], .arr [.bool, .bool, .bool, .bool, .bool, .bool, .bool, .bool, .bool, .bool, .bool, .bool, .bool, .bool, .bool, .bool, .bool, .bool, .bool, .bool, .bool, .bool, .bool, .bool, .bool, .bool, .bool, .bool, .bool, .bool, .bool, .bool], .var [.any] [.cl 29 [(0, 0, 0), (1, 0, 0), (2, 0, 0)]]]⟩
def FFF29 (Fx : TF29) (s : St) : Option R29 := Fx ((Eng.look s.env 0).toI) (((s.mem.getD 0 .dead).cells.getD 0 .top).rows) ((s.mem.getD 1 .dead).cells)
def valF29 (o : R29) : AV := match o with | .r b0c0 b1 => .tup []
def memF29 (o : R29) : List Blk := match o with | .r b0c0 b1 => [.var [.any] [.list 30 b0c0], .var [.bool, .bool, .bool, .bool, .bool, .bool, .bool, .bool, .bool, .bool, .bool, .bool, .bool, .bool, .bool, .bool, .bool, .bool, .bool, .bool, .bool, .bool, .bool, .bool, .bool, .bool, .bool, .bool, .bool, .bool, .bool, .bool] b1, .var [.any] [.clos 29 [] [.ptr 0 0 0, .ptr 1 0 0, .ptr 2 0 0]]]
def elF29 {R : Type} (o : R29) (k : AV → List Blk → Option R) : Option R := match o with | .r b0c0 b1 => k (.tup []) [.var [.any] [.list 30 b0c0], .var [.bool, .bool, .bool, .bool, .bool, .bool, .bool, .bool, .bool, .bool, .bool, .bool, .bool, .bool, .bool, .bool, .bool, .bool, .bool, .bool, .bool, .bool, .bool, .bool, .bool, .bool, .bool, .bool, .bool, .bool, .bool, .bool] b1, .var [.any] [.clos 29 [] [.ptr 0 0 0, .ptr 1 0 0, .ptr 2 0 0]]]
def RecOkF29 (Fx : TF29) : Prop := ∀ lk M o, FFF29 Fx (canS sgF29 lk M) = some o → FCalls CX 29 3 (argsE 4 (canS sgF29 lk M).env) (canS sgF29 lk M).mem (valF29 o) (memF29 o)
def cvce29n0 : List Cv := []
def selce29n0 : St → List Nat := fun st => [(Eng.look st.env 1).id, (Eng.look st.env 2).id, (Eng.look st.env 3).id]
noncomputable def ce29n0 (Fx : TF29) (R : Type) (test : List AV → List Blk → Bool) : CE R := ⟨29, test, fun args M => some (selce29n0 ⟨argEnv 0 args, M, [], .unk⟩), fun args M k => tst (Nat.beq args.length 4) (callFn CX 3 cvce29n0 sgF29 selce29n0 (FFF29 Fx) elF29 args M k)⟩
theorem okce29n0 (Fx : TF29) (h : RecOkF29 Fx) (R : Type) (test : List AV → List Blk → Bool) : CeOk CX (ce29n0 Fx R test) := ce_ok hX (fun o k => by cases o; rfl) h en29 (fun args M ids h => by injection h with h; exact ⟨rfl, h.symm⟩)
noncomputable def csF29 (rec : TF29) (N : Nat) (R : Type) : List (CE R) := [ce23n0 (F23 N) R (fun _ _ => true), ce29n0 rec R (fun _ _ => true)]
theorem hcsF29 (rec : TF29) (hrec : RecOkF29 rec) (N : Nat) (R : Type) : AllE (CeOk CX) (csF29 rec N R) := ⟨okce23n0 (F23 N) (soundF23 N) R (fun _ _ => true), okce29n0 rec hrec R (fun _ _ => true), trivial⟩
noncomputable def T29us6 (rec : TF29) (N : Nat) (R : Type) : LTab R := mkTab ⟨15, 32767⟩ (csF29 rec N R) (noY) [] [] []
theorem okT29us6 (rec : TF29) (hrec : RecOkF29 rec) (N : Nat) (R : Type) : (T29us6 rec N R).Ok CX code29 := mkTab_ok (hcsF29 rec hrec N R) (noY_ok) (trivial) (trivial) (trivial)
def rs29i6f31 : List ResultVar := []
inductive OL29i6f31a6 where
  | x0 (b1c0 : Int) (b2c0 : Int) (b3 : List AV) (b5c0 : List Row)
def L29i6f31a6 (rec : TF29) (N : Nat) : Nat → List Row → Int → Int → Int → Int → List AV → List Row → Option OL29i6f31a6
  | 0 => fun _ _ _ _ _ _ _ => none
  | n + 1 => fun x7 x8 x9 b1c0 b2c0 b3 b5c0 =>
    match decide (x9 < x8) with
    | true =>
      tst (decide ((0 : Int) ≤ x9) && decide (x9 < ((x7.length : Int)))) <|
      match decide ((0 : Int) < x9) with
      | true =>
        match ((((x7.getD x9.toNat [])).getD 5 .top).toI) == b1c0 with
        | true =>
          match decide (b2c0 < (0 : Int)) with
          | true =>
            tst (decide ((0 : Int) ≤ x9) && decide (x9 < (32 : Int))) <|
            tst (decide (((0 + (x9.toNat * 1)) + 1) ≤ 32) && true) <|
            match rec x9 b5c0 (Eng.setAt b3 (0 + (x9.toNat * 1)) [.bool true]) with
            | none => none
            | some (.r rb0c0v2 rb1v2) =>
              L29i6f31a6 rec N n x7 x8 (IntKind.wrap .i64 (x9 + (1 : Int))) b1c0 b2c0 rb1v2 rb0c0v2
          | false =>
            match ((((x7.getD x9.toNat [])).getD 6 .top).toI) == b2c0 with
            | true =>
              tst (decide ((0 : Int) ≤ x9) && decide (x9 < (32 : Int))) <|
              tst (decide (((0 + (x9.toNat * 1)) + 1) ≤ 32) && true) <|
              match rec x9 b5c0 (Eng.setAt b3 (0 + (x9.toNat * 1)) [.bool true]) with
              | none => none
              | some (.r rb0c0v3 rb1v3) =>
                L29i6f31a6 rec N n x7 x8 (IntKind.wrap .i64 (x9 + (1 : Int))) b1c0 b2c0 rb1v3 rb0c0v3
            | false =>
              L29i6f31a6 rec N n x7 x8 (IntKind.wrap .i64 (x9 + (1 : Int))) b1c0 b2c0 b3 b5c0
        | false =>
          L29i6f31a6 rec N n x7 x8 (IntKind.wrap .i64 (x9 + (1 : Int))) b1c0 b2c0 b3 b5c0
      | false =>
        L29i6f31a6 rec N n x7 x8 (IntKind.wrap .i64 (x9 + (1 : Int))) b1c0 b2c0 b3 b5c0
    | false =>
      some (.x0 b1c0 b2c0 b3 b5c0)
def LFL29i6f31a6 (rec : TF29) (N : Nat) (n : Nat) (s : St) : Option OL29i6f31a6 := L29i6f31a6 rec N n ((Eng.look s.env 7).rows) ((Eng.look s.env 8).toI) ((Eng.look s.env 9).toI) (((s.mem.getD 1 .dead).cells.getD 0 .top).toI) (((s.mem.getD 2 .dead).cells.getD 0 .top).toI) ((s.mem.getD 3 .dead).cells) (((s.mem.getD 5 .dead).cells.getD 0 .top).rows)
def sgL29i6f31a6 : LSh := ⟨[(0, .one (.yld 0)), (2, .one (.ptr 1 0 0)), (3, .one (.ptr 2 0 0)), (7, .one (.cell (.slice 30))), (8, .one (.cell (.int .i64))), (9, .one (.cell (.int .i64)))], [.loop 4 [(2, .one (.ptr 3 0 0)), (3, .one (.ptr 4 0 0))] none, .var [.int .i64] [.cell (.int .i64)], .var [.int .i64] [.cell (.int .i64)], .arr [.bool, .bool, .bool, .bool, .bool, .bool, .bool, .bool, .bool, .bool, .bool, .bool, .bool, .bool, .bool, .bool, .bool, .bool, .bool, .bool, .bool, .bool, .bool, .bool, .bool, .bool, .bool, .bool, .bool, .bool, .bool, .bool], .var [.any] [.cl 29 [(5, 0, 0), (3, 0, 0), (4, 0, 0)]], .var [.any] [.cell (.slice 30)]]⟩
def ceL29i6f31a6 : List Cv := []
def seL29i6f31a6 : St → List Nat := fun st => [(Eng.look st.env 0).id, (Eng.look st.env 2).id, (Eng.look st.env 3).id, ((st.mem.getD ((Eng.look st.env 0).id) .dead).lenv.getD 0 (0, .top)).2.id, ((st.mem.getD ((Eng.look st.env 0).id) .dead).lenv.getD 1 (0, .top)).2.id, (((st.mem.getD (((st.mem.getD ((Eng.look st.env 0).id) .dead).lenv.getD 1 (0, .top)).2.id) .dead).cells.getD 0 .top).caps.getD 0 .top).id]
def xL29i6f31a6wx0 : XSh OL29i6f31a6 := ⟨[], ⟨[], [.loop 4 [(2, .one (.ptr 3 0 0)), (3, .one (.ptr 4 0 0))] none, .var [.int .i64] [.cell (.int .i64)], .var [.int .i64] [.cell (.int .i64)], .arr [.bool, .bool, .bool, .bool, .bool, .bool, .bool, .bool, .bool, .bool, .bool, .bool, .bool, .bool, .bool, .bool, .bool, .bool, .bool, .bool, .bool, .bool, .bool, .bool, .bool, .bool, .bool, .bool, .bool, .bool, .bool, .bool], .var [.any] [.cl 29 [(5, 0, 0), (3, 0, 0), (4, 0, 0)]], .var [.any] [.cell (.slice 30)]]⟩, fun st => [0, 1, 2, 3, 4, 5], fun s => .x0 (((s.mem.getD 1 .dead).cells.getD 0 .top).toI) (((s.mem.getD 2 .dead).cells.getD 0 .top).toI) ((s.mem.getD 3 .dead).cells) (((s.mem.getD 5 .dead).cells.getD 0 .top).rows)⟩
def xsL29i6f31a6 : Ex → St → Option (XSh OL29i6f31a6) := fun e st => match e with
  | .exit 0 => some xL29i6f31a6wx0
  | _ => none
def exL29i6f31a6 (o : OL29i6f31a6) : Ex := match o with | .x0 b1c0 b2c0 b3 b5c0 => (.exit 0)
def stL29i6f31a6 (o : OL29i6f31a6) : St := match o with | .x0 b1c0 b2c0 b3 b5c0 => ⟨[], [.loop 4 [(2, .ptr 3 0 0), (3, .ptr 4 0 0)] false none, .var [.int .i64] [.int .i64 b1c0], .var [.int .i64] [.int .i64 b2c0], .var [.bool, .bool, .bool, .bool, .bool, .bool, .bool, .bool, .bool, .bool, .bool, .bool, .bool, .bool, .bool, .bool, .bool, .bool, .bool, .bool, .bool, .bool, .bool, .bool, .bool, .bool, .bool, .bool, .bool, .bool, .bool, .bool] b3, .var [.any] [.clos 29 [] [.ptr 5 0 0, .ptr 3 0 0, .ptr 4 0 0]], .var [.any] [.list 30 b5c0]], [], .unk⟩
def elL29i6f31a6 {R : Type} (o : OL29i6f31a6) (k : Ex → St → Option R) : Option R := match o with | .x0 b1c0 b2c0 b3 b5c0 => k (.exit 0) ⟨[], [.loop 4 [(2, .ptr 3 0 0), (3, .ptr 4 0 0)] false none, .var [.int .i64] [.int .i64 b1c0], .var [.int .i64] [.int .i64 b2c0], .var [.bool, .bool, .bool, .bool, .bool, .bool, .bool, .bool, .bool, .bool, .bool, .bool, .bool, .bool, .bool, .bool, .bool, .bool, .bool, .bool, .bool, .bool, .bool, .bool, .bool, .bool, .bool, .bool, .bool, .bool, .bool, .bool] b3, .var [.any] [.clos 29 [] [.ptr 5 0 0, .ptr 3 0 0, .ptr 4 0 0]], .var [.any] [.list 30 b5c0]], [], .unk⟩
theorem heL29i6f31a6 {R : Type} (o : OL29i6f31a6) (k : Ex → St → Option R) : elL29i6f31a6 o k = k (exL29i6f31a6 o) (stL29i6f31a6 o) := by cases o <;> rfl
theorem hxL29i6f31a6 : ∀ e st x, xsL29i6f31a6 e st = some x → outOk x e exL29i6f31a6 stL29i6f31a6 := by
  intro e st x h
  unfold xsL29i6f31a6 at h
  repeat' split at h
  all_goals first
    | (injection h with h; subst h; exact fun lk M => ⟨rfl, rfl⟩)
    | cases h
noncomputable def T29i6f31ul6 (rec : TF29) (N : Nat) (R : Type) : LTab R := mkTab ⟨39, 549755813472⟩ (csF29 rec N R) (pickY [(4, fun id args M k => evyield CX (T29us6 rec N R) 4 6 id args M k)]) [] [] []
theorem okT29i6f31ul6 (rec : TF29) (hrec : RecOkF29 rec) (N : Nat) (R : Type) : (T29i6f31ul6 rec N R).Ok CX code31 := mkTab_ok (hcsF29 rec hrec N R) (pickY_ok (es := [(4, fun id args M k => evyield CX (T29us6 rec N R) 4 6 id args M k)]) ⟨fun {id args M k r} h => evyield_sound hX (okT29us6 rec hrec N R) (g := nd4.1) (ps := nd4.2.1) ⟨[false, true], by rfl, by kernel_rfl⟩ h, trivial⟩) (trivial) (trivial) (trivial)
noncomputable def bdL29i6f31a6 : Code := match codeAt code31 [false, true] with | some (.loop c) => c | _ => .skip
theorem hsL29i6f31a6 (rec : TF29) (N : Nat) : ∀ (n : Nat) (lk : Nat → AV) (M : List Blk), LFL29i6f31a6 rec N (n + 1) (canS sgL29i6f31a6 lk M) = evk CX (T29i6f31ul6 rec N OL29i6f31a6) bdL29i6f31a6 (2 * 6) (canS sgL29i6f31a6 lk M) (kont CX 6 [] sgL29i6f31a6 (fun st => [0, 1, 2, 3, 4, 5]) xsL29i6f31a6 (LFL29i6f31a6 rec N n)) := by intro n lk M; kernel_rfl
noncomputable def T29i6f31ur1 (rec : TF29) (N : Nat) (R : Type) : LTab R := mkTab ⟨39, 549755813887⟩ (csF29 rec N R) (pickY [(4, fun id args M k => evyield CX (T29us6 rec N R) 4 6 id args M k)]) [(6, fun st k => callLoop CX 6 549755813472 ceL29i6f31a6 sgL29i6f31a6 seL29i6f31a6 ⟨39, 549755813887⟩ (LFL29i6f31a6 rec N N) elL29i6f31a6 st k)] [] []
theorem okT29i6f31ur1 (rec : TF29) (hrec : RecOkF29 rec) (N : Nat) (R : Type) : (T29i6f31ur1 rec N R).Ok CX code31 := mkTab_ok (hcsF29 rec hrec N R) (pickY_ok (es := [(4, fun id args M k => evyield CX (T29us6 rec N R) 4 6 id args M k)]) ⟨fun {id args M k r} h => evyield_sound hX (okT29us6 rec hrec N R) (g := nd4.1) (ps := nd4.2.1) ⟨[false, true], by rfl, by kernel_rfl⟩ h, trivial⟩) (⟨loop_ok hX (path := [false, true]) (by kernel_rfl) (by rfl) (okT29i6f31ul6 rec hrec N OL29i6f31a6) (fun _ _ => rfl) (hsL29i6f31a6 rec N) hxL29i6f31a6 rfl heL29i6f31a6, trivial⟩) (trivial) (trivial)
noncomputable def T29ur1 (rec : TF29) (N : Nat) (R : Type) : LTab R := mkTab ⟨15, 32767⟩ (csF29 rec N R) (noY) [] [(6, fun st k => evrange CX (oneTab ⟨15, 32767⟩ (inl 31 (fun args M k => evfn CX (T29i6f31ur1 rec N R) code31 rs29i6f31 args M k))) 4 [2, 3] (.tmp 8) st k)] []
theorem okT29ur1 (rec : TF29) (hrec : RecOkF29 rec) (N : Nat) (R : Type) : (T29ur1 rec N R).Ok CX code29 := mkTab_ok (hcsF29 rec hrec N R) (noY_ok) (trivial) (⟨range_ok hX (path := [false, true]) (ps0 := nd4.2.1) (a0 := nd4.2.2.1) (b0 := nd4.2.2.2) (by kernel_rfl) (by rfl) (inl_ok fun {args M k r} h => evfn_sound hX (okT29i6f31ur1 rec hrec N R) Try.func31 hb31 rfl en31 (by kernel_rfl) h) (by kernel_rfl), trivial⟩) (trivial)
def rsF29 : List ResultVar := []
def F29 : Nat → TF29
  | 0 => fun _ _ _ => none
  | N + 1 => fun x0 b0c0 b1 =>
    match F23 N b0c0 x0 ((-1)) with
    | none => none
    | some (.r rb0c0v1 rb1c0v1 rb2c0v1) =>
      match L29i6f31a6 (F29 N) N N rb0c0v1 ((rb0c0v1.length : Int)) 0 rb1c0v1 rb2c0v1 b1 b0c0 with
      | none => none
      | some (.x0 b1c0v4 b2c0v4 b3v4 b5c0v4) =>
        some (.r b5c0v4 b3v4)
def xRF29 : XSh R29 := ⟨[], ⟨[], [.var [.any] [.cell (.slice 30)], .arr [.bool, .bool, .bool, .bool, .bool, .bool, .bool, .bool, .bool, .bool, .bool, .bool, .bool, .bool, .bool, .bool, .bool, .bool, .bool, .bool, .bool, .bool, .bool, .bool, .bool, .bool, .bool, .bool, .bool, .bool, .bool, .bool], .var [.any] [.cl 29 [(0, 0, 0), (1, 0, 0), (2, 0, 0)]]]⟩, fun st => [0, 1, 2], fun s => .r (((s.mem.getD 0 .dead).cells.getD 0 .top).rows) ((s.mem.getD 1 .dead).cells)⟩
theorem fsF29 : ∀ (N : Nat) (lk : Nat → AV) (M : List Blk), FFF29 (F29 (N + 1)) (canS sgF29 lk M) = evfn CX (T29ur1 (F29 N) N R29) code29 rsF29 (argsE 4 (canS sgF29 lk M).env) (canS sgF29 lk M).mem (goRt CX 3 0 (fun _ => some xRF29)) := by intro N lk M; kernel_rfl
theorem soundF29 : ∀ N, RecOkF29 (F29 N)
  | 0, lk, M, o, h => by cases h
  | N + 1, lk, M, o, h => fn_soundt hX (okT29ur1 (F29 N) (soundF29 N) N R29) Try.func29 hb29 rfl en29 (by kernel_rfl) (ys := fun _ => some xRF29) (fun st y h => by injection h with h; subst h; exact fun lk M => ⟨rfl, rfl⟩) ((fsF29 N lk M).symm.trans h)
end Go.Proofs.Ytfggehkiglenjaa

namespace Go.Proofs.Ytfggehkiglenjaa
open Go Go.Eng
set_option maxRecDepth 100000

/-! ### F15: ceiling/master.Depends -/
inductive R15 where
  | r (b0 : List Row)
abbrev TF15 := List Row → Int → Option R15
def sgF15 : LSh := ⟨[(0, .one (.cell (.slice 30))), (1, .one (.cell (.int .i64)))], []⟩
def FFF15 (Fx : TF15) (s : St) : Option R15 := Fx ((Eng.look s.env 0).rows) ((Eng.look s.env 1).toI)
def valF15 (o : R15) : AV := match o with | .r b0 => .own 0
def memF15 (o : R15) : List Blk := match o with | .r b0 => [.row 3 b0]
def elF15 {R : Type} (o : R15) (k : AV → List Blk → Option R) : Option R := match o with | .r b0 => k (.own 0) [.row 3 b0]
def RecOkF15 (Fx : TF15) : Prop := ∀ lk M o, FFF15 Fx (canS sgF15 lk M) = some o → FCalls CX 15 0 (argsE 2 (canS sgF15 lk M).env) (canS sgF15 lk M).mem (valF15 o) (memF15 o)
noncomputable def csF15 (N : Nat) (R : Type) : List (CE R) := [ce16n0 (F16 N) R (fun _ _ => true), ce26n0 (F26 N) R (fun _ _ => true), ce29n0 (F29 N) R (fun _ _ => true)]
theorem hcsF15 (N : Nat) (R : Type) : AllE (CeOk CX) (csF15 N R) := ⟨okce16n0 (F16 N) (soundF16 N) R (fun _ _ => true), okce26n0 (F26 N) (soundF26 N) R (fun _ _ => true), okce29n0 (F29 N) (soundF29 N) R (fun _ _ => true), trivial⟩
noncomputable def T15ur1 (N : Nat) (R : Type) : LTab R := mkTab ⟨17, 131071⟩ (csF15 N R) (noY) [] [] []
theorem okT15ur1 (N : Nat) (R : Type) : (T15ur1 N R).Ok CX code15 := mkTab_ok (hcsF15 N R) (noY_ok) (trivial) (trivial) (trivial)
def rsF15 : List ResultVar := [.tmp 4]
def F15 : Nat → TF15
  | 0 => fun _ _ => none
  | N + 1 => fun x0 x1 =>
    match F16 N x0 with
    | none => none
    | some (.r rx0v1) =>
      match !rx0v1 with
      | true =>
        some (.r (([] : List Row)))
      | false =>
        match F29 N x1 x0 (([.bool false, .bool false, .bool false, .bool false, .bool false, .bool false, .bool false, .bool false, .bool false, .bool false, .bool false, .bool false, .bool false, .bool false, .bool false, .bool false, .bool false, .bool false, .bool false, .bool false, .bool false, .bool false, .bool false, .bool false, .bool false, .bool false, .bool false, .bool false, .bool false, .bool false, .bool false, .bool false] : List AV)) with
        | none => none
        | some (.r rb0c0v2 rb1v2) =>
          match F26 N rb0c0v2 ((rb1v2.getD 0 .top).toB) ((rb1v2.getD 1 .top).toB) ((rb1v2.getD 2 .top).toB) ((rb1v2.getD 3 .top).toB) ((rb1v2.getD 4 .top).toB) ((rb1v2.getD 5 .top).toB) ((rb1v2.getD 6 .top).toB) ((rb1v2.getD 7 .top).toB) ((rb1v2.getD 8 .top).toB) ((rb1v2.getD 9 .top).toB) ((rb1v2.getD 10 .top).toB) ((rb1v2.getD 11 .top).toB) ((rb1v2.getD 12 .top).toB) ((rb1v2.getD 13 .top).toB) ((rb1v2.getD 14 .top).toB) ((rb1v2.getD 15 .top).toB) ((rb1v2.getD 16 .top).toB) ((rb1v2.getD 17 .top).toB) ((rb1v2.getD 18 .top).toB) ((rb1v2.getD 19 .top).toB) ((rb1v2.getD 20 .top).toB) ((rb1v2.getD 21 .top).toB) ((rb1v2.getD 22 .top).toB) ((rb1v2.getD 23 .top).toB) ((rb1v2.getD 24 .top).toB) ((rb1v2.getD 25 .top).toB) ((rb1v2.getD 26 .top).toB) ((rb1v2.getD 27 .top).toB) ((rb1v2.getD 28 .top).toB) ((rb1v2.getD 29 .top).toB) ((rb1v2.getD 30 .top).toB) ((rb1v2.getD 31 .top).toB) with
          | none => none
          | some (.r rb0v3) =>
            some (.r rb0v3)
def xRF15 : XSh R15 := ⟨[.mk 0 3], ⟨[(0, .one (.own 0))], [.row 3]⟩, fun st => [(Eng.look st.env 0).id], fun s => .r ((s.mem.getD 0 .dead).rows)⟩
theorem fsF15 : ∀ (N : Nat) (lk : Nat → AV) (M : List Blk), FFF15 (F15 (N + 1)) (canS sgF15 lk M) = evfn CX (T15ur1 N R15) code15 rsF15 (argsE 2 (canS sgF15 lk M).env) (canS sgF15 lk M).mem (goR CX 0 (fun _ => some xRF15)) := by intro N lk M; kernel_rfl
theorem soundF15 : ∀ N, RecOkF15 (F15 N)
  | 0, lk, M, o, h => by cases h
  | N + 1, lk, M, o, h => fn_sound hX (okT15ur1 N R15) Try.func15 hb15 rfl en15 (by kernel_rfl) (ys := fun _ => some xRF15) (fun st y h => by injection h with h; subst h; exact fun lk M => ⟨rfl, rfl⟩) ((fsF15 N lk M).symm.trans h)
def cvce15n0 : List Cv := []
def selce15n0 : St → List Nat := fun _ => []
noncomputable def ce15n0 (Fx : TF15) (R : Type) (test : List AV → List Blk → Bool) : CE R := ⟨15, test, fun args M => some (selce15n0 ⟨argEnv 0 args, M, [], .unk⟩), fun args M k => tst (Nat.beq args.length 2) (callFn CX 0 cvce15n0 sgF15 selce15n0 (FFF15 Fx) elF15 args M k)⟩
theorem okce15n0 (Fx : TF15) (h : RecOkF15 Fx) (R : Type) (test : List AV → List Blk → Bool) : CeOk CX (ce15n0 Fx R test) := ce_ok hX (fun o k => by cases o; rfl) h en15 (fun args M ids h => by injection h with h; exact ⟨rfl, h.symm⟩)
def cvce15n1 : List Cv := [.frz 0 (.slice 30)]
def selce15n1 : St → List Nat := fun _ => []
noncomputable def ce15n1 (Fx : TF15) (R : Type) (test : List AV → List Blk → Bool) : CE R := ⟨15, test, fun _ _ => none, fun args M k => tst (Nat.beq args.length 2) (callFn CX 0 cvce15n1 sgF15 selce15n1 (FFF15 Fx) elF15 args M k)⟩
theorem okce15n1 (Fx : TF15) (h : RecOkF15 Fx) (R : Type) (test : List AV → List Blk → Bool) : CeOk CX (ce15n1 Fx R test) := ce_ok hX (fun o k => by cases o; rfl) h en15 (fun args M ids h => by cases h)
end Go.Proofs.Ytfggehkiglenjaa

namespace Go.Proofs.Ytfggehkiglenjaa
open Go Go.Eng
set_option maxRecDepth 100000

/-! ### F8: ceiling/ceilingref33.Same -/
inductive R8 where
  | r (x0 : Bool)
abbrev TF8 := List Row → List Row → Option R8
def sgF8 : LSh := ⟨[(0, .one (.cell (.slice 3))), (1, .one (.cell (.slice 3)))], []⟩
def FFF8 (Fx : TF8) (s : St) : Option R8 := Fx ((Eng.look s.env 0).rows) ((Eng.look s.env 1).rows)
def valF8 (o : R8) : AV := match o with | .r x0 => .bool x0
def memF8 (o : R8) : List Blk := match o with | .r x0 => []
def elF8 {R : Type} (o : R8) (k : AV → List Blk → Option R) : Option R := match o with | .r x0 => k (.bool x0) []
def RecOkF8 (Fx : TF8) : Prop := ∀ lk M o, FFF8 Fx (canS sgF8 lk M) = some o → FCalls CX 8 0 (argsE 2 (canS sgF8 lk M).env) (canS sgF8 lk M).mem (valF8 o) (memF8 o)
noncomputable def csF8 (N : Nat) (R : Type) : List (CE R) := []
theorem hcsF8 (N : Nat) (R : Type) : AllE (CeOk CX) (csF8 N R) := trivial
inductive OL8a58 where
  | ret (x4 : Bool)
  | x0
def L8a58 (N : Nat) : Nat → List Row → List Row → Int → Option OL8a58
  | 0 => fun _ _ _ => none
  | n + 1 => fun x0 x1 x5 =>
    match decide (x5 < ((x0.length : Int))) with
    | true =>
      tst (decide ((0 : Int) ≤ x5) && decide (x5 < ((x0.length : Int)))) <|
      tst (decide ((0 : Int) ≤ x5) && decide (x5 < ((x1.length : Int)))) <|
      match ((((x0.getD x5.toNat [])).getD 0 .top).toI) != ((((x1.getD x5.toNat [])).getD 0 .top).toI) with
      | true =>
        some (.ret false)
      | false =>
        L8a58 N n x0 x1 (IntKind.wrap .i64 (x5 + (1 : Int)))
    | false =>
      some .x0
def LFL8a58 (N : Nat) (n : Nat) (s : St) : Option OL8a58 := L8a58 N n ((Eng.look s.env 0).rows) ((Eng.look s.env 1).rows) ((Eng.look s.env 5).toI)
def sgL8a58 : LSh := ⟨[(0, .one (.cell (.slice 3))), (1, .one (.cell (.slice 3))), (5, .one (.cell (.int .i64)))], []⟩
def ceL8a58 : List Cv := []
def seL8a58 : St → List Nat := fun _ => []
def xL8a58wret : XSh OL8a58 := ⟨[], ⟨[(4, .one (.cell (.bool)))], []⟩, fun _ => [], fun s => .ret ((Eng.look s.env 4).toB)⟩
def xL8a58wx0 : XSh OL8a58 := ⟨[], ⟨[], []⟩, fun _ => [], fun s => .x0 ⟩
def xsL8a58 : Ex → St → Option (XSh OL8a58) := fun e st => match e with
  | .ret => some xL8a58wret
  | .exit 0 => some xL8a58wx0
  | _ => none
def exL8a58 (o : OL8a58) : Ex := match o with | .ret x4 => .ret | .x0 => (.exit 0)
def stL8a58 (o : OL8a58) : St := match o with | .ret x4 => ⟨[(4, .bool x4)], [], [], .unk⟩ | .x0 => ⟨[], [], [], .unk⟩
def elL8a58 {R : Type} (o : OL8a58) (k : Ex → St → Option R) : Option R := match o with | .ret x4 => k .ret ⟨[(4, .bool x4)], [], [], .unk⟩ | .x0 => k (.exit 0) ⟨[], [], [], .unk⟩
theorem heL8a58 {R : Type} (o : OL8a58) (k : Ex → St → Option R) : elL8a58 o k = k (exL8a58 o) (stL8a58 o) := by cases o <;> rfl
theorem hxL8a58 : ∀ e st x, xsL8a58 e st = some x → outOk x e exL8a58 stL8a58 := by
  intro e st x h
  unfold xsL8a58 at h
  repeat' split at h
  all_goals first
    | (injection h with h; subst h; exact fun lk M => ⟨rfl, rfl⟩)
    | cases h
noncomputable def T8ul58 (N : Nat) (R : Type) : LTab R := mkTab ⟨26, 67106864⟩ (csF8 N R) (noY) [] [] []
theorem okT8ul58 (N : Nat) (R : Type) : (T8ul58 N R).Ok CX code8 := mkTab_ok (hcsF8 N R) (noY_ok) (trivial) (trivial) (trivial)
noncomputable def bdL8a58 : Code := match codeAt code8 [false, true, false, true, true] with | some (.loop c) => c | _ => .skip
theorem hsL8a58 (N : Nat) : ∀ (n : Nat) (lk : Nat → AV) (M : List Blk), LFL8a58 N (n + 1) (canS sgL8a58 lk M) = evk CX (T8ul58 N OL8a58) bdL8a58 (2 * 58) (canS sgL8a58 lk M) (kont CX 0 [] sgL8a58 (fun _ => []) xsL8a58 (LFL8a58 N n)) := by intro n lk M; kernel_rfl
noncomputable def T8ur1 (N : Nat) (R : Type) : LTab R := mkTab ⟨26, 67108863⟩ (csF8 N R) (noY) [(58, fun st k => callLoop CX 0 67106864 ceL8a58 sgL8a58 seL8a58 ⟨26, 67108863⟩ (LFL8a58 N N) elL8a58 st k)] [] []
theorem okT8ur1 (N : Nat) (R : Type) : (T8ur1 N R).Ok CX code8 := mkTab_ok (hcsF8 N R) (noY_ok) (⟨loop_ok hX (path := [false, true, false, true, true]) (by kernel_rfl) (by rfl) (okT8ul58 N OL8a58) (fun _ _ => rfl) (hsL8a58 N) hxL8a58 rfl heL8a58, trivial⟩) (trivial) (trivial)
def rsF8 : List ResultVar := [.tmp 4]
def F8 : Nat → TF8
  | 0 => fun _ _ => none
  | N + 1 => fun x0 x1 =>
    match ((x0.length : Int)) != ((x1.length : Int)) with
    | true =>
      some (.r false)
    | false =>
      match L8a58 N N x0 x1 0 with
      | none => none
      | some (.ret x4v1) =>
        some (.r x4v1)
      | some (.x0) =>
        some (.r true)
def xRF8 : XSh R8 := ⟨[], ⟨[(0, .one (.cell (.bool)))], []⟩, fun _ => [], fun s => .r ((Eng.look s.env 0).toB)⟩
theorem fsF8 : ∀ (N : Nat) (lk : Nat → AV) (M : List Blk), FFF8 (F8 (N + 1)) (canS sgF8 lk M) = evfn CX (T8ur1 N R8) code8 rsF8 (argsE 2 (canS sgF8 lk M).env) (canS sgF8 lk M).mem (goR CX 0 (fun _ => some xRF8)) := by intro N lk M; kernel_rfl
theorem soundF8 : ∀ N, RecOkF8 (F8 N)
  | 0, lk, M, o, h => by cases h
  | N + 1, lk, M, o, h => fn_sound hX (okT8ur1 N R8) Try.func8 hb8 rfl en8 (by kernel_rfl) (ys := fun _ => some xRF8) (fun st y h => by injection h with h; subst h; exact fun lk M => ⟨rfl, rfl⟩) ((fsF8 N lk M).symm.trans h)
def cvce8n0 : List Cv := [.frz 0 (.slice 3), .frz 1 (.slice 3)]
def selce8n0 : St → List Nat := fun _ => []
noncomputable def ce8n0 (Fx : TF8) (R : Type) (test : List AV → List Blk → Bool) : CE R := ⟨8, test, fun _ _ => none, fun args M k => tst (Nat.beq args.length 2) (callFn CX 0 cvce8n0 sgF8 selce8n0 (FFF8 Fx) elF8 args M k)⟩
theorem okce8n0 (Fx : TF8) (h : RecOkF8 Fx) (R : Type) (test : List AV → List Blk → Bool) : CeOk CX (ce8n0 Fx R test) := ce_ok hX (fun o k => by cases o; rfl) h en8 (fun args M ids h => by cases h)
end Go.Proofs.Ytfggehkiglenjaa

namespace Go.Proofs.Ytfggehkiglenjaa
open Go Go.Eng
set_option maxRecDepth 100000

/-! ### F13: ceiling/ceilinglaw33.works -/
inductive R13 where
  | r (x0 : Bool)
abbrev TF13 := Option R13
def sgF13 : LSh := ⟨[], []⟩
def FFF13 (Fx : TF13) (s : St) : Option R13 := Fx 
def valF13 (o : R13) : AV := match o with | .r x0 => .bool x0
def memF13 (o : R13) : List Blk := match o with | .r x0 => []
def elF13 {R : Type} (o : R13) (k : AV → List Blk → Option R) : Option R := match o with | .r x0 => k (.bool x0) []
def RecOkF13 (Fx : TF13) : Prop := ∀ lk M o, FFF13 Fx (canS sgF13 lk M) = some o → FCalls CX 13 0 (argsE 0 (canS sgF13 lk M).env) (canS sgF13 lk M).mem (valF13 o) (memF13 o)
noncomputable def csF13 (N : Nat) (R : Type) : List (CE R) := [ce8n0 (F8 N) R (fun _ _ => true), ce9n0 (F9 N) R (fun _ _ => true), ce11n0 (F11 N) R (testV CX cvce11n0 sgF11 selce11n0), ce11n1 (F11 N) R (testV CX cvce11n1 sgF11 selce11n1), ce15n0 (F15 N) R (fun _ _ => true), ce17n0 (F17 N) R (fun _ _ => true), ce20n0 (F20 N) R (fun _ _ => true), ce21n0 (F21 N) R (fun _ _ => true)]
theorem hcsF13 (N : Nat) (R : Type) : AllE (CeOk CX) (csF13 N R) := ⟨okce8n0 (F8 N) (soundF8 N) R (fun _ _ => true), okce9n0 (F9 N) (soundF9 N) R (fun _ _ => true), okce11n0 (F11 N) (soundF11 N) R (testV CX cvce11n0 sgF11 selce11n0), okce11n1 (F11 N) (soundF11 N) R (testV CX cvce11n1 sgF11 selce11n1), okce15n0 (F15 N) (soundF15 N) R (fun _ _ => true), okce17n0 (F17 N) (soundF17 N) R (fun _ _ => true), okce20n0 (F20 N) (soundF20 N) R (fun _ _ => true), okce21n0 (F21 N) (soundF21 N) R (fun _ _ => true), trivial⟩
inductive OJ13a510 where
  | nx (x7 : Bool) (b0 : List Row) (b1 : List Row) (b2 : List Row) (b3 : List Row) (b4 : List Row)
def J13a510 (N : Nat) : List Row → List Row → List Row → List Row → List Row → Option OJ13a510 := fun b0 b1 b2 b3 b4 =>
    match F9 N b0 with
    | none => none
    | some (.r rb0v7) =>
      match F8 N rb0v7 (([[.int .i64 1], [.int .i64 2]] : List Row)) with
      | none => none
      | some (.r rx0v8) =>
        match rx0v8 with
        | true =>
          match F9 N b1 with
          | none => none
          | some (.r rb0v9) =>
            match ((rb0v9.length : Int)) == (0 : Int) with
            | true =>
              match F17 N b1 2 with
              | none => none
              | some (.r rx0v10) =>
                match !rx0v10 with
                | true =>
                  match F17 N b1 1 with
                  | none => none
                  | some (.r rx0v11) =>
                    match rx0v11 with
                    | true =>
                      match F9 N b2 with
                      | none => none
                      | some (.r rb0v12) =>
                        match F8 N rb0v12 (([[.int .i64 1], [.int .i64 2]] : List Row)) with
                        | none => none
                        | some (.r rx0v13) =>
                          match rx0v13 with
                          | true =>
                            match F9 N b3 with
                            | none => none
                            | some (.r rb0v14) =>
                              match F8 N rb0v14 (([[.int .i64 2]] : List Row)) with
                              | none => none
                              | some (.r rx0v15) =>
                                match rx0v15 with
                                | true =>
                                  match F9 N b4 with
                                  | none => none
                                  | some (.r rb0v16) =>
                                    some (.nx (((rb0v16.length : Int)) == (0 : Int)) b0 b1 b2 b3 b4)
                                | false =>
                                  some (.nx false b0 b1 b2 b3 b4)
                          | false =>
                            some (.nx false b0 b1 b2 b3 b4)
                    | false =>
                      some (.nx false b0 b1 b2 b3 b4)
                | false =>
                  some (.nx false b0 b1 b2 b3 b4)
            | false =>
              some (.nx false b0 b1 b2 b3 b4)
        | false =>
          some (.nx false b0 b1 b2 b3 b4)
def LFJ13a510 (N : Nat) (s : St) : Option OJ13a510 := J13a510 N ((s.mem.getD 0 .dead).rows) ((s.mem.getD 1 .dead).rows) ((s.mem.getD 2 .dead).rows) ((s.mem.getD 3 .dead).rows) ((s.mem.getD 4 .dead).rows)
def sgJ13a510 : LSh := ⟨[(1, .one (.own 0)), (2, .one (.own 1)), (3, .one (.own 2)), (4, .one (.own 3)), (5, .one (.own 4))], [.row 30, .row 30, .row 30, .row 30, .row 30]⟩
def ceJ13a510 : List Cv := []
def seJ13a510 : St → List Nat := fun st => [(Eng.look st.env 1).id, (Eng.look st.env 2).id, (Eng.look st.env 3).id, (Eng.look st.env 4).id, (Eng.look st.env 5).id]
def xJ13a510wnx : XSh OJ13a510 := ⟨[.frzb (fun env M => 4) 30, .frzb (fun env M => 3) 30, .frzb (fun env M => 2) 30, .frzb (fun env M => 1) 30], ⟨[(7, .one (.cell (.bool)))], [.fro 30, .fro 30, .fro 30, .fro 30, .fro 30]⟩, fun st => [0, 1, 2, 3, 4], fun s => .nx ((Eng.look s.env 7).toB) ((s.mem.getD 0 .dead).rows) ((s.mem.getD 1 .dead).rows) ((s.mem.getD 2 .dead).rows) ((s.mem.getD 3 .dead).rows) ((s.mem.getD 4 .dead).rows)⟩
def xsJ13a510 : Ex → St → Option (XSh OJ13a510) := fun e st => match e with
  | .normal => some xJ13a510wnx
  | _ => none
def exJ13a510 (o : OJ13a510) : Ex := match o with | .nx x7 b0 b1 b2 b3 b4 => .normal
def stJ13a510 (o : OJ13a510) : St := match o with | .nx x7 b0 b1 b2 b3 b4 => ⟨[(7, .bool x7)], [.fro 30 b0, .fro 30 b1, .fro 30 b2, .fro 30 b3, .fro 30 b4], [], .unk⟩
def elJ13a510 {R : Type} (o : OJ13a510) (k : Ex → St → Option R) : Option R := match o with | .nx x7 b0 b1 b2 b3 b4 => k .normal ⟨[(7, .bool x7)], [.fro 30 b0, .fro 30 b1, .fro 30 b2, .fro 30 b3, .fro 30 b4], [], .unk⟩
theorem heJ13a510 {R : Type} (o : OJ13a510) (k : Ex → St → Option R) : elJ13a510 o k = k (exJ13a510 o) (stJ13a510 o) := by cases o <;> rfl
theorem hxJ13a510 : ∀ e st x, xsJ13a510 e st = some x → outOk x e exJ13a510 stJ13a510 := by
  intro e st x h
  unfold xsJ13a510 at h
  repeat' split at h
  all_goals first
    | (injection h with h; subst h; exact fun lk M => ⟨rfl, rfl⟩)
    | cases h
noncomputable def T13uc510 (N : Nat) (R : Type) : LTab R := mkTab ⟨125, 1180591620708821368960⟩ (csF13 N R) (noY) [] [] []
theorem okT13uc510 (N : Nat) (R : Type) : (T13uc510 N R).Ok CX code13 := mkTab_ok (hcsF13 N R) (noY_ok) (trivial) (trivial) (trivial)
noncomputable def bdJ13a510 : Code := (codeAt code13 [false, true, true, true, true, true, true, true]).getD .skip
theorem hsJ13a510 (N : Nat) : ∀ (lk : Nat → AV) (M : List Blk), LFJ13a510 N (canS sgJ13a510 lk M) = evk CX (T13uc510 N OJ13a510) bdJ13a510 510 (canS sgJ13a510 lk M) (kontX CX 5 xsJ13a510) := by intro lk M; kernel_rfl
inductive OJ13a1022 where
  | nx (x8 : Bool)
def J13a1022 (N : Nat) : List Row → Option OJ13a1022 := fun x1 =>
    match F15 N x1 0 with
    | none => none
    | some (.r rb0v18) =>
      match F8 N rb0v18 (([[.int .i64 1], [.int .i64 2], [.int .i64 3], [.int .i64 4]] : List Row)) with
      | none => none
      | some (.r rx0v19) =>
        match rx0v19 with
        | true =>
          match F15 N x1 1 with
          | none => none
          | some (.r rb0v20) =>
            match F8 N rb0v20 (([[.int .i64 3]] : List Row)) with
            | none => none
            | some (.r rx0v21) =>
              match rx0v21 with
              | true =>
                match F11 N x1 (([[.int .i64 1]] : List Row)) with
                | none => none
                | some (.r rb0v22) =>
                  match F8 N rb0v22 (([[.int .i64 1], [.int .i64 3]] : List Row)) with
                  | none => none
                  | some (.r rx0v23) =>
                    match rx0v23 with
                    | true =>
                      match F11 N x1 (([[.int .i64 0], [.int .i64 0]] : List Row)) with
                      | none => none
                      | some (.r rb0v24) =>
                        match F8 N rb0v24 (([[.int .i64 0], [.int .i64 1], [.int .i64 2], [.int .i64 3], [.int .i64 4]] : List Row)) with
                        | none => none
                        | some (.r rx0v25) =>
                          some (.nx rx0v25)
                    | false =>
                      some (.nx false)
              | false =>
                some (.nx false)
        | false =>
          some (.nx false)
def LFJ13a1022 (N : Nat) (s : St) : Option OJ13a1022 := J13a1022 N ((Eng.look s.env 1).rows)
def sgJ13a1022 : LSh := ⟨[(1, .one (.cell (.slice 30)))], []⟩
def ceJ13a1022 : List Cv := [.frz 1 (.slice 30)]
def seJ13a1022 : St → List Nat := fun _ => []
def xJ13a1022wnx : XSh OJ13a1022 := ⟨[], ⟨[(8, .one (.cell (.bool)))], []⟩, fun _ => [], fun s => .nx ((Eng.look s.env 8).toB)⟩
def xsJ13a1022 : Ex → St → Option (XSh OJ13a1022) := fun e st => match e with
  | .normal => some xJ13a1022wnx
  | _ => none
def exJ13a1022 (o : OJ13a1022) : Ex := match o with | .nx x8 => .normal
def stJ13a1022 (o : OJ13a1022) : St := match o with | .nx x8 => ⟨[(8, .bool x8)], [], [], .unk⟩
def elJ13a1022 {R : Type} (o : OJ13a1022) (k : Ex → St → Option R) : Option R := match o with | .nx x8 => k .normal ⟨[(8, .bool x8)], [], [], .unk⟩
theorem heJ13a1022 {R : Type} (o : OJ13a1022) (k : Ex → St → Option R) : elJ13a1022 o k = k (exJ13a1022 o) (stJ13a1022 o) := by cases o <;> rfl
theorem hxJ13a1022 : ∀ e st x, xsJ13a1022 e st = some x → outOk x e exJ13a1022 stJ13a1022 := by
  intro e st x h
  unfold xsJ13a1022 at h
  repeat' split at h
  all_goals first
    | (injection h with h; subst h; exact fun lk M => ⟨rfl, rfl⟩)
    | cases h
noncomputable def T13uc1022 (N : Nat) (R : Type) : LTab R := mkTab ⟨125, 19807039447974463680974684416⟩ (csF13 N R) (noY) [] [] []
theorem okT13uc1022 (N : Nat) (R : Type) : (T13uc1022 N R).Ok CX code13 := mkTab_ok (hcsF13 N R) (noY_ok) (trivial) (trivial) (trivial)
noncomputable def bdJ13a1022 : Code := (codeAt code13 [false, true, true, true, true, true, true, true, true]).getD .skip
theorem hsJ13a1022 (N : Nat) : ∀ (lk : Nat → AV) (M : List Blk), LFJ13a1022 N (canS sgJ13a1022 lk M) = evk CX (T13uc1022 N OJ13a1022) bdJ13a1022 1022 (canS sgJ13a1022 lk M) (kontX CX 0 xsJ13a1022) := by intro lk M; kernel_rfl
noncomputable def T13ur1 (N : Nat) (R : Type) : LTab R := mkTab ⟨125, 42535295865117307932921825928971026431⟩ (csF13 N R) (noY) [] [] [(510, fun st k => callLoop CX 5 1180591620708821368960 ceJ13a510 sgJ13a510 seJ13a510 ⟨125, 42535295865117307932921825928971026431⟩ (LFJ13a510 N) elJ13a510 st k), (1022, fun st k => callLoop CX 0 19807039447974463680974684416 ceJ13a1022 sgJ13a1022 seJ13a1022 ⟨125, 42535295865117307932921825928971026431⟩ (LFJ13a1022 N) elJ13a1022 st k)]
theorem okT13ur1 (N : Nat) (R : Type) : (T13ur1 N R).Ok CX code13 := mkTab_ok (hcsF13 N R) (noY_ok) (trivial) (trivial) (⟨cut_ok hX (path := [false, true, true, true, true, true, true, true]) (by kernel_rfl) (by rfl) (okT13uc510 N OJ13a510) (hsJ13a510 N) hxJ13a510 rfl heJ13a510, cut_ok hX (path := [false, true, true, true, true, true, true, true, true]) (by kernel_rfl) (by rfl) (okT13uc1022 N OJ13a1022) (hsJ13a1022 N) hxJ13a1022 rfl heJ13a1022, trivial⟩)
def rsF13 : List ResultVar := [.tmp 0]
def F13 : Nat → TF13
  | 0 => none
  | N + 1 => 
    match F21 N  with
    | none => none
    | some (.r rb0v1) =>
      match F21 N  with
      | none => none
      | some (.r rb0v2) =>
        match F21 N  with
        | none => none
        | some (.r rb0v3) =>
          match F21 N  with
          | none => none
          | some (.r rb0v4) =>
            match F21 N  with
            | none => none
            | some (.r rb0v5) =>
              match F21 N  with
              | none => none
              | some (.r rb0v6) =>
                tst (decide ((4 : Int) < ((rb0v2.length : Int)))) <|
                tst (decide (4 < rb0v2.length)) <|
                tst (decide ((4 : Int) < ((rb0v3.length : Int)))) <|
                tst (decide (4 < rb0v3.length)) <|
                tst (decide ((4 : Int) < (((rb0v3.set 4 (Eng.setAt ((rb0v3.getD 4 [])) 1 [.bool true])).length : Int)))) <|
                tst (decide (4 < ((rb0v3.set 4 (Eng.setAt ((rb0v3.getD 4 [])) 1 [.bool true])).length))) <|
                tst (decide ((1 : Int) < ((rb0v4.length : Int)))) <|
                tst (decide (1 < rb0v4.length)) <|
                tst (decide ((0 : Int) < ((rb0v5.length : Int)))) <|
                tst (decide (0 < rb0v5.length)) <|
                tst (decide ((1 : Int) < ((rb0v6.length : Int)))) <|
                tst (decide (1 < rb0v6.length)) <|
                match J13a510 N rb0v1 (rb0v2.set 4 (Eng.setAt ((rb0v2.getD 4 [])) 3 [.bool false])) ((rb0v3.set 4 (Eng.setAt ((rb0v3.getD 4 [])) 1 [.bool true])).set 4 (Eng.setAt (((rb0v3.set 4 (Eng.setAt ((rb0v3.getD 4 [])) 1 [.bool true])).getD 4 [])) 3 [.bool false])) (rb0v4.set 1 (Eng.setAt ((rb0v4.getD 1 [])) 4 [.bool true])) (rb0v5.set 0 (Eng.setAt ((rb0v5.getD 0 [])) 7 [.int .i64 ((-1))])) with
                | none => none
                | some (.nx x7v17 b0v17 b1v17 b2v17 b3v17 b4v17) =>
                  match J13a1022 N b0v17 with
                  | none => none
                  | some (.nx x8v26) =>
                    match x7v17 with
                    | true =>
                      match x8v26 with
                      | true =>
                        match F9 N (rb0v6.set 1 (Eng.setAt ((rb0v6.getD 1 [])) 2 [.bool true])) with
                        | none => none
                        | some (.r rb0v27) =>
                          match ((rb0v27.length : Int)) == (0 : Int) with
                          | true =>
                            match F11 N (rb0v6.set 1 (Eng.setAt ((rb0v6.getD 1 [])) 2 [.bool true])) (([[.int .i64 0]] : List Row)) with
                            | none => none
                            | some (.r rb0v28) =>
                              match F8 N rb0v28 (([[.int .i64 0], [.int .i64 2], [.int .i64 4]] : List Row)) with
                              | none => none
                              | some (.r rx0v29) =>
                                match rx0v29 with
                                | true =>
                                  match F20 N b0v17 0 0 with
                                  | none => none
                                  | some (.r rx0v30) =>
                                    match !rx0v30 with
                                    | true =>
                                      match F20 N b0v17 0 1 with
                                      | none => none
                                      | some (.r rx0v31) =>
                                        match rx0v31 with
                                        | true =>
                                          match F20 N b0v17 9 0 with
                                          | none => none
                                          | some (.r rx0v32) =>
                                            some (.r (!rx0v32))
                                        | false =>
                                          some (.r false)
                                    | false =>
                                      some (.r false)
                                | false =>
                                  some (.r false)
                          | false =>
                            some (.r false)
                      | false =>
                        some (.r false)
                    | false =>
                      some (.r false)
def xRF13 : XSh R13 := ⟨[], ⟨[(0, .one (.cell (.bool)))], []⟩, fun _ => [], fun s => .r ((Eng.look s.env 0).toB)⟩
theorem fsF13 : ∀ (N : Nat) (lk : Nat → AV) (M : List Blk), FFF13 (F13 (N + 1)) (canS sgF13 lk M) = evfn CX (T13ur1 N R13) code13 rsF13 (argsE 0 (canS sgF13 lk M).env) (canS sgF13 lk M).mem (goR CX 0 (fun _ => some xRF13)) := by intro N lk M; kernel_rfl
theorem soundF13 : ∀ N, RecOkF13 (F13 N)
  | 0, lk, M, o, h => by cases h
  | N + 1, lk, M, o, h => fn_sound hX (okT13ur1 N R13) Try.func13 hb13 rfl en13 (by kernel_rfl) (ys := fun _ => some xRF13) (fun st y h => by injection h with h; subst h; exact fun lk M => ⟨rfl, rfl⟩) ((fsF13 N lk M).symm.trans h)
def cvce13n0 : List Cv := []
def selce13n0 : St → List Nat := fun _ => []
noncomputable def ce13n0 (Fx : TF13) (R : Type) (test : List AV → List Blk → Bool) : CE R := ⟨13, test, fun args M => some (selce13n0 ⟨argEnv 0 args, M, [], .unk⟩), fun args M k => tst (Nat.beq args.length 0) (callFn CX 0 cvce13n0 sgF13 selce13n0 (FFF13 Fx) elF13 args M k)⟩
theorem okce13n0 (Fx : TF13) (h : RecOkF13 Fx) (R : Type) (test : List AV → List Blk → Bool) : CeOk CX (ce13n0 Fx R test) := ce_ok hX (fun o k => by cases o; rfl) h en13 (fun args M ids h => by injection h with h; exact ⟨rfl, h.symm⟩)
end Go.Proofs.Ytfggehkiglenjaa

namespace Go.Proofs.Ytfggehkiglenjaa
open Go Go.Eng
set_option maxRecDepth 100000

/-! ### F30: ceiling/ceilingref33.live -/
inductive R30 where
  | r (x0 : Bool)
abbrev TF30 := Bool → Bool → Bool → Bool → Bool → Int → Int → Int → Option R30
def sgF30 : LSh := ⟨[(0, .agg [.cell (.bool), .cell (.bool), .cell (.bool), .cell (.bool), .cell (.bool), .cell (.int .i64), .cell (.int .i64), .cell (.int .i64)])], []⟩
def FFF30 (Fx : TF30) (s : St) : Option R30 := Fx (((Eng.look s.env 0).cells.getD 0 .top).toB) (((Eng.look s.env 0).cells.getD 1 .top).toB) (((Eng.look s.env 0).cells.getD 2 .top).toB) (((Eng.look s.env 0).cells.getD 3 .top).toB) (((Eng.look s.env 0).cells.getD 4 .top).toB) (((Eng.look s.env 0).cells.getD 5 .top).toI) (((Eng.look s.env 0).cells.getD 6 .top).toI) (((Eng.look s.env 0).cells.getD 7 .top).toI)
def valF30 (o : R30) : AV := match o with | .r x0 => .bool x0
def memF30 (o : R30) : List Blk := match o with | .r x0 => []
def elF30 {R : Type} (o : R30) (k : AV → List Blk → Option R) : Option R := match o with | .r x0 => k (.bool x0) []
def RecOkF30 (Fx : TF30) : Prop := ∀ lk M o, FFF30 Fx (canS sgF30 lk M) = some o → FCalls CX 30 0 (argsE 1 (canS sgF30 lk M).env) (canS sgF30 lk M).mem (valF30 o) (memF30 o)
noncomputable def csF30 (N : Nat) (R : Type) : List (CE R) := []
theorem hcsF30 (N : Nat) (R : Type) : AllE (CeOk CX) (csF30 N R) := trivial
noncomputable def T30ur1 (N : Nat) (R : Type) : LTab R := mkTab ⟨10, 1023⟩ (csF30 N R) (noY) [] [] []
theorem okT30ur1 (N : Nat) (R : Type) : (T30ur1 N R).Ok CX code30 := mkTab_ok (hcsF30 N R) (noY_ok) (trivial) (trivial) (trivial)
def rsF30 : List ResultVar := [.tmp 2]
def F30 : Nat → TF30
  | 0 => fun _ _ _ _ _ _ _ _ => none
  | N + 1 => fun x0c0 x0c1 x0c2 x0c3 x0c4 x0c5 x0c6 x0c7 =>
    match x0c0 with
    | true =>
      some (.r (!x0c1))
    | false =>
      some (.r false)
def xRF30 : XSh R30 := ⟨[], ⟨[(0, .one (.cell (.bool)))], []⟩, fun _ => [], fun s => .r ((Eng.look s.env 0).toB)⟩
theorem fsF30 : ∀ (N : Nat) (lk : Nat → AV) (M : List Blk), FFF30 (F30 (N + 1)) (canS sgF30 lk M) = evfn CX (T30ur1 N R30) code30 rsF30 (argsE 1 (canS sgF30 lk M).env) (canS sgF30 lk M).mem (goR CX 0 (fun _ => some xRF30)) := by intro N lk M; kernel_rfl
theorem soundF30 : ∀ N, RecOkF30 (F30 N)
  | 0, lk, M, o, h => by cases h
  | N + 1, lk, M, o, h => fn_sound hX (okT30ur1 N R30) Try.func30 hb30 rfl en30 (by kernel_rfl) (ys := fun _ => some xRF30) (fun st y h => by injection h with h; subst h; exact fun lk M => ⟨rfl, rfl⟩) ((fsF30 N lk M).symm.trans h)
def cvce30n0 : List Cv := []
def selce30n0 : St → List Nat := fun _ => []
noncomputable def ce30n0 (Fx : TF30) (R : Type) (test : List AV → List Blk → Bool) : CE R := ⟨30, test, fun args M => some (selce30n0 ⟨argEnv 0 args, M, [], .unk⟩), fun args M k => tst (Nat.beq args.length 1) (callFn CX 0 cvce30n0 sgF30 selce30n0 (FFF30 Fx) elF30 args M k)⟩
theorem okce30n0 (Fx : TF30) (h : RecOkF30 Fx) (R : Type) (test : List AV → List Blk → Bool) : CeOk CX (ce30n0 Fx R test) := ce_ok hX (fun o k => by cases o; rfl) h en30 (fun args M ids h => by injection h with h; exact ⟨rfl, h.symm⟩)
end Go.Proofs.Ytfggehkiglenjaa

namespace Go.Proofs.Ytfggehkiglenjaa
open Go Go.Eng
set_option maxRecDepth 100000

/-! ### F19: ceiling/ceilingref33.May -/
inductive R19 where
  | r (x0 : Bool)
abbrev TF19 := List Row → Option R19
def sgF19 : LSh := ⟨[(0, .one (.cell (.slice 30)))], []⟩
def FFF19 (Fx : TF19) (s : St) : Option R19 := Fx ((Eng.look s.env 0).rows)
def valF19 (o : R19) : AV := match o with | .r x0 => .bool x0
def memF19 (o : R19) : List Blk := match o with | .r x0 => []
def elF19 {R : Type} (o : R19) (k : AV → List Blk → Option R) : Option R := match o with | .r x0 => k (.bool x0) []
def RecOkF19 (Fx : TF19) : Prop := ∀ lk M o, FFF19 Fx (canS sgF19 lk M) = some o → FCalls CX 19 0 (argsE 1 (canS sgF19 lk M).env) (canS sgF19 lk M).mem (valF19 o) (memF19 o)
noncomputable def csF19 (N : Nat) (R : Type) : List (CE R) := [ce30n0 (F30 N) R (fun _ _ => true)]
theorem hcsF19 (N : Nat) (R : Type) : AllE (CeOk CX) (csF19 N R) := ⟨okce30n0 (F30 N) (soundF30 N) R (fun _ _ => true), trivial⟩
inductive OJ19a3730 where
  | nx (b0c0 : Bool) (b0c1 : Bool) (b0c2 : Bool) (b0c3 : Bool) (b0c4 : Bool) (b0c5 : Int) (b0c6 : Int) (b0c7 : Int)
  | ret (x2 : Bool) (b0c0 : Bool) (b0c1 : Bool) (b0c2 : Bool) (b0c3 : Bool) (b0c4 : Bool) (b0c5 : Int) (b0c6 : Int) (b0c7 : Int)
def J19a3730 (N : Nat) : Int → Bool → Bool → Bool → Bool → Bool → Int → Int → Int → Option OJ19a3730 := fun x3 b0c0 b0c1 b0c2 b0c3 b0c4 b0c5 b0c6 b0c7 =>
    match x3 == (0 : Int) with
    | true =>
      match b0c5 != (-1 : Int) with
      | true =>
        some (.ret false b0c0 b0c1 b0c2 b0c3 b0c4 b0c5 b0c6 b0c7)
      | false =>
        match b0c6 != (-1 : Int) with
        | true =>
          some (.ret false b0c0 b0c1 b0c2 b0c3 b0c4 b0c5 b0c6 b0c7)
        | false =>
          match decide ((0 : Int) < x3) with
          | true =>
            match decide (b0c5 < (0 : Int)) with
            | true =>
              some (.ret false b0c0 b0c1 b0c2 b0c3 b0c4 b0c5 b0c6 b0c7)
            | false =>
              match decide (x3 ≤ b0c5) with
              | true =>
                some (.ret false b0c0 b0c1 b0c2 b0c3 b0c4 b0c5 b0c6 b0c7)
              | false =>
                match decide (b0c6 < (0 : Int)) with
                | true =>
                  some (.ret false b0c0 b0c1 b0c2 b0c3 b0c4 b0c5 b0c6 b0c7)
                | false =>
                  some (.nx b0c0 b0c1 b0c2 b0c3 b0c4 b0c5 b0c6 b0c7)
          | false =>
            some (.nx b0c0 b0c1 b0c2 b0c3 b0c4 b0c5 b0c6 b0c7)
    | false =>
      match decide ((0 : Int) < x3) with
      | true =>
        match decide (b0c5 < (0 : Int)) with
        | true =>
          some (.ret false b0c0 b0c1 b0c2 b0c3 b0c4 b0c5 b0c6 b0c7)
        | false =>
          match decide (x3 ≤ b0c5) with
          | true =>
            some (.ret false b0c0 b0c1 b0c2 b0c3 b0c4 b0c5 b0c6 b0c7)
          | false =>
            match decide (b0c6 < (0 : Int)) with
            | true =>
              some (.ret false b0c0 b0c1 b0c2 b0c3 b0c4 b0c5 b0c6 b0c7)
            | false =>
              some (.nx b0c0 b0c1 b0c2 b0c3 b0c4 b0c5 b0c6 b0c7)
      | false =>
        some (.nx b0c0 b0c1 b0c2 b0c3 b0c4 b0c5 b0c6 b0c7)
def LFJ19a3730 (N : Nat) (s : St) : Option OJ19a3730 := J19a3730 N ((Eng.look s.env 3).toI) (((s.mem.getD 0 .dead).cells.getD 0 .top).toB) (((s.mem.getD 0 .dead).cells.getD 1 .top).toB) (((s.mem.getD 0 .dead).cells.getD 2 .top).toB) (((s.mem.getD 0 .dead).cells.getD 3 .top).toB) (((s.mem.getD 0 .dead).cells.getD 4 .top).toB) (((s.mem.getD 0 .dead).cells.getD 5 .top).toI) (((s.mem.getD 0 .dead).cells.getD 6 .top).toI) (((s.mem.getD 0 .dead).cells.getD 7 .top).toI)
def sgJ19a3730 : LSh := ⟨[(3, .one (.cell (.int .i64))), (4, .one (.ptr 0 0 0))], [.var [.bool, .bool, .bool, .bool, .bool, .int .i64, .int .i64, .int .i64] [.cell (.bool), .cell (.bool), .cell (.bool), .cell (.bool), .cell (.bool), .cell (.int .i64), .cell (.int .i64), .cell (.int .i64)]]⟩
def ceJ19a3730 : List Cv := []
def seJ19a3730 : St → List Nat := fun st => [(Eng.look st.env 4).id]
def xJ19a3730wnx : XSh OJ19a3730 := ⟨[], ⟨[], [.var [.bool, .bool, .bool, .bool, .bool, .int .i64, .int .i64, .int .i64] [.cell (.bool), .cell (.bool), .cell (.bool), .cell (.bool), .cell (.bool), .cell (.int .i64), .cell (.int .i64), .cell (.int .i64)]]⟩, fun st => [0], fun s => .nx (((s.mem.getD 0 .dead).cells.getD 0 .top).toB) (((s.mem.getD 0 .dead).cells.getD 1 .top).toB) (((s.mem.getD 0 .dead).cells.getD 2 .top).toB) (((s.mem.getD 0 .dead).cells.getD 3 .top).toB) (((s.mem.getD 0 .dead).cells.getD 4 .top).toB) (((s.mem.getD 0 .dead).cells.getD 5 .top).toI) (((s.mem.getD 0 .dead).cells.getD 6 .top).toI) (((s.mem.getD 0 .dead).cells.getD 7 .top).toI)⟩
def xJ19a3730wret : XSh OJ19a3730 := ⟨[], ⟨[(2, .one (.cell (.bool)))], [.var [.bool, .bool, .bool, .bool, .bool, .int .i64, .int .i64, .int .i64] [.cell (.bool), .cell (.bool), .cell (.bool), .cell (.bool), .cell (.bool), .cell (.int .i64), .cell (.int .i64), .cell (.int .i64)]]⟩, fun st => [0], fun s => .ret ((Eng.look s.env 2).toB) (((s.mem.getD 0 .dead).cells.getD 0 .top).toB) (((s.mem.getD 0 .dead).cells.getD 1 .top).toB) (((s.mem.getD 0 .dead).cells.getD 2 .top).toB) (((s.mem.getD 0 .dead).cells.getD 3 .top).toB) (((s.mem.getD 0 .dead).cells.getD 4 .top).toB) (((s.mem.getD 0 .dead).cells.getD 5 .top).toI) (((s.mem.getD 0 .dead).cells.getD 6 .top).toI) (((s.mem.getD 0 .dead).cells.getD 7 .top).toI)⟩
def xsJ19a3730 : Ex → St → Option (XSh OJ19a3730) := fun e st => match e with
  | .normal => some xJ19a3730wnx
  | .ret => some xJ19a3730wret
  | _ => none
def exJ19a3730 (o : OJ19a3730) : Ex := match o with | .nx b0c0 b0c1 b0c2 b0c3 b0c4 b0c5 b0c6 b0c7 => .normal | .ret x2 b0c0 b0c1 b0c2 b0c3 b0c4 b0c5 b0c6 b0c7 => .ret
def stJ19a3730 (o : OJ19a3730) : St := match o with | .nx b0c0 b0c1 b0c2 b0c3 b0c4 b0c5 b0c6 b0c7 => ⟨[], [.var [.bool, .bool, .bool, .bool, .bool, .int .i64, .int .i64, .int .i64] [.bool b0c0, .bool b0c1, .bool b0c2, .bool b0c3, .bool b0c4, .int .i64 b0c5, .int .i64 b0c6, .int .i64 b0c7]], [], .unk⟩ | .ret x2 b0c0 b0c1 b0c2 b0c3 b0c4 b0c5 b0c6 b0c7 => ⟨[(2, .bool x2)], [.var [.bool, .bool, .bool, .bool, .bool, .int .i64, .int .i64, .int .i64] [.bool b0c0, .bool b0c1, .bool b0c2, .bool b0c3, .bool b0c4, .int .i64 b0c5, .int .i64 b0c6, .int .i64 b0c7]], [], .unk⟩
def elJ19a3730 {R : Type} (o : OJ19a3730) (k : Ex → St → Option R) : Option R := match o with | .nx b0c0 b0c1 b0c2 b0c3 b0c4 b0c5 b0c6 b0c7 => k .normal ⟨[], [.var [.bool, .bool, .bool, .bool, .bool, .int .i64, .int .i64, .int .i64] [.bool b0c0, .bool b0c1, .bool b0c2, .bool b0c3, .bool b0c4, .int .i64 b0c5, .int .i64 b0c6, .int .i64 b0c7]], [], .unk⟩ | .ret x2 b0c0 b0c1 b0c2 b0c3 b0c4 b0c5 b0c6 b0c7 => k .ret ⟨[(2, .bool x2)], [.var [.bool, .bool, .bool, .bool, .bool, .int .i64, .int .i64, .int .i64] [.bool b0c0, .bool b0c1, .bool b0c2, .bool b0c3, .bool b0c4, .int .i64 b0c5, .int .i64 b0c6, .int .i64 b0c7]], [], .unk⟩
theorem heJ19a3730 {R : Type} (o : OJ19a3730) (k : Ex → St → Option R) : elJ19a3730 o k = k (exJ19a3730 o) (stJ19a3730 o) := by cases o <;> rfl
theorem hxJ19a3730 : ∀ e st x, xsJ19a3730 e st = some x → outOk x e exJ19a3730 stJ19a3730 := by
  intro e st x h
  unfold xsJ19a3730 at h
  repeat' split at h
  all_goals first
    | (injection h with h; subst h; exact fun lk M => ⟨rfl, rfl⟩)
    | cases h
noncomputable def T19uc3730 (N : Nat) (R : Type) : LTab R := mkTab ⟨108, 1125899906580484⟩ (csF19 N R) (noY) [] [] []
theorem okT19uc3730 (N : Nat) (R : Type) : (T19uc3730 N R).Ok CX code19 := mkTab_ok (hcsF19 N R) (noY_ok) (trivial) (trivial) (trivial)
noncomputable def bdJ19a3730 : Code := (codeAt code19 [false, true, false, false, true, false, false, true, false, true, true]).getD .skip
theorem hsJ19a3730 (N : Nat) : ∀ (lk : Nat → AV) (M : List Blk), LFJ19a3730 N (canS sgJ19a3730 lk M) = evk CX (T19uc3730 N OJ19a3730) bdJ19a3730 3730 (canS sgJ19a3730 lk M) (kontX CX 1 xsJ19a3730) := by intro lk M; kernel_rfl
inductive OJ19a7462 where
  | nx (b0c0 : Bool) (b0c1 : Bool) (b0c2 : Bool) (b0c3 : Bool) (b0c4 : Bool) (b0c5 : Int) (b0c6 : Int) (b0c7 : Int)
  | ret (x2 : Bool) (b0c0 : Bool) (b0c1 : Bool) (b0c2 : Bool) (b0c3 : Bool) (b0c4 : Bool) (b0c5 : Int) (b0c6 : Int) (b0c7 : Int)
def J19a7462 (N : Nat) : Bool → Bool → Bool → Bool → Bool → Int → Int → Int → Option OJ19a7462 := fun b0c0 b0c1 b0c2 b0c3 b0c4 b0c5 b0c6 b0c7 =>
    match b0c1 with
    | true =>
      match !b0c0 with
      | true =>
        some (.ret false b0c0 b0c1 b0c2 b0c3 b0c4 b0c5 b0c6 b0c7)
      | false =>
        match b0c3 with
        | true =>
          match F30 N b0c0 b0c1 b0c2 b0c3 b0c4 b0c5 b0c6 b0c7 with
          | none => none
          | some (.r rx0v2) =>
            match !rx0v2 with
            | true =>
              some (.ret false b0c0 b0c1 b0c2 b0c3 b0c4 b0c5 b0c6 b0c7)
            | false =>
              match decide (b0c7 < (-1 : Int)) with
              | true =>
                some (.ret false b0c0 b0c1 b0c2 b0c3 b0c4 b0c5 b0c6 b0c7)
              | false =>
                match b0c3 with
                | true =>
                  match b0c7 != (-1 : Int) with
                  | true =>
                    some (.ret false b0c0 b0c1 b0c2 b0c3 b0c4 b0c5 b0c6 b0c7)
                  | false =>
                    some (.nx b0c0 b0c1 b0c2 b0c3 b0c4 b0c5 b0c6 b0c7)
                | false =>
                  some (.nx b0c0 b0c1 b0c2 b0c3 b0c4 b0c5 b0c6 b0c7)
        | false =>
          match b0c4 with
          | true =>
            match F30 N b0c0 b0c1 b0c2 b0c3 b0c4 b0c5 b0c6 b0c7 with
            | none => none
            | some (.r rx0v3) =>
              match !rx0v3 with
              | true =>
                some (.ret false b0c0 b0c1 b0c2 b0c3 b0c4 b0c5 b0c6 b0c7)
              | false =>
                match decide (b0c7 < (-1 : Int)) with
                | true =>
                  some (.ret false b0c0 b0c1 b0c2 b0c3 b0c4 b0c5 b0c6 b0c7)
                | false =>
                  match b0c3 with
                  | true =>
                    match b0c7 != (-1 : Int) with
                    | true =>
                      some (.ret false b0c0 b0c1 b0c2 b0c3 b0c4 b0c5 b0c6 b0c7)
                    | false =>
                      some (.nx b0c0 b0c1 b0c2 b0c3 b0c4 b0c5 b0c6 b0c7)
                  | false =>
                    some (.nx b0c0 b0c1 b0c2 b0c3 b0c4 b0c5 b0c6 b0c7)
          | false =>
            match b0c7 != (-1 : Int) with
            | true =>
              match F30 N b0c0 b0c1 b0c2 b0c3 b0c4 b0c5 b0c6 b0c7 with
              | none => none
              | some (.r rx0v4) =>
                match !rx0v4 with
                | true =>
                  some (.ret false b0c0 b0c1 b0c2 b0c3 b0c4 b0c5 b0c6 b0c7)
                | false =>
                  match decide (b0c7 < (-1 : Int)) with
                  | true =>
                    some (.ret false b0c0 b0c1 b0c2 b0c3 b0c4 b0c5 b0c6 b0c7)
                  | false =>
                    match b0c3 with
                    | true =>
                      match b0c7 != (-1 : Int) with
                      | true =>
                        some (.ret false b0c0 b0c1 b0c2 b0c3 b0c4 b0c5 b0c6 b0c7)
                      | false =>
                        some (.nx b0c0 b0c1 b0c2 b0c3 b0c4 b0c5 b0c6 b0c7)
                    | false =>
                      some (.nx b0c0 b0c1 b0c2 b0c3 b0c4 b0c5 b0c6 b0c7)
            | false =>
              match decide (b0c7 < (-1 : Int)) with
              | true =>
                some (.ret false b0c0 b0c1 b0c2 b0c3 b0c4 b0c5 b0c6 b0c7)
              | false =>
                match b0c3 with
                | true =>
                  match b0c7 != (-1 : Int) with
                  | true =>
                    some (.ret false b0c0 b0c1 b0c2 b0c3 b0c4 b0c5 b0c6 b0c7)
                  | false =>
                    some (.nx b0c0 b0c1 b0c2 b0c3 b0c4 b0c5 b0c6 b0c7)
                | false =>
                  some (.nx b0c0 b0c1 b0c2 b0c3 b0c4 b0c5 b0c6 b0c7)
    | false =>
      match b0c2 with
      | true =>
        match !b0c0 with
        | true =>
          some (.ret false b0c0 b0c1 b0c2 b0c3 b0c4 b0c5 b0c6 b0c7)
        | false =>
          match b0c3 with
          | true =>
            match F30 N b0c0 b0c1 b0c2 b0c3 b0c4 b0c5 b0c6 b0c7 with
            | none => none
            | some (.r rx0v5) =>
              match !rx0v5 with
              | true =>
                some (.ret false b0c0 b0c1 b0c2 b0c3 b0c4 b0c5 b0c6 b0c7)
              | false =>
                match decide (b0c7 < (-1 : Int)) with
                | true =>
                  some (.ret false b0c0 b0c1 b0c2 b0c3 b0c4 b0c5 b0c6 b0c7)
                | false =>
                  match b0c3 with
                  | true =>
                    match b0c7 != (-1 : Int) with
                    | true =>
                      some (.ret false b0c0 b0c1 b0c2 b0c3 b0c4 b0c5 b0c6 b0c7)
                    | false =>
                      some (.nx b0c0 b0c1 b0c2 b0c3 b0c4 b0c5 b0c6 b0c7)
                  | false =>
                    some (.nx b0c0 b0c1 b0c2 b0c3 b0c4 b0c5 b0c6 b0c7)
          | false =>
            match b0c4 with
            | true =>
              match F30 N b0c0 b0c1 b0c2 b0c3 b0c4 b0c5 b0c6 b0c7 with
              | none => none
              | some (.r rx0v6) =>
                match !rx0v6 with
                | true =>
                  some (.ret false b0c0 b0c1 b0c2 b0c3 b0c4 b0c5 b0c6 b0c7)
                | false =>
                  match decide (b0c7 < (-1 : Int)) with
                  | true =>
                    some (.ret false b0c0 b0c1 b0c2 b0c3 b0c4 b0c5 b0c6 b0c7)
                  | false =>
                    match b0c3 with
                    | true =>
                      match b0c7 != (-1 : Int) with
                      | true =>
                        some (.ret false b0c0 b0c1 b0c2 b0c3 b0c4 b0c5 b0c6 b0c7)
                      | false =>
                        some (.nx b0c0 b0c1 b0c2 b0c3 b0c4 b0c5 b0c6 b0c7)
                    | false =>
                      some (.nx b0c0 b0c1 b0c2 b0c3 b0c4 b0c5 b0c6 b0c7)
            | false =>
              match b0c7 != (-1 : Int) with
              | true =>
                match F30 N b0c0 b0c1 b0c2 b0c3 b0c4 b0c5 b0c6 b0c7 with
                | none => none
                | some (.r rx0v7) =>
                  match !rx0v7 with
                  | true =>
                    some (.ret false b0c0 b0c1 b0c2 b0c3 b0c4 b0c5 b0c6 b0c7)
                  | false =>
                    match decide (b0c7 < (-1 : Int)) with
                    | true =>
                      some (.ret false b0c0 b0c1 b0c2 b0c3 b0c4 b0c5 b0c6 b0c7)
                    | false =>
                      match b0c3 with
                      | true =>
                        match b0c7 != (-1 : Int) with
                        | true =>
                          some (.ret false b0c0 b0c1 b0c2 b0c3 b0c4 b0c5 b0c6 b0c7)
                        | false =>
                          some (.nx b0c0 b0c1 b0c2 b0c3 b0c4 b0c5 b0c6 b0c7)
                      | false =>
                        some (.nx b0c0 b0c1 b0c2 b0c3 b0c4 b0c5 b0c6 b0c7)
              | false =>
                match decide (b0c7 < (-1 : Int)) with
                | true =>
                  some (.ret false b0c0 b0c1 b0c2 b0c3 b0c4 b0c5 b0c6 b0c7)
                | false =>
                  match b0c3 with
                  | true =>
                    match b0c7 != (-1 : Int) with
                    | true =>
                      some (.ret false b0c0 b0c1 b0c2 b0c3 b0c4 b0c5 b0c6 b0c7)
                    | false =>
                      some (.nx b0c0 b0c1 b0c2 b0c3 b0c4 b0c5 b0c6 b0c7)
                  | false =>
                    some (.nx b0c0 b0c1 b0c2 b0c3 b0c4 b0c5 b0c6 b0c7)
      | false =>
        match b0c3 with
        | true =>
          match F30 N b0c0 b0c1 b0c2 b0c3 b0c4 b0c5 b0c6 b0c7 with
          | none => none
          | some (.r rx0v8) =>
            match !rx0v8 with
            | true =>
              some (.ret false b0c0 b0c1 b0c2 b0c3 b0c4 b0c5 b0c6 b0c7)
            | false =>
              match decide (b0c7 < (-1 : Int)) with
              | true =>
                some (.ret false b0c0 b0c1 b0c2 b0c3 b0c4 b0c5 b0c6 b0c7)
              | false =>
                match b0c3 with
                | true =>
                  match b0c7 != (-1 : Int) with
                  | true =>
                    some (.ret false b0c0 b0c1 b0c2 b0c3 b0c4 b0c5 b0c6 b0c7)
                  | false =>
                    some (.nx b0c0 b0c1 b0c2 b0c3 b0c4 b0c5 b0c6 b0c7)
                | false =>
                  some (.nx b0c0 b0c1 b0c2 b0c3 b0c4 b0c5 b0c6 b0c7)
        | false =>
          match b0c4 with
          | true =>
            match F30 N b0c0 b0c1 b0c2 b0c3 b0c4 b0c5 b0c6 b0c7 with
            | none => none
            | some (.r rx0v9) =>
              match !rx0v9 with
              | true =>
                some (.ret false b0c0 b0c1 b0c2 b0c3 b0c4 b0c5 b0c6 b0c7)
              | false =>
                match decide (b0c7 < (-1 : Int)) with
                | true =>
                  some (.ret false b0c0 b0c1 b0c2 b0c3 b0c4 b0c5 b0c6 b0c7)
                | false =>
                  match b0c3 with
                  | true =>
                    match b0c7 != (-1 : Int) with
                    | true =>
                      some (.ret false b0c0 b0c1 b0c2 b0c3 b0c4 b0c5 b0c6 b0c7)
                    | false =>
                      some (.nx b0c0 b0c1 b0c2 b0c3 b0c4 b0c5 b0c6 b0c7)
                  | false =>
                    some (.nx b0c0 b0c1 b0c2 b0c3 b0c4 b0c5 b0c6 b0c7)
          | false =>
            match b0c7 != (-1 : Int) with
            | true =>
              match F30 N b0c0 b0c1 b0c2 b0c3 b0c4 b0c5 b0c6 b0c7 with
              | none => none
              | some (.r rx0v10) =>
                match !rx0v10 with
                | true =>
                  some (.ret false b0c0 b0c1 b0c2 b0c3 b0c4 b0c5 b0c6 b0c7)
                | false =>
                  match decide (b0c7 < (-1 : Int)) with
                  | true =>
                    some (.ret false b0c0 b0c1 b0c2 b0c3 b0c4 b0c5 b0c6 b0c7)
                  | false =>
                    match b0c3 with
                    | true =>
                      match b0c7 != (-1 : Int) with
                      | true =>
                        some (.ret false b0c0 b0c1 b0c2 b0c3 b0c4 b0c5 b0c6 b0c7)
                      | false =>
                        some (.nx b0c0 b0c1 b0c2 b0c3 b0c4 b0c5 b0c6 b0c7)
                    | false =>
                      some (.nx b0c0 b0c1 b0c2 b0c3 b0c4 b0c5 b0c6 b0c7)
            | false =>
              match decide (b0c7 < (-1 : Int)) with
              | true =>
                some (.ret false b0c0 b0c1 b0c2 b0c3 b0c4 b0c5 b0c6 b0c7)
              | false =>
                match b0c3 with
                | true =>
                  match b0c7 != (-1 : Int) with
                  | true =>
                    some (.ret false b0c0 b0c1 b0c2 b0c3 b0c4 b0c5 b0c6 b0c7)
                  | false =>
                    some (.nx b0c0 b0c1 b0c2 b0c3 b0c4 b0c5 b0c6 b0c7)
                | false =>
                  some (.nx b0c0 b0c1 b0c2 b0c3 b0c4 b0c5 b0c6 b0c7)
def LFJ19a7462 (N : Nat) (s : St) : Option OJ19a7462 := J19a7462 N (((s.mem.getD 0 .dead).cells.getD 0 .top).toB) (((s.mem.getD 0 .dead).cells.getD 1 .top).toB) (((s.mem.getD 0 .dead).cells.getD 2 .top).toB) (((s.mem.getD 0 .dead).cells.getD 3 .top).toB) (((s.mem.getD 0 .dead).cells.getD 4 .top).toB) (((s.mem.getD 0 .dead).cells.getD 5 .top).toI) (((s.mem.getD 0 .dead).cells.getD 6 .top).toI) (((s.mem.getD 0 .dead).cells.getD 7 .top).toI)
def sgJ19a7462 : LSh := ⟨[(4, .one (.ptr 0 0 0))], [.var [.bool, .bool, .bool, .bool, .bool, .int .i64, .int .i64, .int .i64] [.cell (.bool), .cell (.bool), .cell (.bool), .cell (.bool), .cell (.bool), .cell (.int .i64), .cell (.int .i64), .cell (.int .i64)]]⟩
def ceJ19a7462 : List Cv := []
def seJ19a7462 : St → List Nat := fun st => [(Eng.look st.env 4).id]
def xJ19a7462wnx : XSh OJ19a7462 := ⟨[], ⟨[], [.var [.bool, .bool, .bool, .bool, .bool, .int .i64, .int .i64, .int .i64] [.cell (.bool), .cell (.bool), .cell (.bool), .cell (.bool), .cell (.bool), .cell (.int .i64), .cell (.int .i64), .cell (.int .i64)]]⟩, fun st => [0], fun s => .nx (((s.mem.getD 0 .dead).cells.getD 0 .top).toB) (((s.mem.getD 0 .dead).cells.getD 1 .top).toB) (((s.mem.getD 0 .dead).cells.getD 2 .top).toB) (((s.mem.getD 0 .dead).cells.getD 3 .top).toB) (((s.mem.getD 0 .dead).cells.getD 4 .top).toB) (((s.mem.getD 0 .dead).cells.getD 5 .top).toI) (((s.mem.getD 0 .dead).cells.getD 6 .top).toI) (((s.mem.getD 0 .dead).cells.getD 7 .top).toI)⟩
def xJ19a7462wret : XSh OJ19a7462 := ⟨[], ⟨[(2, .one (.cell (.bool)))], [.var [.bool, .bool, .bool, .bool, .bool, .int .i64, .int .i64, .int .i64] [.cell (.bool), .cell (.bool), .cell (.bool), .cell (.bool), .cell (.bool), .cell (.int .i64), .cell (.int .i64), .cell (.int .i64)]]⟩, fun st => [0], fun s => .ret ((Eng.look s.env 2).toB) (((s.mem.getD 0 .dead).cells.getD 0 .top).toB) (((s.mem.getD 0 .dead).cells.getD 1 .top).toB) (((s.mem.getD 0 .dead).cells.getD 2 .top).toB) (((s.mem.getD 0 .dead).cells.getD 3 .top).toB) (((s.mem.getD 0 .dead).cells.getD 4 .top).toB) (((s.mem.getD 0 .dead).cells.getD 5 .top).toI) (((s.mem.getD 0 .dead).cells.getD 6 .top).toI) (((s.mem.getD 0 .dead).cells.getD 7 .top).toI)⟩
def xsJ19a7462 : Ex → St → Option (XSh OJ19a7462) := fun e st => match e with
  | .normal => some xJ19a7462wnx
  | .ret => some xJ19a7462wret
  | _ => none
def exJ19a7462 (o : OJ19a7462) : Ex := match o with | .nx b0c0 b0c1 b0c2 b0c3 b0c4 b0c5 b0c6 b0c7 => .normal | .ret x2 b0c0 b0c1 b0c2 b0c3 b0c4 b0c5 b0c6 b0c7 => .ret
def stJ19a7462 (o : OJ19a7462) : St := match o with | .nx b0c0 b0c1 b0c2 b0c3 b0c4 b0c5 b0c6 b0c7 => ⟨[], [.var [.bool, .bool, .bool, .bool, .bool, .int .i64, .int .i64, .int .i64] [.bool b0c0, .bool b0c1, .bool b0c2, .bool b0c3, .bool b0c4, .int .i64 b0c5, .int .i64 b0c6, .int .i64 b0c7]], [], .unk⟩ | .ret x2 b0c0 b0c1 b0c2 b0c3 b0c4 b0c5 b0c6 b0c7 => ⟨[(2, .bool x2)], [.var [.bool, .bool, .bool, .bool, .bool, .int .i64, .int .i64, .int .i64] [.bool b0c0, .bool b0c1, .bool b0c2, .bool b0c3, .bool b0c4, .int .i64 b0c5, .int .i64 b0c6, .int .i64 b0c7]], [], .unk⟩
def elJ19a7462 {R : Type} (o : OJ19a7462) (k : Ex → St → Option R) : Option R := match o with | .nx b0c0 b0c1 b0c2 b0c3 b0c4 b0c5 b0c6 b0c7 => k .normal ⟨[], [.var [.bool, .bool, .bool, .bool, .bool, .int .i64, .int .i64, .int .i64] [.bool b0c0, .bool b0c1, .bool b0c2, .bool b0c3, .bool b0c4, .int .i64 b0c5, .int .i64 b0c6, .int .i64 b0c7]], [], .unk⟩ | .ret x2 b0c0 b0c1 b0c2 b0c3 b0c4 b0c5 b0c6 b0c7 => k .ret ⟨[(2, .bool x2)], [.var [.bool, .bool, .bool, .bool, .bool, .int .i64, .int .i64, .int .i64] [.bool b0c0, .bool b0c1, .bool b0c2, .bool b0c3, .bool b0c4, .int .i64 b0c5, .int .i64 b0c6, .int .i64 b0c7]], [], .unk⟩
theorem heJ19a7462 {R : Type} (o : OJ19a7462) (k : Ex → St → Option R) : elJ19a7462 o k = k (exJ19a7462 o) (stJ19a7462 o) := by cases o <;> rfl
theorem hxJ19a7462 : ∀ e st x, xsJ19a7462 e st = some x → outOk x e exJ19a7462 stJ19a7462 := by
  intro e st x h
  unfold xsJ19a7462 at h
  repeat' split at h
  all_goals first
    | (injection h with h; subst h; exact fun lk M => ⟨rfl, rfl⟩)
    | cases h
noncomputable def T19uc7462 (N : Nat) (R : Type) : LTab R := mkTab ⟨108, 9903520314281916299286151172⟩ (csF19 N R) (noY) [] [] []
theorem okT19uc7462 (N : Nat) (R : Type) : (T19uc7462 N R).Ok CX code19 := mkTab_ok (hcsF19 N R) (noY_ok) (trivial) (trivial) (trivial)
noncomputable def bdJ19a7462 : Code := (codeAt code19 [false, true, true, false, false, true, false, false, true, false, true, true]).getD .skip
theorem hsJ19a7462 (N : Nat) : ∀ (lk : Nat → AV) (M : List Blk), LFJ19a7462 N (canS sgJ19a7462 lk M) = evk CX (T19uc7462 N OJ19a7462) bdJ19a7462 7462 (canS sgJ19a7462 lk M) (kontX CX 1 xsJ19a7462) := by intro lk M; kernel_rfl
inductive OL19a58 where
  | ret (x2 : Bool)
  | x0
def L19a58 (N : Nat) : Nat → List Row → Int → Option OL19a58
  | 0 => fun _ _ => none
  | n + 1 => fun x0 x3 =>
    match decide (x3 < ((x0.length : Int))) with
    | true =>
      tst (decide ((0 : Int) ≤ x3) && decide (x3 < ((x0.length : Int)))) <|
      match J19a3730 N x3 ((((x0.getD x3.toNat [])).getD 0 .top).toB) ((((x0.getD x3.toNat [])).getD 1 .top).toB) ((((x0.getD x3.toNat [])).getD 2 .top).toB) ((((x0.getD x3.toNat [])).getD 3 .top).toB) ((((x0.getD x3.toNat [])).getD 4 .top).toB) ((((x0.getD x3.toNat [])).getD 5 .top).toI) ((((x0.getD x3.toNat [])).getD 6 .top).toI) ((((x0.getD x3.toNat [])).getD 7 .top).toI) with
      | none => none
      | some (.nx b0c0v1 b0c1v1 b0c2v1 b0c3v1 b0c4v1 b0c5v1 b0c6v1 b0c7v1) =>
        match J19a7462 N b0c0v1 b0c1v1 b0c2v1 b0c3v1 b0c4v1 b0c5v1 b0c6v1 b0c7v1 with
        | none => none
        | some (.nx b0c0v11 b0c1v11 b0c2v11 b0c3v11 b0c4v11 b0c5v11 b0c6v11 b0c7v11) =>
          match decide ((0 : Int) < x3) with
          | true =>
            match F30 N b0c0v11 b0c1v11 b0c2v11 b0c3v11 b0c4v11 b0c5v11 b0c6v11 b0c7v11 with
            | none => none
            | some (.r rx0v12) =>
              match rx0v12 with
              | true =>
                tst (decide ((0 : Int) ≤ b0c5v11) && decide (b0c5v11 < ((x0.length : Int)))) <|
                match F30 N ((((x0.getD b0c5v11.toNat [])).getD 0 .top).toB) ((((x0.getD b0c5v11.toNat [])).getD 1 .top).toB) ((((x0.getD b0c5v11.toNat [])).getD 2 .top).toB) ((((x0.getD b0c5v11.toNat [])).getD 3 .top).toB) ((((x0.getD b0c5v11.toNat [])).getD 4 .top).toB) ((((x0.getD b0c5v11.toNat [])).getD 5 .top).toI) ((((x0.getD b0c5v11.toNat [])).getD 6 .top).toI) ((((x0.getD b0c5v11.toNat [])).getD 7 .top).toI) with
                | none => none
                | some (.r rx0v13) =>
                  match !rx0v13 with
                  | true =>
                    some (.ret false)
                  | false =>
                    L19a58 N n x0 (IntKind.wrap .i64 (x3 + (1 : Int)))
              | false =>
                L19a58 N n x0 (IntKind.wrap .i64 (x3 + (1 : Int)))
          | false =>
            L19a58 N n x0 (IntKind.wrap .i64 (x3 + (1 : Int)))
        | some (.ret x2v14 b0c0v14 b0c1v14 b0c2v14 b0c3v14 b0c4v14 b0c5v14 b0c6v14 b0c7v14) =>
          some (.ret x2v14)
      | some (.ret x2v15 b0c0v15 b0c1v15 b0c2v15 b0c3v15 b0c4v15 b0c5v15 b0c6v15 b0c7v15) =>
        some (.ret x2v15)
    | false =>
      some .x0
def LFL19a58 (N : Nat) (n : Nat) (s : St) : Option OL19a58 := L19a58 N n ((Eng.look s.env 0).rows) ((Eng.look s.env 3).toI)
def sgL19a58 : LSh := ⟨[(0, .one (.cell (.slice 30))), (3, .one (.cell (.int .i64)))], []⟩
def ceL19a58 : List Cv := []
def seL19a58 : St → List Nat := fun _ => []
def xL19a58wret : XSh OL19a58 := ⟨[], ⟨[(2, .one (.cell (.bool)))], []⟩, fun _ => [], fun s => .ret ((Eng.look s.env 2).toB)⟩
def xL19a58wx0 : XSh OL19a58 := ⟨[], ⟨[], []⟩, fun _ => [], fun s => .x0 ⟩
def xsL19a58 : Ex → St → Option (XSh OL19a58) := fun e st => match e with
  | .ret => some xL19a58wret
  | .exit 0 => some xL19a58wx0
  | _ => none
def exL19a58 (o : OL19a58) : Ex := match o with | .ret x2 => .ret | .x0 => (.exit 0)
def stL19a58 (o : OL19a58) : St := match o with | .ret x2 => ⟨[(2, .bool x2)], [], [], .unk⟩ | .x0 => ⟨[], [], [], .unk⟩
def elL19a58 {R : Type} (o : OL19a58) (k : Ex → St → Option R) : Option R := match o with | .ret x2 => k .ret ⟨[(2, .bool x2)], [], [], .unk⟩ | .x0 => k (.exit 0) ⟨[], [], [], .unk⟩
theorem heL19a58 {R : Type} (o : OL19a58) (k : Ex → St → Option R) : elL19a58 o k = k (exL19a58 o) (stL19a58 o) := by cases o <;> rfl
theorem hxL19a58 : ∀ e st x, xsL19a58 e st = some x → outOk x e exL19a58 stL19a58 := by
  intro e st x h
  unfold xsL19a58 at h
  repeat' split at h
  all_goals first
    | (injection h with h; subst h; exact fun lk M => ⟨rfl, rfl⟩)
    | cases h
noncomputable def T19ul58 (N : Nat) (R : Type) : LTab R := mkTab ⟨108, 324518553658426726783156020576028⟩ (csF19 N R) (noY) [] [] [(3730, fun st k => callLoop CX 1 1125899906580484 ceJ19a3730 sgJ19a3730 seJ19a3730 ⟨108, 324518553658426726783156020576028⟩ (LFJ19a3730 N) elJ19a3730 st k), (7462, fun st k => callLoop CX 1 9903520314281916299286151172 ceJ19a7462 sgJ19a7462 seJ19a7462 ⟨108, 324518553658426726783156020576028⟩ (LFJ19a7462 N) elJ19a7462 st k)]
theorem okT19ul58 (N : Nat) (R : Type) : (T19ul58 N R).Ok CX code19 := mkTab_ok (hcsF19 N R) (noY_ok) (trivial) (trivial) (⟨cut_ok hX (path := [false, true, false, false, true, false, false, true, false, true, true]) (by kernel_rfl) (by rfl) (okT19uc3730 N OJ19a3730) (hsJ19a3730 N) hxJ19a3730 rfl heJ19a3730, cut_ok hX (path := [false, true, true, false, false, true, false, false, true, false, true, true]) (by kernel_rfl) (by rfl) (okT19uc7462 N OJ19a7462) (hsJ19a7462 N) hxJ19a7462 rfl heJ19a7462, trivial⟩)
noncomputable def bdL19a58 : Code := match codeAt code19 [false, true, false, true, true] with | some (.loop c) => c | _ => .skip
theorem hsL19a58 (N : Nat) : ∀ (n : Nat) (lk : Nat → AV) (M : List Blk), LFL19a58 N (n + 1) (canS sgL19a58 lk M) = evk CX (T19ul58 N OL19a58) bdL19a58 (2 * 58) (canS sgL19a58 lk M) (kont CX 0 [] sgL19a58 (fun _ => []) xsL19a58 (LFL19a58 N n)) := by intro n lk M; kernel_rfl
noncomputable def T19ur1 (N : Nat) (R : Type) : LTab R := mkTab ⟨108, 324518553658426726783156020576255⟩ (csF19 N R) (noY) [(58, fun st k => callLoop CX 0 324518553658426726783156020576028 ceL19a58 sgL19a58 seL19a58 ⟨108, 324518553658426726783156020576255⟩ (LFL19a58 N N) elL19a58 st k)] [] []
theorem okT19ur1 (N : Nat) (R : Type) : (T19ur1 N R).Ok CX code19 := mkTab_ok (hcsF19 N R) (noY_ok) (⟨loop_ok hX (path := [false, true, false, true, true]) (by kernel_rfl) (by rfl) (okT19ul58 N OL19a58) (fun _ _ => rfl) (hsL19a58 N) hxL19a58 rfl heL19a58, trivial⟩) (trivial) (trivial)
def rsF19 : List ResultVar := [.tmp 2]
def F19 : Nat → TF19
  | 0 => fun _ => none
  | N + 1 => fun x0 =>
    match decide ((32 : Int) < ((x0.length : Int))) with
    | true =>
      some (.r false)
    | false =>
      match L19a58 N N x0 0 with
      | none => none
      | some (.ret x2v16) =>
        some (.r x2v16)
      | some (.x0) =>
        some (.r true)
def xRF19 : XSh R19 := ⟨[], ⟨[(0, .one (.cell (.bool)))], []⟩, fun _ => [], fun s => .r ((Eng.look s.env 0).toB)⟩
theorem fsF19 : ∀ (N : Nat) (lk : Nat → AV) (M : List Blk), FFF19 (F19 (N + 1)) (canS sgF19 lk M) = evfn CX (T19ur1 N R19) code19 rsF19 (argsE 1 (canS sgF19 lk M).env) (canS sgF19 lk M).mem (goR CX 0 (fun _ => some xRF19)) := by intro N lk M; kernel_rfl
theorem soundF19 : ∀ N, RecOkF19 (F19 N)
  | 0, lk, M, o, h => by cases h
  | N + 1, lk, M, o, h => fn_sound hX (okT19ur1 N R19) Try.func19 hb19 rfl en19 (by kernel_rfl) (ys := fun _ => some xRF19) (fun st y h => by injection h with h; subst h; exact fun lk M => ⟨rfl, rfl⟩) ((fsF19 N lk M).symm.trans h)
def cvce19n0 : List Cv := []
def selce19n0 : St → List Nat := fun _ => []
noncomputable def ce19n0 (Fx : TF19) (R : Type) (test : List AV → List Blk → Bool) : CE R := ⟨19, test, fun args M => some (selce19n0 ⟨argEnv 0 args, M, [], .unk⟩), fun args M k => tst (Nat.beq args.length 1) (callFn CX 0 cvce19n0 sgF19 selce19n0 (FFF19 Fx) elF19 args M k)⟩
theorem okce19n0 (Fx : TF19) (h : RecOkF19 Fx) (R : Type) (test : List AV → List Blk → Bool) : CeOk CX (ce19n0 Fx R test) := ce_ok hX (fun o k => by cases o; rfl) h en19 (fun args M ids h => by injection h with h; exact ⟨rfl, h.symm⟩)
end Go.Proofs.Ytfggehkiglenjaa

namespace Go.Proofs.Ytfggehkiglenjaa
open Go Go.Eng
set_option maxRecDepth 100000

/-! ### F32: ceiling/ceilingref33.quiet -/
inductive R32 where
  | r (x0 : Bool)
abbrev TF32 := List Row → Int → Option R32
def sgF32 : LSh := ⟨[(0, .one (.cell (.slice 30))), (1, .one (.cell (.int .i64)))], []⟩
def FFF32 (Fx : TF32) (s : St) : Option R32 := Fx ((Eng.look s.env 0).rows) ((Eng.look s.env 1).toI)
def valF32 (o : R32) : AV := match o with | .r x0 => .bool x0
def memF32 (o : R32) : List Blk := match o with | .r x0 => []
def elF32 {R : Type} (o : R32) (k : AV → List Blk → Option R) : Option R := match o with | .r x0 => k (.bool x0) []
def RecOkF32 (Fx : TF32) : Prop := ∀ lk M o, FFF32 Fx (canS sgF32 lk M) = some o → FCalls CX 32 0 (argsE 2 (canS sgF32 lk M).env) (canS sgF32 lk M).mem (valF32 o) (memF32 o)
def cvce32n0 : List Cv := []
def selce32n0 : St → List Nat := fun _ => []
noncomputable def ce32n0 (Fx : TF32) (R : Type) (test : List AV → List Blk → Bool) : CE R := ⟨32, test, fun args M => some (selce32n0 ⟨argEnv 0 args, M, [], .unk⟩), fun args M k => tst (Nat.beq args.length 2) (callFn CX 0 cvce32n0 sgF32 selce32n0 (FFF32 Fx) elF32 args M k)⟩
theorem okce32n0 (Fx : TF32) (h : RecOkF32 Fx) (R : Type) (test : List AV → List Blk → Bool) : CeOk CX (ce32n0 Fx R test) := ce_ok hX (fun o k => by cases o; rfl) h en32 (fun args M ids h => by injection h with h; exact ⟨rfl, h.symm⟩)
noncomputable def csF32 (rec : TF32) (N : Nat) (R : Type) : List (CE R) := [ce32n0 rec R (fun _ _ => true)]
theorem hcsF32 (rec : TF32) (hrec : RecOkF32 rec) (N : Nat) (R : Type) : AllE (CeOk CX) (csF32 rec N R) := ⟨okce32n0 rec hrec R (fun _ _ => true), trivial⟩
inductive OJ32a14 where
  | nx
  | ret (x4 : Bool)
def J32a14 (rec : TF32) (N : Nat) : List Row → Int → Option OJ32a14 := fun x0 x1 =>
    tst (decide ((0 : Int) ≤ x1) && decide (x1 < ((x0.length : Int)))) <|
    match !((((x0.getD x1.toNat [])).getD 3 .top).toB) with
    | true =>
      some (.ret false)
    | false =>
      tst (decide ((0 : Int) ≤ x1) && decide (x1 < ((x0.length : Int)))) <|
      match (((x0.getD x1.toNat [])).getD 2 .top).toB with
      | true =>
        some (.ret false)
      | false =>
        some .nx
def LFJ32a14 (rec : TF32) (N : Nat) (s : St) : Option OJ32a14 := J32a14 rec N ((Eng.look s.env 0).rows) ((Eng.look s.env 1).toI)
def sgJ32a14 : LSh := ⟨[(0, .one (.cell (.slice 30))), (1, .one (.cell (.int .i64)))], []⟩
def ceJ32a14 : List Cv := []
def seJ32a14 : St → List Nat := fun _ => []
def xJ32a14wnx : XSh OJ32a14 := ⟨[], ⟨[], []⟩, fun _ => [], fun s => .nx ⟩
def xJ32a14wret : XSh OJ32a14 := ⟨[], ⟨[(4, .one (.cell (.bool)))], []⟩, fun _ => [], fun s => .ret ((Eng.look s.env 4).toB)⟩
def xsJ32a14 : Ex → St → Option (XSh OJ32a14) := fun e st => match e with
  | .normal => some xJ32a14wnx
  | .ret => some xJ32a14wret
  | _ => none
def exJ32a14 (o : OJ32a14) : Ex := match o with | .nx => .normal | .ret x4 => .ret
def stJ32a14 (o : OJ32a14) : St := match o with | .nx => ⟨[], [], [], .unk⟩ | .ret x4 => ⟨[(4, .bool x4)], [], [], .unk⟩
def elJ32a14 {R : Type} (o : OJ32a14) (k : Ex → St → Option R) : Option R := match o with | .nx => k .normal ⟨[], [], [], .unk⟩ | .ret x4 => k .ret ⟨[(4, .bool x4)], [], [], .unk⟩
theorem heJ32a14 {R : Type} (o : OJ32a14) (k : Ex → St → Option R) : elJ32a14 o k = k (exJ32a14 o) (stJ32a14 o) := by cases o <;> rfl
theorem hxJ32a14 : ∀ e st x, xsJ32a14 e st = some x → outOk x e exJ32a14 stJ32a14 := by
  intro e st x h
  unfold xsJ32a14 at h
  repeat' split at h
  all_goals first
    | (injection h with h; subst h; exact fun lk M => ⟨rfl, rfl⟩)
    | cases h
noncomputable def T32uc14 (rec : TF32) (N : Nat) (R : Type) : LTab R := mkTab ⟨50, 16775184⟩ (csF32 rec N R) (noY) [] [] []
theorem okT32uc14 (rec : TF32) (hrec : RecOkF32 rec) (N : Nat) (R : Type) : (T32uc14 rec N R).Ok CX code32 := mkTab_ok (hcsF32 rec hrec N R) (noY_ok) (trivial) (trivial) (trivial)
noncomputable def bdJ32a14 : Code := (codeAt code32 [false, true, true]).getD .skip
theorem hsJ32a14 (rec : TF32) (N : Nat) : ∀ (lk : Nat → AV) (M : List Blk), LFJ32a14 rec N (canS sgJ32a14 lk M) = evk CX (T32uc14 rec N OJ32a14) bdJ32a14 14 (canS sgJ32a14 lk M) (kontX CX 0 xsJ32a14) := by intro lk M; kernel_rfl
inductive OL32a122 where
  | ret (x4 : Bool)
  | x0
def L32a122 (rec : TF32) (N : Nat) : Nat → List Row → Int → Int → Option OL32a122
  | 0 => fun _ _ _ => none
  | n + 1 => fun x0 x1 x5 =>
    match decide (x5 < ((x0.length : Int))) with
    | true =>
      tst (decide ((0 : Int) ≤ x5) && decide (x5 < ((x0.length : Int)))) <|
      match ((((x0.getD x5.toNat [])).getD 5 .top).toI) == x1 with
      | true =>
        tst (decide ((0 : Int) ≤ x5) && decide (x5 < ((x0.length : Int)))) <|
        match (((x0.getD x5.toNat [])).getD 0 .top).toB with
        | true =>
          match rec x0 x5 with
          | none => none
          | some (.r rx0v2) =>
            match !rx0v2 with
            | true =>
              some (.ret false)
            | false =>
              L32a122 rec N n x0 x1 (IntKind.wrap .i64 (x5 + (1 : Int)))
        | false =>
          L32a122 rec N n x0 x1 (IntKind.wrap .i64 (x5 + (1 : Int)))
      | false =>
        L32a122 rec N n x0 x1 (IntKind.wrap .i64 (x5 + (1 : Int)))
    | false =>
      some .x0
def LFL32a122 (rec : TF32) (N : Nat) (n : Nat) (s : St) : Option OL32a122 := L32a122 rec N n ((Eng.look s.env 0).rows) ((Eng.look s.env 1).toI) ((Eng.look s.env 5).toI)
def sgL32a122 : LSh := ⟨[(0, .one (.cell (.slice 30))), (1, .one (.cell (.int .i64))), (5, .one (.cell (.int .i64)))], []⟩
def ceL32a122 : List Cv := []
def seL32a122 : St → List Nat := fun _ => []
def xL32a122wret : XSh OL32a122 := ⟨[], ⟨[(4, .one (.cell (.bool)))], []⟩, fun _ => [], fun s => .ret ((Eng.look s.env 4).toB)⟩
def xL32a122wx0 : XSh OL32a122 := ⟨[], ⟨[], []⟩, fun _ => [], fun s => .x0 ⟩
def xsL32a122 : Ex → St → Option (XSh OL32a122) := fun e st => match e with
  | .ret => some xL32a122wret
  | .exit 0 => some xL32a122wx0
  | _ => none
def exL32a122 (o : OL32a122) : Ex := match o with | .ret x4 => .ret | .x0 => (.exit 0)
def stL32a122 (o : OL32a122) : St := match o with | .ret x4 => ⟨[(4, .bool x4)], [], [], .unk⟩ | .x0 => ⟨[], [], [], .unk⟩
def elL32a122 {R : Type} (o : OL32a122) (k : Ex → St → Option R) : Option R := match o with | .ret x4 => k .ret ⟨[(4, .bool x4)], [], [], .unk⟩ | .x0 => k (.exit 0) ⟨[], [], [], .unk⟩
theorem heL32a122 {R : Type} (o : OL32a122) (k : Ex → St → Option R) : elL32a122 o k = k (exL32a122 o) (stL32a122 o) := by cases o <;> rfl
theorem hxL32a122 : ∀ e st x, xsL32a122 e st = some x → outOk x e exL32a122 stL32a122 := by
  intro e st x h
  unfold xsL32a122 at h
  repeat' split at h
  all_goals first
    | (injection h with h; subst h; exact fun lk M => ⟨rfl, rfl⟩)
    | cases h
noncomputable def T32ul122 (rec : TF32) (N : Nat) (R : Type) : LTab R := mkTab ⟨50, 1125899890065456⟩ (csF32 rec N R) (noY) [] [] []
theorem okT32ul122 (rec : TF32) (hrec : RecOkF32 rec) (N : Nat) (R : Type) : (T32ul122 rec N R).Ok CX code32 := mkTab_ok (hcsF32 rec hrec N R) (noY_ok) (trivial) (trivial) (trivial)
noncomputable def bdL32a122 : Code := match codeAt code32 [false, true, false, true, true, true] with | some (.loop c) => c | _ => .skip
theorem hsL32a122 (rec : TF32) (N : Nat) : ∀ (n : Nat) (lk : Nat → AV) (M : List Blk), LFL32a122 rec N (n + 1) (canS sgL32a122 lk M) = evk CX (T32ul122 rec N OL32a122) bdL32a122 (2 * 122) (canS sgL32a122 lk M) (kont CX 0 [] sgL32a122 (fun _ => []) xsL32a122 (LFL32a122 rec N n)) := by intro n lk M; kernel_rfl
noncomputable def T32ur1 (rec : TF32) (N : Nat) (R : Type) : LTab R := mkTab ⟨50, 1125899906842623⟩ (csF32 rec N R) (noY) [(122, fun st k => callLoop CX 0 1125899890065456 ceL32a122 sgL32a122 seL32a122 ⟨50, 1125899906842623⟩ (LFL32a122 rec N N) elL32a122 st k)] [] [(14, fun st k => callLoop CX 0 16775184 ceJ32a14 sgJ32a14 seJ32a14 ⟨50, 1125899906842623⟩ (LFJ32a14 rec N) elJ32a14 st k)]
theorem okT32ur1 (rec : TF32) (hrec : RecOkF32 rec) (N : Nat) (R : Type) : (T32ur1 rec N R).Ok CX code32 := mkTab_ok (hcsF32 rec hrec N R) (noY_ok) (⟨loop_ok hX (path := [false, true, false, true, true, true]) (by kernel_rfl) (by rfl) (okT32ul122 rec hrec N OL32a122) (fun _ _ => rfl) (hsL32a122 rec N) hxL32a122 rfl heL32a122, trivial⟩) (trivial) (⟨cut_ok hX (path := [false, true, true]) (by kernel_rfl) (by rfl) (okT32uc14 rec hrec N OJ32a14) (hsJ32a14 rec N) hxJ32a14 rfl heJ32a14, trivial⟩)
def rsF32 : List ResultVar := [.tmp 4]
def F32 : Nat → TF32
  | 0 => fun _ _ => none
  | N + 1 => fun x0 x1 =>
    tst (decide ((0 : Int) ≤ x1) && decide (x1 < ((x0.length : Int)))) <|
    match (((x0.getD x1.toNat [])).getD 1 .top).toB with
    | true =>
      some (.r true)
    | false =>
      match J32a14 (F32 N) N x0 x1 with
      | none => none
      | some (.nx) =>
        match L32a122 (F32 N) N N x0 x1 0 with
        | none => none
        | some (.ret x4v3) =>
          some (.r x4v3)
        | some (.x0) =>
          some (.r true)
      | some (.ret x4v5) =>
        some (.r x4v5)
def xRF32 : XSh R32 := ⟨[], ⟨[(0, .one (.cell (.bool)))], []⟩, fun _ => [], fun s => .r ((Eng.look s.env 0).toB)⟩
theorem fsF32 : ∀ (N : Nat) (lk : Nat → AV) (M : List Blk), FFF32 (F32 (N + 1)) (canS sgF32 lk M) = evfn CX (T32ur1 (F32 N) N R32) code32 rsF32 (argsE 2 (canS sgF32 lk M).env) (canS sgF32 lk M).mem (goR CX 0 (fun _ => some xRF32)) := by intro N lk M; kernel_rfl
theorem soundF32 : ∀ N, RecOkF32 (F32 N)
  | 0, lk, M, o, h => by cases h
  | N + 1, lk, M, o, h => fn_sound hX (okT32ur1 (F32 N) (soundF32 N) N R32) Try.func32 hb32 rfl en32 (by kernel_rfl) (ys := fun _ => some xRF32) (fun st y h => by injection h with h; subst h; exact fun lk M => ⟨rfl, rfl⟩) ((fsF32 N lk M).symm.trans h)
end Go.Proofs.Ytfggehkiglenjaa

namespace Go.Proofs.Ytfggehkiglenjaa
open Go Go.Eng
set_option maxRecDepth 100000

/-! ### F33: ceiling/ceilingref33.of -/
inductive R33 where
  | r (b0 : List Row)
abbrev TF33 := List Row → Int → Int → Option R33
def sgF33 : LSh := ⟨[(0, .one (.cell (.slice 30))), (1, .one (.cell (.int .i64))), (2, .one (.cell (.int .i64)))], []⟩
def FFF33 (Fx : TF33) (s : St) : Option R33 := Fx ((Eng.look s.env 0).rows) ((Eng.look s.env 1).toI) ((Eng.look s.env 2).toI)
def valF33 (o : R33) : AV := match o with | .r b0 => .own 0
def memF33 (o : R33) : List Blk := match o with | .r b0 => [.row 3 b0]
def elF33 {R : Type} (o : R33) (k : AV → List Blk → Option R) : Option R := match o with | .r b0 => k (.own 0) [.row 3 b0]
def RecOkF33 (Fx : TF33) : Prop := ∀ lk M o, FFF33 Fx (canS sgF33 lk M) = some o → FCalls CX 33 0 (argsE 3 (canS sgF33 lk M).env) (canS sgF33 lk M).mem (valF33 o) (memF33 o)
noncomputable def csF33 (N : Nat) (R : Type) : List (CE R) := []
theorem hcsF33 (N : Nat) (R : Type) : AllE (CeOk CX) (csF33 N R) := trivial
inductive OJ33a1864 where
  | nx (x34 : Bool)
def J33a1864 (N : Nat) : List Row → Int → Int → Int → Option OJ33a1864 := fun x0 x1 x2 x8 =>
    tst (decide ((0 : Int) ≤ x8) && decide (x8 < ((x0.length : Int)))) <|
    match ((((x0.getD x8.toNat [])).getD 5 .top).toI) == x1 with
    | true =>
      tst (decide ((0 : Int) ≤ x8) && decide (x8 < ((x0.length : Int)))) <|
      match ((((x0.getD x8.toNat [])).getD 6 .top).toI) == x2 with
      | true =>
        some (.nx (decide ((0 : Int) < x8)))
      | false =>
        some (.nx false)
    | false =>
      some (.nx false)
def LFJ33a1864 (N : Nat) (s : St) : Option OJ33a1864 := J33a1864 N ((Eng.look s.env 0).rows) ((Eng.look s.env 1).toI) ((Eng.look s.env 2).toI) ((Eng.look s.env 8).toI)
def sgJ33a1864 : LSh := ⟨[(0, .one (.cell (.slice 30))), (1, .one (.cell (.int .i64))), (2, .one (.cell (.int .i64))), (8, .one (.cell (.int .i64)))], []⟩
def ceJ33a1864 : List Cv := []
def seJ33a1864 : St → List Nat := fun _ => []
def xJ33a1864wnx : XSh OJ33a1864 := ⟨[], ⟨[(34, .one (.cell (.bool)))], []⟩, fun _ => [], fun s => .nx ((Eng.look s.env 34).toB)⟩
def xsJ33a1864 : Ex → St → Option (XSh OJ33a1864) := fun e st => match e with
  | .normal => some xJ33a1864wnx
  | _ => none
def exJ33a1864 (o : OJ33a1864) : Ex := match o with | .nx x34 => .normal
def stJ33a1864 (o : OJ33a1864) : St := match o with | .nx x34 => ⟨[(34, .bool x34)], [], [], .unk⟩
def elJ33a1864 {R : Type} (o : OJ33a1864) (k : Ex → St → Option R) : Option R := match o with | .nx x34 => k .normal ⟨[(34, .bool x34)], [], [], .unk⟩
theorem heJ33a1864 {R : Type} (o : OJ33a1864) (k : Ex → St → Option R) : elJ33a1864 o k = k (exJ33a1864 o) (stJ33a1864 o) := by cases o <;> rfl
theorem hxJ33a1864 : ∀ e st x, xsJ33a1864 e st = some x → outOk x e exJ33a1864 stJ33a1864 := by
  intro e st x h
  unfold xsJ33a1864 at h
  repeat' split at h
  all_goals first
    | (injection h with h; subst h; exact fun lk M => ⟨rfl, rfl⟩)
    | cases h
noncomputable def T33uc1864 (N : Nat) (R : Type) : LTab R := mkTab ⟨40, 34359705600⟩ (csF33 N R) (noY) [] [] []
theorem okT33uc1864 (N : Nat) (R : Type) : (T33uc1864 N R).Ok CX code33 := mkTab_ok (hcsF33 N R) (noY_ok) (trivial) (trivial) (trivial)
noncomputable def bdJ33a1864 : Code := (codeAt code33 [false, false, false, true, false, false, true, false, true, true]).getD .skip
theorem hsJ33a1864 (N : Nat) : ∀ (lk : Nat → AV) (M : List Blk), LFJ33a1864 N (canS sgJ33a1864 lk M) = evk CX (T33uc1864 N OJ33a1864) bdJ33a1864 1864 (canS sgJ33a1864 lk M) (kontX CX 0 xsJ33a1864) := by intro lk M; kernel_rfl
inductive OL33a58 where
  | x0 (b0 : List Row)
def L33a58 (N : Nat) : Nat → List Row → Int → Int → Int → List Row → Option OL33a58
  | 0 => fun _ _ _ _ _ => none
  | n + 1 => fun x0 x1 x2 x8 b0 =>
    match decide (x8 < ((x0.length : Int))) with
    | true =>
      match J33a1864 N x0 x1 x2 x8 with
      | none => none
      | some (.nx x34v1) =>
        match x34v1 with
        | true =>
          tst (decide (((b0.length + 1) * 8) ≤ 140737488355328)) <|
          L33a58 N n x0 x1 x2 (IntKind.wrap .i64 (x8 + (1 : Int))) (b0 ++ (([[.int .i64 x8]] : List Row)))
        | false =>
          L33a58 N n x0 x1 x2 (IntKind.wrap .i64 (x8 + (1 : Int))) b0
    | false =>
      some (.x0 b0)
def LFL33a58 (N : Nat) (n : Nat) (s : St) : Option OL33a58 := L33a58 N n ((Eng.look s.env 0).rows) ((Eng.look s.env 1).toI) ((Eng.look s.env 2).toI) ((Eng.look s.env 8).toI) ((s.mem.getD 0 .dead).rows)
def sgL33a58 : LSh := ⟨[(0, .one (.cell (.slice 30))), (1, .one (.cell (.int .i64))), (2, .one (.cell (.int .i64))), (7, .one (.own 0)), (8, .one (.cell (.int .i64)))], [.row 3]⟩
def ceL33a58 : List Cv := [.mk 7 3]
def seL33a58 : St → List Nat := fun st => [(Eng.look st.env 7).id]
def xL33a58wx0 : XSh OL33a58 := ⟨[], ⟨[(7, .one (.own 0))], [.row 3]⟩, fun st => [(Eng.look st.env 7).id], fun s => .x0 ((s.mem.getD 0 .dead).rows)⟩
def xsL33a58 : Ex → St → Option (XSh OL33a58) := fun e st => match e with
  | .exit 0 => some xL33a58wx0
  | _ => none
def exL33a58 (o : OL33a58) : Ex := match o with | .x0 b0 => (.exit 0)
def stL33a58 (o : OL33a58) : St := match o with | .x0 b0 => ⟨[(7, .own 0)], [.row 3 b0], [], .unk⟩
def elL33a58 {R : Type} (o : OL33a58) (k : Ex → St → Option R) : Option R := match o with | .x0 b0 => k (.exit 0) ⟨[(7, .own 0)], [.row 3 b0], [], .unk⟩
theorem heL33a58 {R : Type} (o : OL33a58) (k : Ex → St → Option R) : elL33a58 o k = k (exL33a58 o) (stL33a58 o) := by cases o <;> rfl
theorem hxL33a58 : ∀ e st x, xsL33a58 e st = some x → outOk x e exL33a58 stL33a58 := by
  intro e st x h
  unfold xsL33a58 at h
  repeat' split at h
  all_goals first
    | (injection h with h; subst h; exact fun lk M => ⟨rfl, rfl⟩)
    | cases h
noncomputable def T33ul58 (N : Nat) (R : Type) : LTab R := mkTab ⟨40, 549755813760⟩ (csF33 N R) (noY) [] [] [(1864, fun st k => callLoop CX 0 34359705600 ceJ33a1864 sgJ33a1864 seJ33a1864 ⟨40, 549755813760⟩ (LFJ33a1864 N) elJ33a1864 st k)]
theorem okT33ul58 (N : Nat) (R : Type) : (T33ul58 N R).Ok CX code33 := mkTab_ok (hcsF33 N R) (noY_ok) (trivial) (trivial) (⟨cut_ok hX (path := [false, false, false, true, false, false, true, false, true, true]) (by kernel_rfl) (by rfl) (okT33uc1864 N OJ33a1864) (hsJ33a1864 N) hxJ33a1864 rfl heJ33a1864, trivial⟩)
noncomputable def bdL33a58 : Code := match codeAt code33 [false, true, false, true, true] with | some (.loop c) => c | _ => .skip
theorem hsL33a58 (N : Nat) : ∀ (n : Nat) (lk : Nat → AV) (M : List Blk), LFL33a58 N (n + 1) (canS sgL33a58 lk M) = evk CX (T33ul58 N OL33a58) bdL33a58 (2 * 58) (canS sgL33a58 lk M) (kont CX 0 [] sgL33a58 (fun st => [(Eng.look st.env 7).id]) xsL33a58 (LFL33a58 N n)) := by intro n lk M; kernel_rfl
noncomputable def T33ur1 (N : Nat) (R : Type) : LTab R := mkTab ⟨40, 1099511627775⟩ (csF33 N R) (noY) [(58, fun st k => callLoop CX 0 549755813760 ceL33a58 sgL33a58 seL33a58 ⟨40, 1099511627775⟩ (LFL33a58 N N) elL33a58 st k)] [] []
theorem okT33ur1 (N : Nat) (R : Type) : (T33ur1 N R).Ok CX code33 := mkTab_ok (hcsF33 N R) (noY_ok) (⟨loop_ok hX (path := [false, true, false, true, true]) (by kernel_rfl) (by rfl) (okT33ul58 N OL33a58) (fun _ _ => rfl) (hsL33a58 N) hxL33a58 rfl heL33a58, trivial⟩) (trivial) (trivial)
def rsF33 : List ResultVar := [.tmp 6]
def F33 : Nat → TF33
  | 0 => fun _ _ _ => none
  | N + 1 => fun x0 x1 x2 =>
    match L33a58 N N x0 x1 x2 0 (([] : List Row)) with
    | none => none
    | some (.x0 b0v2) =>
      some (.r b0v2)
def xRF33 : XSh R33 := ⟨[], ⟨[(0, .one (.own 0))], [.row 3]⟩, fun st => [(Eng.look st.env 0).id], fun s => .r ((s.mem.getD 0 .dead).rows)⟩
theorem fsF33 : ∀ (N : Nat) (lk : Nat → AV) (M : List Blk), FFF33 (F33 (N + 1)) (canS sgF33 lk M) = evfn CX (T33ur1 N R33) code33 rsF33 (argsE 3 (canS sgF33 lk M).env) (canS sgF33 lk M).mem (goR CX 0 (fun _ => some xRF33)) := by intro N lk M; kernel_rfl
theorem soundF33 : ∀ N, RecOkF33 (F33 N)
  | 0, lk, M, o, h => by cases h
  | N + 1, lk, M, o, h => fn_sound hX (okT33ur1 N R33) Try.func33 hb33 rfl en33 (by kernel_rfl) (ys := fun _ => some xRF33) (fun st y h => by injection h with h; subst h; exact fun lk M => ⟨rfl, rfl⟩) ((fsF33 N lk M).symm.trans h)
def cvce33n0 : List Cv := []
def selce33n0 : St → List Nat := fun _ => []
noncomputable def ce33n0 (Fx : TF33) (R : Type) (test : List AV → List Blk → Bool) : CE R := ⟨33, test, fun args M => some (selce33n0 ⟨argEnv 0 args, M, [], .unk⟩), fun args M k => tst (Nat.beq args.length 3) (callFn CX 0 cvce33n0 sgF33 selce33n0 (FFF33 Fx) elF33 args M k)⟩
theorem okce33n0 (Fx : TF33) (h : RecOkF33 Fx) (R : Type) (test : List AV → List Blk → Bool) : CeOk CX (ce33n0 Fx R test) := ce_ok hX (fun o k => by cases o; rfl) h en33 (fun args M ids h => by injection h with h; exact ⟨rfl, h.symm⟩)
end Go.Proofs.Ytfggehkiglenjaa

namespace Go.Proofs.Ytfggehkiglenjaa
open Go Go.Eng
set_option maxRecDepth 100000

/-! ### F24: ceiling/ceilingref33.can -/
inductive R24 where
  | r (x0 : Bool)
abbrev TF24 := List Row → Int → Option R24
def sgF24 : LSh := ⟨[(0, .one (.cell (.slice 30))), (1, .one (.cell (.int .i64)))], []⟩
def FFF24 (Fx : TF24) (s : St) : Option R24 := Fx ((Eng.look s.env 0).rows) ((Eng.look s.env 1).toI)
def valF24 (o : R24) : AV := match o with | .r x0 => .bool x0
def memF24 (o : R24) : List Blk := match o with | .r x0 => []
def elF24 {R : Type} (o : R24) (k : AV → List Blk → Option R) : Option R := match o with | .r x0 => k (.bool x0) []
def RecOkF24 (Fx : TF24) : Prop := ∀ lk M o, FFF24 Fx (canS sgF24 lk M) = some o → FCalls CX 24 0 (argsE 2 (canS sgF24 lk M).env) (canS sgF24 lk M).mem (valF24 o) (memF24 o)
noncomputable def csF24 (N : Nat) (R : Type) : List (CE R) := [ce32n0 (F32 N) R (fun _ _ => true), ce33n0 (F33 N) R (fun _ _ => true)]
theorem hcsF24 (N : Nat) (R : Type) : AllE (CeOk CX) (csF24 N R) := ⟨okce32n0 (F32 N) (soundF32 N) R (fun _ _ => true), okce33n0 (F33 N) (soundF33 N) R (fun _ _ => true), trivial⟩
inductive OJ24a14 where
  | nx (b0c0 : Bool) (b0c1 : Bool) (b0c2 : Bool) (b0c3 : Bool) (b0c4 : Bool) (b0c5 : Int) (b0c6 : Int) (b0c7 : Int)
  | ret (x4 : Bool) (b0c0 : Bool) (b0c1 : Bool) (b0c2 : Bool) (b0c3 : Bool) (b0c4 : Bool) (b0c5 : Int) (b0c6 : Int) (b0c7 : Int)
def J24a14 (N : Nat) : List Row → Int → Bool → Bool → Bool → Bool → Bool → Int → Int → Int → Option OJ24a14 := fun x0 x1 b0c0 b0c1 b0c2 b0c3 b0c4 b0c5 b0c6 b0c7 =>
    match !b0c3 with
    | true =>
      some (.ret false b0c0 b0c1 b0c2 b0c3 b0c4 b0c5 b0c6 b0c7)
    | false =>
      match b0c4 with
      | true =>
        some (.ret false b0c0 b0c1 b0c2 b0c3 b0c4 b0c5 b0c6 b0c7)
      | false =>
        match F32 N x0 x1 with
        | none => none
        | some (.r rx0v1) =>
          match !rx0v1 with
          | true =>
            some (.ret false b0c0 b0c1 b0c2 b0c3 b0c4 b0c5 b0c6 b0c7)
          | false =>
            match decide (b0c5 < (0 : Int)) with
            | true =>
              some (.ret false b0c0 b0c1 b0c2 b0c3 b0c4 b0c5 b0c6 b0c7)
            | false =>
              tst (decide ((0 : Int) ≤ b0c5) && decide (b0c5 < ((x0.length : Int)))) <|
              match ((((x0.getD b0c5.toNat [])).getD 7 .top).toI) != b0c6 with
              | true =>
                some (.ret false b0c0 b0c1 b0c2 b0c3 b0c4 b0c5 b0c6 b0c7)
              | false =>
                some (.nx b0c0 b0c1 b0c2 b0c3 b0c4 b0c5 b0c6 b0c7)
def LFJ24a14 (N : Nat) (s : St) : Option OJ24a14 := J24a14 N ((Eng.look s.env 0).rows) ((Eng.look s.env 1).toI) (((s.mem.getD 0 .dead).cells.getD 0 .top).toB) (((s.mem.getD 0 .dead).cells.getD 1 .top).toB) (((s.mem.getD 0 .dead).cells.getD 2 .top).toB) (((s.mem.getD 0 .dead).cells.getD 3 .top).toB) (((s.mem.getD 0 .dead).cells.getD 4 .top).toB) (((s.mem.getD 0 .dead).cells.getD 5 .top).toI) (((s.mem.getD 0 .dead).cells.getD 6 .top).toI) (((s.mem.getD 0 .dead).cells.getD 7 .top).toI)
def sgJ24a14 : LSh := ⟨[(0, .one (.cell (.slice 30))), (1, .one (.cell (.int .i64))), (5, .one (.ptr 0 0 0))], [.var [.bool, .bool, .bool, .bool, .bool, .int .i64, .int .i64, .int .i64] [.cell (.bool), .cell (.bool), .cell (.bool), .cell (.bool), .cell (.bool), .cell (.int .i64), .cell (.int .i64), .cell (.int .i64)]]⟩
def ceJ24a14 : List Cv := []
def seJ24a14 : St → List Nat := fun st => [(Eng.look st.env 5).id]
def xJ24a14wnx : XSh OJ24a14 := ⟨[], ⟨[], [.var [.bool, .bool, .bool, .bool, .bool, .int .i64, .int .i64, .int .i64] [.cell (.bool), .cell (.bool), .cell (.bool), .cell (.bool), .cell (.bool), .cell (.int .i64), .cell (.int .i64), .cell (.int .i64)]]⟩, fun st => [0], fun s => .nx (((s.mem.getD 0 .dead).cells.getD 0 .top).toB) (((s.mem.getD 0 .dead).cells.getD 1 .top).toB) (((s.mem.getD 0 .dead).cells.getD 2 .top).toB) (((s.mem.getD 0 .dead).cells.getD 3 .top).toB) (((s.mem.getD 0 .dead).cells.getD 4 .top).toB) (((s.mem.getD 0 .dead).cells.getD 5 .top).toI) (((s.mem.getD 0 .dead).cells.getD 6 .top).toI) (((s.mem.getD 0 .dead).cells.getD 7 .top).toI)⟩
def xJ24a14wret : XSh OJ24a14 := ⟨[], ⟨[(4, .one (.cell (.bool)))], [.var [.bool, .bool, .bool, .bool, .bool, .int .i64, .int .i64, .int .i64] [.cell (.bool), .cell (.bool), .cell (.bool), .cell (.bool), .cell (.bool), .cell (.int .i64), .cell (.int .i64), .cell (.int .i64)]]⟩, fun st => [0], fun s => .ret ((Eng.look s.env 4).toB) (((s.mem.getD 0 .dead).cells.getD 0 .top).toB) (((s.mem.getD 0 .dead).cells.getD 1 .top).toB) (((s.mem.getD 0 .dead).cells.getD 2 .top).toB) (((s.mem.getD 0 .dead).cells.getD 3 .top).toB) (((s.mem.getD 0 .dead).cells.getD 4 .top).toB) (((s.mem.getD 0 .dead).cells.getD 5 .top).toI) (((s.mem.getD 0 .dead).cells.getD 6 .top).toI) (((s.mem.getD 0 .dead).cells.getD 7 .top).toI)⟩
def xsJ24a14 : Ex → St → Option (XSh OJ24a14) := fun e st => match e with
  | .normal => some xJ24a14wnx
  | .ret => some xJ24a14wret
  | _ => none
def exJ24a14 (o : OJ24a14) : Ex := match o with | .nx b0c0 b0c1 b0c2 b0c3 b0c4 b0c5 b0c6 b0c7 => .normal | .ret x4 b0c0 b0c1 b0c2 b0c3 b0c4 b0c5 b0c6 b0c7 => .ret
def stJ24a14 (o : OJ24a14) : St := match o with | .nx b0c0 b0c1 b0c2 b0c3 b0c4 b0c5 b0c6 b0c7 => ⟨[], [.var [.bool, .bool, .bool, .bool, .bool, .int .i64, .int .i64, .int .i64] [.bool b0c0, .bool b0c1, .bool b0c2, .bool b0c3, .bool b0c4, .int .i64 b0c5, .int .i64 b0c6, .int .i64 b0c7]], [], .unk⟩ | .ret x4 b0c0 b0c1 b0c2 b0c3 b0c4 b0c5 b0c6 b0c7 => ⟨[(4, .bool x4)], [.var [.bool, .bool, .bool, .bool, .bool, .int .i64, .int .i64, .int .i64] [.bool b0c0, .bool b0c1, .bool b0c2, .bool b0c3, .bool b0c4, .int .i64 b0c5, .int .i64 b0c6, .int .i64 b0c7]], [], .unk⟩
def elJ24a14 {R : Type} (o : OJ24a14) (k : Ex → St → Option R) : Option R := match o with | .nx b0c0 b0c1 b0c2 b0c3 b0c4 b0c5 b0c6 b0c7 => k .normal ⟨[], [.var [.bool, .bool, .bool, .bool, .bool, .int .i64, .int .i64, .int .i64] [.bool b0c0, .bool b0c1, .bool b0c2, .bool b0c3, .bool b0c4, .int .i64 b0c5, .int .i64 b0c6, .int .i64 b0c7]], [], .unk⟩ | .ret x4 b0c0 b0c1 b0c2 b0c3 b0c4 b0c5 b0c6 b0c7 => k .ret ⟨[(4, .bool x4)], [.var [.bool, .bool, .bool, .bool, .bool, .int .i64, .int .i64, .int .i64] [.bool b0c0, .bool b0c1, .bool b0c2, .bool b0c3, .bool b0c4, .int .i64 b0c5, .int .i64 b0c6, .int .i64 b0c7]], [], .unk⟩
theorem heJ24a14 {R : Type} (o : OJ24a14) (k : Ex → St → Option R) : elJ24a14 o k = k (exJ24a14 o) (stJ24a14 o) := by cases o <;> rfl
theorem hxJ24a14 : ∀ e st x, xsJ24a14 e st = some x → outOk x e exJ24a14 stJ24a14 := by
  intro e st x h
  unfold xsJ24a14 at h
  repeat' split at h
  all_goals first
    | (injection h with h; subst h; exact fun lk M => ⟨rfl, rfl⟩)
    | cases h
noncomputable def T24uc14 (N : Nat) (R : Type) : LTab R := mkTab ⟨70, 2199023251472⟩ (csF24 N R) (noY) [] [] []
theorem okT24uc14 (N : Nat) (R : Type) : (T24uc14 N R).Ok CX code24 := mkTab_ok (hcsF24 N R) (noY_ok) (trivial) (trivial) (trivial)
noncomputable def bdJ24a14 : Code := (codeAt code24 [false, true, true]).getD .skip
theorem hsJ24a14 (N : Nat) : ∀ (lk : Nat → AV) (M : List Blk), LFJ24a14 N (canS sgJ24a14 lk M) = evk CX (T24uc14 N OJ24a14) bdJ24a14 14 (canS sgJ24a14 lk M) (kontX CX 1 xsJ24a14) := by intro lk M; kernel_rfl
inductive OL24a250 where
  | ret (x4 : Bool) (b0 : List Row)
  | x0 (b0 : List Row)
def L24a250 (N : Nat) : Nat → List Row → Int → List Row → Option OL24a250
  | 0 => fun _ _ _ => none
  | n + 1 => fun x0 x7 b0 =>
    match decide (x7 < ((b0.length : Int))) with
    | true =>
      tst (decide ((0 : Int) ≤ x7) && decide (x7 < ((b0.length : Int)))) <|
      tst (decide (x7.toNat < b0.length)) <|
      tst (decide ((0 : Int) ≤ ((((b0.getD x7.toNat [])).getD 0 .top).toI)) && decide ((((b0.getD x7.toNat [])).getD 0 .top).toI < ((x0.length : Int)))) <|
      match (((x0.getD (((((b0.getD x7.toNat [])).getD 0 .top).toI).toNat) [])).getD 0 .top).toB with
      | true =>
        tst (decide ((0 : Int) ≤ x7) && decide (x7 < ((b0.length : Int)))) <|
        tst (decide (x7.toNat < b0.length)) <|
        match F32 N x0 ((((b0.getD x7.toNat [])).getD 0 .top).toI) with
        | none => none
        | some (.r rx0v4) =>
          match !rx0v4 with
          | true =>
            some (.ret false b0)
          | false =>
            L24a250 N n x0 (IntKind.wrap .i64 (x7 + (1 : Int))) b0
      | false =>
        L24a250 N n x0 (IntKind.wrap .i64 (x7 + (1 : Int))) b0
    | false =>
      some (.x0 b0)
def LFL24a250 (N : Nat) (n : Nat) (s : St) : Option OL24a250 := L24a250 N n ((Eng.look s.env 0).rows) ((Eng.look s.env 7).toI) ((s.mem.getD 0 .dead).rows)
def sgL24a250 : LSh := ⟨[(0, .one (.cell (.slice 30))), (6, .one (.own 0)), (7, .one (.cell (.int .i64)))], [.row 3]⟩
def ceL24a250 : List Cv := []
def seL24a250 : St → List Nat := fun st => [(Eng.look st.env 6).id]
def xL24a250wret : XSh OL24a250 := ⟨[], ⟨[(4, .one (.cell (.bool)))], [.row 3]⟩, fun st => [0], fun s => .ret ((Eng.look s.env 4).toB) ((s.mem.getD 0 .dead).rows)⟩
def xL24a250wx0 : XSh OL24a250 := ⟨[], ⟨[], [.row 3]⟩, fun st => [0], fun s => .x0 ((s.mem.getD 0 .dead).rows)⟩
def xsL24a250 : Ex → St → Option (XSh OL24a250) := fun e st => match e with
  | .ret => some xL24a250wret
  | .exit 0 => some xL24a250wx0
  | _ => none
def exL24a250 (o : OL24a250) : Ex := match o with | .ret x4 b0 => .ret | .x0 b0 => (.exit 0)
def stL24a250 (o : OL24a250) : St := match o with | .ret x4 b0 => ⟨[(4, .bool x4)], [.row 3 b0], [], .unk⟩ | .x0 b0 => ⟨[], [.row 3 b0], [], .unk⟩
def elL24a250 {R : Type} (o : OL24a250) (k : Ex → St → Option R) : Option R := match o with | .ret x4 b0 => k .ret ⟨[(4, .bool x4)], [.row 3 b0], [], .unk⟩ | .x0 b0 => k (.exit 0) ⟨[], [.row 3 b0], [], .unk⟩
theorem heL24a250 {R : Type} (o : OL24a250) (k : Ex → St → Option R) : elL24a250 o k = k (exL24a250 o) (stL24a250 o) := by cases o <;> rfl
theorem hxL24a250 : ∀ e st x, xsL24a250 e st = some x → outOk x e exL24a250 stL24a250 := by
  intro e st x h
  unfold xsL24a250 at h
  repeat' split at h
  all_goals first
    | (injection h with h; subst h; exact fun lk M => ⟨rfl, rfl⟩)
    | cases h
noncomputable def T24ul250 (N : Nat) (R : Type) : LTab R := mkTab ⟨70, 1180591479979922948240⟩ (csF24 N R) (noY) [] [] []
theorem okT24ul250 (N : Nat) (R : Type) : (T24ul250 N R).Ok CX code24 := mkTab_ok (hcsF24 N R) (noY_ok) (trivial) (trivial) (trivial)
noncomputable def bdL24a250 : Code := match codeAt code24 [false, true, false, true, true, true, true] with | some (.loop c) => c | _ => .skip
theorem hsL24a250 (N : Nat) : ∀ (n : Nat) (lk : Nat → AV) (M : List Blk), LFL24a250 N (n + 1) (canS sgL24a250 lk M) = evk CX (T24ul250 N OL24a250) bdL24a250 (2 * 250) (canS sgL24a250 lk M) (kont CX 1 [] sgL24a250 (fun st => [0]) xsL24a250 (LFL24a250 N n)) := by intro n lk M; kernel_rfl
noncomputable def T24ur1 (N : Nat) (R : Type) : LTab R := mkTab ⟨70, 1180591620717411303423⟩ (csF24 N R) (noY) [(250, fun st k => callLoop CX 1 1180591479979922948240 ceL24a250 sgL24a250 seL24a250 ⟨70, 1180591620717411303423⟩ (LFL24a250 N N) elL24a250 st k)] [] [(14, fun st k => callLoop CX 1 2199023251472 ceJ24a14 sgJ24a14 seJ24a14 ⟨70, 1180591620717411303423⟩ (LFJ24a14 N) elJ24a14 st k)]
theorem okT24ur1 (N : Nat) (R : Type) : (T24ur1 N R).Ok CX code24 := mkTab_ok (hcsF24 N R) (noY_ok) (⟨loop_ok hX (path := [false, true, false, true, true, true, true]) (by kernel_rfl) (by rfl) (okT24ul250 N OL24a250) (fun _ _ => rfl) (hsL24a250 N) hxL24a250 rfl heL24a250, trivial⟩) (trivial) (⟨cut_ok hX (path := [false, true, true]) (by kernel_rfl) (by rfl) (okT24uc14 N OJ24a14) (hsJ24a14 N) hxJ24a14 rfl heJ24a14, trivial⟩)
def rsF24 : List ResultVar := [.tmp 4]
def F24 : Nat → TF24
  | 0 => fun _ _ => none
  | N + 1 => fun x0 x1 =>
    tst (decide ((0 : Int) ≤ x1) && decide (x1 < ((x0.length : Int)))) <|
    match J24a14 N x0 x1 ((((x0.getD x1.toNat [])).getD 0 .top).toB) ((((x0.getD x1.toNat [])).getD 1 .top).toB) ((((x0.getD x1.toNat [])).getD 2 .top).toB) ((((x0.getD x1.toNat [])).getD 3 .top).toB) ((((x0.getD x1.toNat [])).getD 4 .top).toB) ((((x0.getD x1.toNat [])).getD 5 .top).toI) ((((x0.getD x1.toNat [])).getD 6 .top).toI) ((((x0.getD x1.toNat [])).getD 7 .top).toI) with
    | none => none
    | some (.nx b0c0v2 b0c1v2 b0c2v2 b0c3v2 b0c4v2 b0c5v2 b0c6v2 b0c7v2) =>
      match F33 N x0 b0c5v2 b0c6v2 with
      | none => none
      | some (.r rb0v3) =>
        match L24a250 N N x0 0 rb0v3 with
        | none => none
        | some (.ret x4v5 b0v5) =>
          some (.r x4v5)
        | some (.x0 b0v6) =>
          some (.r true)
    | some (.ret x4v7 b0c0v7 b0c1v7 b0c2v7 b0c3v7 b0c4v7 b0c5v7 b0c6v7 b0c7v7) =>
      some (.r x4v7)
def xRF24 : XSh R24 := ⟨[], ⟨[(0, .one (.cell (.bool)))], []⟩, fun _ => [], fun s => .r ((Eng.look s.env 0).toB)⟩
theorem fsF24 : ∀ (N : Nat) (lk : Nat → AV) (M : List Blk), FFF24 (F24 (N + 1)) (canS sgF24 lk M) = evfn CX (T24ur1 N R24) code24 rsF24 (argsE 2 (canS sgF24 lk M).env) (canS sgF24 lk M).mem (goR CX 0 (fun _ => some xRF24)) := by intro N lk M; kernel_rfl
theorem soundF24 : ∀ N, RecOkF24 (F24 N)
  | 0, lk, M, o, h => by cases h
  | N + 1, lk, M, o, h => fn_sound hX (okT24ur1 N R24) Try.func24 hb24 rfl en24 (by kernel_rfl) (ys := fun _ => some xRF24) (fun st y h => by injection h with h; subst h; exact fun lk M => ⟨rfl, rfl⟩) ((fsF24 N lk M).symm.trans h)
def cvce24n0 : List Cv := []
def selce24n0 : St → List Nat := fun _ => []
noncomputable def ce24n0 (Fx : TF24) (R : Type) (test : List AV → List Blk → Bool) : CE R := ⟨24, test, fun args M => some (selce24n0 ⟨argEnv 0 args, M, [], .unk⟩), fun args M k => tst (Nat.beq args.length 2) (callFn CX 0 cvce24n0 sgF24 selce24n0 (FFF24 Fx) elF24 args M k)⟩
theorem okce24n0 (Fx : TF24) (h : RecOkF24 Fx) (R : Type) (test : List AV → List Blk → Bool) : CeOk CX (ce24n0 Fx R test) := ce_ok hX (fun o k => by cases o; rfl) h en24 (fun args M ids h => by injection h with h; exact ⟨rfl, h.symm⟩)
end Go.Proofs.Ytfggehkiglenjaa

namespace Go.Proofs.Ytfggehkiglenjaa
open Go Go.Eng
set_option maxRecDepth 100000

/-! ### F10: ceiling/ceilingref33.Ready -/
inductive R10 where
  | r (b0 : List Row)
abbrev TF10 := List Row → Option R10
def sgF10 : LSh := ⟨[(0, .one (.cell (.slice 30)))], []⟩
def FFF10 (Fx : TF10) (s : St) : Option R10 := Fx ((Eng.look s.env 0).rows)
def valF10 (o : R10) : AV := match o with | .r b0 => .own 0
def memF10 (o : R10) : List Blk := match o with | .r b0 => [.row 3 b0]
def elF10 {R : Type} (o : R10) (k : AV → List Blk → Option R) : Option R := match o with | .r b0 => k (.own 0) [.row 3 b0]
def RecOkF10 (Fx : TF10) : Prop := ∀ lk M o, FFF10 Fx (canS sgF10 lk M) = some o → FCalls CX 10 0 (argsE 1 (canS sgF10 lk M).env) (canS sgF10 lk M).mem (valF10 o) (memF10 o)
noncomputable def csF10 (N : Nat) (R : Type) : List (CE R) := [ce19n0 (F19 N) R (fun _ _ => true), ce24n0 (F24 N) R (fun _ _ => true)]
theorem hcsF10 (N : Nat) (R : Type) : AllE (CeOk CX) (csF10 N R) := ⟨okce19n0 (F19 N) (soundF19 N) R (fun _ _ => true), okce24n0 (F24 N) (soundF24 N) R (fun _ _ => true), trivial⟩
inductive OL10a122 where
  | x0 (b0 : List Row)
def L10a122 (N : Nat) : Nat → List Row → Int → List Row → Option OL10a122
  | 0 => fun _ _ _ => none
  | n + 1 => fun x0 x4 b0 =>
    match decide (x4 < ((x0.length : Int))) with
    | true =>
      match F24 N x0 x4 with
      | none => none
      | some (.r rx0v2) =>
        match rx0v2 with
        | true =>
          tst (decide (((b0.length + 1) * 8) ≤ 140737488355328)) <|
          L10a122 N n x0 (IntKind.wrap .i64 (x4 + (1 : Int))) (b0 ++ (([[.int .i64 x4]] : List Row)))
        | false =>
          L10a122 N n x0 (IntKind.wrap .i64 (x4 + (1 : Int))) b0
    | false =>
      some (.x0 b0)
def LFL10a122 (N : Nat) (n : Nat) (s : St) : Option OL10a122 := L10a122 N n ((Eng.look s.env 0).rows) ((Eng.look s.env 4).toI) ((s.mem.getD 0 .dead).rows)
def sgL10a122 : LSh := ⟨[(0, .one (.cell (.slice 30))), (3, .one (.own 0)), (4, .one (.cell (.int .i64)))], [.row 3]⟩
def ceL10a122 : List Cv := [.mk 3 3]
def seL10a122 : St → List Nat := fun st => [(Eng.look st.env 3).id]
def xL10a122wx0 : XSh OL10a122 := ⟨[], ⟨[(3, .one (.own 0))], [.row 3]⟩, fun st => [(Eng.look st.env 3).id], fun s => .x0 ((s.mem.getD 0 .dead).rows)⟩
def xsL10a122 : Ex → St → Option (XSh OL10a122) := fun e st => match e with
  | .exit 0 => some xL10a122wx0
  | _ => none
def exL10a122 (o : OL10a122) : Ex := match o with | .x0 b0 => (.exit 0)
def stL10a122 (o : OL10a122) : St := match o with | .x0 b0 => ⟨[(3, .own 0)], [.row 3 b0], [], .unk⟩
def elL10a122 {R : Type} (o : OL10a122) (k : Ex → St → Option R) : Option R := match o with | .x0 b0 => k (.exit 0) ⟨[(3, .own 0)], [.row 3 b0], [], .unk⟩
theorem heL10a122 {R : Type} (o : OL10a122) (k : Ex → St → Option R) : elL10a122 o k = k (exL10a122 o) (stL10a122 o) := by cases o <;> rfl
theorem hxL10a122 : ∀ e st x, xsL10a122 e st = some x → outOk x e exL10a122 stL10a122 := by
  intro e st x h
  unfold xsL10a122 at h
  repeat' split at h
  all_goals first
    | (injection h with h; subst h; exact fun lk M => ⟨rfl, rfl⟩)
    | cases h
noncomputable def T10ul122 (N : Nat) (R : Type) : LTab R := mkTab ⟨22, 2096920⟩ (csF10 N R) (noY) [] [] []
theorem okT10ul122 (N : Nat) (R : Type) : (T10ul122 N R).Ok CX code10 := mkTab_ok (hcsF10 N R) (noY_ok) (trivial) (trivial) (trivial)
noncomputable def bdL10a122 : Code := match codeAt code10 [false, true, false, true, true, true] with | some (.loop c) => c | _ => .skip
theorem hsL10a122 (N : Nat) : ∀ (n : Nat) (lk : Nat → AV) (M : List Blk), LFL10a122 N (n + 1) (canS sgL10a122 lk M) = evk CX (T10ul122 N OL10a122) bdL10a122 (2 * 122) (canS sgL10a122 lk M) (kont CX 0 [] sgL10a122 (fun st => [(Eng.look st.env 3).id]) xsL10a122 (LFL10a122 N n)) := by intro n lk M; kernel_rfl
noncomputable def T10ur1 (N : Nat) (R : Type) : LTab R := mkTab ⟨22, 4194303⟩ (csF10 N R) (noY) [(122, fun st k => callLoop CX 0 2096920 ceL10a122 sgL10a122 seL10a122 ⟨22, 4194303⟩ (LFL10a122 N N) elL10a122 st k)] [] []
theorem okT10ur1 (N : Nat) (R : Type) : (T10ur1 N R).Ok CX code10 := mkTab_ok (hcsF10 N R) (noY_ok) (⟨loop_ok hX (path := [false, true, false, true, true, true]) (by kernel_rfl) (by rfl) (okT10ul122 N OL10a122) (fun _ _ => rfl) (hsL10a122 N) hxL10a122 rfl heL10a122, trivial⟩) (trivial) (trivial)
def rsF10 : List ResultVar := [.tmp 2]
def F10 : Nat → TF10
  | 0 => fun _ => none
  | N + 1 => fun x0 =>
    match F19 N x0 with
    | none => none
    | some (.r rx0v1) =>
      match !rx0v1 with
      | true =>
        some (.r (([] : List Row)))
      | false =>
        match L10a122 N N x0 0 (([] : List Row)) with
        | none => none
        | some (.x0 b0v3) =>
          some (.r b0v3)
def xRF10 : XSh R10 := ⟨[.mk 0 3], ⟨[(0, .one (.own 0))], [.row 3]⟩, fun st => [(Eng.look st.env 0).id], fun s => .r ((s.mem.getD 0 .dead).rows)⟩
theorem fsF10 : ∀ (N : Nat) (lk : Nat → AV) (M : List Blk), FFF10 (F10 (N + 1)) (canS sgF10 lk M) = evfn CX (T10ur1 N R10) code10 rsF10 (argsE 1 (canS sgF10 lk M).env) (canS sgF10 lk M).mem (goR CX 0 (fun _ => some xRF10)) := by intro N lk M; kernel_rfl
theorem soundF10 : ∀ N, RecOkF10 (F10 N)
  | 0, lk, M, o, h => by cases h
  | N + 1, lk, M, o, h => fn_sound hX (okT10ur1 N R10) Try.func10 hb10 rfl en10 (by kernel_rfl) (ys := fun _ => some xRF10) (fun st y h => by injection h with h; subst h; exact fun lk M => ⟨rfl, rfl⟩) ((fsF10 N lk M).symm.trans h)
def cvce10n0 : List Cv := []
def selce10n0 : St → List Nat := fun _ => []
noncomputable def ce10n0 (Fx : TF10) (R : Type) (test : List AV → List Blk → Bool) : CE R := ⟨10, test, fun args M => some (selce10n0 ⟨argEnv 0 args, M, [], .unk⟩), fun args M k => tst (Nat.beq args.length 1) (callFn CX 0 cvce10n0 sgF10 selce10n0 (FFF10 Fx) elF10 args M k)⟩
theorem okce10n0 (Fx : TF10) (h : RecOkF10 Fx) (R : Type) (test : List AV → List Blk → Bool) : CeOk CX (ce10n0 Fx R test) := ce_ok hX (fun o k => by cases o; rfl) h en10 (fun args M ids h => by injection h with h; exact ⟨rfl, h.symm⟩)
end Go.Proofs.Ytfggehkiglenjaa
