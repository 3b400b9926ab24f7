/-
  The functions of the code as typed functions, and that the code runs so. Printed by gen2.py.
  The functions of the code as typed functions, and that the code runs so. Printed by gen2.py.
  The functions of the code as typed functions, and that the code runs so. Printed by gen2.py.
  The functions of the code as typed functions, and that the code runs so. Printed by gen2.py.
  The functions of the code as typed functions, and that the code runs so. Printed by gen2.py.
  The functions of the code as typed functions, and that the code runs so. Printed by gen2.py.
  The functions of the code as typed functions, and that the code runs so. Printed by gen2.py.
  The functions of the code as typed functions, and that the code runs so. Printed by gen2.py.
  The functions of the code as typed functions, and that the code runs so. Printed by gen2.py.
  The functions of the code as typed functions, and that the code runs so. Printed by gen2.py.
  The functions of the code as typed functions, and that the code runs so. Printed by gen2.py.
  The functions of the code as typed functions, and that the code runs so. Printed by gen2.py.
  The functions of the code as typed functions, and that the code runs so. Printed by gen2.py.
  The functions of the code as typed functions, and that the code runs so. Printed by gen2.py.
  The functions of the code as typed functions, and that the code runs so. Printed by gen2.py.
  The functions of the code as typed functions, and that the code runs so. Printed by gen2.py.
  What is proved: called with no argument, ceilinglaw33.MasterKnown returns true, whatever the memory. No condition.
-/
import Derived.Test.YtfggehkiglenjaaK2
import Derived.KernelRfl
import Derived.Test.YtfggehkiglenjaaRows
import Derived.WalkKit
import Derived.ProofKit
import Derived.OpenShut
set_option linter.all false
set_option linter.deprecated false
namespace Go.Proofs.Ytfggehkiglenjaa
open Go Go.Eng
set_option maxRecDepth 100000

/-! ### F16: ceiling/master.May -/
inductive R16 where
  | r (x0 : Bool)
abbrev TF16 := List Row → Option R16
def sgF16 : LSh := ⟨[(0, .one (.cell (.slice 30)))], []⟩
def FFF16 (Fx : TF16) (s : St) : Option R16 := Fx ((Eng.look s.env 0).rows)
def valF16 (o : R16) : AV := match o with | .r x0 => .bool x0
def memF16 (o : R16) : List Blk := match o with | .r x0 => []
def elF16 {R : Type} (o : R16) (k : AV → List Blk → Option R) : Option R := match o with | .r x0 => k (.bool x0) []
def RecOkF16 (Fx : TF16) : Prop := ∀ lk M o, FFF16 Fx (canS sgF16 lk M) = some o → FCalls CX 16 0 (argsE 1 (canS sgF16 lk M).env) (canS sgF16 lk M).mem (valF16 o) (memF16 o)
noncomputable def csF16 (N : Nat) (R : Type) : List (CE R) := []
theorem hcsF16 (N : Nat) (R : Type) : AllE (CeOk CX) (csF16 N R) := trivial
inductive OJ16a7474 where
  | nx (x5 : Bool) (b0c0 : Bool) (b0c1 : Bool) (b0c2 : Bool) (b0c3 : Bool) (b0c4 : Bool) (b0c5 : Int) (b0c6 : Int) (b0c7 : Int)
def J16a7474 (N : Nat) : Bool → Bool → Bool → Bool → Bool → Int → Int → Int → Option OJ16a7474 := fun b0c0 b0c1 b0c2 b0c3 b0c4 b0c5 b0c6 b0c7 =>
    match b0c0 with
    | true =>
      some (.nx (!b0c1) b0c0 b0c1 b0c2 b0c3 b0c4 b0c5 b0c6 b0c7)
    | false =>
      some (.nx false b0c0 b0c1 b0c2 b0c3 b0c4 b0c5 b0c6 b0c7)
def LFJ16a7474 (N : Nat) (s : St) : Option OJ16a7474 := J16a7474 N (((s.mem.getD 0 .dead).cells.getD 0 .top).toB) (((s.mem.getD 0 .dead).cells.getD 1 .top).toB) (((s.mem.getD 0 .dead).cells.getD 2 .top).toB) (((s.mem.getD 0 .dead).cells.getD 3 .top).toB) (((s.mem.getD 0 .dead).cells.getD 4 .top).toB) (((s.mem.getD 0 .dead).cells.getD 5 .top).toI) (((s.mem.getD 0 .dead).cells.getD 6 .top).toI) (((s.mem.getD 0 .dead).cells.getD 7 .top).toI)
def sgJ16a7474 : LSh := ⟨[(4, .one (.ptr 0 0 0))], [.var [.bool, .bool, .bool, .bool, .bool, .int .i64, .int .i64, .int .i64] [.cell (.bool), .cell (.bool), .cell (.bool), .cell (.bool), .cell (.bool), .cell (.int .i64), .cell (.int .i64), .cell (.int .i64)]]⟩
def ceJ16a7474 : List Cv := []
def seJ16a7474 : St → List Nat := fun st => [(Eng.look st.env 4).id]
def xJ16a7474wnx : XSh OJ16a7474 := ⟨[], ⟨[(5, .one (.cell (.bool)))], [.var [.bool, .bool, .bool, .bool, .bool, .int .i64, .int .i64, .int .i64] [.cell (.bool), .cell (.bool), .cell (.bool), .cell (.bool), .cell (.bool), .cell (.int .i64), .cell (.int .i64), .cell (.int .i64)]]⟩, fun st => [0], fun s => .nx ((Eng.look s.env 5).toB) (((s.mem.getD 0 .dead).cells.getD 0 .top).toB) (((s.mem.getD 0 .dead).cells.getD 1 .top).toB) (((s.mem.getD 0 .dead).cells.getD 2 .top).toB) (((s.mem.getD 0 .dead).cells.getD 3 .top).toB) (((s.mem.getD 0 .dead).cells.getD 4 .top).toB) (((s.mem.getD 0 .dead).cells.getD 5 .top).toI) (((s.mem.getD 0 .dead).cells.getD 6 .top).toI) (((s.mem.getD 0 .dead).cells.getD 7 .top).toI)⟩
def xsJ16a7474 : Ex → St → Option (XSh OJ16a7474) := fun e st => match e with
  | .normal => some xJ16a7474wnx
  | _ => none
def exJ16a7474 (o : OJ16a7474) : Ex := match o with | .nx x5 b0c0 b0c1 b0c2 b0c3 b0c4 b0c5 b0c6 b0c7 => .normal
def stJ16a7474 (o : OJ16a7474) : St := match o with | .nx x5 b0c0 b0c1 b0c2 b0c3 b0c4 b0c5 b0c6 b0c7 => ⟨[(5, .bool x5)], [.var [.bool, .bool, .bool, .bool, .bool, .int .i64, .int .i64, .int .i64] [.bool b0c0, .bool b0c1, .bool b0c2, .bool b0c3, .bool b0c4, .int .i64 b0c5, .int .i64 b0c6, .int .i64 b0c7]], [], .unk⟩
def elJ16a7474 {R : Type} (o : OJ16a7474) (k : Ex → St → Option R) : Option R := match o with | .nx x5 b0c0 b0c1 b0c2 b0c3 b0c4 b0c5 b0c6 b0c7 => k .normal ⟨[(5, .bool x5)], [.var [.bool, .bool, .bool, .bool, .bool, .int .i64, .int .i64, .int .i64] [.bool b0c0, .bool b0c1, .bool b0c2, .bool b0c3, .bool b0c4, .int .i64 b0c5, .int .i64 b0c6, .int .i64 b0c7]], [], .unk⟩
theorem heJ16a7474 {R : Type} (o : OJ16a7474) (k : Ex → St → Option R) : elJ16a7474 o k = k (exJ16a7474 o) (stJ16a7474 o) := by cases o <;> rfl
theorem hxJ16a7474 : ∀ e st x, xsJ16a7474 e st = some x → outOk x e exJ16a7474 stJ16a7474 := by
  intro e st x h
  unfold xsJ16a7474 at h
  repeat' split at h
  all_goals first
    | (injection h with h; subst h; exact fun lk M => ⟨rfl, rfl⟩)
    | cases h
noncomputable def T16uc7474 (N : Nat) (R : Type) : LTab R := mkTab ⟨116, 8323104⟩ (csF16 N R) (noY) [] [] []
theorem okT16uc7474 (N : Nat) (R : Type) : (T16uc7474 N R).Ok CX code16 := mkTab_ok (hcsF16 N R) (noY_ok) (trivial) (trivial) (trivial)
noncomputable def bdJ16a7474 : Code := (codeAt code16 [false, true, false, false, true, true, false, false, true, false, true, true]).getD .skip
theorem hsJ16a7474 (N : Nat) : ∀ (lk : Nat → AV) (M : List Blk), LFJ16a7474 N (canS sgJ16a7474 lk M) = evk CX (T16uc7474 N OJ16a7474) bdJ16a7474 7474 (canS sgJ16a7474 lk M) (kontX CX 1 xsJ16a7474) := by intro lk M; kernel_rfl
inductive OJ16a29900 where
  | nx (x23 : Bool) (b0c0 : Bool) (b0c1 : Bool) (b0c2 : Bool) (b0c3 : Bool) (b0c4 : Bool) (b0c5 : Int) (b0c6 : Int) (b0c7 : Int)
def J16a29900 (N : Nat) : Int → Bool → Bool → Bool → Bool → Bool → Int → Int → Int → Option OJ16a29900 := fun x3 b0c0 b0c1 b0c2 b0c3 b0c4 b0c5 b0c6 b0c7 =>
    match x3 == (0 : Int) with
    | true =>
      match b0c5 != (-1 : Int) with
      | true =>
        some (.nx true b0c0 b0c1 b0c2 b0c3 b0c4 b0c5 b0c6 b0c7)
      | false =>
        some (.nx (b0c6 != (-1 : Int)) b0c0 b0c1 b0c2 b0c3 b0c4 b0c5 b0c6 b0c7)
    | false =>
      some (.nx false b0c0 b0c1 b0c2 b0c3 b0c4 b0c5 b0c6 b0c7)
def LFJ16a29900 (N : Nat) (s : St) : Option OJ16a29900 := J16a29900 N ((Eng.look s.env 3).toI) (((s.mem.getD 0 .dead).cells.getD 0 .top).toB) (((s.mem.getD 0 .dead).cells.getD 1 .top).toB) (((s.mem.getD 0 .dead).cells.getD 2 .top).toB) (((s.mem.getD 0 .dead).cells.getD 3 .top).toB) (((s.mem.getD 0 .dead).cells.getD 4 .top).toB) (((s.mem.getD 0 .dead).cells.getD 5 .top).toI) (((s.mem.getD 0 .dead).cells.getD 6 .top).toI) (((s.mem.getD 0 .dead).cells.getD 7 .top).toI)
def sgJ16a29900 : LSh := ⟨[(3, .one (.cell (.int .i64))), (4, .one (.ptr 0 0 0))], [.var [.bool, .bool, .bool, .bool, .bool, .int .i64, .int .i64, .int .i64] [.cell (.bool), .cell (.bool), .cell (.bool), .cell (.bool), .cell (.bool), .cell (.int .i64), .cell (.int .i64), .cell (.int .i64)]]⟩
def ceJ16a29900 : List Cv := []
def seJ16a29900 : St → List Nat := fun st => [(Eng.look st.env 4).id]
def xJ16a29900wnx : XSh OJ16a29900 := ⟨[], ⟨[(23, .one (.cell (.bool)))], [.var [.bool, .bool, .bool, .bool, .bool, .int .i64, .int .i64, .int .i64] [.cell (.bool), .cell (.bool), .cell (.bool), .cell (.bool), .cell (.bool), .cell (.int .i64), .cell (.int .i64), .cell (.int .i64)]]⟩, fun st => [0], fun s => .nx ((Eng.look s.env 23).toB) (((s.mem.getD 0 .dead).cells.getD 0 .top).toB) (((s.mem.getD 0 .dead).cells.getD 1 .top).toB) (((s.mem.getD 0 .dead).cells.getD 2 .top).toB) (((s.mem.getD 0 .dead).cells.getD 3 .top).toB) (((s.mem.getD 0 .dead).cells.getD 4 .top).toB) (((s.mem.getD 0 .dead).cells.getD 5 .top).toI) (((s.mem.getD 0 .dead).cells.getD 6 .top).toI) (((s.mem.getD 0 .dead).cells.getD 7 .top).toI)⟩
def xsJ16a29900 : Ex → St → Option (XSh OJ16a29900) := fun e st => match e with
  | .normal => some xJ16a29900wnx
  | _ => none
def exJ16a29900 (o : OJ16a29900) : Ex := match o with | .nx x23 b0c0 b0c1 b0c2 b0c3 b0c4 b0c5 b0c6 b0c7 => .normal
def stJ16a29900 (o : OJ16a29900) : St := match o with | .nx x23 b0c0 b0c1 b0c2 b0c3 b0c4 b0c5 b0c6 b0c7 => ⟨[(23, .bool x23)], [.var [.bool, .bool, .bool, .bool, .bool, .int .i64, .int .i64, .int .i64] [.bool b0c0, .bool b0c1, .bool b0c2, .bool b0c3, .bool b0c4, .int .i64 b0c5, .int .i64 b0c6, .int .i64 b0c7]], [], .unk⟩
def elJ16a29900 {R : Type} (o : OJ16a29900) (k : Ex → St → Option R) : Option R := match o with | .nx x23 b0c0 b0c1 b0c2 b0c3 b0c4 b0c5 b0c6 b0c7 => k .normal ⟨[(23, .bool x23)], [.var [.bool, .bool, .bool, .bool, .bool, .int .i64, .int .i64, .int .i64] [.bool b0c0, .bool b0c1, .bool b0c2, .bool b0c3, .bool b0c4, .int .i64 b0c5, .int .i64 b0c6, .int .i64 b0c7]], [], .unk⟩
theorem heJ16a29900 {R : Type} (o : OJ16a29900) (k : Ex → St → Option R) : elJ16a29900 o k = k (exJ16a29900 o) (stJ16a29900 o) := by cases o <;> rfl
theorem hxJ16a29900 : ∀ e st x, xsJ16a29900 e st = some x → outOk x e exJ16a29900 stJ16a29900 := by
  intro e st x h
  unfold xsJ16a29900 at h
  repeat' split at h
  all_goals first
    | (injection h with h; subst h; exact fun lk M => ⟨rfl, rfl⟩)
    | cases h
noncomputable def T16uc29900 (N : Nat) (R : Type) : LTab R := mkTab ⟨116, 68711088128⟩ (csF16 N R) (noY) [] [] []
theorem okT16uc29900 (N : Nat) (R : Type) : (T16uc29900 N R).Ok CX code16 := mkTab_ok (hcsF16 N R) (noY_ok) (trivial) (trivial) (trivial)
noncomputable def bdJ16a29900 : Code := (codeAt code16 [false, false, true, true, false, false, true, true, false, false, true, false, true, true]).getD .skip
theorem hsJ16a29900 (N : Nat) : ∀ (lk : Nat → AV) (M : List Blk), LFJ16a29900 N (canS sgJ16a29900 lk M) = evk CX (T16uc29900 N OJ16a29900) bdJ16a29900 29900 (canS sgJ16a29900 lk M) (kontX CX 1 xsJ16a29900) := by intro lk M; kernel_rfl
inductive OJ16a119606 where
  | nx (x36 : Bool) (b0c0 : Bool) (b0c1 : Bool) (b0c2 : Bool) (b0c3 : Bool) (b0c4 : Bool) (b0c5 : Int) (b0c6 : Int) (b0c7 : Int)
def J16a119606 (N : Nat) : Int → Bool → Bool → Bool → Bool → Bool → Int → Int → Int → Option OJ16a119606 := fun x3 b0c0 b0c1 b0c2 b0c3 b0c4 b0c5 b0c6 b0c7 =>
    match decide ((0 : Int) < x3) with
    | true =>
      match decide (b0c5 < (0 : Int)) with
      | true =>
        some (.nx true b0c0 b0c1 b0c2 b0c3 b0c4 b0c5 b0c6 b0c7)
      | false =>
        match decide (x3 ≤ b0c5) with
        | true =>
          some (.nx true b0c0 b0c1 b0c2 b0c3 b0c4 b0c5 b0c6 b0c7)
        | false =>
          some (.nx (decide (b0c6 < (0 : Int))) b0c0 b0c1 b0c2 b0c3 b0c4 b0c5 b0c6 b0c7)
    | false =>
      some (.nx false b0c0 b0c1 b0c2 b0c3 b0c4 b0c5 b0c6 b0c7)
def LFJ16a119606 (N : Nat) (s : St) : Option OJ16a119606 := J16a119606 N ((Eng.look s.env 3).toI) (((s.mem.getD 0 .dead).cells.getD 0 .top).toB) (((s.mem.getD 0 .dead).cells.getD 1 .top).toB) (((s.mem.getD 0 .dead).cells.getD 2 .top).toB) (((s.mem.getD 0 .dead).cells.getD 3 .top).toB) (((s.mem.getD 0 .dead).cells.getD 4 .top).toB) (((s.mem.getD 0 .dead).cells.getD 5 .top).toI) (((s.mem.getD 0 .dead).cells.getD 6 .top).toI) (((s.mem.getD 0 .dead).cells.getD 7 .top).toI)
def sgJ16a119606 : LSh := ⟨[(3, .one (.cell (.int .i64))), (4, .one (.ptr 0 0 0))], [.var [.bool, .bool, .bool, .bool, .bool, .int .i64, .int .i64, .int .i64] [.cell (.bool), .cell (.bool), .cell (.bool), .cell (.bool), .cell (.bool), .cell (.int .i64), .cell (.int .i64), .cell (.int .i64)]]⟩
def ceJ16a119606 : List Cv := []
def seJ16a119606 : St → List Nat := fun st => [(Eng.look st.env 4).id]
def xJ16a119606wnx : XSh OJ16a119606 := ⟨[], ⟨[(36, .one (.cell (.bool)))], [.var [.bool, .bool, .bool, .bool, .bool, .int .i64, .int .i64, .int .i64] [.cell (.bool), .cell (.bool), .cell (.bool), .cell (.bool), .cell (.bool), .cell (.int .i64), .cell (.int .i64), .cell (.int .i64)]]⟩, fun st => [0], fun s => .nx ((Eng.look s.env 36).toB) (((s.mem.getD 0 .dead).cells.getD 0 .top).toB) (((s.mem.getD 0 .dead).cells.getD 1 .top).toB) (((s.mem.getD 0 .dead).cells.getD 2 .top).toB) (((s.mem.getD 0 .dead).cells.getD 3 .top).toB) (((s.mem.getD 0 .dead).cells.getD 4 .top).toB) (((s.mem.getD 0 .dead).cells.getD 5 .top).toI) (((s.mem.getD 0 .dead).cells.getD 6 .top).toI) (((s.mem.getD 0 .dead).cells.getD 7 .top).toI)⟩
def xsJ16a119606 : Ex → St → Option (XSh OJ16a119606) := fun e st => match e with
  | .normal => some xJ16a119606wnx
  | _ => none
def exJ16a119606 (o : OJ16a119606) : Ex := match o with | .nx x36 b0c0 b0c1 b0c2 b0c3 b0c4 b0c5 b0c6 b0c7 => .normal
def stJ16a119606 (o : OJ16a119606) : St := match o with | .nx x36 b0c0 b0c1 b0c2 b0c3 b0c4 b0c5 b0c6 b0c7 => ⟨[(36, .bool x36)], [.var [.bool, .bool, .bool, .bool, .bool, .int .i64, .int .i64, .int .i64] [.bool b0c0, .bool b0c1, .bool b0c2, .bool b0c3, .bool b0c4, .int .i64 b0c5, .int .i64 b0c6, .int .i64 b0c7]], [], .unk⟩
def elJ16a119606 {R : Type} (o : OJ16a119606) (k : Ex → St → Option R) : Option R := match o with | .nx x36 b0c0 b0c1 b0c2 b0c3 b0c4 b0c5 b0c6 b0c7 => k .normal ⟨[(36, .bool x36)], [.var [.bool, .bool, .bool, .bool, .bool, .int .i64, .int .i64, .int .i64] [.bool b0c0, .bool b0c1, .bool b0c2, .bool b0c3, .bool b0c4, .int .i64 b0c5, .int .i64 b0c6, .int .i64 b0c7]], [], .unk⟩
theorem heJ16a119606 {R : Type} (o : OJ16a119606) (k : Ex → St → Option R) : elJ16a119606 o k = k (exJ16a119606 o) (stJ16a119606 o) := by cases o <;> rfl
theorem hxJ16a119606 : ∀ e st x, xsJ16a119606 e st = some x → outOk x e exJ16a119606 stJ16a119606 := by
  intro e st x h
  unfold xsJ16a119606 at h
  repeat' split at h
  all_goals first
    | (injection h with h; subst h; exact fun lk M => ⟨rfl, rfl⟩)
    | cases h
noncomputable def T16uc119606 (N : Nat) (R : Type) : LTab R := mkTab ⟨116, 36028728299487232⟩ (csF16 N R) (noY) [] [] []
theorem okT16uc119606 (N : Nat) (R : Type) : (T16uc119606 N R).Ok CX code16 := mkTab_ok (hcsF16 N R) (noY_ok) (trivial) (trivial) (trivial)
noncomputable def bdJ16a119606 : Code := (codeAt code16 [false, true, true, false, true, true, false, false, true, true, false, false, true, false, true, true]).getD .skip
theorem hsJ16a119606 (N : Nat) : ∀ (lk : Nat → AV) (M : List Blk), LFJ16a119606 N (canS sgJ16a119606 lk M) = evk CX (T16uc119606 N OJ16a119606) bdJ16a119606 119606 (canS sgJ16a119606 lk M) (kontX CX 1 xsJ16a119606) := by intro lk M; kernel_rfl
inductive OJ16a956860 where
  | nx (x55 : Bool) (b0c0 : Bool) (b0c1 : Bool) (b0c2 : Bool) (b0c3 : Bool) (b0c4 : Bool) (b0c5 : Int) (b0c6 : Int) (b0c7 : Int)
def J16a956860 (N : Nat) : Bool → Bool → Bool → Bool → Bool → Int → Int → Int → Option OJ16a956860 := fun b0c0 b0c1 b0c2 b0c3 b0c4 b0c5 b0c6 b0c7 =>
    match !b0c0 with
    | true =>
      match b0c1 with
      | true =>
        some (.nx true b0c0 b0c1 b0c2 b0c3 b0c4 b0c5 b0c6 b0c7)
      | false =>
        some (.nx b0c2 b0c0 b0c1 b0c2 b0c3 b0c4 b0c5 b0c6 b0c7)
    | false =>
      some (.nx false b0c0 b0c1 b0c2 b0c3 b0c4 b0c5 b0c6 b0c7)
def LFJ16a956860 (N : Nat) (s : St) : Option OJ16a956860 := J16a956860 N (((s.mem.getD 0 .dead).cells.getD 0 .top).toB) (((s.mem.getD 0 .dead).cells.getD 1 .top).toB) (((s.mem.getD 0 .dead).cells.getD 2 .top).toB) (((s.mem.getD 0 .dead).cells.getD 3 .top).toB) (((s.mem.getD 0 .dead).cells.getD 4 .top).toB) (((s.mem.getD 0 .dead).cells.getD 5 .top).toI) (((s.mem.getD 0 .dead).cells.getD 6 .top).toI) (((s.mem.getD 0 .dead).cells.getD 7 .top).toI)
def sgJ16a956860 : LSh := ⟨[(4, .one (.ptr 0 0 0))], [.var [.bool, .bool, .bool, .bool, .bool, .int .i64, .int .i64, .int .i64] [.cell (.bool), .cell (.bool), .cell (.bool), .cell (.bool), .cell (.bool), .cell (.int .i64), .cell (.int .i64), .cell (.int .i64)]]⟩
def ceJ16a956860 : List Cv := []
def seJ16a956860 : St → List Nat := fun st => [(Eng.look st.env 4).id]
def xJ16a956860wnx : XSh OJ16a956860 := ⟨[], ⟨[(55, .one (.cell (.bool)))], [.var [.bool, .bool, .bool, .bool, .bool, .int .i64, .int .i64, .int .i64] [.cell (.bool), .cell (.bool), .cell (.bool), .cell (.bool), .cell (.bool), .cell (.int .i64), .cell (.int .i64), .cell (.int .i64)]]⟩, fun st => [0], fun s => .nx ((Eng.look s.env 55).toB) (((s.mem.getD 0 .dead).cells.getD 0 .top).toB) (((s.mem.getD 0 .dead).cells.getD 1 .top).toB) (((s.mem.getD 0 .dead).cells.getD 2 .top).toB) (((s.mem.getD 0 .dead).cells.getD 3 .top).toB) (((s.mem.getD 0 .dead).cells.getD 4 .top).toB) (((s.mem.getD 0 .dead).cells.getD 5 .top).toI) (((s.mem.getD 0 .dead).cells.getD 6 .top).toI) (((s.mem.getD 0 .dead).cells.getD 7 .top).toI)⟩
def xsJ16a956860 : Ex → St → Option (XSh OJ16a956860) := fun e st => match e with
  | .normal => some xJ16a956860wnx
  | _ => none
def exJ16a956860 (o : OJ16a956860) : Ex := match o with | .nx x55 b0c0 b0c1 b0c2 b0c3 b0c4 b0c5 b0c6 b0c7 => .normal
def stJ16a956860 (o : OJ16a956860) : St := match o with | .nx x55 b0c0 b0c1 b0c2 b0c3 b0c4 b0c5 b0c6 b0c7 => ⟨[(55, .bool x55)], [.var [.bool, .bool, .bool, .bool, .bool, .int .i64, .int .i64, .int .i64] [.bool b0c0, .bool b0c1, .bool b0c2, .bool b0c3, .bool b0c4, .int .i64 b0c5, .int .i64 b0c6, .int .i64 b0c7]], [], .unk⟩
def elJ16a956860 {R : Type} (o : OJ16a956860) (k : Ex → St → Option R) : Option R := match o with | .nx x55 b0c0 b0c1 b0c2 b0c3 b0c4 b0c5 b0c6 b0c7 => k .normal ⟨[(55, .bool x55)], [.var [.bool, .bool, .bool, .bool, .bool, .int .i64, .int .i64, .int .i64] [.bool b0c0, .bool b0c1, .bool b0c2, .bool b0c3, .bool b0c4, .int .i64 b0c5, .int .i64 b0c6, .int .i64 b0c7]], [], .unk⟩
theorem heJ16a956860 {R : Type} (o : OJ16a956860) (k : Ex → St → Option R) : elJ16a956860 o k = k (exJ16a956860 o) (stJ16a956860 o) := by cases o <;> rfl
theorem hxJ16a956860 : ∀ e st x, xsJ16a956860 e st = some x → outOk x e exJ16a956860 stJ16a956860 := by
  intro e st x h
  unfold xsJ16a956860 at h
  repeat' split at h
  all_goals first
    | (injection h with h; subst h; exact fun lk M => ⟨rfl, rfl⟩)
    | cases h
noncomputable def T16uc956860 (N : Nat) (R : Type) : LTab R := mkTab ⟨116, 147537923792657448960⟩ (csF16 N R) (noY) [] [] []
theorem okT16uc956860 (N : Nat) (R : Type) : (T16uc956860 N R).Ok CX code16 := mkTab_ok (hcsF16 N R) (noY_ok) (trivial) (trivial) (trivial)
noncomputable def bdJ16a956860 : Code := (codeAt code16 [false, false, true, true, true, true, false, true, true, false, false, true, true, false, false, true, false, true, true]).getD .skip
theorem hsJ16a956860 (N : Nat) : ∀ (lk : Nat → AV) (M : List Blk), LFJ16a956860 N (canS sgJ16a956860 lk M) = evk CX (T16uc956860 N OJ16a956860) bdJ16a956860 956860 (canS sgJ16a956860 lk M) (kontX CX 1 xsJ16a956860) := by intro lk M; kernel_rfl
inductive OJ16a3827446 where
  | nx (x55 : Bool) (b0c0 : Bool) (b0c1 : Bool) (b0c2 : Bool) (b0c3 : Bool) (b0c4 : Bool) (b0c5 : Int) (b0c6 : Int) (b0c7 : Int)
def J16a3827446 (N : Nat) : Bool → Bool → Bool → Bool → Bool → Bool → Int → Int → Int → Option OJ16a3827446 := fun x5 b0c0 b0c1 b0c2 b0c3 b0c4 b0c5 b0c6 b0c7 =>
    match !x5 with
    | true =>
      match b0c3 with
      | true =>
        some (.nx true b0c0 b0c1 b0c2 b0c3 b0c4 b0c5 b0c6 b0c7)
      | false =>
        match b0c4 with
        | true =>
          some (.nx true b0c0 b0c1 b0c2 b0c3 b0c4 b0c5 b0c6 b0c7)
        | false =>
          some (.nx (b0c7 != (-1 : Int)) b0c0 b0c1 b0c2 b0c3 b0c4 b0c5 b0c6 b0c7)
    | false =>
      some (.nx false b0c0 b0c1 b0c2 b0c3 b0c4 b0c5 b0c6 b0c7)
def LFJ16a3827446 (N : Nat) (s : St) : Option OJ16a3827446 := J16a3827446 N ((Eng.look s.env 5).toB) (((s.mem.getD 0 .dead).cells.getD 0 .top).toB) (((s.mem.getD 0 .dead).cells.getD 1 .top).toB) (((s.mem.getD 0 .dead).cells.getD 2 .top).toB) (((s.mem.getD 0 .dead).cells.getD 3 .top).toB) (((s.mem.getD 0 .dead).cells.getD 4 .top).toB) (((s.mem.getD 0 .dead).cells.getD 5 .top).toI) (((s.mem.getD 0 .dead).cells.getD 6 .top).toI) (((s.mem.getD 0 .dead).cells.getD 7 .top).toI)
def sgJ16a3827446 : LSh := ⟨[(4, .one (.ptr 0 0 0)), (5, .one (.cell (.bool)))], [.var [.bool, .bool, .bool, .bool, .bool, .int .i64, .int .i64, .int .i64] [.cell (.bool), .cell (.bool), .cell (.bool), .cell (.bool), .cell (.bool), .cell (.int .i64), .cell (.int .i64), .cell (.int .i64)]]⟩
def ceJ16a3827446 : List Cv := []
def seJ16a3827446 : St → List Nat := fun st => [(Eng.look st.env 4).id]
def xJ16a3827446wnx : XSh OJ16a3827446 := ⟨[], ⟨[(55, .one (.cell (.bool)))], [.var [.bool, .bool, .bool, .bool, .bool, .int .i64, .int .i64, .int .i64] [.cell (.bool), .cell (.bool), .cell (.bool), .cell (.bool), .cell (.bool), .cell (.int .i64), .cell (.int .i64), .cell (.int .i64)]]⟩, fun st => [0], fun s => .nx ((Eng.look s.env 55).toB) (((s.mem.getD 0 .dead).cells.getD 0 .top).toB) (((s.mem.getD 0 .dead).cells.getD 1 .top).toB) (((s.mem.getD 0 .dead).cells.getD 2 .top).toB) (((s.mem.getD 0 .dead).cells.getD 3 .top).toB) (((s.mem.getD 0 .dead).cells.getD 4 .top).toB) (((s.mem.getD 0 .dead).cells.getD 5 .top).toI) (((s.mem.getD 0 .dead).cells.getD 6 .top).toI) (((s.mem.getD 0 .dead).cells.getD 7 .top).toI)⟩
def xsJ16a3827446 : Ex → St → Option (XSh OJ16a3827446) := fun e st => match e with
  | .normal => some xJ16a3827446wnx
  | _ => none
def exJ16a3827446 (o : OJ16a3827446) : Ex := match o with | .nx x55 b0c0 b0c1 b0c2 b0c3 b0c4 b0c5 b0c6 b0c7 => .normal
def stJ16a3827446 (o : OJ16a3827446) : St := match o with | .nx x55 b0c0 b0c1 b0c2 b0c3 b0c4 b0c5 b0c6 b0c7 => ⟨[(55, .bool x55)], [.var [.bool, .bool, .bool, .bool, .bool, .int .i64, .int .i64, .int .i64] [.bool b0c0, .bool b0c1, .bool b0c2, .bool b0c3, .bool b0c4, .int .i64 b0c5, .int .i64 b0c6, .int .i64 b0c7]], [], .unk⟩
def elJ16a3827446 {R : Type} (o : OJ16a3827446) (k : Ex → St → Option R) : Option R := match o with | .nx x55 b0c0 b0c1 b0c2 b0c3 b0c4 b0c5 b0c6 b0c7 => k .normal ⟨[(55, .bool x55)], [.var [.bool, .bool, .bool, .bool, .bool, .int .i64, .int .i64, .int .i64] [.bool b0c0, .bool b0c1, .bool b0c2, .bool b0c3, .bool b0c4, .int .i64 b0c5, .int .i64 b0c6, .int .i64 b0c7]], [], .unk⟩
theorem heJ16a3827446 {R : Type} (o : OJ16a3827446) (k : Ex → St → Option R) : elJ16a3827446 o k = k (exJ16a3827446 o) (stJ16a3827446 o) := by cases o <;> rfl
theorem hxJ16a3827446 : ∀ e st x, xsJ16a3827446 e st = some x → outOk x e exJ16a3827446 stJ16a3827446 := by
  intro e st x h
  unfold xsJ16a3827446 at h
  repeat' split at h
  all_goals first
    | (injection h with h; subst h; exact fun lk M => ⟨rfl, rfl⟩)
    | cases h
noncomputable def T16uc3827446 (N : Nat) (R : Type) : LTab R := mkTab ⟨116, 4835555740534724041375744⟩ (csF16 N R) (noY) [] [] []
theorem okT16uc3827446 (N : Nat) (R : Type) : (T16uc3827446 N R).Ok CX code16 := mkTab_ok (hcsF16 N R) (noY_ok) (trivial) (trivial) (trivial)
noncomputable def bdJ16a3827446 : Code := (codeAt code16 [false, true, true, false, true, true, true, true, false, true, true, false, false, true, true, false, false, true, false, true, true]).getD .skip
theorem hsJ16a3827446 (N : Nat) : ∀ (lk : Nat → AV) (M : List Blk), LFJ16a3827446 N (canS sgJ16a3827446 lk M) = evk CX (T16uc3827446 N OJ16a3827446) bdJ16a3827446 3827446 (canS sgJ16a3827446 lk M) (kontX CX 1 xsJ16a3827446) := by intro lk M; kernel_rfl
inductive OJ16a478430 where
  | nx (x55 : Bool) (b0c0 : Bool) (b0c1 : Bool) (b0c2 : Bool) (b0c3 : Bool) (b0c4 : Bool) (b0c5 : Int) (b0c6 : Int) (b0c7 : Int)
def J16a478430 (N : Nat) : Bool → Bool → Bool → Bool → Bool → Bool → Int → Int → Int → Option OJ16a478430 := fun x5 b0c0 b0c1 b0c2 b0c3 b0c4 b0c5 b0c6 b0c7 =>
    match J16a956860 N b0c0 b0c1 b0c2 b0c3 b0c4 b0c5 b0c6 b0c7 with
    | none => none
    | some (.nx x55v4 b0c0v4 b0c1v4 b0c2v4 b0c3v4 b0c4v4 b0c5v4 b0c6v4 b0c7v4) =>
      match x55v4 with
      | true =>
        some (.nx true b0c0v4 b0c1v4 b0c2v4 b0c3v4 b0c4v4 b0c5v4 b0c6v4 b0c7v4)
      | false =>
        match J16a3827446 N x5 b0c0v4 b0c1v4 b0c2v4 b0c3v4 b0c4v4 b0c5v4 b0c6v4 b0c7v4 with
        | none => none
        | some (.nx x55v5 b0c0v5 b0c1v5 b0c2v5 b0c3v5 b0c4v5 b0c5v5 b0c6v5 b0c7v5) =>
          match x55v5 with
          | true =>
            some (.nx true b0c0v5 b0c1v5 b0c2v5 b0c3v5 b0c4v5 b0c5v5 b0c6v5 b0c7v5)
          | false =>
            match decide (b0c7v5 < (-1 : Int)) with
            | true =>
              some (.nx true b0c0v5 b0c1v5 b0c2v5 b0c3v5 b0c4v5 b0c5v5 b0c6v5 b0c7v5)
            | false =>
              match b0c3v5 with
              | true =>
                some (.nx (b0c7v5 != (-1 : Int)) b0c0v5 b0c1v5 b0c2v5 b0c3v5 b0c4v5 b0c5v5 b0c6v5 b0c7v5)
              | false =>
                some (.nx false b0c0v5 b0c1v5 b0c2v5 b0c3v5 b0c4v5 b0c5v5 b0c6v5 b0c7v5)
def LFJ16a478430 (N : Nat) (s : St) : Option OJ16a478430 := J16a478430 N ((Eng.look s.env 5).toB) (((s.mem.getD 0 .dead).cells.getD 0 .top).toB) (((s.mem.getD 0 .dead).cells.getD 1 .top).toB) (((s.mem.getD 0 .dead).cells.getD 2 .top).toB) (((s.mem.getD 0 .dead).cells.getD 3 .top).toB) (((s.mem.getD 0 .dead).cells.getD 4 .top).toB) (((s.mem.getD 0 .dead).cells.getD 5 .top).toI) (((s.mem.getD 0 .dead).cells.getD 6 .top).toI) (((s.mem.getD 0 .dead).cells.getD 7 .top).toI)
def sgJ16a478430 : LSh := ⟨[(4, .one (.ptr 0 0 0)), (5, .one (.cell (.bool)))], [.var [.bool, .bool, .bool, .bool, .bool, .int .i64, .int .i64, .int .i64] [.cell (.bool), .cell (.bool), .cell (.bool), .cell (.bool), .cell (.bool), .cell (.int .i64), .cell (.int .i64), .cell (.int .i64)]]⟩
def ceJ16a478430 : List Cv := []
def seJ16a478430 : St → List Nat := fun st => [(Eng.look st.env 4).id]
def xJ16a478430wnx : XSh OJ16a478430 := ⟨[], ⟨[(55, .one (.cell (.bool)))], [.var [.bool, .bool, .bool, .bool, .bool, .int .i64, .int .i64, .int .i64] [.cell (.bool), .cell (.bool), .cell (.bool), .cell (.bool), .cell (.bool), .cell (.int .i64), .cell (.int .i64), .cell (.int .i64)]]⟩, fun st => [0], fun s => .nx ((Eng.look s.env 55).toB) (((s.mem.getD 0 .dead).cells.getD 0 .top).toB) (((s.mem.getD 0 .dead).cells.getD 1 .top).toB) (((s.mem.getD 0 .dead).cells.getD 2 .top).toB) (((s.mem.getD 0 .dead).cells.getD 3 .top).toB) (((s.mem.getD 0 .dead).cells.getD 4 .top).toB) (((s.mem.getD 0 .dead).cells.getD 5 .top).toI) (((s.mem.getD 0 .dead).cells.getD 6 .top).toI) (((s.mem.getD 0 .dead).cells.getD 7 .top).toI)⟩
def xsJ16a478430 : Ex → St → Option (XSh OJ16a478430) := fun e st => match e with
  | .normal => some xJ16a478430wnx
  | _ => none
def exJ16a478430 (o : OJ16a478430) : Ex := match o with | .nx x55 b0c0 b0c1 b0c2 b0c3 b0c4 b0c5 b0c6 b0c7 => .normal
def stJ16a478430 (o : OJ16a478430) : St := match o with | .nx x55 b0c0 b0c1 b0c2 b0c3 b0c4 b0c5 b0c6 b0c7 => ⟨[(55, .bool x55)], [.var [.bool, .bool, .bool, .bool, .bool, .int .i64, .int .i64, .int .i64] [.bool b0c0, .bool b0c1, .bool b0c2, .bool b0c3, .bool b0c4, .int .i64 b0c5, .int .i64 b0c6, .int .i64 b0c7]], [], .unk⟩
def elJ16a478430 {R : Type} (o : OJ16a478430) (k : Ex → St → Option R) : Option R := match o with | .nx x55 b0c0 b0c1 b0c2 b0c3 b0c4 b0c5 b0c6 b0c7 => k .normal ⟨[(55, .bool x55)], [.var [.bool, .bool, .bool, .bool, .bool, .int .i64, .int .i64, .int .i64] [.bool b0c0, .bool b0c1, .bool b0c2, .bool b0c3, .bool b0c4, .int .i64 b0c5, .int .i64 b0c6, .int .i64 b0c7]], [], .unk⟩
theorem heJ16a478430 {R : Type} (o : OJ16a478430) (k : Ex → St → Option R) : elJ16a478430 o k = k (exJ16a478430 o) (stJ16a478430 o) := by cases o <;> rfl
theorem hxJ16a478430 : ∀ e st x, xsJ16a478430 e st = some x → outOk x e exJ16a478430 stJ16a478430 := by
  intro e st x h
  unfold xsJ16a478430 at h
  repeat' split at h
  all_goals first
    | (injection h with h; subst h; exact fun lk M => ⟨rfl, rfl⟩)
    | cases h
noncomputable def T16uc478430 (N : Nat) (R : Type) : LTab R := mkTab ⟨116, 4951760157105492302577532928⟩ (csF16 N R) (noY) [] [] [(956860, fun st k => callLoop CX 1 147537923792657448960 ceJ16a956860 sgJ16a956860 seJ16a956860 ⟨116, 4951760157105492302577532928⟩ (LFJ16a956860 N) elJ16a956860 st k), (3827446, fun st k => callLoop CX 1 4835555740534724041375744 ceJ16a3827446 sgJ16a3827446 seJ16a3827446 ⟨116, 4951760157105492302577532928⟩ (LFJ16a3827446 N) elJ16a3827446 st k)]
theorem okT16uc478430 (N : Nat) (R : Type) : (T16uc478430 N R).Ok CX code16 := mkTab_ok (hcsF16 N R) (noY_ok) (trivial) (trivial) (⟨cut_ok hX (path := [false, false, true, true, true, true, false, true, true, false, false, true, true, false, false, true, false, true, true]) (by kernel_rfl) (by rfl) (okT16uc956860 N OJ16a956860) (hsJ16a956860 N) hxJ16a956860 rfl heJ16a956860, cut_ok hX (path := [false, true, true, false, true, true, true, true, false, true, true, false, false, true, true, false, false, true, false, true, true]) (by kernel_rfl) (by rfl) (okT16uc3827446 N OJ16a3827446) (hsJ16a3827446 N) hxJ16a3827446 rfl heJ16a3827446, trivial⟩)
noncomputable def bdJ16a478430 : Code := (codeAt code16 [false, true, true, true, true, false, true, true, false, false, true, true, false, false, true, false, true, true]).getD .skip
theorem hsJ16a478430 (N : Nat) : ∀ (lk : Nat → AV) (M : List Blk), LFJ16a478430 N (canS sgJ16a478430 lk M) = evk CX (T16uc478430 N OJ16a478430) bdJ16a478430 478430 (canS sgJ16a478430 lk M) (kontX CX 1 xsJ16a478430) := by intro lk M; kernel_rfl
inductive OL16a58 where
  | ret (x2 : Bool)
  | x0
def L16a58 (N : Nat) : Nat → List Row → List Row → Int → Int → Option OL16a58
  | 0 => fun _ _ _ _ => none
  | n + 1 => fun x0 x9 x10 x11 =>
    match decide (x11 < x10) with
    | true =>
      tst (decide ((0 : Int) ≤ x11) && decide (x11 < ((x9.length : Int)))) <|
      match J16a7474 N ((((x9.getD x11.toNat [])).getD 0 .top).toB) ((((x9.getD x11.toNat [])).getD 1 .top).toB) ((((x9.getD x11.toNat [])).getD 2 .top).toB) ((((x9.getD x11.toNat [])).getD 3 .top).toB) ((((x9.getD x11.toNat [])).getD 4 .top).toB) ((((x9.getD x11.toNat [])).getD 5 .top).toI) ((((x9.getD x11.toNat [])).getD 6 .top).toI) ((((x9.getD x11.toNat [])).getD 7 .top).toI) with
      | none => none
      | some (.nx x5v1 b0c0v1 b0c1v1 b0c2v1 b0c3v1 b0c4v1 b0c5v1 b0c6v1 b0c7v1) =>
        match J16a29900 N x11 b0c0v1 b0c1v1 b0c2v1 b0c3v1 b0c4v1 b0c5v1 b0c6v1 b0c7v1 with
        | none => none
        | some (.nx x23v2 b0c0v2 b0c1v2 b0c2v2 b0c3v2 b0c4v2 b0c5v2 b0c6v2 b0c7v2) =>
          match x23v2 with
          | true =>
            some (.ret false)
          | false =>
            match J16a119606 N x11 b0c0v2 b0c1v2 b0c2v2 b0c3v2 b0c4v2 b0c5v2 b0c6v2 b0c7v2 with
            | none => none
            | some (.nx x36v3 b0c0v3 b0c1v3 b0c2v3 b0c3v3 b0c4v3 b0c5v3 b0c6v3 b0c7v3) =>
              match x36v3 with
              | true =>
                some (.ret false)
              | false =>
                match J16a478430 N x5v1 b0c0v3 b0c1v3 b0c2v3 b0c3v3 b0c4v3 b0c5v3 b0c6v3 b0c7v3 with
                | none => none
                | some (.nx x55v6 b0c0v6 b0c1v6 b0c2v6 b0c3v6 b0c4v6 b0c5v6 b0c6v6 b0c7v6) =>
                  match x55v6 with
                  | true =>
                    some (.ret false)
                  | false =>
                    match decide ((0 : Int) < x11) with
                    | true =>
                      match x5v1 with
                      | true =>
                        tst (decide ((0 : Int) ≤ b0c5v6) && decide (b0c5v6 < ((x0.length : Int)))) <|
                        match !((((x0.getD b0c5v6.toNat [])).getD 0 .top).toB) with
                        | true =>
                          some (.ret false)
                        | false =>
                          tst (decide ((0 : Int) ≤ b0c5v6) && decide (b0c5v6 < ((x0.length : Int)))) <|
                          match (((x0.getD b0c5v6.toNat [])).getD 1 .top).toB with
                          | true =>
                            some (.ret false)
                          | false =>
                            L16a58 N n x0 x9 x10 (IntKind.wrap .i64 (x11 + (1 : Int)))
                      | false =>
                        L16a58 N n x0 x9 x10 (IntKind.wrap .i64 (x11 + (1 : Int)))
                    | false =>
                      L16a58 N n x0 x9 x10 (IntKind.wrap .i64 (x11 + (1 : Int)))
    | false =>
      some .x0
def LFL16a58 (N : Nat) (n : Nat) (s : St) : Option OL16a58 := L16a58 N n ((Eng.look s.env 0).rows) ((Eng.look s.env 9).rows) ((Eng.look s.env 10).toI) ((Eng.look s.env 11).toI)
def sgL16a58 : LSh := ⟨[(0, .one (.cell (.slice 30))), (9, .one (.cell (.slice 30))), (10, .one (.cell (.int .i64))), (11, .one (.cell (.int .i64)))], []⟩
def ceL16a58 : List Cv := []
def seL16a58 : St → List Nat := fun _ => []
def xL16a58wret : XSh OL16a58 := ⟨[], ⟨[(2, .one (.cell (.bool)))], []⟩, fun _ => [], fun s => .ret ((Eng.look s.env 2).toB)⟩
def xL16a58wx0 : XSh OL16a58 := ⟨[], ⟨[], []⟩, fun _ => [], fun s => .x0 ⟩
def xsL16a58 : Ex → St → Option (XSh OL16a58) := fun e st => match e with
  | .ret => some xL16a58wret
  | .exit 0 => some xL16a58wx0
  | _ => none
def exL16a58 (o : OL16a58) : Ex := match o with | .ret x2 => .ret | .x0 => (.exit 0)
def stL16a58 (o : OL16a58) : St := match o with | .ret x2 => ⟨[(2, .bool x2)], [], [], .unk⟩ | .x0 => ⟨[], [], [], .unk⟩
def elL16a58 {R : Type} (o : OL16a58) (k : Ex → St → Option R) : Option R := match o with | .ret x2 => k .ret ⟨[(2, .bool x2)], [], [], .unk⟩ | .x0 => k (.exit 0) ⟨[], [], [], .unk⟩
theorem heL16a58 {R : Type} (o : OL16a58) (k : Ex → St → Option R) : elL16a58 o k = k (exL16a58 o) (stL16a58 o) := by cases o <;> rfl
theorem hxL16a58 : ∀ e st x, xsL16a58 e st = some x → outOk x e exL16a58 stL16a58 := by
  intro e st x h
  unfold xsL16a58 at h
  repeat' split at h
  all_goals first
    | (injection h with h; subst h; exact fun lk M => ⟨rfl, rfl⟩)
    | cases h
noncomputable def T16ul58 (N : Nat) (R : Type) : LTab R := mkTab ⟨116, 83076749736557242056487941267519548⟩ (csF16 N R) (noY) [] [] [(7474, fun st k => callLoop CX 1 8323104 ceJ16a7474 sgJ16a7474 seJ16a7474 ⟨116, 83076749736557242056487941267519548⟩ (LFJ16a7474 N) elJ16a7474 st k), (29900, fun st k => callLoop CX 1 68711088128 ceJ16a29900 sgJ16a29900 seJ16a29900 ⟨116, 83076749736557242056487941267519548⟩ (LFJ16a29900 N) elJ16a29900 st k), (119606, fun st k => callLoop CX 1 36028728299487232 ceJ16a119606 sgJ16a119606 seJ16a119606 ⟨116, 83076749736557242056487941267519548⟩ (LFJ16a119606 N) elJ16a119606 st k), (478430, fun st k => callLoop CX 1 4951760157105492302577532928 ceJ16a478430 sgJ16a478430 seJ16a478430 ⟨116, 83076749736557242056487941267519548⟩ (LFJ16a478430 N) elJ16a478430 st k)]
theorem okT16ul58 (N : Nat) (R : Type) : (T16ul58 N R).Ok CX code16 := mkTab_ok (hcsF16 N R) (noY_ok) (trivial) (trivial) (⟨cut_ok hX (path := [false, true, false, false, true, true, false, false, true, false, true, true]) (by kernel_rfl) (by rfl) (okT16uc7474 N OJ16a7474) (hsJ16a7474 N) hxJ16a7474 rfl heJ16a7474, cut_ok hX (path := [false, false, true, true, false, false, true, true, false, false, true, false, true, true]) (by kernel_rfl) (by rfl) (okT16uc29900 N OJ16a29900) (hsJ16a29900 N) hxJ16a29900 rfl heJ16a29900, cut_ok hX (path := [false, true, true, false, true, true, false, false, true, true, false, false, true, false, true, true]) (by kernel_rfl) (by rfl) (okT16uc119606 N OJ16a119606) (hsJ16a119606 N) hxJ16a119606 rfl heJ16a119606, cut_ok hX (path := [false, true, true, true, true, false, true, true, false, false, true, true, false, false, true, false, true, true]) (by kernel_rfl) (by rfl) (okT16uc478430 N OJ16a478430) (hsJ16a478430 N) hxJ16a478430 rfl heJ16a478430, trivial⟩)
noncomputable def bdL16a58 : Code := match codeAt code16 [false, true, false, true, true] with | some (.loop c) => c | _ => .skip
theorem hsL16a58 (N : Nat) : ∀ (n : Nat) (lk : Nat → AV) (M : List Blk), LFL16a58 N (n + 1) (canS sgL16a58 lk M) = evk CX (T16ul58 N OL16a58) bdL16a58 (2 * 58) (canS sgL16a58 lk M) (kont CX 0 [] sgL16a58 (fun _ => []) xsL16a58 (LFL16a58 N n)) := by intro n lk M; kernel_rfl
noncomputable def T16ur1 (N : Nat) (R : Type) : LTab R := mkTab ⟨116, 83076749736557242056487941267521535⟩ (csF16 N R) (noY) [(58, fun st k => callLoop CX 0 83076749736557242056487941267519548 ceL16a58 sgL16a58 seL16a58 ⟨116, 83076749736557242056487941267521535⟩ (LFL16a58 N N) elL16a58 st k)] [] []
theorem okT16ur1 (N : Nat) (R : Type) : (T16ur1 N R).Ok CX code16 := mkTab_ok (hcsF16 N R) (noY_ok) (⟨loop_ok hX (path := [false, true, false, true, true]) (by kernel_rfl) (by rfl) (okT16ul58 N OL16a58) (fun _ _ => rfl) (hsL16a58 N) hxL16a58 rfl heL16a58, trivial⟩) (trivial) (trivial)
def rsF16 : List ResultVar := [.tmp 2]
def F16 : Nat → TF16
  | 0 => fun _ => none
  | N + 1 => fun x0 =>
    match decide ((32 : Int) < ((x0.length : Int))) with
    | true =>
      some (.r false)
    | false =>
      match L16a58 N N x0 x0 ((x0.length : Int)) 0 with
      | none => none
      | some (.ret x2v7) =>
        some (.r x2v7)
      | some (.x0) =>
        some (.r true)
def xRF16 : XSh R16 := ⟨[], ⟨[(0, .one (.cell (.bool)))], []⟩, fun _ => [], fun s => .r ((Eng.look s.env 0).toB)⟩
theorem fsF16 : ∀ (N : Nat) (lk : Nat → AV) (M : List Blk), FFF16 (F16 (N + 1)) (canS sgF16 lk M) = evfn CX (T16ur1 N R16) code16 rsF16 (argsE 1 (canS sgF16 lk M).env) (canS sgF16 lk M).mem (goR CX 0 (fun _ => some xRF16)) := by intro N lk M; kernel_rfl
theorem soundF16 : ∀ N, RecOkF16 (F16 N)
  | 0, lk, M, o, h => by cases h
  | N + 1, lk, M, o, h => fn_sound hX (okT16ur1 N R16) Try.func16 hb16 rfl en16 (by kernel_rfl) (ys := fun _ => some xRF16) (fun st y h => by injection h with h; subst h; exact fun lk M => ⟨rfl, rfl⟩) ((fsF16 N lk M).symm.trans h)
def cvce16n0 : List Cv := []
def selce16n0 : St → List Nat := fun _ => []
noncomputable def ce16n0 (Fx : TF16) (R : Type) (test : List AV → List Blk → Bool) : CE R := ⟨16, test, fun args M => some (selce16n0 ⟨argEnv 0 args, M, [], .unk⟩), fun args M k => tst (Nat.beq args.length 1) (callFn CX 0 cvce16n0 sgF16 selce16n0 (FFF16 Fx) elF16 args M k)⟩
theorem okce16n0 (Fx : TF16) (h : RecOkF16 Fx) (R : Type) (test : List AV → List Blk → Bool) : CeOk CX (ce16n0 Fx R test) := ce_ok hX (fun o k => by cases o; rfl) h en16 (fun args M ids h => by injection h with h; exact ⟨rfl, h.symm⟩)
def cvce16n1 : List Cv := [.frz 0 (.slice 30)]
def selce16n1 : St → List Nat := fun _ => []
noncomputable def ce16n1 (Fx : TF16) (R : Type) (test : List AV → List Blk → Bool) : CE R := ⟨16, test, fun _ _ => none, fun args M k => tst (Nat.beq args.length 1) (callFn CX 0 cvce16n1 sgF16 selce16n1 (FFF16 Fx) elF16 args M k)⟩
theorem okce16n1 (Fx : TF16) (h : RecOkF16 Fx) (R : Type) (test : List AV → List Blk → Bool) : CeOk CX (ce16n1 Fx R test) := ce_ok hX (fun o k => by cases o; rfl) h en16 (fun args M ids h => by cases h)
end Go.Proofs.Ytfggehkiglenjaa

namespace Go.Proofs.Ytfggehkiglenjaa
open Go Go.Eng
set_option maxRecDepth 100000

/-! ### F23: ceiling/master.owned -/
inductive R23 where
  | r (b0c0 : List Row) (b1c0 : Int) (b2c0 : Int)
abbrev TF23 := List Row → Int → Int → Option R23
def sgF23 : LSh := ⟨[(0, .one (.cell (.slice 30))), (1, .one (.cell (.int .i64))), (2, .one (.cell (.int .i64)))], []⟩
def FFF23 (Fx : TF23) (s : St) : Option R23 := Fx ((Eng.look s.env 0).rows) ((Eng.look s.env 1).toI) ((Eng.look s.env 2).toI)
def valF23 (o : R23) : AV := match o with | .r b0c0 b1c0 b2c0 => .clos 31 [] [.ptr 0 0 0, .ptr 1 0 0, .ptr 2 0 0]
def memF23 (o : R23) : List Blk := match o with | .r b0c0 b1c0 b2c0 => [.var [.any] [.list 30 b0c0], .var [.int .i64] [.int .i64 b1c0], .var [.int .i64] [.int .i64 b2c0]]
def elF23 {R : Type} (o : R23) (k : AV → List Blk → Option R) : Option R := match o with | .r b0c0 b1c0 b2c0 => k (.clos 31 [] [.ptr 0 0 0, .ptr 1 0 0, .ptr 2 0 0]) [.var [.any] [.list 30 b0c0], .var [.int .i64] [.int .i64 b1c0], .var [.int .i64] [.int .i64 b2c0]]
def RecOkF23 (Fx : TF23) : Prop := ∀ lk M o, FFF23 Fx (canS sgF23 lk M) = some o → FCalls CX 23 0 (argsE 3 (canS sgF23 lk M).env) (canS sgF23 lk M).mem (valF23 o) (memF23 o)
noncomputable def csF23 (N : Nat) (R : Type) : List (CE R) := []
theorem hcsF23 (N : Nat) (R : Type) : AllE (CeOk CX) (csF23 N R) := trivial
noncomputable def T23ur1 (N : Nat) (R : Type) : LTab R := mkTab ⟨8, 255⟩ (csF23 N R) (noY) [] [] []
theorem okT23ur1 (N : Nat) (R : Type) : (T23ur1 N R).Ok CX code23 := mkTab_ok (hcsF23 N R) (noY_ok) (trivial) (trivial) (trivial)
def rsF23 : List ResultVar := [.tmp 6]
def F23 : Nat → TF23
  | 0 => fun _ _ _ => none
  | N + 1 => fun x0 x1 x2 =>
    some (.r x0 x1 x2)
def xRF23 : XSh R23 := ⟨[], ⟨[(0, .one (.cl 31 [(0, 0, 0), (1, 0, 0), (2, 0, 0)]))], [.var [.any] [.cell (.slice 30)], .var [.int .i64] [.cell (.int .i64)], .var [.int .i64] [.cell (.int .i64)]]⟩, fun st => [((Eng.look st.env 0).caps.getD 0 .top).id, ((Eng.look st.env 0).caps.getD 1 .top).id, ((Eng.look st.env 0).caps.getD 2 .top).id], fun s => .r (((s.mem.getD 0 .dead).cells.getD 0 .top).rows) (((s.mem.getD 1 .dead).cells.getD 0 .top).toI) (((s.mem.getD 2 .dead).cells.getD 0 .top).toI)⟩
theorem fsF23 : ∀ (N : Nat) (lk : Nat → AV) (M : List Blk), FFF23 (F23 (N + 1)) (canS sgF23 lk M) = evfn CX (T23ur1 N R23) code23 rsF23 (argsE 3 (canS sgF23 lk M).env) (canS sgF23 lk M).mem (goR CX 0 (fun _ => some xRF23)) := by intro N lk M; kernel_rfl
theorem soundF23 : ∀ N, RecOkF23 (F23 N)
  | 0, lk, M, o, h => by cases h
  | N + 1, lk, M, o, h => fn_sound hX (okT23ur1 N R23) Try.func23 hb23 rfl en23 (by kernel_rfl) (ys := fun _ => some xRF23) (fun st y h => by injection h with h; subst h; exact fun lk M => ⟨rfl, rfl⟩) ((fsF23 N lk M).symm.trans h)
def cvce23n0 : List Cv := []
def selce23n0 : St → List Nat := fun _ => []
noncomputable def ce23n0 (Fx : TF23) (R : Type) (test : List AV → List Blk → Bool) : CE R := ⟨23, test, fun args M => some (selce23n0 ⟨argEnv 0 args, M, [], .unk⟩), fun args M k => tst (Nat.beq args.length 3) (callFn CX 0 cvce23n0 sgF23 selce23n0 (FFF23 Fx) elF23 args M k)⟩
theorem okce23n0 (Fx : TF23) (h : RecOkF23 Fx) (R : Type) (test : List AV → List Blk → Bool) : CeOk CX (ce23n0 Fx R test) := ce_ok hX (fun o k => by cases o; rfl) h en23 (fun args M ids h => by injection h with h; exact ⟨rfl, h.symm⟩)
end Go.Proofs.Ytfggehkiglenjaa

namespace Go.Proofs.Ytfggehkiglenjaa
open Go Go.Eng
set_option maxRecDepth 100000

/-! ### F22: ceiling/master.quiet -/
inductive R22 where
  | r (x0 : Bool)
abbrev TF22 := List Row → Int → Option R22
def sgF22 : LSh := ⟨[(0, .one (.cell (.slice 30))), (1, .one (.cell (.int .i64)))], []⟩
def FFF22 (Fx : TF22) (s : St) : Option R22 := Fx ((Eng.look s.env 0).rows) ((Eng.look s.env 1).toI)
def valF22 (o : R22) : AV := match o with | .r x0 => .bool x0
def memF22 (o : R22) : List Blk := match o with | .r x0 => []
def elF22 {R : Type} (o : R22) (k : AV → List Blk → Option R) : Option R := match o with | .r x0 => k (.bool x0) []
def RecOkF22 (Fx : TF22) : Prop := ∀ lk M o, FFF22 Fx (canS sgF22 lk M) = some o → FCalls CX 22 0 (argsE 2 (canS sgF22 lk M).env) (canS sgF22 lk M).mem (valF22 o) (memF22 o)
def cvce22n0 : List Cv := []
def selce22n0 : St → List Nat := fun _ => []
noncomputable def ce22n0 (Fx : TF22) (R : Type) (test : List AV → List Blk → Bool) : CE R := ⟨22, test, fun args M => some (selce22n0 ⟨argEnv 0 args, M, [], .unk⟩), fun args M k => tst (Nat.beq args.length 2) (callFn CX 0 cvce22n0 sgF22 selce22n0 (FFF22 Fx) elF22 args M k)⟩
theorem okce22n0 (Fx : TF22) (h : RecOkF22 Fx) (R : Type) (test : List AV → List Blk → Bool) : CeOk CX (ce22n0 Fx R test) := ce_ok hX (fun o k => by cases o; rfl) h en22 (fun args M ids h => by injection h with h; exact ⟨rfl, h.symm⟩)
noncomputable def csF22 (rec : TF22) (N : Nat) (R : Type) : List (CE R) := [ce22n0 rec R (fun _ _ => true), ce23n0 (F23 N) R (fun _ _ => true)]
theorem hcsF22 (rec : TF22) (hrec : RecOkF22 rec) (N : Nat) (R : Type) : AllE (CeOk CX) (csF22 rec N R) := ⟨okce22n0 rec hrec R (fun _ _ => true), okce23n0 (F23 N) (soundF23 N) R (fun _ _ => true), trivial⟩
noncomputable def T22us122 (rec : TF22) (N : Nat) (R : Type) : LTab R := mkTab ⟨39, 549755813887⟩ (csF22 rec N R) (noY) [] [] []
theorem okT22us122 (rec : TF22) (hrec : RecOkF22 rec) (N : Nat) (R : Type) : (T22us122 rec N R).Ok CX code22 := mkTab_ok (hcsF22 rec hrec N R) (noY_ok) (trivial) (trivial) (trivial)
def rs22i122f31 : List ResultVar := []
inductive OL22i122f31a6 where
  | ret (b1c0 : Int) (b2c0 : Int) (b3c0 : List Row) (b4c0 : Bool)
  | x0 (b1c0 : Int) (b2c0 : Int) (b3c0 : List Row) (b4c0 : Bool)
def L22i122f31a6 (rec : TF22) (N : Nat) : Nat → List Row → Int → Int → Int → Int → List Row → Bool → Option OL22i122f31a6
  | 0 => fun _ _ _ _ _ _ _ => none
  | n + 1 => fun x7 x8 x9 b1c0 b2c0 b3c0 b4c0 =>
    match decide (x9 < x8) with
    | true =>
      tst (decide ((0 : Int) ≤ x9) && decide (x9 < ((x7.length : Int)))) <|
      match decide ((0 : Int) < x9) with
      | true =>
        match ((((x7.getD x9.toNat [])).getD 5 .top).toI) == b1c0 with
        | true =>
          match decide (b2c0 < (0 : Int)) with
          | true =>
            tst (decide ((0 : Int) ≤ x9) && decide (x9 < ((b3c0.length : Int)))) <|
            match (((b3c0.getD x9.toNat [])).getD 0 .top).toB with
            | true =>
              match rec b3c0 x9 with
              | none => none
              | some (.r rx0v3) =>
                match !rx0v3 with
                | true =>
                  some (.ret b1c0 b2c0 b3c0 false)
                | false =>
                  L22i122f31a6 rec N n x7 x8 (IntKind.wrap .i64 (x9 + (1 : Int))) b1c0 b2c0 b3c0 b4c0
            | false =>
              L22i122f31a6 rec N n x7 x8 (IntKind.wrap .i64 (x9 + (1 : Int))) b1c0 b2c0 b3c0 b4c0
          | false =>
            match ((((x7.getD x9.toNat [])).getD 6 .top).toI) == b2c0 with
            | true =>
              tst (decide ((0 : Int) ≤ x9) && decide (x9 < ((b3c0.length : Int)))) <|
              match (((b3c0.getD x9.toNat [])).getD 0 .top).toB with
              | true =>
                match rec b3c0 x9 with
                | none => none
                | some (.r rx0v4) =>
                  match !rx0v4 with
                  | true =>
                    some (.ret b1c0 b2c0 b3c0 false)
                  | false =>
                    L22i122f31a6 rec N n x7 x8 (IntKind.wrap .i64 (x9 + (1 : Int))) b1c0 b2c0 b3c0 b4c0
              | false =>
                L22i122f31a6 rec N n x7 x8 (IntKind.wrap .i64 (x9 + (1 : Int))) b1c0 b2c0 b3c0 b4c0
            | false =>
              L22i122f31a6 rec N n x7 x8 (IntKind.wrap .i64 (x9 + (1 : Int))) b1c0 b2c0 b3c0 b4c0
        | false =>
          L22i122f31a6 rec N n x7 x8 (IntKind.wrap .i64 (x9 + (1 : Int))) b1c0 b2c0 b3c0 b4c0
      | false =>
        L22i122f31a6 rec N n x7 x8 (IntKind.wrap .i64 (x9 + (1 : Int))) b1c0 b2c0 b3c0 b4c0
    | false =>
      some (.x0 b1c0 b2c0 b3c0 b4c0)
def LFL22i122f31a6 (rec : TF22) (N : Nat) (n : Nat) (s : St) : Option OL22i122f31a6 := L22i122f31a6 rec N n ((Eng.look s.env 7).rows) ((Eng.look s.env 8).toI) ((Eng.look s.env 9).toI) (((s.mem.getD 1 .dead).cells.getD 0 .top).toI) (((s.mem.getD 2 .dead).cells.getD 0 .top).toI) (((s.mem.getD 3 .dead).cells.getD 0 .top).rows) (((s.mem.getD 4 .dead).cells.getD 0 .top).toB)
def sgL22i122f31a6 : LSh := ⟨[(0, .one (.yld 0)), (2, .one (.ptr 1 0 0)), (3, .one (.ptr 2 0 0)), (7, .one (.cell (.slice 30))), (8, .one (.cell (.int .i64))), (9, .one (.cell (.int .i64)))], [.loop 0 [(2, .one (.ptr 3 0 0)), (4, .one (.ptr 4 0 0))] none, .var [.int .i64] [.cell (.int .i64)], .var [.int .i64] [.cell (.int .i64)], .var [.any] [.cell (.slice 30)], .var [.bool] [.cell (.bool)]]⟩
def ceL22i122f31a6 : List Cv := []
def seL22i122f31a6 : St → List Nat := fun st => [(Eng.look st.env 0).id, (Eng.look st.env 2).id, (Eng.look st.env 3).id, ((st.mem.getD ((Eng.look st.env 0).id) .dead).lenv.getD 0 (0, .top)).2.id, ((st.mem.getD ((Eng.look st.env 0).id) .dead).lenv.getD 1 (0, .top)).2.id]
def xL22i122f31a6wret : XSh OL22i122f31a6 := ⟨[], ⟨[], [.loop 0 [(2, .one (.ptr 3 0 0)), (4, .one (.ptr 4 0 0))] (some .ret), .var [.int .i64] [.cell (.int .i64)], .var [.int .i64] [.cell (.int .i64)], .var [.any] [.cell (.slice 30)], .var [.bool] [.cell (.bool)]]⟩, fun st => [0, 1, 2, 3, 4], fun s => .ret (((s.mem.getD 1 .dead).cells.getD 0 .top).toI) (((s.mem.getD 2 .dead).cells.getD 0 .top).toI) (((s.mem.getD 3 .dead).cells.getD 0 .top).rows) (((s.mem.getD 4 .dead).cells.getD 0 .top).toB)⟩
def xL22i122f31a6wx0 : XSh OL22i122f31a6 := ⟨[], ⟨[], [.loop 0 [(2, .one (.ptr 3 0 0)), (4, .one (.ptr 4 0 0))] none, .var [.int .i64] [.cell (.int .i64)], .var [.int .i64] [.cell (.int .i64)], .var [.any] [.cell (.slice 30)], .var [.bool] [.cell (.bool)]]⟩, fun st => [0, 1, 2, 3, 4], fun s => .x0 (((s.mem.getD 1 .dead).cells.getD 0 .top).toI) (((s.mem.getD 2 .dead).cells.getD 0 .top).toI) (((s.mem.getD 3 .dead).cells.getD 0 .top).rows) (((s.mem.getD 4 .dead).cells.getD 0 .top).toB)⟩
def xsL22i122f31a6 : Ex → St → Option (XSh OL22i122f31a6) := fun e st => match e with
  | .ret => some xL22i122f31a6wret
  | .exit 0 => some xL22i122f31a6wx0
  | _ => none
def exL22i122f31a6 (o : OL22i122f31a6) : Ex := match o with | .ret b1c0 b2c0 b3c0 b4c0 => .ret | .x0 b1c0 b2c0 b3c0 b4c0 => (.exit 0)
def stL22i122f31a6 (o : OL22i122f31a6) : St := match o with | .ret b1c0 b2c0 b3c0 b4c0 => ⟨[], [.loop 0 [(2, .ptr 3 0 0), (4, .ptr 4 0 0)] false (some .ret), .var [.int .i64] [.int .i64 b1c0], .var [.int .i64] [.int .i64 b2c0], .var [.any] [.list 30 b3c0], .var [.bool] [.bool b4c0]], [], .unk⟩ | .x0 b1c0 b2c0 b3c0 b4c0 => ⟨[], [.loop 0 [(2, .ptr 3 0 0), (4, .ptr 4 0 0)] false none, .var [.int .i64] [.int .i64 b1c0], .var [.int .i64] [.int .i64 b2c0], .var [.any] [.list 30 b3c0], .var [.bool] [.bool b4c0]], [], .unk⟩
def elL22i122f31a6 {R : Type} (o : OL22i122f31a6) (k : Ex → St → Option R) : Option R := match o with | .ret b1c0 b2c0 b3c0 b4c0 => k .ret ⟨[], [.loop 0 [(2, .ptr 3 0 0), (4, .ptr 4 0 0)] false (some .ret), .var [.int .i64] [.int .i64 b1c0], .var [.int .i64] [.int .i64 b2c0], .var [.any] [.list 30 b3c0], .var [.bool] [.bool b4c0]], [], .unk⟩ | .x0 b1c0 b2c0 b3c0 b4c0 => k (.exit 0) ⟨[], [.loop 0 [(2, .ptr 3 0 0), (4, .ptr 4 0 0)] false none, .var [.int .i64] [.int .i64 b1c0], .var [.int .i64] [.int .i64 b2c0], .var [.any] [.list 30 b3c0], .var [.bool] [.bool b4c0]], [], .unk⟩
theorem heL22i122f31a6 {R : Type} (o : OL22i122f31a6) (k : Ex → St → Option R) : elL22i122f31a6 o k = k (exL22i122f31a6 o) (stL22i122f31a6 o) := by cases o <;> rfl
theorem hxL22i122f31a6 : ∀ e st x, xsL22i122f31a6 e st = some x → outOk x e exL22i122f31a6 stL22i122f31a6 := by
  intro e st x h
  unfold xsL22i122f31a6 at h
  repeat' split at h
  all_goals first
    | (injection h with h; subst h; exact fun lk M => ⟨rfl, rfl⟩)
    | cases h
noncomputable def T22i122f31ul6 (rec : TF22) (N : Nat) (R : Type) : LTab R := mkTab ⟨39, 549755813472⟩ (csF22 rec N R) (pickY [(0, fun id args M k => evyield CX (T22us122 rec N R) 0 122 id args M k)]) [] [] []
theorem okT22i122f31ul6 (rec : TF22) (hrec : RecOkF22 rec) (N : Nat) (R : Type) : (T22i122f31ul6 rec N R).Ok CX code31 := mkTab_ok (hcsF22 rec hrec N R) (pickY_ok (es := [(0, fun id args M k => evyield CX (T22us122 rec N R) 0 122 id args M k)]) ⟨fun {id args M k r} h => evyield_sound hX (okT22us122 rec hrec N R) (g := nd0.1) (ps := nd0.2.1) ⟨[false, true, false, true, true, true], by rfl, by kernel_rfl⟩ h, trivial⟩) (trivial) (trivial) (trivial)
noncomputable def bdL22i122f31a6 : Code := match codeAt code31 [false, true] with | some (.loop c) => c | _ => .skip
theorem hsL22i122f31a6 (rec : TF22) (N : Nat) : ∀ (n : Nat) (lk : Nat → AV) (M : List Blk), LFL22i122f31a6 rec N (n + 1) (canS sgL22i122f31a6 lk M) = evk CX (T22i122f31ul6 rec N OL22i122f31a6) bdL22i122f31a6 (2 * 6) (canS sgL22i122f31a6 lk M) (kont CX 5 [] sgL22i122f31a6 (fun st => [0, 1, 2, 3, 4]) xsL22i122f31a6 (LFL22i122f31a6 rec N n)) := by intro n lk M; kernel_rfl
noncomputable def T22i122f31ur1 (rec : TF22) (N : Nat) (R : Type) : LTab R := mkTab ⟨39, 549755813887⟩ (csF22 rec N R) (pickY [(0, fun id args M k => evyield CX (T22us122 rec N R) 0 122 id args M k)]) [(6, fun st k => callLoop CX 5 549755813472 ceL22i122f31a6 sgL22i122f31a6 seL22i122f31a6 ⟨39, 549755813887⟩ (LFL22i122f31a6 rec N N) elL22i122f31a6 st k)] [] []
theorem okT22i122f31ur1 (rec : TF22) (hrec : RecOkF22 rec) (N : Nat) (R : Type) : (T22i122f31ur1 rec N R).Ok CX code31 := mkTab_ok (hcsF22 rec hrec N R) (pickY_ok (es := [(0, fun id args M k => evyield CX (T22us122 rec N R) 0 122 id args M k)]) ⟨fun {id args M k r} h => evyield_sound hX (okT22us122 rec hrec N R) (g := nd0.1) (ps := nd0.2.1) ⟨[false, true, false, true, true, true], by rfl, by kernel_rfl⟩ h, trivial⟩) (⟨loop_ok hX (path := [false, true]) (by kernel_rfl) (by rfl) (okT22i122f31ul6 rec hrec N OL22i122f31a6) (fun _ _ => rfl) (hsL22i122f31a6 rec N) hxL22i122f31a6 rfl heL22i122f31a6, trivial⟩) (trivial) (trivial)
inductive OJ22a14 where
  | nx (b0c0 : Bool) (b1c0 : Bool) (b1c1 : Bool) (b1c2 : Bool) (b1c3 : Bool) (b1c4 : Bool) (b1c5 : Int) (b1c6 : Int) (b1c7 : Int)
  | ret (b0c0 : Bool) (b1c0 : Bool) (b1c1 : Bool) (b1c2 : Bool) (b1c3 : Bool) (b1c4 : Bool) (b1c5 : Int) (b1c6 : Int) (b1c7 : Int)
def J22a14 (rec : TF22) (N : Nat) : Bool → Bool → Bool → Bool → Bool → Bool → Int → Int → Int → Option OJ22a14 := fun b0c0 b1c0 b1c1 b1c2 b1c3 b1c4 b1c5 b1c6 b1c7 =>
    match b1c1 with
    | true =>
      some (.ret b1c1 b1c0 b1c1 b1c2 b1c3 b1c4 b1c5 b1c6 b1c7)
    | false =>
      match !b1c3 with
      | true =>
        some (.ret b1c1 b1c0 b1c1 b1c2 b1c3 b1c4 b1c5 b1c6 b1c7)
      | false =>
        match b1c2 with
        | true =>
          some (.ret b1c1 b1c0 b1c1 b1c2 b1c3 b1c4 b1c5 b1c6 b1c7)
        | false =>
          some (.nx b0c0 b1c0 b1c1 b1c2 b1c3 b1c4 b1c5 b1c6 b1c7)
def LFJ22a14 (rec : TF22) (N : Nat) (s : St) : Option OJ22a14 := J22a14 rec N (((s.mem.getD 0 .dead).cells.getD 0 .top).toB) (((s.mem.getD 1 .dead).cells.getD 0 .top).toB) (((s.mem.getD 1 .dead).cells.getD 1 .top).toB) (((s.mem.getD 1 .dead).cells.getD 2 .top).toB) (((s.mem.getD 1 .dead).cells.getD 3 .top).toB) (((s.mem.getD 1 .dead).cells.getD 4 .top).toB) (((s.mem.getD 1 .dead).cells.getD 5 .top).toI) (((s.mem.getD 1 .dead).cells.getD 6 .top).toI) (((s.mem.getD 1 .dead).cells.getD 7 .top).toI)
def sgJ22a14 : LSh := ⟨[(4, .one (.ptr 0 0 0)), (5, .one (.ptr 1 0 0))], [.var [.bool] [.cell (.bool)], .var [.bool, .bool, .bool, .bool, .bool, .int .i64, .int .i64, .int .i64] [.cell (.bool), .cell (.bool), .cell (.bool), .cell (.bool), .cell (.bool), .cell (.int .i64), .cell (.int .i64), .cell (.int .i64)]]⟩
def ceJ22a14 : List Cv := []
def seJ22a14 : St → List Nat := fun st => [(Eng.look st.env 4).id, (Eng.look st.env 5).id]
def xJ22a14wnx : XSh OJ22a14 := ⟨[], ⟨[], [.var [.bool] [.cell (.bool)], .var [.bool, .bool, .bool, .bool, .bool, .int .i64, .int .i64, .int .i64] [.cell (.bool), .cell (.bool), .cell (.bool), .cell (.bool), .cell (.bool), .cell (.int .i64), .cell (.int .i64), .cell (.int .i64)]]⟩, fun st => [0, 1], fun s => .nx (((s.mem.getD 0 .dead).cells.getD 0 .top).toB) (((s.mem.getD 1 .dead).cells.getD 0 .top).toB) (((s.mem.getD 1 .dead).cells.getD 1 .top).toB) (((s.mem.getD 1 .dead).cells.getD 2 .top).toB) (((s.mem.getD 1 .dead).cells.getD 3 .top).toB) (((s.mem.getD 1 .dead).cells.getD 4 .top).toB) (((s.mem.getD 1 .dead).cells.getD 5 .top).toI) (((s.mem.getD 1 .dead).cells.getD 6 .top).toI) (((s.mem.getD 1 .dead).cells.getD 7 .top).toI)⟩
def xJ22a14wret : XSh OJ22a14 := ⟨[], ⟨[], [.var [.bool] [.cell (.bool)], .var [.bool, .bool, .bool, .bool, .bool, .int .i64, .int .i64, .int .i64] [.cell (.bool), .cell (.bool), .cell (.bool), .cell (.bool), .cell (.bool), .cell (.int .i64), .cell (.int .i64), .cell (.int .i64)]]⟩, fun st => [0, 1], fun s => .ret (((s.mem.getD 0 .dead).cells.getD 0 .top).toB) (((s.mem.getD 1 .dead).cells.getD 0 .top).toB) (((s.mem.getD 1 .dead).cells.getD 1 .top).toB) (((s.mem.getD 1 .dead).cells.getD 2 .top).toB) (((s.mem.getD 1 .dead).cells.getD 3 .top).toB) (((s.mem.getD 1 .dead).cells.getD 4 .top).toB) (((s.mem.getD 1 .dead).cells.getD 5 .top).toI) (((s.mem.getD 1 .dead).cells.getD 6 .top).toI) (((s.mem.getD 1 .dead).cells.getD 7 .top).toI)⟩
def xsJ22a14 : Ex → St → Option (XSh OJ22a14) := fun e st => match e with
  | .normal => some xJ22a14wnx
  | .ret => some xJ22a14wret
  | _ => none
def exJ22a14 (o : OJ22a14) : Ex := match o with | .nx b0c0 b1c0 b1c1 b1c2 b1c3 b1c4 b1c5 b1c6 b1c7 => .normal | .ret b0c0 b1c0 b1c1 b1c2 b1c3 b1c4 b1c5 b1c6 b1c7 => .ret
def stJ22a14 (o : OJ22a14) : St := match o with | .nx b0c0 b1c0 b1c1 b1c2 b1c3 b1c4 b1c5 b1c6 b1c7 => ⟨[], [.var [.bool] [.bool b0c0], .var [.bool, .bool, .bool, .bool, .bool, .int .i64, .int .i64, .int .i64] [.bool b1c0, .bool b1c1, .bool b1c2, .bool b1c3, .bool b1c4, .int .i64 b1c5, .int .i64 b1c6, .int .i64 b1c7]], [], .unk⟩ | .ret b0c0 b1c0 b1c1 b1c2 b1c3 b1c4 b1c5 b1c6 b1c7 => ⟨[], [.var [.bool] [.bool b0c0], .var [.bool, .bool, .bool, .bool, .bool, .int .i64, .int .i64, .int .i64] [.bool b1c0, .bool b1c1, .bool b1c2, .bool b1c3, .bool b1c4, .int .i64 b1c5, .int .i64 b1c6, .int .i64 b1c7]], [], .unk⟩
def elJ22a14 {R : Type} (o : OJ22a14) (k : Ex → St → Option R) : Option R := match o with | .nx b0c0 b1c0 b1c1 b1c2 b1c3 b1c4 b1c5 b1c6 b1c7 => k .normal ⟨[], [.var [.bool] [.bool b0c0], .var [.bool, .bool, .bool, .bool, .bool, .int .i64, .int .i64, .int .i64] [.bool b1c0, .bool b1c1, .bool b1c2, .bool b1c3, .bool b1c4, .int .i64 b1c5, .int .i64 b1c6, .int .i64 b1c7]], [], .unk⟩ | .ret b0c0 b1c0 b1c1 b1c2 b1c3 b1c4 b1c5 b1c6 b1c7 => k .ret ⟨[], [.var [.bool] [.bool b0c0], .var [.bool, .bool, .bool, .bool, .bool, .int .i64, .int .i64, .int .i64] [.bool b1c0, .bool b1c1, .bool b1c2, .bool b1c3, .bool b1c4, .int .i64 b1c5, .int .i64 b1c6, .int .i64 b1c7]], [], .unk⟩
theorem heJ22a14 {R : Type} (o : OJ22a14) (k : Ex → St → Option R) : elJ22a14 o k = k (exJ22a14 o) (stJ22a14 o) := by cases o <;> rfl
theorem hxJ22a14 : ∀ e st x, xsJ22a14 e st = some x → outOk x e exJ22a14 stJ22a14 := by
  intro e st x h
  unfold xsJ22a14 at h
  repeat' split at h
  all_goals first
    | (injection h with h; subst h; exact fun lk M => ⟨rfl, rfl⟩)
    | cases h
noncomputable def T22uc14 (rec : TF22) (N : Nat) (R : Type) : LTab R := mkTab ⟨39, 16775168⟩ (csF22 rec N R) (noY) [] [] []
theorem okT22uc14 (rec : TF22) (hrec : RecOkF22 rec) (N : Nat) (R : Type) : (T22uc14 rec N R).Ok CX code22 := mkTab_ok (hcsF22 rec hrec N R) (noY_ok) (trivial) (trivial) (trivial)
noncomputable def bdJ22a14 : Code := (codeAt code22 [false, true, true]).getD .skip
theorem hsJ22a14 (rec : TF22) (N : Nat) : ∀ (lk : Nat → AV) (M : List Blk), LFJ22a14 rec N (canS sgJ22a14 lk M) = evk CX (T22uc14 rec N OJ22a14) bdJ22a14 14 (canS sgJ22a14 lk M) (kontX CX 2 xsJ22a14) := by intro lk M; kernel_rfl
noncomputable def T22ur1 (rec : TF22) (N : Nat) (R : Type) : LTab R := mkTab ⟨39, 549755813887⟩ (csF22 rec N R) (noY) [] [(122, fun st k => evrange CX (oneTab ⟨39, 549755813887⟩ (inl 31 (fun args M k => evfn CX (T22i122f31ur1 rec N R) code31 rs22i122f31 args M k))) 0 [2, 4] (.tmp 26) st k)] [(14, fun st k => callLoop CX 2 16775168 ceJ22a14 sgJ22a14 seJ22a14 ⟨39, 549755813887⟩ (LFJ22a14 rec N) elJ22a14 st k)]
theorem okT22ur1 (rec : TF22) (hrec : RecOkF22 rec) (N : Nat) (R : Type) : (T22ur1 rec N R).Ok CX code22 := mkTab_ok (hcsF22 rec hrec N R) (noY_ok) (trivial) (⟨range_ok hX (path := [false, true, false, true, true, true]) (ps0 := nd0.2.1) (a0 := nd0.2.2.1) (b0 := nd0.2.2.2) (by kernel_rfl) (by rfl) (inl_ok fun {args M k r} h => evfn_sound hX (okT22i122f31ur1 rec hrec N R) Try.func31 hb31 rfl en31 (by kernel_rfl) h) (by kernel_rfl), trivial⟩) (⟨cut_ok hX (path := [false, true, true]) (by kernel_rfl) (by rfl) (okT22uc14 rec hrec N OJ22a14) (hsJ22a14 rec N) hxJ22a14 rfl heJ22a14, trivial⟩)
def rsF22 : List ResultVar := [.cell 4 4]
def F22 : Nat → TF22
  | 0 => fun _ _ => none
  | N + 1 => fun x0 x1 =>
    tst (decide ((0 : Int) ≤ x1) && decide (x1 < ((x0.length : Int)))) <|
    match J22a14 (F22 N) N false ((((x0.getD x1.toNat [])).getD 0 .top).toB) ((((x0.getD x1.toNat [])).getD 1 .top).toB) ((((x0.getD x1.toNat [])).getD 2 .top).toB) ((((x0.getD x1.toNat [])).getD 3 .top).toB) ((((x0.getD x1.toNat [])).getD 4 .top).toB) ((((x0.getD x1.toNat [])).getD 5 .top).toI) ((((x0.getD x1.toNat [])).getD 6 .top).toI) ((((x0.getD x1.toNat [])).getD 7 .top).toI) with
    | none => none
    | some (.nx b0c0v1 b1c0v1 b1c1v1 b1c2v1 b1c3v1 b1c4v1 b1c5v1 b1c6v1 b1c7v1) =>
      match F23 N x0 x1 ((-1)) with
      | none => none
      | some (.r rb0c0v2 rb1c0v2 rb2c0v2) =>
        match L22i122f31a6 (F22 N) N N rb0c0v2 ((rb0c0v2.length : Int)) 0 rb1c0v2 rb2c0v2 x0 b0c0v1 with
        | none => none
        | some (.ret b1c0v5 b2c0v5 b3c0v5 b4c0v5) =>
          some (.r b4c0v5)
        | some (.x0 b1c0v6 b2c0v6 b3c0v6 b4c0v6) =>
          some (.r true)
    | some (.ret b0c0v7 b1c0v7 b1c1v7 b1c2v7 b1c3v7 b1c4v7 b1c5v7 b1c6v7 b1c7v7) =>
      some (.r b0c0v7)
def xRF22 : XSh R22 := ⟨[], ⟨[(0, .one (.cell (.bool)))], []⟩, fun _ => [], fun s => .r ((Eng.look s.env 0).toB)⟩
theorem fsF22 : ∀ (N : Nat) (lk : Nat → AV) (M : List Blk), FFF22 (F22 (N + 1)) (canS sgF22 lk M) = evfn CX (T22ur1 (F22 N) N R22) code22 rsF22 (argsE 2 (canS sgF22 lk M).env) (canS sgF22 lk M).mem (goR CX 0 (fun _ => some xRF22)) := by intro N lk M; kernel_rfl
theorem soundF22 : ∀ N, RecOkF22 (F22 N)
  | 0, lk, M, o, h => by cases h
  | N + 1, lk, M, o, h => fn_sound hX (okT22ur1 (F22 N) (soundF22 N) N R22) Try.func22 hb22 rfl en22 (by kernel_rfl) (ys := fun _ => some xRF22) (fun st y h => by injection h with h; subst h; exact fun lk M => ⟨rfl, rfl⟩) ((fsF22 N lk M).symm.trans h)
end Go.Proofs.Ytfggehkiglenjaa

namespace Go.Proofs.Ytfggehkiglenjaa
open Go Go.Eng
set_option maxRecDepth 100000

/-! ### F9: ceiling/master.Ready -/
inductive R9 where
  | r (b0 : List Row)
abbrev TF9 := List Row → Option R9
def sgF9 : LSh := ⟨[(0, .one (.cell (.slice 30)))], []⟩
def FFF9 (Fx : TF9) (s : St) : Option R9 := Fx ((Eng.look s.env 0).rows)
def valF9 (o : R9) : AV := match o with | .r b0 => .own 0
def memF9 (o : R9) : List Blk := match o with | .r b0 => [.row 3 b0]
def elF9 {R : Type} (o : R9) (k : AV → List Blk → Option R) : Option R := match o with | .r b0 => k (.own 0) [.row 3 b0]
def RecOkF9 (Fx : TF9) : Prop := ∀ lk M o, FFF9 Fx (canS sgF9 lk M) = some o → FCalls CX 9 0 (argsE 1 (canS sgF9 lk M).env) (canS sgF9 lk M).mem (valF9 o) (memF9 o)
noncomputable def csF9 (N : Nat) (R : Type) : List (CE R) := [ce16n0 (F16 N) R (fun _ _ => true), ce22n0 (F22 N) R (fun _ _ => true), ce23n0 (F23 N) R (fun _ _ => true)]
theorem hcsF9 (N : Nat) (R : Type) : AllE (CeOk CX) (csF9 N R) := ⟨okce16n0 (F16 N) (soundF16 N) R (fun _ _ => true), okce22n0 (F22 N) (soundF22 N) R (fun _ _ => true), okce23n0 (F23 N) (soundF23 N) R (fun _ _ => true), trivial⟩
noncomputable def T9us223642 (N : Nat) (R : Type) : LTab R := mkTab ⟨69, 590295810358705651711⟩ (csF9 N R) (noY) [] [] []
theorem okT9us223642 (N : Nat) (R : Type) : (T9us223642 N R).Ok CX code9 := mkTab_ok (hcsF9 N R) (noY_ok) (trivial) (trivial) (trivial)
def rs9i223642f31 : List ResultVar := []
inductive OL9i223642f31a6 where
  | ret (b1c0 : Int) (b2c0 : Int) (b3c0 : List Row)
  | x0 (b1c0 : Int) (b2c0 : Int) (b3c0 : List Row)
def L9i223642f31a6 (N : Nat) : Nat → List Row → Int → Int → Int → Int → List Row → Option OL9i223642f31a6
  | 0 => fun _ _ _ _ _ _ => none
  | n + 1 => fun x7 x8 x9 b1c0 b2c0 b3c0 =>
    match decide (x9 < x8) with
    | true =>
      tst (decide ((0 : Int) ≤ x9) && decide (x9 < ((x7.length : Int)))) <|
      match decide ((0 : Int) < x9) with
      | true =>
        match ((((x7.getD x9.toNat [])).getD 5 .top).toI) == b1c0 with
        | true =>
          match decide (b2c0 < (0 : Int)) with
          | true =>
            tst (decide ((0 : Int) ≤ x9) && decide (x9 < ((b3c0.length : Int)))) <|
            match (((b3c0.getD x9.toNat [])).getD 0 .top).toB with
            | true =>
              match F22 N b3c0 x9 with
              | none => none
              | some (.r rx0v5) =>
                match !rx0v5 with
                | true =>
                  some (.ret b1c0 b2c0 b3c0)
                | false =>
                  L9i223642f31a6 N n x7 x8 (IntKind.wrap .i64 (x9 + (1 : Int))) b1c0 b2c0 b3c0
            | false =>
              L9i223642f31a6 N n x7 x8 (IntKind.wrap .i64 (x9 + (1 : Int))) b1c0 b2c0 b3c0
          | false =>
            match ((((x7.getD x9.toNat [])).getD 6 .top).toI) == b2c0 with
            | true =>
              tst (decide ((0 : Int) ≤ x9) && decide (x9 < ((b3c0.length : Int)))) <|
              match (((b3c0.getD x9.toNat [])).getD 0 .top).toB with
              | true =>
                match F22 N b3c0 x9 with
                | none => none
                | some (.r rx0v6) =>
                  match !rx0v6 with
                  | true =>
                    some (.ret b1c0 b2c0 b3c0)
                  | false =>
                    L9i223642f31a6 N n x7 x8 (IntKind.wrap .i64 (x9 + (1 : Int))) b1c0 b2c0 b3c0
              | false =>
                L9i223642f31a6 N n x7 x8 (IntKind.wrap .i64 (x9 + (1 : Int))) b1c0 b2c0 b3c0
            | false =>
              L9i223642f31a6 N n x7 x8 (IntKind.wrap .i64 (x9 + (1 : Int))) b1c0 b2c0 b3c0
        | false =>
          L9i223642f31a6 N n x7 x8 (IntKind.wrap .i64 (x9 + (1 : Int))) b1c0 b2c0 b3c0
      | false =>
        L9i223642f31a6 N n x7 x8 (IntKind.wrap .i64 (x9 + (1 : Int))) b1c0 b2c0 b3c0
    | false =>
      some (.x0 b1c0 b2c0 b3c0)
def LFL9i223642f31a6 (N : Nat) (n : Nat) (s : St) : Option OL9i223642f31a6 := L9i223642f31a6 N n ((Eng.look s.env 7).rows) ((Eng.look s.env 8).toI) ((Eng.look s.env 9).toI) (((s.mem.getD 1 .dead).cells.getD 0 .top).toI) (((s.mem.getD 2 .dead).cells.getD 0 .top).toI) (((s.mem.getD 3 .dead).cells.getD 0 .top).rows)
def sgL9i223642f31a6 : LSh := ⟨[(0, .one (.yld 0)), (2, .one (.ptr 1 0 0)), (3, .one (.ptr 2 0 0)), (7, .one (.cell (.slice 30))), (8, .one (.cell (.int .i64))), (9, .one (.cell (.int .i64)))], [.loop 1 [(1, .one (.ptr 3 0 0))] none, .var [.int .i64] [.cell (.int .i64)], .var [.int .i64] [.cell (.int .i64)], .var [.any] [.cell (.slice 30)]]⟩
def ceL9i223642f31a6 : List Cv := []
def seL9i223642f31a6 : St → List Nat := fun st => [(Eng.look st.env 0).id, (Eng.look st.env 2).id, (Eng.look st.env 3).id, ((st.mem.getD ((Eng.look st.env 0).id) .dead).lenv.getD 0 (0, .top)).2.id]
def xL9i223642f31a6wret : XSh OL9i223642f31a6 := ⟨[], ⟨[], [.loop 1 [(1, .one (.ptr 3 0 0))] (some (.exit 1)), .var [.int .i64] [.cell (.int .i64)], .var [.int .i64] [.cell (.int .i64)], .var [.any] [.cell (.slice 30)]]⟩, fun st => [0, 1, 2, 3], fun s => .ret (((s.mem.getD 1 .dead).cells.getD 0 .top).toI) (((s.mem.getD 2 .dead).cells.getD 0 .top).toI) (((s.mem.getD 3 .dead).cells.getD 0 .top).rows)⟩
def xL9i223642f31a6wx0 : XSh OL9i223642f31a6 := ⟨[], ⟨[], [.loop 1 [(1, .one (.ptr 3 0 0))] none, .var [.int .i64] [.cell (.int .i64)], .var [.int .i64] [.cell (.int .i64)], .var [.any] [.cell (.slice 30)]]⟩, fun st => [0, 1, 2, 3], fun s => .x0 (((s.mem.getD 1 .dead).cells.getD 0 .top).toI) (((s.mem.getD 2 .dead).cells.getD 0 .top).toI) (((s.mem.getD 3 .dead).cells.getD 0 .top).rows)⟩
def xsL9i223642f31a6 : Ex → St → Option (XSh OL9i223642f31a6) := fun e st => match e with
  | .ret => some xL9i223642f31a6wret
  | .exit 0 => some xL9i223642f31a6wx0
  | _ => none
def exL9i223642f31a6 (o : OL9i223642f31a6) : Ex := match o with | .ret b1c0 b2c0 b3c0 => .ret | .x0 b1c0 b2c0 b3c0 => (.exit 0)
def stL9i223642f31a6 (o : OL9i223642f31a6) : St := match o with | .ret b1c0 b2c0 b3c0 => ⟨[], [.loop 1 [(1, .ptr 3 0 0)] false (some (.exit 1)), .var [.int .i64] [.int .i64 b1c0], .var [.int .i64] [.int .i64 b2c0], .var [.any] [.list 30 b3c0]], [], .unk⟩ | .x0 b1c0 b2c0 b3c0 => ⟨[], [.loop 1 [(1, .ptr 3 0 0)] false none, .var [.int .i64] [.int .i64 b1c0], .var [.int .i64] [.int .i64 b2c0], .var [.any] [.list 30 b3c0]], [], .unk⟩
def elL9i223642f31a6 {R : Type} (o : OL9i223642f31a6) (k : Ex → St → Option R) : Option R := match o with | .ret b1c0 b2c0 b3c0 => k .ret ⟨[], [.loop 1 [(1, .ptr 3 0 0)] false (some (.exit 1)), .var [.int .i64] [.int .i64 b1c0], .var [.int .i64] [.int .i64 b2c0], .var [.any] [.list 30 b3c0]], [], .unk⟩ | .x0 b1c0 b2c0 b3c0 => k (.exit 0) ⟨[], [.loop 1 [(1, .ptr 3 0 0)] false none, .var [.int .i64] [.int .i64 b1c0], .var [.int .i64] [.int .i64 b2c0], .var [.any] [.list 30 b3c0]], [], .unk⟩
theorem heL9i223642f31a6 {R : Type} (o : OL9i223642f31a6) (k : Ex → St → Option R) : elL9i223642f31a6 o k = k (exL9i223642f31a6 o) (stL9i223642f31a6 o) := by cases o <;> rfl
theorem hxL9i223642f31a6 : ∀ e st x, xsL9i223642f31a6 e st = some x → outOk x e exL9i223642f31a6 stL9i223642f31a6 := by
  intro e st x h
  unfold xsL9i223642f31a6 at h
  repeat' split at h
  all_goals first
    | (injection h with h; subst h; exact fun lk M => ⟨rfl, rfl⟩)
    | cases h
noncomputable def T9i223642f31ul6 (N : Nat) (R : Type) : LTab R := mkTab ⟨39, 549755813472⟩ (csF9 N R) (pickY [(1, fun id args M k => evyield CX (T9us223642 N R) 1 223642 id args M k)]) [] [] []
theorem okT9i223642f31ul6 (N : Nat) (R : Type) : (T9i223642f31ul6 N R).Ok CX code31 := mkTab_ok (hcsF9 N R) (pickY_ok (es := [(1, fun id args M k => evyield CX (T9us223642 N R) 1 223642 id args M k)]) ⟨fun {id args M k r} h => evyield_sound hX (okT9us223642 N R) (g := nd1.1) (ps := nd1.2.1) ⟨[false, true, false, true, true, false, false, true, true, false, false, true, false, true, true, false, true], by rfl, by kernel_rfl⟩ h, trivial⟩) (trivial) (trivial) (trivial)
noncomputable def bdL9i223642f31a6 : Code := match codeAt code31 [false, true] with | some (.loop c) => c | _ => .skip
theorem hsL9i223642f31a6 (N : Nat) : ∀ (n : Nat) (lk : Nat → AV) (M : List Blk), LFL9i223642f31a6 N (n + 1) (canS sgL9i223642f31a6 lk M) = evk CX (T9i223642f31ul6 N OL9i223642f31a6) bdL9i223642f31a6 (2 * 6) (canS sgL9i223642f31a6 lk M) (kont CX 4 [] sgL9i223642f31a6 (fun st => [0, 1, 2, 3]) xsL9i223642f31a6 (LFL9i223642f31a6 N n)) := by intro n lk M; kernel_rfl
noncomputable def T9i223642f31ur1 (N : Nat) (R : Type) : LTab R := mkTab ⟨39, 549755813887⟩ (csF9 N R) (pickY [(1, fun id args M k => evyield CX (T9us223642 N R) 1 223642 id args M k)]) [(6, fun st k => callLoop CX 4 549755813472 ceL9i223642f31a6 sgL9i223642f31a6 seL9i223642f31a6 ⟨39, 549755813887⟩ (LFL9i223642f31a6 N N) elL9i223642f31a6 st k)] [] []
theorem okT9i223642f31ur1 (N : Nat) (R : Type) : (T9i223642f31ur1 N R).Ok CX code31 := mkTab_ok (hcsF9 N R) (pickY_ok (es := [(1, fun id args M k => evyield CX (T9us223642 N R) 1 223642 id args M k)]) ⟨fun {id args M k r} h => evyield_sound hX (okT9us223642 N R) (g := nd1.1) (ps := nd1.2.1) ⟨[false, true, false, true, true, false, false, true, true, false, false, true, false, true, true, false, true], by rfl, by kernel_rfl⟩ h, trivial⟩) (⟨loop_ok hX (path := [false, true]) (by kernel_rfl) (by rfl) (okT9i223642f31ul6 N OL9i223642f31a6) (fun _ _ => rfl) (hsL9i223642f31a6 N) hxL9i223642f31a6 rfl heL9i223642f31a6, trivial⟩) (trivial) (trivial)
inductive OJ9a27954 where
  | nx (b0c0 : List Row) (b1c0 : Bool) (b1c1 : Bool) (b1c2 : Bool) (b1c3 : Bool) (b1c4 : Bool) (b1c5 : Int) (b1c6 : Int) (b1c7 : Int)
  | x1 (b0c0 : List Row) (b1c0 : Bool) (b1c1 : Bool) (b1c2 : Bool) (b1c3 : Bool) (b1c4 : Bool) (b1c5 : Int) (b1c6 : Int) (b1c7 : Int)
def J9a27954 (N : Nat) : Int → List Row → Bool → Bool → Bool → Bool → Bool → Int → Int → Int → Option OJ9a27954 := fun x3 b0c0 b1c0 b1c1 b1c2 b1c3 b1c4 b1c5 b1c6 b1c7 =>
    match !b1c3 with
    | true =>
      some (.x1 b0c0 b1c0 b1c1 b1c2 b1c3 b1c4 b1c5 b1c6 b1c7)
    | false =>
      match b1c4 with
      | true =>
        some (.x1 b0c0 b1c0 b1c1 b1c2 b1c3 b1c4 b1c5 b1c6 b1c7)
      | false =>
        match decide (b1c5 < (0 : Int)) with
        | true =>
          some (.x1 b0c0 b1c0 b1c1 b1c2 b1c3 b1c4 b1c5 b1c6 b1c7)
        | false =>
          tst (decide ((0 : Int) ≤ b1c5) && decide (b1c5 < ((b0c0.length : Int)))) <|
          match ((((b0c0.getD b1c5.toNat [])).getD 7 .top).toI) != b1c6 with
          | true =>
            some (.x1 b0c0 b1c0 b1c1 b1c2 b1c3 b1c4 b1c5 b1c6 b1c7)
          | false =>
            match F22 N b0c0 x3 with
            | none => none
            | some (.r rx0v2) =>
              match !rx0v2 with
              | true =>
                some (.x1 b0c0 b1c0 b1c1 b1c2 b1c3 b1c4 b1c5 b1c6 b1c7)
              | false =>
                some (.nx b0c0 b1c0 b1c1 b1c2 b1c3 b1c4 b1c5 b1c6 b1c7)
def LFJ9a27954 (N : Nat) (s : St) : Option OJ9a27954 := J9a27954 N ((Eng.look s.env 3).toI) (((s.mem.getD 0 .dead).cells.getD 0 .top).rows) (((s.mem.getD 1 .dead).cells.getD 0 .top).toB) (((s.mem.getD 1 .dead).cells.getD 1 .top).toB) (((s.mem.getD 1 .dead).cells.getD 2 .top).toB) (((s.mem.getD 1 .dead).cells.getD 3 .top).toB) (((s.mem.getD 1 .dead).cells.getD 4 .top).toB) (((s.mem.getD 1 .dead).cells.getD 5 .top).toI) (((s.mem.getD 1 .dead).cells.getD 6 .top).toI) (((s.mem.getD 1 .dead).cells.getD 7 .top).toI)
def sgJ9a27954 : LSh := ⟨[(1, .one (.ptr 0 0 0)), (3, .one (.cell (.int .i64))), (4, .one (.ptr 1 0 0))], [.var [.any] [.cell (.slice 30)], .var [.bool, .bool, .bool, .bool, .bool, .int .i64, .int .i64, .int .i64] [.cell (.bool), .cell (.bool), .cell (.bool), .cell (.bool), .cell (.bool), .cell (.int .i64), .cell (.int .i64), .cell (.int .i64)]]⟩
def ceJ9a27954 : List Cv := []
def seJ9a27954 : St → List Nat := fun st => [(Eng.look st.env 1).id, (Eng.look st.env 4).id]
def xJ9a27954wnx : XSh OJ9a27954 := ⟨[], ⟨[], [.var [.any] [.cell (.slice 30)], .var [.bool, .bool, .bool, .bool, .bool, .int .i64, .int .i64, .int .i64] [.cell (.bool), .cell (.bool), .cell (.bool), .cell (.bool), .cell (.bool), .cell (.int .i64), .cell (.int .i64), .cell (.int .i64)]]⟩, fun st => [0, 1], fun s => .nx (((s.mem.getD 0 .dead).cells.getD 0 .top).rows) (((s.mem.getD 1 .dead).cells.getD 0 .top).toB) (((s.mem.getD 1 .dead).cells.getD 1 .top).toB) (((s.mem.getD 1 .dead).cells.getD 2 .top).toB) (((s.mem.getD 1 .dead).cells.getD 3 .top).toB) (((s.mem.getD 1 .dead).cells.getD 4 .top).toB) (((s.mem.getD 1 .dead).cells.getD 5 .top).toI) (((s.mem.getD 1 .dead).cells.getD 6 .top).toI) (((s.mem.getD 1 .dead).cells.getD 7 .top).toI)⟩
def xJ9a27954wx1 : XSh OJ9a27954 := ⟨[], ⟨[], [.var [.any] [.cell (.slice 30)], .var [.bool, .bool, .bool, .bool, .bool, .int .i64, .int .i64, .int .i64] [.cell (.bool), .cell (.bool), .cell (.bool), .cell (.bool), .cell (.bool), .cell (.int .i64), .cell (.int .i64), .cell (.int .i64)]]⟩, fun st => [0, 1], fun s => .x1 (((s.mem.getD 0 .dead).cells.getD 0 .top).rows) (((s.mem.getD 1 .dead).cells.getD 0 .top).toB) (((s.mem.getD 1 .dead).cells.getD 1 .top).toB) (((s.mem.getD 1 .dead).cells.getD 2 .top).toB) (((s.mem.getD 1 .dead).cells.getD 3 .top).toB) (((s.mem.getD 1 .dead).cells.getD 4 .top).toB) (((s.mem.getD 1 .dead).cells.getD 5 .top).toI) (((s.mem.getD 1 .dead).cells.getD 6 .top).toI) (((s.mem.getD 1 .dead).cells.getD 7 .top).toI)⟩
def xsJ9a27954 : Ex → St → Option (XSh OJ9a27954) := fun e st => match e with
  | .normal => some xJ9a27954wnx
  | .exit 1 => some xJ9a27954wx1
  | _ => none
def exJ9a27954 (o : OJ9a27954) : Ex := match o with | .nx b0c0 b1c0 b1c1 b1c2 b1c3 b1c4 b1c5 b1c6 b1c7 => .normal | .x1 b0c0 b1c0 b1c1 b1c2 b1c3 b1c4 b1c5 b1c6 b1c7 => (.exit 1)
def stJ9a27954 (o : OJ9a27954) : St := match o with | .nx b0c0 b1c0 b1c1 b1c2 b1c3 b1c4 b1c5 b1c6 b1c7 => ⟨[], [.var [.any] [.list 30 b0c0], .var [.bool, .bool, .bool, .bool, .bool, .int .i64, .int .i64, .int .i64] [.bool b1c0, .bool b1c1, .bool b1c2, .bool b1c3, .bool b1c4, .int .i64 b1c5, .int .i64 b1c6, .int .i64 b1c7]], [], .unk⟩ | .x1 b0c0 b1c0 b1c1 b1c2 b1c3 b1c4 b1c5 b1c6 b1c7 => ⟨[], [.var [.any] [.list 30 b0c0], .var [.bool, .bool, .bool, .bool, .bool, .int .i64, .int .i64, .int .i64] [.bool b1c0, .bool b1c1, .bool b1c2, .bool b1c3, .bool b1c4, .int .i64 b1c5, .int .i64 b1c6, .int .i64 b1c7]], [], .unk⟩
def elJ9a27954 {R : Type} (o : OJ9a27954) (k : Ex → St → Option R) : Option R := match o with | .nx b0c0 b1c0 b1c1 b1c2 b1c3 b1c4 b1c5 b1c6 b1c7 => k .normal ⟨[], [.var [.any] [.list 30 b0c0], .var [.bool, .bool, .bool, .bool, .bool, .int .i64, .int .i64, .int .i64] [.bool b1c0, .bool b1c1, .bool b1c2, .bool b1c3, .bool b1c4, .int .i64 b1c5, .int .i64 b1c6, .int .i64 b1c7]], [], .unk⟩ | .x1 b0c0 b1c0 b1c1 b1c2 b1c3 b1c4 b1c5 b1c6 b1c7 => k (.exit 1) ⟨[], [.var [.any] [.list 30 b0c0], .var [.bool, .bool, .bool, .bool, .bool, .int .i64, .int .i64, .int .i64] [.bool b1c0, .bool b1c1, .bool b1c2, .bool b1c3, .bool b1c4, .int .i64 b1c5, .int .i64 b1c6, .int .i64 b1c7]], [], .unk⟩
theorem heJ9a27954 {R : Type} (o : OJ9a27954) (k : Ex → St → Option R) : elJ9a27954 o k = k (exJ9a27954 o) (stJ9a27954 o) := by cases o <;> rfl
theorem hxJ9a27954 : ∀ e st x, xsJ9a27954 e st = some x → outOk x e exJ9a27954 stJ9a27954 := by
  intro e st x h
  unfold xsJ9a27954 at h
  repeat' split at h
  all_goals first
    | (injection h with h; subst h; exact fun lk M => ⟨rfl, rfl⟩)
    | cases h
noncomputable def T9uc27954 (N : Nat) (R : Type) : LTab R := mkTab ⟨69, 35184372023296⟩ (csF9 N R) (noY) [] [] []
theorem okT9uc27954 (N : Nat) (R : Type) : (T9uc27954 N R).Ok CX code9 := mkTab_ok (hcsF9 N R) (noY_ok) (trivial) (trivial) (trivial)
noncomputable def bdJ9a27954 : Code := (codeAt code9 [false, true, false, false, true, true, false, false, true, false, true, true, false, true]).getD .skip
theorem hsJ9a27954 (N : Nat) : ∀ (lk : Nat → AV) (M : List Blk), LFJ9a27954 N (canS sgJ9a27954 lk M) = evk CX (T9uc27954 N OJ9a27954) bdJ9a27954 27954 (canS sgJ9a27954 lk M) (kontX CX 2 xsJ9a27954) := by intro lk M; kernel_rfl
inductive OL9a218 where
  | x0 (b0c0 : List Row) (b1 : List Row)
def L9a218 (N : Nat) : Nat → List Row → Int → Int → List Row → List Row → Option OL9a218
  | 0 => fun _ _ _ _ _ => none
  | n + 1 => fun x9 x10 x11 b0c0 b1 =>
    match decide (x11 < x10) with
    | true =>
      tst (decide ((0 : Int) ≤ x11) && decide (x11 < ((x9.length : Int)))) <|
      match J9a27954 N x11 b0c0 ((((x9.getD x11.toNat [])).getD 0 .top).toB) ((((x9.getD x11.toNat [])).getD 1 .top).toB) ((((x9.getD x11.toNat [])).getD 2 .top).toB) ((((x9.getD x11.toNat [])).getD 3 .top).toB) ((((x9.getD x11.toNat [])).getD 4 .top).toB) ((((x9.getD x11.toNat [])).getD 5 .top).toI) ((((x9.getD x11.toNat [])).getD 6 .top).toI) ((((x9.getD x11.toNat [])).getD 7 .top).toI) with
      | none => none
      | some (.nx b0c0v3 b1c0v3 b1c1v3 b1c2v3 b1c3v3 b1c4v3 b1c5v3 b1c6v3 b1c7v3) =>
        match F23 N b0c0v3 b1c5v3 b1c6v3 with
        | none => none
        | some (.r rb0c0v4 rb1c0v4 rb2c0v4) =>
          match L9i223642f31a6 N N rb0c0v4 ((rb0c0v4.length : Int)) 0 rb1c0v4 rb2c0v4 b0c0v3 with
          | none => none
          | some (.ret b1c0v7 b2c0v7 b3c0v7) =>
            L9a218 N n x9 x10 (IntKind.wrap .i64 (x11 + (1 : Int))) b3c0v7 b1
          | some (.x0 b1c0v8 b2c0v8 b3c0v8) =>
            tst (decide (((b1.length + 1) * 8) ≤ 140737488355328)) <|
            L9a218 N n x9 x10 (IntKind.wrap .i64 (x11 + (1 : Int))) b3c0v8 (b1 ++ (([[.int .i64 x11]] : List Row)))
      | some (.x1 b0c0v9 b1c0v9 b1c1v9 b1c2v9 b1c3v9 b1c4v9 b1c5v9 b1c6v9 b1c7v9) =>
        L9a218 N n x9 x10 (IntKind.wrap .i64 (x11 + (1 : Int))) b0c0v9 b1
    | false =>
      some (.x0 b0c0 b1)
def LFL9a218 (N : Nat) (n : Nat) (s : St) : Option OL9a218 := L9a218 N n ((Eng.look s.env 9).rows) ((Eng.look s.env 10).toI) ((Eng.look s.env 11).toI) (((s.mem.getD 0 .dead).cells.getD 0 .top).rows) ((s.mem.getD 1 .dead).rows)
def sgL9a218 : LSh := ⟨[(1, .one (.ptr 0 0 0)), (2, .one (.own 1)), (9, .one (.cell (.slice 30))), (10, .one (.cell (.int .i64))), (11, .one (.cell (.int .i64)))], [.var [.any] [.cell (.slice 30)], .row 3]⟩
def ceL9a218 : List Cv := [.mk 2 3]
def seL9a218 : St → List Nat := fun st => [(Eng.look st.env 1).id, (Eng.look st.env 2).id]
def xL9a218wx0 : XSh OL9a218 := ⟨[], ⟨[(2, .one (.own 1))], [.var [.any] [.cell (.slice 30)], .row 3]⟩, fun st => [0, (Eng.look st.env 2).id], fun s => .x0 (((s.mem.getD 0 .dead).cells.getD 0 .top).rows) ((s.mem.getD 1 .dead).rows)⟩
def xsL9a218 : Ex → St → Option (XSh OL9a218) := fun e st => match e with
  | .exit 0 => some xL9a218wx0
  | _ => none
def exL9a218 (o : OL9a218) : Ex := match o with | .x0 b0c0 b1 => (.exit 0)
def stL9a218 (o : OL9a218) : St := match o with | .x0 b0c0 b1 => ⟨[(2, .own 1)], [.var [.any] [.list 30 b0c0], .row 3 b1], [], .unk⟩
def elL9a218 {R : Type} (o : OL9a218) (k : Ex → St → Option R) : Option R := match o with | .x0 b0c0 b1 => k (.exit 0) ⟨[(2, .own 1)], [.var [.any] [.list 30 b0c0], .row 3 b1], [], .unk⟩
theorem heL9a218 {R : Type} (o : OL9a218) (k : Ex → St → Option R) : elL9a218 o k = k (exL9a218 o) (stL9a218 o) := by cases o <;> rfl
theorem hxL9a218 : ∀ e st x, xsL9a218 e st = some x → outOk x e exL9a218 stL9a218 := by
  intro e st x h
  unfold xsL9a218 at h
  repeat' split at h
  all_goals first
    | (injection h with h; subst h; exact fun lk M => ⟨rfl, rfl⟩)
    | cases h
noncomputable def T9ul218 (N : Nat) (R : Type) : LTab R := mkTab ⟨69, 285926784942311733276⟩ (csF9 N R) (noY) [] [(223642, fun st k => evrange CX (oneTab ⟨69, 285926784942311733276⟩ (inl 31 (fun args M k => evfn CX (T9i223642f31ur1 N R) code31 rs9i223642f31 args M k))) 1 [1] (.tmp 50) st k)] [(27954, fun st k => callLoop CX 2 35184372023296 ceJ9a27954 sgJ9a27954 seJ9a27954 ⟨69, 285926784942311733276⟩ (LFJ9a27954 N) elJ9a27954 st k)]
theorem okT9ul218 (N : Nat) (R : Type) : (T9ul218 N R).Ok CX code9 := mkTab_ok (hcsF9 N R) (noY_ok) (trivial) (⟨range_ok hX (path := [false, true, false, true, true, false, false, true, true, false, false, true, false, true, true, false, true]) (ps0 := nd1.2.1) (a0 := nd1.2.2.1) (b0 := nd1.2.2.2) (by kernel_rfl) (by rfl) (inl_ok fun {args M k r} h => evfn_sound hX (okT9i223642f31ur1 N R) Try.func31 hb31 rfl en31 (by kernel_rfl) h) (by kernel_rfl), trivial⟩) (⟨cut_ok hX (path := [false, true, false, false, true, true, false, false, true, false, true, true, false, true]) (by kernel_rfl) (by rfl) (okT9uc27954 N OJ9a27954) (hsJ9a27954 N) hxJ9a27954 rfl heJ9a27954, trivial⟩)
noncomputable def bdL9a218 : Code := match codeAt code9 [false, true, false, true, true, false, true] with | some (.loop c) => c | _ => .skip
theorem hsL9a218 (N : Nat) : ∀ (n : Nat) (lk : Nat → AV) (M : List Blk), LFL9a218 N (n + 1) (canS sgL9a218 lk M) = evk CX (T9ul218 N OL9a218) bdL9a218 (2 * 218) (canS sgL9a218 lk M) (kont CX 1 [] sgL9a218 (fun st => [0, (Eng.look st.env 2).id]) xsL9a218 (LFL9a218 N n)) := by intro n lk M; kernel_rfl
noncomputable def T9ur1 (N : Nat) (R : Type) : LTab R := mkTab ⟨69, 590295810358705651711⟩ (csF9 N R) (noY) [(218, fun st k => callLoop CX 1 285926784942311733276 ceL9a218 sgL9a218 seL9a218 ⟨69, 590295810358705651711⟩ (LFL9a218 N N) elL9a218 st k)] [] []
theorem okT9ur1 (N : Nat) (R : Type) : (T9ur1 N R).Ok CX code9 := mkTab_ok (hcsF9 N R) (noY_ok) (⟨loop_ok hX (path := [false, true, false, true, true, false, true]) (by kernel_rfl) (by rfl) (okT9ul218 N OL9a218) (fun _ _ => rfl) (hsL9a218 N) hxL9a218 rfl heL9a218, trivial⟩) (trivial) (trivial)
def rsF9 : List ResultVar := [.tmp 2]
def F9 : Nat → TF9
  | 0 => fun _ => none
  | N + 1 => fun x0 =>
    match F16 N x0 with
    | none => none
    | some (.r rx0v1) =>
      match !rx0v1 with
      | true =>
        some (.r (([] : List Row)))
      | false =>
        match L9a218 N N x0 ((x0.length : Int)) 0 x0 (([] : List Row)) with
        | none => none
        | some (.x0 b0c0v10 b1v10) =>
          some (.r b1v10)
def xRF9 : XSh R9 := ⟨[.mk 0 3], ⟨[(0, .one (.own 0))], [.row 3]⟩, fun st => [(Eng.look st.env 0).id], fun s => .r ((s.mem.getD 0 .dead).rows)⟩
theorem fsF9 : ∀ (N : Nat) (lk : Nat → AV) (M : List Blk), FFF9 (F9 (N + 1)) (canS sgF9 lk M) = evfn CX (T9ur1 N R9) code9 rsF9 (argsE 1 (canS sgF9 lk M).env) (canS sgF9 lk M).mem (goR CX 0 (fun _ => some xRF9)) := by intro N lk M; kernel_rfl
theorem soundF9 : ∀ N, RecOkF9 (F9 N)
  | 0, lk, M, o, h => by cases h
  | N + 1, lk, M, o, h => fn_sound hX (okT9ur1 N R9) Try.func9 hb9 rfl en9 (by kernel_rfl) (ys := fun _ => some xRF9) (fun st y h => by injection h with h; subst h; exact fun lk M => ⟨rfl, rfl⟩) ((fsF9 N lk M).symm.trans h)
def cvce9n0 : List Cv := [.frz 0 (.slice 30)]
def selce9n0 : St → List Nat := fun _ => []
noncomputable def ce9n0 (Fx : TF9) (R : Type) (test : List AV → List Blk → Bool) : CE R := ⟨9, test, fun _ _ => none, fun args M k => tst (Nat.beq args.length 1) (callFn CX 0 cvce9n0 sgF9 selce9n0 (FFF9 Fx) elF9 args M k)⟩
theorem okce9n0 (Fx : TF9) (h : RecOkF9 Fx) (R : Type) (test : List AV → List Blk → Bool) : CeOk CX (ce9n0 Fx R test) := ce_ok hX (fun o k => by cases o; rfl) h en9 (fun args M ids h => by cases h)
def cvce9n1 : List Cv := []
def selce9n1 : St → List Nat := fun _ => []
noncomputable def ce9n1 (Fx : TF9) (R : Type) (test : List AV → List Blk → Bool) : CE R := ⟨9, test, fun args M => some (selce9n1 ⟨argEnv 0 args, M, [], .unk⟩), fun args M k => tst (Nat.beq args.length 1) (callFn CX 0 cvce9n1 sgF9 selce9n1 (FFF9 Fx) elF9 args M k)⟩
theorem okce9n1 (Fx : TF9) (h : RecOkF9 Fx) (R : Type) (test : List AV → List Blk → Bool) : CeOk CX (ce9n1 Fx R test) := ce_ok hX (fun o k => by cases o; rfl) h en9 (fun args M ids h => by injection h with h; exact ⟨rfl, h.symm⟩)
end Go.Proofs.Ytfggehkiglenjaa

namespace Go.Proofs.Ytfggehkiglenjaa
open Go Go.Eng
set_option maxRecDepth 100000

/-! ### F17: ceiling/master.Quiet -/
inductive R17 where
  | r (x0 : Bool)
abbrev TF17 := List Row → Int → Option R17
def sgF17 : LSh := ⟨[(0, .one (.cell (.slice 30))), (1, .one (.cell (.int .i64)))], []⟩
def FFF17 (Fx : TF17) (s : St) : Option R17 := Fx ((Eng.look s.env 0).rows) ((Eng.look s.env 1).toI)
def valF17 (o : R17) : AV := match o with | .r x0 => .bool x0
def memF17 (o : R17) : List Blk := match o with | .r x0 => []
def elF17 {R : Type} (o : R17) (k : AV → List Blk → Option R) : Option R := match o with | .r x0 => k (.bool x0) []
def RecOkF17 (Fx : TF17) : Prop := ∀ lk M o, FFF17 Fx (canS sgF17 lk M) = some o → FCalls CX 17 0 (argsE 2 (canS sgF17 lk M).env) (canS sgF17 lk M).mem (valF17 o) (memF17 o)
noncomputable def csF17 (N : Nat) (R : Type) : List (CE R) := [ce16n0 (F16 N) R (fun _ _ => true), ce22n0 (F22 N) R (fun _ _ => true)]
theorem hcsF17 (N : Nat) (R : Type) : AllE (CeOk CX) (csF17 N R) := ⟨okce16n0 (F16 N) (soundF16 N) R (fun _ _ => true), okce22n0 (F22 N) (soundF22 N) R (fun _ _ => true), trivial⟩
noncomputable def T17ur1 (N : Nat) (R : Type) : LTab R := mkTab ⟨22, 4194303⟩ (csF17 N R) (noY) [] [] []
theorem okT17ur1 (N : Nat) (R : Type) : (T17ur1 N R).Ok CX code17 := mkTab_ok (hcsF17 N R) (noY_ok) (trivial) (trivial) (trivial)
def rsF17 : List ResultVar := [.tmp 4]
def F17 : Nat → TF17
  | 0 => fun _ _ => none
  | N + 1 => fun x0 x1 =>
    match F16 N x0 with
    | none => none
    | some (.r rx0v1) =>
      match rx0v1 with
      | true =>
        match decide ((0 : Int) ≤ x1) with
        | true =>
          match decide (x1 < ((x0.length : Int))) with
          | true =>
            match F22 N x0 x1 with
            | none => none
            | some (.r rx0v2) =>
              some (.r rx0v2)
          | false =>
            some (.r false)
        | false =>
          some (.r false)
      | false =>
        some (.r false)
def xRF17 : XSh R17 := ⟨[], ⟨[(0, .one (.cell (.bool)))], []⟩, fun _ => [], fun s => .r ((Eng.look s.env 0).toB)⟩
theorem fsF17 : ∀ (N : Nat) (lk : Nat → AV) (M : List Blk), FFF17 (F17 (N + 1)) (canS sgF17 lk M) = evfn CX (T17ur1 N R17) code17 rsF17 (argsE 2 (canS sgF17 lk M).env) (canS sgF17 lk M).mem (goR CX 0 (fun _ => some xRF17)) := by intro N lk M; kernel_rfl
theorem soundF17 : ∀ N, RecOkF17 (F17 N)
  | 0, lk, M, o, h => by cases h
  | N + 1, lk, M, o, h => fn_sound hX (okT17ur1 N R17) Try.func17 hb17 rfl en17 (by kernel_rfl) (ys := fun _ => some xRF17) (fun st y h => by injection h with h; subst h; exact fun lk M => ⟨rfl, rfl⟩) ((fsF17 N lk M).symm.trans h)
def cvce17n0 : List Cv := [.frz 0 (.slice 30)]
def selce17n0 : St → List Nat := fun _ => []
noncomputable def ce17n0 (Fx : TF17) (R : Type) (test : List AV → List Blk → Bool) : CE R := ⟨17, test, fun _ _ => none, fun args M k => tst (Nat.beq args.length 2) (callFn CX 0 cvce17n0 sgF17 selce17n0 (FFF17 Fx) elF17 args M k)⟩
theorem okce17n0 (Fx : TF17) (h : RecOkF17 Fx) (R : Type) (test : List AV → List Blk → Bool) : CeOk CX (ce17n0 Fx R test) := ce_ok hX (fun o k => by cases o; rfl) h en17 (fun args M ids h => by cases h)
def cvce17n1 : List Cv := []
def selce17n1 : St → List Nat := fun _ => []
noncomputable def ce17n1 (Fx : TF17) (R : Type) (test : List AV → List Blk → Bool) : CE R := ⟨17, test, fun args M => some (selce17n1 ⟨argEnv 0 args, M, [], .unk⟩), fun args M k => tst (Nat.beq args.length 2) (callFn CX 0 cvce17n1 sgF17 selce17n1 (FFF17 Fx) elF17 args M k)⟩
theorem okce17n1 (Fx : TF17) (h : RecOkF17 Fx) (R : Type) (test : List AV → List Blk → Bool) : CeOk CX (ce17n1 Fx R test) := ce_ok hX (fun o k => by cases o; rfl) h en17 (fun args M ids h => by injection h with h; exact ⟨rfl, h.symm⟩)
end Go.Proofs.Ytfggehkiglenjaa

namespace Go.Proofs.Ytfggehkiglenjaa
open Go Go.Eng
set_option maxRecDepth 100000

/-! ### F14: ceiling/master.Of -/
inductive R14 where
  | r (b0 : List Row)
abbrev TF14 := List Row → Int → Int → Option R14
def sgF14 : LSh := ⟨[(0, .one (.cell (.slice 30))), (1, .one (.cell (.int .i64))), (2, .one (.cell (.int .i64)))], []⟩
def FFF14 (Fx : TF14) (s : St) : Option R14 := Fx ((Eng.look s.env 0).rows) ((Eng.look s.env 1).toI) ((Eng.look s.env 2).toI)
def valF14 (o : R14) : AV := match o with | .r b0 => .own 0
def memF14 (o : R14) : List Blk := match o with | .r b0 => [.row 3 b0]
def elF14 {R : Type} (o : R14) (k : AV → List Blk → Option R) : Option R := match o with | .r b0 => k (.own 0) [.row 3 b0]
def RecOkF14 (Fx : TF14) : Prop := ∀ lk M o, FFF14 Fx (canS sgF14 lk M) = some o → FCalls CX 14 0 (argsE 3 (canS sgF14 lk M).env) (canS sgF14 lk M).mem (valF14 o) (memF14 o)
noncomputable def csF14 (N : Nat) (R : Type) : List (CE R) := [ce16n0 (F16 N) R (fun _ _ => true), ce23n0 (F23 N) R (fun _ _ => true)]
theorem hcsF14 (N : Nat) (R : Type) : AllE (CeOk CX) (csF14 N R) := ⟨okce16n0 (F16 N) (soundF16 N) R (fun _ _ => true), okce23n0 (F23 N) (soundF23 N) R (fun _ _ => true), trivial⟩
noncomputable def T14us58 (N : Nat) (R : Type) : LTab R := mkTab ⟨25, 33554431⟩ (csF14 N R) (noY) [] [] []
theorem okT14us58 (N : Nat) (R : Type) : (T14us58 N R).Ok CX code14 := mkTab_ok (hcsF14 N R) (noY_ok) (trivial) (trivial) (trivial)
def rs14i58f31 : List ResultVar := []
inductive OL14i58f31a6 where
  | x0 (b1c0 : Int) (b2c0 : Int) (b4 : List Row)
def L14i58f31a6 (N : Nat) : Nat → List Row → Int → Int → Int → Int → List Row → Option OL14i58f31a6
  | 0 => fun _ _ _ _ _ _ => none
  | n + 1 => fun x7 x8 x9 b1c0 b2c0 b4 =>
    match decide (x9 < x8) with
    | true =>
      tst (decide ((0 : Int) ≤ x9) && decide (x9 < ((x7.length : Int)))) <|
      match decide ((0 : Int) < x9) with
      | true =>
        match ((((x7.getD x9.toNat [])).getD 5 .top).toI) == b1c0 with
        | true =>
          match decide (b2c0 < (0 : Int)) with
          | true =>
            tst (decide (((b4.length + 1) * 8) ≤ 140737488355328)) <|
            L14i58f31a6 N n x7 x8 (IntKind.wrap .i64 (x9 + (1 : Int))) b1c0 b2c0 (b4 ++ (([[.int .i64 x9]] : List Row)))
          | false =>
            match ((((x7.getD x9.toNat [])).getD 6 .top).toI) == b2c0 with
            | true =>
              tst (decide (((b4.length + 1) * 8) ≤ 140737488355328)) <|
              L14i58f31a6 N n x7 x8 (IntKind.wrap .i64 (x9 + (1 : Int))) b1c0 b2c0 (b4 ++ (([[.int .i64 x9]] : List Row)))
            | false =>
              L14i58f31a6 N n x7 x8 (IntKind.wrap .i64 (x9 + (1 : Int))) b1c0 b2c0 b4
        | false =>
          L14i58f31a6 N n x7 x8 (IntKind.wrap .i64 (x9 + (1 : Int))) b1c0 b2c0 b4
      | false =>
        L14i58f31a6 N n x7 x8 (IntKind.wrap .i64 (x9 + (1 : Int))) b1c0 b2c0 b4
    | false =>
      some (.x0 b1c0 b2c0 b4)
def LFL14i58f31a6 (N : Nat) (n : Nat) (s : St) : Option OL14i58f31a6 := L14i58f31a6 N n ((Eng.look s.env 7).rows) ((Eng.look s.env 8).toI) ((Eng.look s.env 9).toI) (((s.mem.getD 1 .dead).cells.getD 0 .top).toI) (((s.mem.getD 2 .dead).cells.getD 0 .top).toI) ((s.mem.getD 4 .dead).rows)
def sgL14i58f31a6 : LSh := ⟨[(0, .one (.yld 0)), (2, .one (.ptr 1 0 0)), (3, .one (.ptr 2 0 0)), (7, .one (.cell (.slice 30))), (8, .one (.cell (.int .i64))), (9, .one (.cell (.int .i64)))], [.loop 2 [(6, .one (.ptr 3 0 0))] none, .var [.int .i64] [.cell (.int .i64)], .var [.int .i64] [.cell (.int .i64)], .var [.any] [.own 4], .row 3]⟩
def ceL14i58f31a6 : List Cv := [.mkc (fun env M => ((M.getD ((Eng.look env 0).id) .dead).lenv.getD 0 (0, .top)).2.id) 0 3]
def seL14i58f31a6 : St → List Nat := fun st => [(Eng.look st.env 0).id, (Eng.look st.env 2).id, (Eng.look st.env 3).id, ((st.mem.getD ((Eng.look st.env 0).id) .dead).lenv.getD 0 (0, .top)).2.id, ((st.mem.getD (((st.mem.getD ((Eng.look st.env 0).id) .dead).lenv.getD 0 (0, .top)).2.id) .dead).cells.getD 0 .top).id]
def xL14i58f31a6wx0 : XSh OL14i58f31a6 := ⟨[], ⟨[], [.loop 2 [(6, .one (.ptr 3 0 0))] none, .var [.int .i64] [.cell (.int .i64)], .var [.int .i64] [.cell (.int .i64)], .var [.any] [.own 4], .row 3]⟩, fun st => [0, 1, 2, 3, ((st.mem.getD 3 .dead).cells.getD 0 .top).id], fun s => .x0 (((s.mem.getD 1 .dead).cells.getD 0 .top).toI) (((s.mem.getD 2 .dead).cells.getD 0 .top).toI) ((s.mem.getD 4 .dead).rows)⟩
def xsL14i58f31a6 : Ex → St → Option (XSh OL14i58f31a6) := fun e st => match e with
  | .exit 0 => some xL14i58f31a6wx0
  | _ => none
def exL14i58f31a6 (o : OL14i58f31a6) : Ex := match o with | .x0 b1c0 b2c0 b4 => (.exit 0)
def stL14i58f31a6 (o : OL14i58f31a6) : St := match o with | .x0 b1c0 b2c0 b4 => ⟨[], [.loop 2 [(6, .ptr 3 0 0)] false none, .var [.int .i64] [.int .i64 b1c0], .var [.int .i64] [.int .i64 b2c0], .var [.any] [.own 4], .row 3 b4], [], .unk⟩
def elL14i58f31a6 {R : Type} (o : OL14i58f31a6) (k : Ex → St → Option R) : Option R := match o with | .x0 b1c0 b2c0 b4 => k (.exit 0) ⟨[], [.loop 2 [(6, .ptr 3 0 0)] false none, .var [.int .i64] [.int .i64 b1c0], .var [.int .i64] [.int .i64 b2c0], .var [.any] [.own 4], .row 3 b4], [], .unk⟩
theorem heL14i58f31a6 {R : Type} (o : OL14i58f31a6) (k : Ex → St → Option R) : elL14i58f31a6 o k = k (exL14i58f31a6 o) (stL14i58f31a6 o) := by cases o <;> rfl
theorem hxL14i58f31a6 : ∀ e st x, xsL14i58f31a6 e st = some x → outOk x e exL14i58f31a6 stL14i58f31a6 := by
  intro e st x h
  unfold xsL14i58f31a6 at h
  repeat' split at h
  all_goals first
    | (injection h with h; subst h; exact fun lk M => ⟨rfl, rfl⟩)
    | cases h
noncomputable def T14i58f31ul6 (N : Nat) (R : Type) : LTab R := mkTab ⟨39, 549755813472⟩ (csF14 N R) (pickY [(2, fun id args M k => evyield CX (T14us58 N R) 2 58 id args M k)]) [] [] []
theorem okT14i58f31ul6 (N : Nat) (R : Type) : (T14i58f31ul6 N R).Ok CX code31 := mkTab_ok (hcsF14 N R) (pickY_ok (es := [(2, fun id args M k => evyield CX (T14us58 N R) 2 58 id args M k)]) ⟨fun {id args M k r} h => evyield_sound hX (okT14us58 N R) (g := nd2.1) (ps := nd2.2.1) ⟨[false, true, false, true, true], by rfl, by kernel_rfl⟩ h, trivial⟩) (trivial) (trivial) (trivial)
noncomputable def bdL14i58f31a6 : Code := match codeAt code31 [false, true] with | some (.loop c) => c | _ => .skip
theorem hsL14i58f31a6 (N : Nat) : ∀ (n : Nat) (lk : Nat → AV) (M : List Blk), LFL14i58f31a6 N (n + 1) (canS sgL14i58f31a6 lk M) = evk CX (T14i58f31ul6 N OL14i58f31a6) bdL14i58f31a6 (2 * 6) (canS sgL14i58f31a6 lk M) (kont CX 4 [] sgL14i58f31a6 (fun st => [0, 1, 2, 3, ((st.mem.getD 3 .dead).cells.getD 0 .top).id]) xsL14i58f31a6 (LFL14i58f31a6 N n)) := by intro n lk M; kernel_rfl
noncomputable def T14i58f31ur1 (N : Nat) (R : Type) : LTab R := mkTab ⟨39, 549755813887⟩ (csF14 N R) (pickY [(2, fun id args M k => evyield CX (T14us58 N R) 2 58 id args M k)]) [(6, fun st k => callLoop CX 4 549755813472 ceL14i58f31a6 sgL14i58f31a6 seL14i58f31a6 ⟨39, 549755813887⟩ (LFL14i58f31a6 N N) elL14i58f31a6 st k)] [] []
theorem okT14i58f31ur1 (N : Nat) (R : Type) : (T14i58f31ur1 N R).Ok CX code31 := mkTab_ok (hcsF14 N R) (pickY_ok (es := [(2, fun id args M k => evyield CX (T14us58 N R) 2 58 id args M k)]) ⟨fun {id args M k r} h => evyield_sound hX (okT14us58 N R) (g := nd2.1) (ps := nd2.2.1) ⟨[false, true, false, true, true], by rfl, by kernel_rfl⟩ h, trivial⟩) (⟨loop_ok hX (path := [false, true]) (by kernel_rfl) (by rfl) (okT14i58f31ul6 N OL14i58f31a6) (fun _ _ => rfl) (hsL14i58f31a6 N) hxL14i58f31a6 rfl heL14i58f31a6, trivial⟩) (trivial) (trivial)
noncomputable def T14ur1 (N : Nat) (R : Type) : LTab R := mkTab ⟨25, 33554431⟩ (csF14 N R) (noY) [] [(58, fun st k => evrange CX (oneTab ⟨25, 33554431⟩ (inl 31 (fun args M k => evfn CX (T14i58f31ur1 N R) code31 rs14i58f31 args M k))) 2 [6] (.tmp 18) st k)] []
theorem okT14ur1 (N : Nat) (R : Type) : (T14ur1 N R).Ok CX code14 := mkTab_ok (hcsF14 N R) (noY_ok) (trivial) (⟨range_ok hX (path := [false, true, false, true, true]) (ps0 := nd2.2.1) (a0 := nd2.2.2.1) (b0 := nd2.2.2.2) (by kernel_rfl) (by rfl) (inl_ok fun {args M k r} h => evfn_sound hX (okT14i58f31ur1 N R) Try.func31 hb31 rfl en31 (by kernel_rfl) h) (by kernel_rfl), trivial⟩) (trivial)
def rsF14 : List ResultVar := [.cell 6 23]
def F14 : Nat → TF14
  | 0 => fun _ _ _ => none
  | N + 1 => fun x0 x1 x2 =>
    match F16 N x0 with
    | none => none
    | some (.r rx0v1) =>
      match !rx0v1 with
      | true =>
        some (.r (([] : List Row)))
      | false =>
        match decide (x2 < (0 : Int)) with
        | true =>
          some (.r (([] : List Row)))
        | false =>
          match F23 N x0 x1 x2 with
          | none => none
          | some (.r rb0c0v2 rb1c0v2 rb2c0v2) =>
            match L14i58f31a6 N N rb0c0v2 ((rb0c0v2.length : Int)) 0 rb1c0v2 rb2c0v2 (([] : List Row)) with
            | none => none
            | some (.x0 b1c0v3 b2c0v3 b4v3) =>
              some (.r b4v3)
def xRF14 : XSh R14 := ⟨[.mk 0 3], ⟨[(0, .one (.own 0))], [.row 3]⟩, fun st => [(Eng.look st.env 0).id], fun s => .r ((s.mem.getD 0 .dead).rows)⟩
theorem fsF14 : ∀ (N : Nat) (lk : Nat → AV) (M : List Blk), FFF14 (F14 (N + 1)) (canS sgF14 lk M) = evfn CX (T14ur1 N R14) code14 rsF14 (argsE 3 (canS sgF14 lk M).env) (canS sgF14 lk M).mem (goR CX 0 (fun _ => some xRF14)) := by intro N lk M; kernel_rfl
theorem soundF14 : ∀ N, RecOkF14 (F14 N)
  | 0, lk, M, o, h => by cases h
  | N + 1, lk, M, o, h => fn_sound hX (okT14ur1 N R14) Try.func14 hb14 rfl en14 (by kernel_rfl) (ys := fun _ => some xRF14) (fun st y h => by injection h with h; subst h; exact fun lk M => ⟨rfl, rfl⟩) ((fsF14 N lk M).symm.trans h)
def cvce14n0 : List Cv := []
def selce14n0 : St → List Nat := fun _ => []
noncomputable def ce14n0 (Fx : TF14) (R : Type) (test : List AV → List Blk → Bool) : CE R := ⟨14, test, fun args M => some (selce14n0 ⟨argEnv 0 args, M, [], .unk⟩), fun args M k => tst (Nat.beq args.length 3) (callFn CX 0 cvce14n0 sgF14 selce14n0 (FFF14 Fx) elF14 args M k)⟩
theorem okce14n0 (Fx : TF14) (h : RecOkF14 Fx) (R : Type) (test : List AV → List Blk → Bool) : CeOk CX (ce14n0 Fx R test) := ce_ok hX (fun o k => by cases o; rfl) h en14 (fun args M ids h => by injection h with h; exact ⟨rfl, h.symm⟩)
def cvce14n1 : List Cv := [.frz 0 (.slice 30)]
def selce14n1 : St → List Nat := fun _ => []
noncomputable def ce14n1 (Fx : TF14) (R : Type) (test : List AV → List Blk → Bool) : CE R := ⟨14, test, fun _ _ => none, fun args M k => tst (Nat.beq args.length 3) (callFn CX 0 cvce14n1 sgF14 selce14n1 (FFF14 Fx) elF14 args M k)⟩
theorem okce14n1 (Fx : TF14) (h : RecOkF14 Fx) (R : Type) (test : List AV → List Blk → Bool) : CeOk CX (ce14n1 Fx R test) := ce_ok hX (fun o k => by cases o; rfl) h en14 (fun args M ids h => by cases h)
end Go.Proofs.Ytfggehkiglenjaa

namespace Go.Proofs.Ytfggehkiglenjaa
open Go Go.Eng
set_option maxRecDepth 100000

/-! ### F20: ceiling/master.Over -/
inductive R20 where
  | r (x0 : Bool)
abbrev TF20 := List Row → Int → Int → Option R20
def sgF20 : LSh := ⟨[(0, .one (.cell (.slice 30))), (1, .one (.cell (.int .i64))), (2, .one (.cell (.int .i64)))], []⟩
def FFF20 (Fx : TF20) (s : St) : Option R20 := Fx ((Eng.look s.env 0).rows) ((Eng.look s.env 1).toI) ((Eng.look s.env 2).toI)
def valF20 (o : R20) : AV := match o with | .r x0 => .bool x0
def memF20 (o : R20) : List Blk := match o with | .r x0 => []
def elF20 {R : Type} (o : R20) (k : AV → List Blk → Option R) : Option R := match o with | .r x0 => k (.bool x0) []
def RecOkF20 (Fx : TF20) : Prop := ∀ lk M o, FFF20 Fx (canS sgF20 lk M) = some o → FCalls CX 20 0 (argsE 3 (canS sgF20 lk M).env) (canS sgF20 lk M).mem (valF20 o) (memF20 o)
noncomputable def csF20 (N : Nat) (R : Type) : List (CE R) := [ce14n0 (F14 N) R (fun _ _ => true), ce16n0 (F16 N) R (fun _ _ => true)]
theorem hcsF20 (N : Nat) (R : Type) : AllE (CeOk CX) (csF20 N R) := ⟨okce14n0 (F14 N) (soundF14 N) R (fun _ _ => true), okce16n0 (F16 N) (soundF16 N) R (fun _ _ => true), trivial⟩
inductive OJ20a6 where
  | nx
  | ret (x6 : Bool)
def J20a6 (N : Nat) : List Row → Int → Option OJ20a6 := fun x0 x1 =>
    match F16 N x0 with
    | none => none
    | some (.r rx0v1) =>
      match !rx0v1 with
      | true =>
        some (.ret false)
      | false =>
        match decide (x1 < (0 : Int)) with
        | true =>
          some (.ret false)
        | false =>
          match decide (((x0.length : Int)) ≤ x1) with
          | true =>
            some (.ret false)
          | false =>
            some .nx
def LFJ20a6 (N : Nat) (s : St) : Option OJ20a6 := J20a6 N ((Eng.look s.env 0).rows) ((Eng.look s.env 1).toI)
def sgJ20a6 : LSh := ⟨[(0, .one (.cell (.slice 30))), (1, .one (.cell (.int .i64)))], []⟩
def ceJ20a6 : List Cv := []
def seJ20a6 : St → List Nat := fun _ => []
def xJ20a6wnx : XSh OJ20a6 := ⟨[], ⟨[], []⟩, fun _ => [], fun s => .nx ⟩
def xJ20a6wret : XSh OJ20a6 := ⟨[], ⟨[(6, .one (.cell (.bool)))], []⟩, fun _ => [], fun s => .ret ((Eng.look s.env 6).toB)⟩
def xsJ20a6 : Ex → St → Option (XSh OJ20a6) := fun e st => match e with
  | .normal => some xJ20a6wnx
  | .ret => some xJ20a6wret
  | _ => none
def exJ20a6 (o : OJ20a6) : Ex := match o with | .nx => .normal | .ret x6 => .ret
def stJ20a6 (o : OJ20a6) : St := match o with | .nx => ⟨[], [], [], .unk⟩ | .ret x6 => ⟨[(6, .bool x6)], [], [], .unk⟩
def elJ20a6 {R : Type} (o : OJ20a6) (k : Ex → St → Option R) : Option R := match o with | .nx => k .normal ⟨[], [], [], .unk⟩ | .ret x6 => k .ret ⟨[(6, .bool x6)], [], [], .unk⟩
theorem heJ20a6 {R : Type} (o : OJ20a6) (k : Ex → St → Option R) : elJ20a6 o k = k (exJ20a6 o) (stJ20a6 o) := by cases o <;> rfl
theorem hxJ20a6 : ∀ e st x, xsJ20a6 e st = some x → outOk x e exJ20a6 stJ20a6 := by
  intro e st x h
  unfold xsJ20a6 at h
  repeat' split at h
  all_goals first
    | (injection h with h; subst h; exact fun lk M => ⟨rfl, rfl⟩)
    | cases h
noncomputable def T20uc6 (N : Nat) (R : Type) : LTab R := mkTab ⟨38, 4193856⟩ (csF20 N R) (noY) [] [] []
theorem okT20uc6 (N : Nat) (R : Type) : (T20uc6 N R).Ok CX code20 := mkTab_ok (hcsF20 N R) (noY_ok) (trivial) (trivial) (trivial)
noncomputable def bdJ20a6 : Code := (codeAt code20 [false, true]).getD .skip
theorem hsJ20a6 (N : Nat) : ∀ (lk : Nat → AV) (M : List Blk), LFJ20a6 N (canS sgJ20a6 lk M) = evk CX (T20uc6 N OJ20a6) bdJ20a6 6 (canS sgJ20a6 lk M) (kontX CX 0 xsJ20a6) := by intro lk M; kernel_rfl
inductive OL20a58 where
  | ret (x6 : Bool) (b0 : List Row)
  | x0 (b0 : List Row)
def L20a58 (N : Nat) : Nat → List Row → Int → Int → List Row → Option OL20a58
  | 0 => fun _ _ _ _ => none
  | n + 1 => fun x0 x26 x27 b0 =>
    match decide (x27 < x26) with
    | true =>
      tst (decide ((0 : Int) ≤ x27) && decide (x27 < ((b0.length : Int)))) <|
      tst (decide (x27.toNat < b0.length)) <|
      tst (decide ((0 : Int) ≤ ((((b0.getD x27.toNat [])).getD 0 .top).toI)) && decide ((((b0.getD x27.toNat [])).getD 0 .top).toI < ((x0.length : Int)))) <|
      match !((((x0.getD (((((b0.getD x27.toNat [])).getD 0 .top).toI).toNat) [])).getD 1 .top).toB) with
      | true =>
        some (.ret false b0)
      | false =>
        L20a58 N n x0 x26 (IntKind.wrap .i64 (x27 + (1 : Int))) b0
    | false =>
      some (.x0 b0)
def LFL20a58 (N : Nat) (n : Nat) (s : St) : Option OL20a58 := L20a58 N n ((Eng.look s.env 0).rows) ((Eng.look s.env 26).toI) ((Eng.look s.env 27).toI) ((s.mem.getD 0 .dead).rows)
def sgL20a58 : LSh := ⟨[(0, .one (.cell (.slice 30))), (25, .one (.own 0)), (26, .one (.cell (.int .i64))), (27, .one (.cell (.int .i64)))], [.row 3]⟩
def ceL20a58 : List Cv := []
def seL20a58 : St → List Nat := fun st => [(Eng.look st.env 25).id]
def xL20a58wret : XSh OL20a58 := ⟨[], ⟨[(6, .one (.cell (.bool)))], [.row 3]⟩, fun st => [0], fun s => .ret ((Eng.look s.env 6).toB) ((s.mem.getD 0 .dead).rows)⟩
def xL20a58wx0 : XSh OL20a58 := ⟨[], ⟨[], [.row 3]⟩, fun st => [0], fun s => .x0 ((s.mem.getD 0 .dead).rows)⟩
def xsL20a58 : Ex → St → Option (XSh OL20a58) := fun e st => match e with
  | .ret => some xL20a58wret
  | .exit 0 => some xL20a58wx0
  | _ => none
def exL20a58 (o : OL20a58) : Ex := match o with | .ret x6 b0 => .ret | .x0 b0 => (.exit 0)
def stL20a58 (o : OL20a58) : St := match o with | .ret x6 b0 => ⟨[(6, .bool x6)], [.row 3 b0], [], .unk⟩ | .x0 b0 => ⟨[], [.row 3 b0], [], .unk⟩
def elL20a58 {R : Type} (o : OL20a58) (k : Ex → St → Option R) : Option R := match o with | .ret x6 b0 => k .ret ⟨[(6, .bool x6)], [.row 3 b0], [], .unk⟩ | .x0 b0 => k (.exit 0) ⟨[], [.row 3 b0], [], .unk⟩
theorem heL20a58 {R : Type} (o : OL20a58) (k : Ex → St → Option R) : elL20a58 o k = k (exL20a58 o) (stL20a58 o) := by cases o <;> rfl
theorem hxL20a58 : ∀ e st x, xsL20a58 e st = some x → outOk x e exL20a58 stL20a58 := by
  intro e st x h
  unfold xsL20a58 at h
  repeat' split at h
  all_goals first
    | (injection h with h; subst h; exact fun lk M => ⟨rfl, rfl⟩)
    | cases h
noncomputable def T20ul58 (N : Nat) (R : Type) : LTab R := mkTab ⟨38, 274743689536⟩ (csF20 N R) (noY) [] [] []
theorem okT20ul58 (N : Nat) (R : Type) : (T20ul58 N R).Ok CX code20 := mkTab_ok (hcsF20 N R) (noY_ok) (trivial) (trivial) (trivial)
noncomputable def bdL20a58 : Code := match codeAt code20 [false, true, false, true, true] with | some (.loop c) => c | _ => .skip
theorem hsL20a58 (N : Nat) : ∀ (n : Nat) (lk : Nat → AV) (M : List Blk), LFL20a58 N (n + 1) (canS sgL20a58 lk M) = evk CX (T20ul58 N OL20a58) bdL20a58 (2 * 58) (canS sgL20a58 lk M) (kont CX 1 [] sgL20a58 (fun st => [0]) xsL20a58 (LFL20a58 N n)) := by intro n lk M; kernel_rfl
noncomputable def T20ur1 (N : Nat) (R : Type) : LTab R := mkTab ⟨38, 274877906943⟩ (csF20 N R) (noY) [(58, fun st k => callLoop CX 1 274743689536 ceL20a58 sgL20a58 seL20a58 ⟨38, 274877906943⟩ (LFL20a58 N N) elL20a58 st k)] [] [(6, fun st k => callLoop CX 0 4193856 ceJ20a6 sgJ20a6 seJ20a6 ⟨38, 274877906943⟩ (LFJ20a6 N) elJ20a6 st k)]
theorem okT20ur1 (N : Nat) (R : Type) : (T20ur1 N R).Ok CX code20 := mkTab_ok (hcsF20 N R) (noY_ok) (⟨loop_ok hX (path := [false, true, false, true, true]) (by kernel_rfl) (by rfl) (okT20ul58 N OL20a58) (fun _ _ => rfl) (hsL20a58 N) hxL20a58 rfl heL20a58, trivial⟩) (trivial) (⟨cut_ok hX (path := [false, true]) (by kernel_rfl) (by rfl) (okT20uc6 N OJ20a6) (hsJ20a6 N) hxJ20a6 rfl heJ20a6, trivial⟩)
def rsF20 : List ResultVar := [.tmp 6]
def F20 : Nat → TF20
  | 0 => fun _ _ _ => none
  | N + 1 => fun x0 x1 x2 =>
    match J20a6 N x0 x1 with
    | none => none
    | some (.nx) =>
      match F14 N x0 x1 x2 with
      | none => none
      | some (.r rb0v3) =>
        match L20a58 N N x0 ((rb0v3.length : Int)) 0 rb0v3 with
        | none => none
        | some (.ret x6v4 b0v4) =>
          some (.r x6v4)
        | some (.x0 b0v5) =>
          some (.r true)
    | some (.ret x6v6) =>
      some (.r x6v6)
def xRF20 : XSh R20 := ⟨[], ⟨[(0, .one (.cell (.bool)))], []⟩, fun _ => [], fun s => .r ((Eng.look s.env 0).toB)⟩
theorem fsF20 : ∀ (N : Nat) (lk : Nat → AV) (M : List Blk), FFF20 (F20 (N + 1)) (canS sgF20 lk M) = evfn CX (T20ur1 N R20) code20 rsF20 (argsE 3 (canS sgF20 lk M).env) (canS sgF20 lk M).mem (goR CX 0 (fun _ => some xRF20)) := by intro N lk M; kernel_rfl
theorem soundF20 : ∀ N, RecOkF20 (F20 N)
  | 0, lk, M, o, h => by cases h
  | N + 1, lk, M, o, h => fn_sound hX (okT20ur1 N R20) Try.func20 hb20 rfl en20 (by kernel_rfl) (ys := fun _ => some xRF20) (fun st y h => by injection h with h; subst h; exact fun lk M => ⟨rfl, rfl⟩) ((fsF20 N lk M).symm.trans h)
def cvce20n0 : List Cv := []
def selce20n0 : St → List Nat := fun _ => []
noncomputable def ce20n0 (Fx : TF20) (R : Type) (test : List AV → List Blk → Bool) : CE R := ⟨20, test, fun args M => some (selce20n0 ⟨argEnv 0 args, M, [], .unk⟩), fun args M k => tst (Nat.beq args.length 3) (callFn CX 0 cvce20n0 sgF20 selce20n0 (FFF20 Fx) elF20 args M k)⟩
theorem okce20n0 (Fx : TF20) (h : RecOkF20 Fx) (R : Type) (test : List AV → List Blk → Bool) : CeOk CX (ce20n0 Fx R test) := ce_ok hX (fun o k => by cases o; rfl) h en20 (fun args M ids h => by injection h with h; exact ⟨rfl, h.symm⟩)
def cvce20n1 : List Cv := [.frz 0 (.slice 30)]
def selce20n1 : St → List Nat := fun _ => []
noncomputable def ce20n1 (Fx : TF20) (R : Type) (test : List AV → List Blk → Bool) : CE R := ⟨20, test, fun _ _ => none, fun args M k => tst (Nat.beq args.length 3) (callFn CX 0 cvce20n1 sgF20 selce20n1 (FFF20 Fx) elF20 args M k)⟩
theorem okce20n1 (Fx : TF20) (h : RecOkF20 Fx) (R : Type) (test : List AV → List Blk → Bool) : CeOk CX (ce20n1 Fx R test) := ce_ok hX (fun o k => by cases o; rfl) h en20 (fun args M ids h => by cases h)
end Go.Proofs.Ytfggehkiglenjaa

namespace Go.Proofs.Ytfggehkiglenjaa
open Go Go.Eng
set_option maxRecDepth 100000

/-! ### F21: ceiling/ceilinglaw33.some -/
inductive R21 where
  | r (b0 : List Row)
abbrev TF21 := Option R21
def sgF21 : LSh := ⟨[], []⟩
def FFF21 (Fx : TF21) (s : St) : Option R21 := Fx 
def valF21 (o : R21) : AV := match o with | .r b0 => .own 0
def memF21 (o : R21) : List Blk := match o with | .r b0 => [.row 30 b0]
def elF21 {R : Type} (o : R21) (k : AV → List Blk → Option R) : Option R := match o with | .r b0 => k (.own 0) [.row 30 b0]
def RecOkF21 (Fx : TF21) : Prop := ∀ lk M o, FFF21 Fx (canS sgF21 lk M) = some o → FCalls CX 21 0 (argsE 0 (canS sgF21 lk M).env) (canS sgF21 lk M).mem (valF21 o) (memF21 o)
noncomputable def csF21 (N : Nat) (R : Type) : List (CE R) := []
theorem hcsF21 (N : Nat) (R : Type) : AllE (CeOk CX) (csF21 N R) := trivial
noncomputable def T21ur1 (N : Nat) (R : Type) : LTab R := mkTab ⟨7, 127⟩ (csF21 N R) (noY) [] [] []
theorem okT21ur1 (N : Nat) (R : Type) : (T21ur1 N R).Ok CX code21 := mkTab_ok (hcsF21 N R) (noY_ok) (trivial) (trivial) (trivial)
def rsF21 : List ResultVar := [.tmp 0]
def F21 : Nat → TF21
  | 0 => none
  | N + 1 => 
    some (.r (([[.bool true, .bool false, .bool false, .bool false, .bool false, .int .i64 ((-1)), .int .i64 ((-1)), .int .i64 0], [.bool true, .bool false, .bool false, .bool true, .bool false, .int .i64 0, .int .i64 0, .int .i64 ((-1))], [.bool true, .bool false, .bool false, .bool true, .bool false, .int .i64 0, .int .i64 0, .int .i64 ((-1))], [.bool true, .bool false, .bool false, .bool true, .bool false, .int .i64 1, .int .i64 0, .int .i64 ((-1))], [.bool true, .bool false, .bool false, .bool true, .bool false, .int .i64 2, .int .i64 1, .int .i64 ((-1))]] : List Row)))
def xRF21 : XSh R21 := ⟨[], ⟨[(0, .one (.own 0))], [.row 30]⟩, fun st => [(Eng.look st.env 0).id], fun s => .r ((s.mem.getD 0 .dead).rows)⟩
theorem fsF21 : ∀ (N : Nat) (lk : Nat → AV) (M : List Blk), FFF21 (F21 (N + 1)) (canS sgF21 lk M) = evfn CX (T21ur1 N R21) code21 rsF21 (argsE 0 (canS sgF21 lk M).env) (canS sgF21 lk M).mem (goR CX 0 (fun _ => some xRF21)) := by intro N lk M; kernel_rfl
theorem soundF21 : ∀ N, RecOkF21 (F21 N)
  | 0, lk, M, o, h => by cases h
  | N + 1, lk, M, o, h => fn_sound hX (okT21ur1 N R21) Try.func21 hb21 rfl en21 (by kernel_rfl) (ys := fun _ => some xRF21) (fun st y h => by injection h with h; subst h; exact fun lk M => ⟨rfl, rfl⟩) ((fsF21 N lk M).symm.trans h)
def cvce21n0 : List Cv := []
def selce21n0 : St → List Nat := fun _ => []
noncomputable def ce21n0 (Fx : TF21) (R : Type) (test : List AV → List Blk → Bool) : CE R := ⟨21, test, fun args M => some (selce21n0 ⟨argEnv 0 args, M, [], .unk⟩), fun args M k => tst (Nat.beq args.length 0) (callFn CX 0 cvce21n0 sgF21 selce21n0 (FFF21 Fx) elF21 args M k)⟩
theorem okce21n0 (Fx : TF21) (h : RecOkF21 Fx) (R : Type) (test : List AV → List Blk → Bool) : CeOk CX (ce21n0 Fx R test) := ce_ok hX (fun o k => by cases o; rfl) h en21 (fun args M ids h => by injection h with h; exact ⟨rfl, h.symm⟩)
end Go.Proofs.Ytfggehkiglenjaa

namespace Go.Proofs.Ytfggehkiglenjaa
open Go Go.Eng
set_option maxRecDepth 100000

/-! ### F25: ceiling/master.Abort.1 -/
inductive R25 where
  | r (b0c0 : List Row) (b1 : List AV)
abbrev TF25 := Int → List Row → List AV → Option R25
def sgF25 : LSh := ⟨[(0, .one (.cell (.int .i64))), (1, .one (.ptr 0 0 0)), (2, .one (.ptr 1 0 0)), (3, .one (.ptr 2 0 0))], [.var [.any] [.cell (.slice 30)], .arr [.bool, .bool, .bool, .bool, .bool, .bool, .bool, .bool, .bool, .bool, .bool, .bool, .bool, .bool, .bool, .bool, .bool, .bool, .bool, .bool, .bool, .bool, .bool, .bool, .bool, .bool, .bool, .bool, .bool, .bool, .bool, .bool], .var [.any] [.cl 25 [(0, 0, 0), (1, 0, 0), (2, 0, 0)]]]⟩
def FFF25 (Fx : TF25) (s : St) : Option R25 := Fx ((Eng.look s.env 0).toI) (((s.mem.getD 0 .dead).cells.getD 0 .top).rows) ((s.mem.getD 1 .dead).cells)
def valF25 (o : R25) : AV := match o with | .r b0c0 b1 => .tup []
def memF25 (o : R25) : List Blk := match o with | .r b0c0 b1 => [.var [.any] [.list 30 b0c0], .var [.bool, .bool, .bool, .bool, .bool, .bool, .bool, .bool, .bool, .bool, .bool, .bool, .bool, .bool, .bool, .bool, .bool, .bool, .bool, .bool, .bool, .bool, .bool, .bool, .bool, .bool, .bool, .bool, .bool, .bool, .bool, .bool] b1, .var [.any] [.clos 25 [] [.ptr 0 0 0, .ptr 1 0 0, .ptr 2 0 0]]]
def elF25 {R : Type} (o : R25) (k : AV → List Blk → Option R) : Option R := match o with | .r b0c0 b1 => k (.tup []) [.var [.any] [.list 30 b0c0], .var [.bool, .bool, .bool, .bool, .bool, .bool, .bool, .bool, .bool, .bool, .bool, .bool, .bool, .bool, .bool, .bool, .bool, .bool, .bool, .bool, .bool, .bool, .bool, .bool, .bool, .bool, .bool, .bool, .bool, .bool, .bool, .bool] b1, .var [.any] [.clos 25 [] [.ptr 0 0 0, .ptr 1 0 0, .ptr 2 0 0]]]
def RecOkF25 (Fx : TF25) : Prop := ∀ lk M o, FFF25 Fx (canS sgF25 lk M) = some o → FCalls CX 25 3 (argsE 4 (canS sgF25 lk M).env) (canS sgF25 lk M).mem (valF25 o) (memF25 o)
def cvce25n0 : List Cv := []
def selce25n0 : St → List Nat := fun st => [(Eng.look st.env 1).id, (Eng.look st.env 2).id, (Eng.look st.env 3).id]
noncomputable def ce25n0 (Fx : TF25) (R : Type) (test : List AV → List Blk → Bool) : CE R := ⟨25, test, fun args M => some (selce25n0 ⟨argEnv 0 args, M, [], .unk⟩), fun args M k => tst (Nat.beq args.length 4) (callFn CX 3 cvce25n0 sgF25 selce25n0 (FFF25 Fx) elF25 args M k)⟩
theorem okce25n0 (Fx : TF25) (h : RecOkF25 Fx) (R : Type) (test : List AV → List Blk → Bool) : CeOk CX (ce25n0 Fx R test) := ce_ok hX (fun o k => by cases o; rfl) h en25 (fun args M ids h => by injection h with h; exact ⟨rfl, h.symm⟩)
noncomputable def csF25 (rec : TF25) (N : Nat) (R : Type) : List (CE R) := [ce23n0 (F23 N) R (fun _ _ => true), ce25n0 rec R (fun _ _ => true)]
theorem hcsF25 (rec : TF25) (hrec : RecOkF25 rec) (N : Nat) (R : Type) : AllE (CeOk CX) (csF25 rec N R) := ⟨okce23n0 (F23 N) (soundF23 N) R (fun _ _ => true), okce25n0 rec hrec R (fun _ _ => true), trivial⟩
noncomputable def T25us30 (rec : TF25) (N : Nat) (R : Type) : LTab R := mkTab ⟨50, 1125899906842623⟩ (csF25 rec N R) (noY) [] [] []
theorem okT25us30 (rec : TF25) (hrec : RecOkF25 rec) (N : Nat) (R : Type) : (T25us30 rec N R).Ok CX code25 := mkTab_ok (hcsF25 rec hrec N R) (noY_ok) (trivial) (trivial) (trivial)
def rs25i30f31 : List ResultVar := []
inductive OL25i30f31a6 where
  | x0 (b1c0 : Int) (b2c0 : Int) (b4c0 : List Row) (b5 : List AV)
def L25i30f31a6 (rec : TF25) (N : Nat) : Nat → List Row → Int → Int → Int → Int → List Row → List AV → Option OL25i30f31a6
  | 0 => fun _ _ _ _ _ _ _ => none
  | n + 1 => fun x7 x8 x9 b1c0 b2c0 b4c0 b5 =>
    match decide (x9 < x8) with
    | true =>
      tst (decide ((0 : Int) ≤ x9) && decide (x9 < ((x7.length : Int)))) <|
      match decide ((0 : Int) < x9) with
      | true =>
        match ((((x7.getD x9.toNat [])).getD 5 .top).toI) == b1c0 with
        | true =>
          match decide (b2c0 < (0 : Int)) with
          | true =>
            match rec x9 b4c0 b5 with
            | none => none
            | some (.r rb0c0v3 rb1v3) =>
              L25i30f31a6 rec N n x7 x8 (IntKind.wrap .i64 (x9 + (1 : Int))) b1c0 b2c0 rb0c0v3 rb1v3
          | false =>
            match ((((x7.getD x9.toNat [])).getD 6 .top).toI) == b2c0 with
            | true =>
              match rec x9 b4c0 b5 with
              | none => none
              | some (.r rb0c0v4 rb1v4) =>
                L25i30f31a6 rec N n x7 x8 (IntKind.wrap .i64 (x9 + (1 : Int))) b1c0 b2c0 rb0c0v4 rb1v4
            | false =>
              L25i30f31a6 rec N n x7 x8 (IntKind.wrap .i64 (x9 + (1 : Int))) b1c0 b2c0 b4c0 b5
        | false =>
          L25i30f31a6 rec N n x7 x8 (IntKind.wrap .i64 (x9 + (1 : Int))) b1c0 b2c0 b4c0 b5
      | false =>
        L25i30f31a6 rec N n x7 x8 (IntKind.wrap .i64 (x9 + (1 : Int))) b1c0 b2c0 b4c0 b5
    | false =>
      some (.x0 b1c0 b2c0 b4c0 b5)
def LFL25i30f31a6 (rec : TF25) (N : Nat) (n : Nat) (s : St) : Option OL25i30f31a6 := L25i30f31a6 rec N n ((Eng.look s.env 7).rows) ((Eng.look s.env 8).toI) ((Eng.look s.env 9).toI) (((s.mem.getD 1 .dead).cells.getD 0 .top).toI) (((s.mem.getD 2 .dead).cells.getD 0 .top).toI) (((s.mem.getD 4 .dead).cells.getD 0 .top).rows) ((s.mem.getD 5 .dead).cells)
def sgL25i30f31a6 : LSh := ⟨[(0, .one (.yld 0)), (2, .one (.ptr 1 0 0)), (3, .one (.ptr 2 0 0)), (7, .one (.cell (.slice 30))), (8, .one (.cell (.int .i64))), (9, .one (.cell (.int .i64)))], [.loop 3 [(3, .one (.ptr 3 0 0))] none, .var [.int .i64] [.cell (.int .i64)], .var [.int .i64] [.cell (.int .i64)], .var [.any] [.cl 25 [(4, 0, 0), (5, 0, 0), (3, 0, 0)]], .var [.any] [.cell (.slice 30)], .arr [.bool, .bool, .bool, .bool, .bool, .bool, .bool, .bool, .bool, .bool, .bool, .bool, .bool, .bool, .bool, .bool, .bool, .bool, .bool, .bool, .bool, .bool, .bool, .bool, .bool, .bool, .bool, .bool, .bool, .bool, .bool, .bool]]⟩
def ceL25i30f31a6 : List Cv := []
def seL25i30f31a6 : St → List Nat := fun st => [(Eng.look st.env 0).id, (Eng.look st.env 2).id, (Eng.look st.env 3).id, ((st.mem.getD ((Eng.look st.env 0).id) .dead).lenv.getD 0 (0, .top)).2.id, (((st.mem.getD (((st.mem.getD ((Eng.look st.env 0).id) .dead).lenv.getD 0 (0, .top)).2.id) .dead).cells.getD 0 .top).caps.getD 0 .top).id, (((st.mem.getD (((st.mem.getD ((Eng.look st.env 0).id) .dead).lenv.getD 0 (0, .top)).2.id) .dead).cells.getD 0 .top).caps.getD 1 .top).id]
def xL25i30f31a6wx0 : XSh OL25i30f31a6 := ⟨[], ⟨[], [.loop 3 [(3, .one (.ptr 3 0 0))] none, .var [.int .i64] [.cell (.int .i64)], .var [.int .i64] [.cell (.int .i64)], .var [.any] [.cl 25 [(4, 0, 0), (5, 0, 0), (3, 0, 0)]], .var [.any] [.cell (.slice 30)], .arr [.bool, .bool, .bool, .bool, .bool, .bool, .bool, .bool, .bool, .bool, .bool, .bool, .bool, .bool, .bool, .bool, .bool, .bool, .bool, .bool, .bool, .bool, .bool, .bool, .bool, .bool, .bool, .bool, .bool, .bool, .bool, .bool]]⟩, fun st => [0, 1, 2, 3, 4, 5], fun s => .x0 (((s.mem.getD 1 .dead).cells.getD 0 .top).toI) (((s.mem.getD 2 .dead).cells.getD 0 .top).toI) (((s.mem.getD 4 .dead).cells.getD 0 .top).rows) ((s.mem.getD 5 .dead).cells)⟩
def xsL25i30f31a6 : Ex → St → Option (XSh OL25i30f31a6) := fun e st => match e with
  | .exit 0 => some xL25i30f31a6wx0
  | _ => none
def exL25i30f31a6 (o : OL25i30f31a6) : Ex := match o with | .x0 b1c0 b2c0 b4c0 b5 => (.exit 0)
def stL25i30f31a6 (o : OL25i30f31a6) : St := match o with | .x0 b1c0 b2c0 b4c0 b5 => ⟨[], [.loop 3 [(3, .ptr 3 0 0)] false none, .var [.int .i64] [.int .i64 b1c0], .var [.int .i64] [.int .i64 b2c0], .var [.any] [.clos 25 [] [.ptr 4 0 0, .ptr 5 0 0, .ptr 3 0 0]], .var [.any] [.list 30 b4c0], .var [.bool, .bool, .bool, .bool, .bool, .bool, .bool, .bool, .bool, .bool, .bool, .bool, .bool, .bool, .bool, .bool, .bool, .bool, .bool, .bool, .bool, .bool, .bool, .bool, .bool, .bool, .bool, .bool, .bool, .bool, .bool, .bool] b5], [], .unk⟩
def elL25i30f31a6 {R : Type} (o : OL25i30f31a6) (k : Ex → St → Option R) : Option R := match o with | .x0 b1c0 b2c0 b4c0 b5 => k (.exit 0) ⟨[], [.loop 3 [(3, .ptr 3 0 0)] false none, .var [.int .i64] [.int .i64 b1c0], .var [.int .i64] [.int .i64 b2c0], .var [.any] [.clos 25 [] [.ptr 4 0 0, .ptr 5 0 0, .ptr 3 0 0]], .var [.any] [.list 30 b4c0], .var [.bool, .bool, .bool, .bool, .bool, .bool, .bool, .bool, .bool, .bool, .bool, .bool, .bool, .bool, .bool, .bool, .bool, .bool, .bool, .bool, .bool, .bool, .bool, .bool, .bool, .bool, .bool, .bool, .bool, .bool, .bool, .bool] b5], [], .unk⟩
theorem heL25i30f31a6 {R : Type} (o : OL25i30f31a6) (k : Ex → St → Option R) : elL25i30f31a6 o k = k (exL25i30f31a6 o) (stL25i30f31a6 o) := by cases o <;> rfl
theorem hxL25i30f31a6 : ∀ e st x, xsL25i30f31a6 e st = some x → outOk x e exL25i30f31a6 stL25i30f31a6 := by
  intro e st x h
  unfold xsL25i30f31a6 at h
  repeat' split at h
  all_goals first
    | (injection h with h; subst h; exact fun lk M => ⟨rfl, rfl⟩)
    | cases h
noncomputable def T25i30f31ul6 (rec : TF25) (N : Nat) (R : Type) : LTab R := mkTab ⟨39, 549755813472⟩ (csF25 rec N R) (pickY [(3, fun id args M k => evyield CX (T25us30 rec N R) 3 30 id args M k)]) [] [] []
theorem okT25i30f31ul6 (rec : TF25) (hrec : RecOkF25 rec) (N : Nat) (R : Type) : (T25i30f31ul6 rec N R).Ok CX code31 := mkTab_ok (hcsF25 rec hrec N R) (pickY_ok (es := [(3, fun id args M k => evyield CX (T25us30 rec N R) 3 30 id args M k)]) ⟨fun {id args M k r} h => evyield_sound hX (okT25us30 rec hrec N R) (g := nd3.1) (ps := nd3.2.1) ⟨[false, true, true, true], by rfl, by kernel_rfl⟩ h, trivial⟩) (trivial) (trivial) (trivial)
noncomputable def bdL25i30f31a6 : Code := match codeAt code31 [false, true] with | some (.loop c) => c | _ => .skip
theorem hsL25i30f31a6 (rec : TF25) (N : Nat) : ∀ (n : Nat) (lk : Nat → AV) (M : List Blk), LFL25i30f31a6 rec N (n + 1) (canS sgL25i30f31a6 lk M) = evk CX (T25i30f31ul6 rec N OL25i30f31a6) bdL25i30f31a6 (2 * 6) (canS sgL25i30f31a6 lk M) (kont CX 6 [] sgL25i30f31a6 (fun st => [0, 1, 2, 3, 4, 5]) xsL25i30f31a6 (LFL25i30f31a6 rec N n)) := by intro n lk M; kernel_rfl
noncomputable def T25i30f31ur1 (rec : TF25) (N : Nat) (R : Type) : LTab R := mkTab ⟨39, 549755813887⟩ (csF25 rec N R) (pickY [(3, fun id args M k => evyield CX (T25us30 rec N R) 3 30 id args M k)]) [(6, fun st k => callLoop CX 6 549755813472 ceL25i30f31a6 sgL25i30f31a6 seL25i30f31a6 ⟨39, 549755813887⟩ (LFL25i30f31a6 rec N N) elL25i30f31a6 st k)] [] []
theorem okT25i30f31ur1 (rec : TF25) (hrec : RecOkF25 rec) (N : Nat) (R : Type) : (T25i30f31ur1 rec N R).Ok CX code31 := mkTab_ok (hcsF25 rec hrec N R) (pickY_ok (es := [(3, fun id args M k => evyield CX (T25us30 rec N R) 3 30 id args M k)]) ⟨fun {id args M k r} h => evyield_sound hX (okT25us30 rec hrec N R) (g := nd3.1) (ps := nd3.2.1) ⟨[false, true, true, true], by rfl, by kernel_rfl⟩ h, trivial⟩) (⟨loop_ok hX (path := [false, true]) (by kernel_rfl) (by rfl) (okT25i30f31ul6 rec hrec N OL25i30f31a6) (fun _ _ => rfl) (hsL25i30f31a6 rec N) hxL25i30f31a6 rfl heL25i30f31a6, trivial⟩) (trivial) (trivial)
inductive OJ25a2 where
  | nx (b0c0 : List Row) (b1 : List AV)
  | ret (b0c0 : List Row) (b1 : List AV)
def J25a2 (rec : TF25) (N : Nat) : Int → List Row → List AV → Option OJ25a2 := fun x0 b0c0 b1 =>
    match decide (x0 < (0 : Int)) with
    | true =>
      some (.ret b0c0 b1)
    | false =>
      match decide (((b0c0.length : Int)) ≤ x0) with
      | true =>
        some (.ret b0c0 b1)
      | false =>
        tst (decide ((0 : Int) ≤ x0) && decide (x0 < (32 : Int))) <|
        tst (decide (((0 + (x0.toNat * 1)) + 1) ≤ 32)) <|
        match (b1.getD (0 + (x0.toNat * 1)) .top).toB with
        | true =>
          some (.ret b0c0 b1)
        | false =>
          tst (decide ((0 : Int) ≤ x0) && decide (x0 < ((b0c0.length : Int)))) <|
          match !((((b0c0.getD x0.toNat [])).getD 0 .top).toB) with
          | true =>
            some (.ret b0c0 b1)
          | false =>
            tst (decide ((0 : Int) ≤ x0) && decide (x0 < ((b0c0.length : Int)))) <|
            match (((b0c0.getD x0.toNat [])).getD 1 .top).toB with
            | true =>
              some (.ret b0c0 b1)
            | false =>
              tst (decide ((0 : Int) ≤ x0) && decide (x0 < ((b0c0.length : Int)))) <|
              match (((b0c0.getD x0.toNat [])).getD 2 .top).toB with
              | true =>
                some (.ret b0c0 b1)
              | false =>
                some (.nx b0c0 b1)
def LFJ25a2 (rec : TF25) (N : Nat) (s : St) : Option OJ25a2 := J25a2 rec N ((Eng.look s.env 0).toI) (((s.mem.getD 0 .dead).cells.getD 0 .top).rows) ((s.mem.getD 1 .dead).cells)
def sgJ25a2 : LSh := ⟨[(0, .one (.cell (.int .i64))), (1, .one (.ptr 0 0 0)), (2, .one (.ptr 1 0 0))], [.var [.any] [.cell (.slice 30)], .arr [.bool, .bool, .bool, .bool, .bool, .bool, .bool, .bool, .bool, .bool, .bool, .bool, .bool, .bool, .bool, .bool, .bool, .bool, .bool, .bool, .bool, .bool, .bool, .bool, .bool, .bool, .bool, .bool, .bool, .bool, .bool, .bool]]⟩
def ceJ25a2 : List Cv := []
def seJ25a2 : St → List Nat := fun st => [(Eng.look st.env 1).id, (Eng.look st.env 2).id]
def xJ25a2wnx : XSh OJ25a2 := ⟨[], ⟨[], [.var [.any] [.cell (.slice 30)], .arr [.bool, .bool, .bool, .bool, .bool, .bool, .bool, .bool, .bool, .bool, .bool, .bool, .bool, .bool, .bool, .bool, .bool, .bool, .bool, .bool, .bool, .bool, .bool, .bool, .bool, .bool, .bool, .bool, .bool, .bool, .bool, .bool]]⟩, fun st => [0, 1], fun s => .nx (((s.mem.getD 0 .dead).cells.getD 0 .top).rows) ((s.mem.getD 1 .dead).cells)⟩
def xJ25a2wret : XSh OJ25a2 := ⟨[], ⟨[], [.var [.any] [.cell (.slice 30)], .arr [.bool, .bool, .bool, .bool, .bool, .bool, .bool, .bool, .bool, .bool, .bool, .bool, .bool, .bool, .bool, .bool, .bool, .bool, .bool, .bool, .bool, .bool, .bool, .bool, .bool, .bool, .bool, .bool, .bool, .bool, .bool, .bool]]⟩, fun st => [0, 1], fun s => .ret (((s.mem.getD 0 .dead).cells.getD 0 .top).rows) ((s.mem.getD 1 .dead).cells)⟩
def xsJ25a2 : Ex → St → Option (XSh OJ25a2) := fun e st => match e with
  | .normal => some xJ25a2wnx
  | .ret => some xJ25a2wret
  | _ => none
def exJ25a2 (o : OJ25a2) : Ex := match o with | .nx b0c0 b1 => .normal | .ret b0c0 b1 => .ret
def stJ25a2 (o : OJ25a2) : St := match o with | .nx b0c0 b1 => ⟨[], [.var [.any] [.list 30 b0c0], .var [.bool, .bool, .bool, .bool, .bool, .bool, .bool, .bool, .bool, .bool, .bool, .bool, .bool, .bool, .bool, .bool, .bool, .bool, .bool, .bool, .bool, .bool, .bool, .bool, .bool, .bool, .bool, .bool, .bool, .bool, .bool, .bool] b1], [], .unk⟩ | .ret b0c0 b1 => ⟨[], [.var [.any] [.list 30 b0c0], .var [.bool, .bool, .bool, .bool, .bool, .bool, .bool, .bool, .bool, .bool, .bool, .bool, .bool, .bool, .bool, .bool, .bool, .bool, .bool, .bool, .bool, .bool, .bool, .bool, .bool, .bool, .bool, .bool, .bool, .bool, .bool, .bool] b1], [], .unk⟩
def elJ25a2 {R : Type} (o : OJ25a2) (k : Ex → St → Option R) : Option R := match o with | .nx b0c0 b1 => k .normal ⟨[], [.var [.any] [.list 30 b0c0], .var [.bool, .bool, .bool, .bool, .bool, .bool, .bool, .bool, .bool, .bool, .bool, .bool, .bool, .bool, .bool, .bool, .bool, .bool, .bool, .bool, .bool, .bool, .bool, .bool, .bool, .bool, .bool, .bool, .bool, .bool, .bool, .bool] b1], [], .unk⟩ | .ret b0c0 b1 => k .ret ⟨[], [.var [.any] [.list 30 b0c0], .var [.bool, .bool, .bool, .bool, .bool, .bool, .bool, .bool, .bool, .bool, .bool, .bool, .bool, .bool, .bool, .bool, .bool, .bool, .bool, .bool, .bool, .bool, .bool, .bool, .bool, .bool, .bool, .bool, .bool, .bool, .bool, .bool] b1], [], .unk⟩
theorem heJ25a2 {R : Type} (o : OJ25a2) (k : Ex → St → Option R) : elJ25a2 o k = k (exJ25a2 o) (stJ25a2 o) := by cases o <;> rfl
theorem hxJ25a2 : ∀ e st x, xsJ25a2 e st = some x → outOk x e exJ25a2 stJ25a2 := by
  intro e st x h
  unfold xsJ25a2 at h
  repeat' split at h
  all_goals first
    | (injection h with h; subst h; exact fun lk M => ⟨rfl, rfl⟩)
    | cases h
noncomputable def T25uc2 (rec : TF25) (N : Nat) (R : Type) : LTab R := mkTab ⟨50, 2199023255488⟩ (csF25 rec N R) (noY) [] [] []
theorem okT25uc2 (rec : TF25) (hrec : RecOkF25 rec) (N : Nat) (R : Type) : (T25uc2 rec N R).Ok CX code25 := mkTab_ok (hcsF25 rec hrec N R) (noY_ok) (trivial) (trivial) (trivial)
noncomputable def bdJ25a2 : Code := (codeAt code25 [false]).getD .skip
theorem hsJ25a2 (rec : TF25) (N : Nat) : ∀ (lk : Nat → AV) (M : List Blk), LFJ25a2 rec N (canS sgJ25a2 lk M) = evk CX (T25uc2 rec N OJ25a2) bdJ25a2 2 (canS sgJ25a2 lk M) (kontX CX 2 xsJ25a2) := by intro lk M; kernel_rfl
noncomputable def T25ur1 (rec : TF25) (N : Nat) (R : Type) : LTab R := mkTab ⟨50, 1125899906842623⟩ (csF25 rec N R) (noY) [] [(30, fun st k => evrange CX (oneTab ⟨50, 1125899906842623⟩ (inl 31 (fun args M k => evfn CX (T25i30f31ur1 rec N R) code31 rs25i30f31 args M k))) 3 [3] (.tmp 45) st k)] [(2, fun st k => callLoop CX 2 2199023255488 ceJ25a2 sgJ25a2 seJ25a2 ⟨50, 1125899906842623⟩ (LFJ25a2 rec N) elJ25a2 st k)]
theorem okT25ur1 (rec : TF25) (hrec : RecOkF25 rec) (N : Nat) (R : Type) : (T25ur1 rec N R).Ok CX code25 := mkTab_ok (hcsF25 rec hrec N R) (noY_ok) (trivial) (⟨range_ok hX (path := [false, true, true, true]) (ps0 := nd3.2.1) (a0 := nd3.2.2.1) (b0 := nd3.2.2.2) (by kernel_rfl) (by rfl) (inl_ok fun {args M k r} h => evfn_sound hX (okT25i30f31ur1 rec hrec N R) Try.func31 hb31 rfl en31 (by kernel_rfl) h) (by kernel_rfl), trivial⟩) (⟨cut_ok hX (path := [false]) (by kernel_rfl) (by rfl) (okT25uc2 rec hrec N OJ25a2) (hsJ25a2 rec N) hxJ25a2 rfl heJ25a2, trivial⟩)
def rsF25 : List ResultVar := []
def F25 : Nat → TF25
  | 0 => fun _ _ _ => none
  | N + 1 => fun x0 b0c0 b1 =>
    match J25a2 (F25 N) N x0 b0c0 b1 with
    | none => none
    | some (.nx b0c0v1 b1v1) =>
      tst (decide ((0 : Int) ≤ x0) && decide (x0 < (32 : Int))) <|
      tst (decide (((0 + (x0.toNat * 1)) + 1) ≤ 32) && true) <|
      match F23 N b0c0v1 x0 ((-1)) with
      | none => none
      | some (.r rb0c0v2 rb1c0v2 rb2c0v2) =>
        match L25i30f31a6 (F25 N) N N rb0c0v2 ((rb0c0v2.length : Int)) 0 rb1c0v2 rb2c0v2 b0c0v1 (Eng.setAt b1v1 (0 + (x0.toNat * 1)) [.bool true]) with
        | none => none
        | some (.x0 b1c0v5 b2c0v5 b4c0v5 b5v5) =>
          some (.r b4c0v5 b5v5)
    | some (.ret b0c0v6 b1v6) =>
      some (.r b0c0v6 b1v6)
def xRF25 : XSh R25 := ⟨[], ⟨[], [.var [.any] [.cell (.slice 30)], .arr [.bool, .bool, .bool, .bool, .bool, .bool, .bool, .bool, .bool, .bool, .bool, .bool, .bool, .bool, .bool, .bool, .bool, .bool, .bool, .bool, .bool, .bool, .bool, .bool, .bool, .bool, .bool, .bool, .bool, .bool, .bool, .bool], .var [.any] [.cl 25 [(0, 0, 0), (1, 0, 0), (2, 0, 0)]]]⟩, fun st => [0, 1, 2], fun s => .r (((s.mem.getD 0 .dead).cells.getD 0 .top).rows) ((s.mem.getD 1 .dead).cells)⟩
theorem fsF25 : ∀ (N : Nat) (lk : Nat → AV) (M : List Blk), FFF25 (F25 (N + 1)) (canS sgF25 lk M) = evfn CX (T25ur1 (F25 N) N R25) code25 rsF25 (argsE 4 (canS sgF25 lk M).env) (canS sgF25 lk M).mem (goRt CX 3 0 (fun _ => some xRF25)) := by intro N lk M; kernel_rfl
theorem soundF25 : ∀ N, RecOkF25 (F25 N)
  | 0, lk, M, o, h => by cases h
  | N + 1, lk, M, o, h => fn_soundt hX (okT25ur1 (F25 N) (soundF25 N) N R25) Try.func25 hb25 rfl en25 (by kernel_rfl) (ys := fun _ => some xRF25) (fun st y h => by injection h with h; subst h; exact fun lk M => ⟨rfl, rfl⟩) ((fsF25 N lk M).symm.trans h)
end Go.Proofs.Ytfggehkiglenjaa

namespace Go.Proofs.Ytfggehkiglenjaa
open Go Go.Eng
set_option maxRecDepth 100000

/-! ### F26: ceiling/master.chosen -/
inductive R26 where
  | r (b0 : List Row)
abbrev TF26 := List Row → Bool → Bool → Bool → Bool → Bool → Bool → Bool → Bool → Bool → Bool → Bool → Bool → Bool → Bool → Bool → Bool → Bool → Bool → Bool → Bool → Bool → Bool → Bool → Bool → Bool → Bool → Bool → Bool → Bool → Bool → Bool → Bool → Option R26
def sgF26 : LSh := ⟨[(0, .one (.cell (.slice 30))), (1, .agg [.cell (.bool), .cell (.bool), .cell (.bool), .cell (.bool), .cell (.bool), .cell (.bool), .cell (.bool), .cell (.bool), .cell (.bool), .cell (.bool), .cell (.bool), .cell (.bool), .cell (.bool), .cell (.bool), .cell (.bool), .cell (.bool), .cell (.bool), .cell (.bool), .cell (.bool), .cell (.bool), .cell (.bool), .cell (.bool), .cell (.bool), .cell (.bool), .cell (.bool), .cell (.bool), .cell (.bool), .cell (.bool), .cell (.bool), .cell (.bool), .cell (.bool), .cell (.bool)])], []⟩
def FFF26 (Fx : TF26) (s : St) : Option R26 := Fx ((Eng.look s.env 0).rows) (((Eng.look s.env 1).cells.getD 0 .top).toB) (((Eng.look s.env 1).cells.getD 1 .top).toB) (((Eng.look s.env 1).cells.getD 2 .top).toB) (((Eng.look s.env 1).cells.getD 3 .top).toB) (((Eng.look s.env 1).cells.getD 4 .top).toB) (((Eng.look s.env 1).cells.getD 5 .top).toB) (((Eng.look s.env 1).cells.getD 6 .top).toB) (((Eng.look s.env 1).cells.getD 7 .top).toB) (((Eng.look s.env 1).cells.getD 8 .top).toB) (((Eng.look s.env 1).cells.getD 9 .top).toB) (((Eng.look s.env 1).cells.getD 10 .top).toB) (((Eng.look s.env 1).cells.getD 11 .top).toB) (((Eng.look s.env 1).cells.getD 12 .top).toB) (((Eng.look s.env 1).cells.getD 13 .top).toB) (((Eng.look s.env 1).cells.getD 14 .top).toB) (((Eng.look s.env 1).cells.getD 15 .top).toB) (((Eng.look s.env 1).cells.getD 16 .top).toB) (((Eng.look s.env 1).cells.getD 17 .top).toB) (((Eng.look s.env 1).cells.getD 18 .top).toB) (((Eng.look s.env 1).cells.getD 19 .top).toB) (((Eng.look s.env 1).cells.getD 20 .top).toB) (((Eng.look s.env 1).cells.getD 21 .top).toB) (((Eng.look s.env 1).cells.getD 22 .top).toB) (((Eng.look s.env 1).cells.getD 23 .top).toB) (((Eng.look s.env 1).cells.getD 24 .top).toB) (((Eng.look s.env 1).cells.getD 25 .top).toB) (((Eng.look s.env 1).cells.getD 26 .top).toB) (((Eng.look s.env 1).cells.getD 27 .top).toB) (((Eng.look s.env 1).cells.getD 28 .top).toB) (((Eng.look s.env 1).cells.getD 29 .top).toB) (((Eng.look s.env 1).cells.getD 30 .top).toB) (((Eng.look s.env 1).cells.getD 31 .top).toB)
def valF26 (o : R26) : AV := match o with | .r b0 => .own 0
def memF26 (o : R26) : List Blk := match o with | .r b0 => [.row 3 b0]
def elF26 {R : Type} (o : R26) (k : AV → List Blk → Option R) : Option R := match o with | .r b0 => k (.own 0) [.row 3 b0]
def RecOkF26 (Fx : TF26) : Prop := ∀ lk M o, FFF26 Fx (canS sgF26 lk M) = some o → FCalls CX 26 0 (argsE 2 (canS sgF26 lk M).env) (canS sgF26 lk M).mem (valF26 o) (memF26 o)
noncomputable def csF26 (N : Nat) (R : Type) : List (CE R) := []
theorem hcsF26 (N : Nat) (R : Type) : AllE (CeOk CX) (csF26 N R) := trivial
inductive OL26a26 where
  | x0 (b0 : List AV) (b1 : List Row)
def L26a26 (N : Nat) : Nat → Int → Int → List AV → List Row → Option OL26a26
  | 0 => fun _ _ _ _ => none
  | n + 1 => fun x7 x8 b0 b1 =>
    match decide (x8 < x7) with
    | true =>
      tst (decide ((0 : Int) ≤ x8) && decide (x8 < (32 : Int))) <|
      tst (decide (((0 + (x8.toNat * 1)) + 1) ≤ 32)) <|
      match (b0.getD (0 + (x8.toNat * 1)) .top).toB with
      | true =>
        tst (decide (((b1.length + 1) * 8) ≤ 140737488355328)) <|
        L26a26 N n x7 (IntKind.wrap .i64 (x8 + (1 : Int))) b0 (b1 ++ (([[.int .i64 x8]] : List Row)))
      | false =>
        L26a26 N n x7 (IntKind.wrap .i64 (x8 + (1 : Int))) b0 b1
    | false =>
      some (.x0 b0 b1)
def LFL26a26 (N : Nat) (n : Nat) (s : St) : Option OL26a26 := L26a26 N n ((Eng.look s.env 7).toI) ((Eng.look s.env 8).toI) ((s.mem.getD 0 .dead).cells) ((s.mem.getD 1 .dead).rows)
def sgL26a26 : LSh := ⟨[(3, .one (.ptr 0 0 0)), (4, .one (.own 1)), (7, .one (.cell (.int .i64))), (8, .one (.cell (.int .i64)))], [.arr [.bool, .bool, .bool, .bool, .bool, .bool, .bool, .bool, .bool, .bool, .bool, .bool, .bool, .bool, .bool, .bool, .bool, .bool, .bool, .bool, .bool, .bool, .bool, .bool, .bool, .bool, .bool, .bool, .bool, .bool, .bool, .bool], .row 3]⟩
def ceL26a26 : List Cv := [.mk 4 3]
def seL26a26 : St → List Nat := fun st => [(Eng.look st.env 3).id, (Eng.look st.env 4).id]
def xL26a26wx0 : XSh OL26a26 := ⟨[], ⟨[(4, .one (.own 1))], [.arr [.bool, .bool, .bool, .bool, .bool, .bool, .bool, .bool, .bool, .bool, .bool, .bool, .bool, .bool, .bool, .bool, .bool, .bool, .bool, .bool, .bool, .bool, .bool, .bool, .bool, .bool, .bool, .bool, .bool, .bool, .bool, .bool], .row 3]⟩, fun st => [0, (Eng.look st.env 4).id], fun s => .x0 ((s.mem.getD 0 .dead).cells) ((s.mem.getD 1 .dead).rows)⟩
def xsL26a26 : Ex → St → Option (XSh OL26a26) := fun e st => match e with
  | .exit 0 => some xL26a26wx0
  | _ => none
def exL26a26 (o : OL26a26) : Ex := match o with | .x0 b0 b1 => (.exit 0)
def stL26a26 (o : OL26a26) : St := match o with | .x0 b0 b1 => ⟨[(4, .own 1)], [.var [.bool, .bool, .bool, .bool, .bool, .bool, .bool, .bool, .bool, .bool, .bool, .bool, .bool, .bool, .bool, .bool, .bool, .bool, .bool, .bool, .bool, .bool, .bool, .bool, .bool, .bool, .bool, .bool, .bool, .bool, .bool, .bool] b0, .row 3 b1], [], .unk⟩
def elL26a26 {R : Type} (o : OL26a26) (k : Ex → St → Option R) : Option R := match o with | .x0 b0 b1 => k (.exit 0) ⟨[(4, .own 1)], [.var [.bool, .bool, .bool, .bool, .bool, .bool, .bool, .bool, .bool, .bool, .bool, .bool, .bool, .bool, .bool, .bool, .bool, .bool, .bool, .bool, .bool, .bool, .bool, .bool, .bool, .bool, .bool, .bool, .bool, .bool, .bool, .bool] b0, .row 3 b1], [], .unk⟩
theorem heL26a26 {R : Type} (o : OL26a26) (k : Ex → St → Option R) : elL26a26 o k = k (exL26a26 o) (stL26a26 o) := by cases o <;> rfl
theorem hxL26a26 : ∀ e st x, xsL26a26 e st = some x → outOk x e exL26a26 stL26a26 := by
  intro e st x h
  unfold xsL26a26 at h
  repeat' split at h
  all_goals first
    | (injection h with h; subst h; exact fun lk M => ⟨rfl, rfl⟩)
    | cases h
noncomputable def T26ul26 (N : Nat) (R : Type) : LTab R := mkTab ⟨20, 524080⟩ (csF26 N R) (noY) [] [] []
theorem okT26ul26 (N : Nat) (R : Type) : (T26ul26 N R).Ok CX code26 := mkTab_ok (hcsF26 N R) (noY_ok) (trivial) (trivial) (trivial)
noncomputable def bdL26a26 : Code := match codeAt code26 [false, true, false, true] with | some (.loop c) => c | _ => .skip
theorem hsL26a26 (N : Nat) : ∀ (n : Nat) (lk : Nat → AV) (M : List Blk), LFL26a26 N (n + 1) (canS sgL26a26 lk M) = evk CX (T26ul26 N OL26a26) bdL26a26 (2 * 26) (canS sgL26a26 lk M) (kont CX 1 [] sgL26a26 (fun st => [0, (Eng.look st.env 4).id]) xsL26a26 (LFL26a26 N n)) := by intro n lk M; kernel_rfl
noncomputable def T26ur1 (N : Nat) (R : Type) : LTab R := mkTab ⟨20, 1048575⟩ (csF26 N R) (noY) [(26, fun st k => callLoop CX 1 524080 ceL26a26 sgL26a26 seL26a26 ⟨20, 1048575⟩ (LFL26a26 N N) elL26a26 st k)] [] []
theorem okT26ur1 (N : Nat) (R : Type) : (T26ur1 N R).Ok CX code26 := mkTab_ok (hcsF26 N R) (noY_ok) (⟨loop_ok hX (path := [false, true, false, true]) (by kernel_rfl) (by rfl) (okT26ul26 N OL26a26) (fun _ _ => rfl) (hsL26a26 N) hxL26a26 rfl heL26a26, trivial⟩) (trivial) (trivial)
def rsF26 : List ResultVar := [.tmp 4]
def F26 : Nat → TF26
  | 0 => fun _ _ _ _ _ _ _ _ _ _ _ _ _ _ _ _ _ _ _ _ _ _ _ _ _ _ _ _ _ _ _ _ _ => none
  | N + 1 => fun x0 x1c0 x1c1 x1c2 x1c3 x1c4 x1c5 x1c6 x1c7 x1c8 x1c9 x1c10 x1c11 x1c12 x1c13 x1c14 x1c15 x1c16 x1c17 x1c18 x1c19 x1c20 x1c21 x1c22 x1c23 x1c24 x1c25 x1c26 x1c27 x1c28 x1c29 x1c30 x1c31 =>
    match L26a26 N N ((x0.length : Int)) 0 (([.bool x1c0, .bool x1c1, .bool x1c2, .bool x1c3, .bool x1c4, .bool x1c5, .bool x1c6, .bool x1c7, .bool x1c8, .bool x1c9, .bool x1c10, .bool x1c11, .bool x1c12, .bool x1c13, .bool x1c14, .bool x1c15, .bool x1c16, .bool x1c17, .bool x1c18, .bool x1c19, .bool x1c20, .bool x1c21, .bool x1c22, .bool x1c23, .bool x1c24, .bool x1c25, .bool x1c26, .bool x1c27, .bool x1c28, .bool x1c29, .bool x1c30, .bool x1c31] : List AV)) (([] : List Row)) with
    | none => none
    | some (.x0 b0v1 b1v1) =>
      some (.r b1v1)
def xRF26 : XSh R26 := ⟨[], ⟨[(0, .one (.own 0))], [.row 3]⟩, fun st => [(Eng.look st.env 0).id], fun s => .r ((s.mem.getD 0 .dead).rows)⟩
theorem fsF26 : ∀ (N : Nat) (lk : Nat → AV) (M : List Blk), FFF26 (F26 (N + 1)) (canS sgF26 lk M) = evfn CX (T26ur1 N R26) code26 rsF26 (argsE 2 (canS sgF26 lk M).env) (canS sgF26 lk M).mem (goR CX 0 (fun _ => some xRF26)) := by intro N lk M; kernel_rfl
theorem soundF26 : ∀ N, RecOkF26 (F26 N)
  | 0, lk, M, o, h => by cases h
  | N + 1, lk, M, o, h => fn_sound hX (okT26ur1 N R26) Try.func26 hb26 rfl en26 (by kernel_rfl) (ys := fun _ => some xRF26) (fun st y h => by injection h with h; subst h; exact fun lk M => ⟨rfl, rfl⟩) ((fsF26 N lk M).symm.trans h)
def cvce26n0 : List Cv := []
def selce26n0 : St → List Nat := fun _ => []
noncomputable def ce26n0 (Fx : TF26) (R : Type) (test : List AV → List Blk → Bool) : CE R := ⟨26, test, fun args M => some (selce26n0 ⟨argEnv 0 args, M, [], .unk⟩), fun args M k => tst (Nat.beq args.length 2) (callFn CX 0 cvce26n0 sgF26 selce26n0 (FFF26 Fx) elF26 args M k)⟩
theorem okce26n0 (Fx : TF26) (h : RecOkF26 Fx) (R : Type) (test : List AV → List Blk → Bool) : CeOk CX (ce26n0 Fx R test) := ce_ok hX (fun o k => by cases o; rfl) h en26 (fun args M ids h => by injection h with h; exact ⟨rfl, h.symm⟩)
end Go.Proofs.Ytfggehkiglenjaa

namespace Go.Proofs.Ytfggehkiglenjaa
open Go Go.Eng
set_option maxRecDepth 100000

/-! ### F11: ceiling/master.Abort -/
inductive R11 where
  | r (b0 : List Row)
abbrev TF11 := List Row → List Row → Option R11
def sgF11 : LSh := ⟨[(0, .one (.cell (.slice 30))), (1, .one (.cell (.slice 3)))], []⟩
def FFF11 (Fx : TF11) (s : St) : Option R11 := Fx ((Eng.look s.env 0).rows) ((Eng.look s.env 1).rows)
def valF11 (o : R11) : AV := match o with | .r b0 => .own 0
def memF11 (o : R11) : List Blk := match o with | .r b0 => [.row 3 b0]
def elF11 {R : Type} (o : R11) (k : AV → List Blk → Option R) : Option R := match o with | .r b0 => k (.own 0) [.row 3 b0]
def RecOkF11 (Fx : TF11) : Prop := ∀ lk M o, FFF11 Fx (canS sgF11 lk M) = some o → FCalls CX 11 0 (argsE 2 (canS sgF11 lk M).env) (canS sgF11 lk M).mem (valF11 o) (memF11 o)
noncomputable def csF11 (N : Nat) (R : Type) : List (CE R) := [ce16n0 (F16 N) R (fun _ _ => true), ce25n0 (F25 N) R (fun _ _ => true), ce26n0 (F26 N) R (fun _ _ => true)]
theorem hcsF11 (N : Nat) (R : Type) : AllE (CeOk CX) (csF11 N R) := ⟨okce16n0 (F16 N) (soundF16 N) R (fun _ _ => true), okce25n0 (F25 N) (soundF25 N) R (fun _ _ => true), okce26n0 (F26 N) (soundF26 N) R (fun _ _ => true), trivial⟩
inductive OL11a506 where
  | x0 (b1c0 : List Row) (b2 : List AV)
def L11a506 (N : Nat) : Nat → List Row → Int → Int → List Row → List AV → Option OL11a506
  | 0 => fun _ _ _ _ _ => none
  | n + 1 => fun x13 x14 x15 b1c0 b2 =>
    match decide (x15 < x14) with
    | true =>
      tst (decide ((0 : Int) ≤ x15) && decide (x15 < ((x13.length : Int)))) <|
      match F25 N ((((x13.getD x15.toNat [])).getD 0 .top).toI) b1c0 b2 with
      | none => none
      | some (.r rb0c0v2 rb1v2) =>
        L11a506 N n x13 x14 (IntKind.wrap .i64 (x15 + (1 : Int))) rb0c0v2 rb1v2
    | false =>
      some (.x0 b1c0 b2)
def LFL11a506 (N : Nat) (n : Nat) (s : St) : Option OL11a506 := L11a506 N n ((Eng.look s.env 13).rows) ((Eng.look s.env 14).toI) ((Eng.look s.env 15).toI) (((s.mem.getD 1 .dead).cells.getD 0 .top).rows) ((s.mem.getD 2 .dead).cells)
def sgL11a506 : LSh := ⟨[(6, .one (.ptr 0 0 0)), (13, .one (.cell (.slice 3))), (14, .one (.cell (.int .i64))), (15, .one (.cell (.int .i64)))], [.var [.any] [.cl 25 [(1, 0, 0), (2, 0, 0), (0, 0, 0)]], .var [.any] [.cell (.slice 30)], .arr [.bool, .bool, .bool, .bool, .bool, .bool, .bool, .bool, .bool, .bool, .bool, .bool, .bool, .bool, .bool, .bool, .bool, .bool, .bool, .bool, .bool, .bool, .bool, .bool, .bool, .bool, .bool, .bool, .bool, .bool, .bool, .bool]]⟩
def ceL11a506 : List Cv := []
def seL11a506 : St → List Nat := fun st => [(Eng.look st.env 6).id, (((st.mem.getD ((Eng.look st.env 6).id) .dead).cells.getD 0 .top).caps.getD 0 .top).id, (((st.mem.getD ((Eng.look st.env 6).id) .dead).cells.getD 0 .top).caps.getD 1 .top).id]
def xL11a506wx0 : XSh OL11a506 := ⟨[], ⟨[], [.var [.any] [.cl 25 [(1, 0, 0), (2, 0, 0), (0, 0, 0)]], .var [.any] [.cell (.slice 30)], .arr [.bool, .bool, .bool, .bool, .bool, .bool, .bool, .bool, .bool, .bool, .bool, .bool, .bool, .bool, .bool, .bool, .bool, .bool, .bool, .bool, .bool, .bool, .bool, .bool, .bool, .bool, .bool, .bool, .bool, .bool, .bool, .bool]]⟩, fun st => [0, 1, 2], fun s => .x0 (((s.mem.getD 1 .dead).cells.getD 0 .top).rows) ((s.mem.getD 2 .dead).cells)⟩
def xsL11a506 : Ex → St → Option (XSh OL11a506) := fun e st => match e with
  | .exit 0 => some xL11a506wx0
  | _ => none
def exL11a506 (o : OL11a506) : Ex := match o with | .x0 b1c0 b2 => (.exit 0)
def stL11a506 (o : OL11a506) : St := match o with | .x0 b1c0 b2 => ⟨[], [.var [.any] [.clos 25 [] [.ptr 1 0 0, .ptr 2 0 0, .ptr 0 0 0]], .var [.any] [.list 30 b1c0], .var [.bool, .bool, .bool, .bool, .bool, .bool, .bool, .bool, .bool, .bool, .bool, .bool, .bool, .bool, .bool, .bool, .bool, .bool, .bool, .bool, .bool, .bool, .bool, .bool, .bool, .bool, .bool, .bool, .bool, .bool, .bool, .bool] b2], [], .unk⟩
def elL11a506 {R : Type} (o : OL11a506) (k : Ex → St → Option R) : Option R := match o with | .x0 b1c0 b2 => k (.exit 0) ⟨[], [.var [.any] [.clos 25 [] [.ptr 1 0 0, .ptr 2 0 0, .ptr 0 0 0]], .var [.any] [.list 30 b1c0], .var [.bool, .bool, .bool, .bool, .bool, .bool, .bool, .bool, .bool, .bool, .bool, .bool, .bool, .bool, .bool, .bool, .bool, .bool, .bool, .bool, .bool, .bool, .bool, .bool, .bool, .bool, .bool, .bool, .bool, .bool, .bool, .bool] b2], [], .unk⟩
theorem heL11a506 {R : Type} (o : OL11a506) (k : Ex → St → Option R) : elL11a506 o k = k (exL11a506 o) (stL11a506 o) := by cases o <;> rfl
theorem hxL11a506 : ∀ e st x, xsL11a506 e st = some x → outOk x e exL11a506 stL11a506 := by
  intro e st x h
  unfold xsL11a506 at h
  repeat' split at h
  all_goals first
    | (injection h with h; subst h; exact fun lk M => ⟨rfl, rfl⟩)
    | cases h
noncomputable def T11ul506 (N : Nat) (R : Type) : LTab R := mkTab ⟨26, 8356096⟩ (csF11 N R) (noY) [] [] []
theorem okT11ul506 (N : Nat) (R : Type) : (T11ul506 N R).Ok CX code11 := mkTab_ok (hcsF11 N R) (noY_ok) (trivial) (trivial) (trivial)
noncomputable def bdL11a506 : Code := match codeAt code11 [false, true, false, true, true, true, true, true] with | some (.loop c) => c | _ => .skip
theorem hsL11a506 (N : Nat) : ∀ (n : Nat) (lk : Nat → AV) (M : List Blk), LFL11a506 N (n + 1) (canS sgL11a506 lk M) = evk CX (T11ul506 N OL11a506) bdL11a506 (2 * 506) (canS sgL11a506 lk M) (kont CX 3 [] sgL11a506 (fun st => [0, 1, 2]) xsL11a506 (LFL11a506 N n)) := by intro n lk M; kernel_rfl
noncomputable def T11ur1 (N : Nat) (R : Type) : LTab R := mkTab ⟨26, 67108863⟩ (csF11 N R) (noY) [(506, fun st k => callLoop CX 3 8356096 ceL11a506 sgL11a506 seL11a506 ⟨26, 67108863⟩ (LFL11a506 N N) elL11a506 st k)] [] []
theorem okT11ur1 (N : Nat) (R : Type) : (T11ur1 N R).Ok CX code11 := mkTab_ok (hcsF11 N R) (noY_ok) (⟨loop_ok hX (path := [false, true, false, true, true, true, true, true]) (by kernel_rfl) (by rfl) (okT11ul506 N OL11a506) (fun _ _ => rfl) (hsL11a506 N) hxL11a506 rfl heL11a506, trivial⟩) (trivial) (trivial)
def rsF11 : List ResultVar := [.tmp 4]
def F11 : Nat → TF11
  | 0 => fun _ _ => none
  | N + 1 => fun x0 x1 =>
    match F16 N x0 with
    | none => none
    | some (.r rx0v1) =>
      match !rx0v1 with
      | true =>
        some (.r (([] : List Row)))
      | false =>
        match L11a506 N N x1 ((x1.length : Int)) 0 x0 (([.bool false, .bool false, .bool false, .bool false, .bool false, .bool false, .bool false, .bool false, .bool false, .bool false, .bool false, .bool false, .bool false, .bool false, .bool false, .bool false, .bool false, .bool false, .bool false, .bool false, .bool false, .bool false, .bool false, .bool false, .bool false, .bool false, .bool false, .bool false, .bool false, .bool false, .bool false, .bool false] : List AV)) with
        | none => none
        | some (.x0 b1c0v3 b2v3) =>
          match F26 N b1c0v3 ((b2v3.getD 0 .top).toB) ((b2v3.getD 1 .top).toB) ((b2v3.getD 2 .top).toB) ((b2v3.getD 3 .top).toB) ((b2v3.getD 4 .top).toB) ((b2v3.getD 5 .top).toB) ((b2v3.getD 6 .top).toB) ((b2v3.getD 7 .top).toB) ((b2v3.getD 8 .top).toB) ((b2v3.getD 9 .top).toB) ((b2v3.getD 10 .top).toB) ((b2v3.getD 11 .top).toB) ((b2v3.getD 12 .top).toB) ((b2v3.getD 13 .top).toB) ((b2v3.getD 14 .top).toB) ((b2v3.getD 15 .top).toB) ((b2v3.getD 16 .top).toB) ((b2v3.getD 17 .top).toB) ((b2v3.getD 18 .top).toB) ((b2v3.getD 19 .top).toB) ((b2v3.getD 20 .top).toB) ((b2v3.getD 21 .top).toB) ((b2v3.getD 22 .top).toB) ((b2v3.getD 23 .top).toB) ((b2v3.getD 24 .top).toB) ((b2v3.getD 25 .top).toB) ((b2v3.getD 26 .top).toB) ((b2v3.getD 27 .top).toB) ((b2v3.getD 28 .top).toB) ((b2v3.getD 29 .top).toB) ((b2v3.getD 30 .top).toB) ((b2v3.getD 31 .top).toB) with
          | none => none
          | some (.r rb0v4) =>
            some (.r rb0v4)
def xRF11 : XSh R11 := ⟨[.mk 0 3], ⟨[(0, .one (.own 0))], [.row 3]⟩, fun st => [(Eng.look st.env 0).id], fun s => .r ((s.mem.getD 0 .dead).rows)⟩
theorem fsF11 : ∀ (N : Nat) (lk : Nat → AV) (M : List Blk), FFF11 (F11 (N + 1)) (canS sgF11 lk M) = evfn CX (T11ur1 N R11) code11 rsF11 (argsE 2 (canS sgF11 lk M).env) (canS sgF11 lk M).mem (goR CX 0 (fun _ => some xRF11)) := by intro N lk M; kernel_rfl
theorem soundF11 : ∀ N, RecOkF11 (F11 N)
  | 0, lk, M, o, h => by cases h
  | N + 1, lk, M, o, h => fn_sound hX (okT11ur1 N R11) Try.func11 hb11 rfl en11 (by kernel_rfl) (ys := fun _ => some xRF11) (fun st y h => by injection h with h; subst h; exact fun lk M => ⟨rfl, rfl⟩) ((fsF11 N lk M).symm.trans h)
def cvce11n0 : List Cv := [.frz 1 (.slice 3)]
def selce11n0 : St → List Nat := fun _ => []
noncomputable def ce11n0 (Fx : TF11) (R : Type) (test : List AV → List Blk → Bool) : CE R := ⟨11, test, fun _ _ => none, fun args M k => tst (Nat.beq args.length 2) (callFn CX 0 cvce11n0 sgF11 selce11n0 (FFF11 Fx) elF11 args M k)⟩
theorem okce11n0 (Fx : TF11) (h : RecOkF11 Fx) (R : Type) (test : List AV → List Blk → Bool) : CeOk CX (ce11n0 Fx R test) := ce_ok hX (fun o k => by cases o; rfl) h en11 (fun args M ids h => by cases h)
def cvce11n1 : List Cv := [.frz 0 (.slice 30), .frz 1 (.slice 3)]
def selce11n1 : St → List Nat := fun _ => []
noncomputable def ce11n1 (Fx : TF11) (R : Type) (test : List AV → List Blk → Bool) : CE R := ⟨11, test, fun _ _ => none, fun args M k => tst (Nat.beq args.length 2) (callFn CX 0 cvce11n1 sgF11 selce11n1 (FFF11 Fx) elF11 args M k)⟩
theorem okce11n1 (Fx : TF11) (h : RecOkF11 Fx) (R : Type) (test : List AV → List Blk → Bool) : CeOk CX (ce11n1 Fx R test) := ce_ok hX (fun o k => by cases o; rfl) h en11 (fun args M ids h => by cases h)
def cvce11n2 : List Cv := []
def selce11n2 : St → List Nat := fun _ => []
noncomputable def ce11n2 (Fx : TF11) (R : Type) (test : List AV → List Blk → Bool) : CE R := ⟨11, test, fun args M => some (selce11n2 ⟨argEnv 0 args, M, [], .unk⟩), fun args M k => tst (Nat.beq args.length 2) (callFn CX 0 cvce11n2 sgF11 selce11n2 (FFF11 Fx) elF11 args M k)⟩
theorem okce11n2 (Fx : TF11) (h : RecOkF11 Fx) (R : Type) (test : List AV → List Blk → Bool) : CeOk CX (ce11n2 Fx R test) := ce_ok hX (fun o k => by cases o; rfl) h en11 (fun args M ids h => by injection h with h; exact ⟨rfl, h.symm⟩)
def cvce11n3 : List Cv := [.frz 0 (.slice 30)]
def selce11n3 : St → List Nat := fun _ => []
noncomputable def ce11n3 (Fx : TF11) (R : Type) (test : List AV → List Blk → Bool) : CE R := ⟨11, test, fun _ _ => none, fun args M k => tst (Nat.beq args.length 2) (callFn CX 0 cvce11n3 sgF11 selce11n3 (FFF11 Fx) elF11 args M k)⟩
theorem okce11n3 (Fx : TF11) (h : RecOkF11 Fx) (R : Type) (test : List AV → List Blk → Bool) : CeOk CX (ce11n3 Fx R test) := ce_ok hX (fun o k => by cases o; rfl) h en11 (fun args M ids h => by cases h)
end Go.Proofs.Ytfggehkiglenjaa

namespace Go.Proofs.Ytfggehkiglenjaa
open Go Go.Eng
set_option maxRecDepth 100000

/-! ### F29: ceiling/master.Depends.1 -/
inductive R29 where
  | r (b0c0 : List Row) (b1 : List AV)
abbrev TF29 := Int → List Row → List AV → Option R29
def sgF29 : LSh := ⟨[(0, .one (.cell (.int .i64))), (1, .one (.ptr 0 0 0)), (2, .one (.ptr 1 0 0)), (3, .one (.ptr 2 0 0))], [.var [.any] [.cell (.slice 30)], .arr [.bool, .bool, .bool, .bool, .bool, .bool, .bool, .bool, .bool, .bool, .bool, .bool, .bool, .bool, .bool, .bool, .bool, .bool, .bool, .bool, .bool, .bool, .bool, .bool, .bool, .bool, .bool, .bool, .bool, .bool, .bool, .bool], .var [.any] [.cl 29 [(0, 0, 0), (1, 0, 0), (2, 0, 0)]]]⟩
def FFF29 (Fx : TF29) (s : St) : Option R29 := Fx ((Eng.look s.env 0).toI) (((s.mem.getD 0 .dead).cells.getD 0 .top).rows) ((s.mem.getD 1 .dead).cells)
def valF29 (o : R29) : AV := match o with | .r b0c0 b1 => .tup []
def memF29 (o : R29) : List Blk := match o with | .r b0c0 b1 => [.var [.any] [.list 30 b0c0], .var [.bool, .bool, .bool, .bool, .bool, .bool, .bool, .bool, .bool, .bool, .bool, .bool, .bool, .bool, .bool, .bool, .bool, .bool, .bool, .bool, .bool, .bool, .bool, .bool, .bool, .bool, .bool, .bool, .bool, .bool, .bool, .bool] b1, .var [.any] [.clos 29 [] [.ptr 0 0 0, .ptr 1 0 0, .ptr 2 0 0]]]
def elF29 {R : Type} (o : R29) (k : AV → List Blk → Option R) : Option R := match o with | .r b0c0 b1 => k (.tup []) [.var [.any] [.list 30 b0c0], .var [.bool, .bool, .bool, .bool, .bool, .bool, .bool, .bool, .bool, .bool, .bool, .bool, .bool, .bool, .bool, .bool, .bool, .bool, .bool, .bool, .bool, .bool, .bool, .bool, .bool, .bool, .bool, .bool, .bool, .bool, .bool, .bool] b1, .var [.any] [.clos 29 [] [.ptr 0 0 0, .ptr 1 0 0, .ptr 2 0 0]]]
def RecOkF29 (Fx : TF29) : Prop := ∀ lk M o, FFF29 Fx (canS sgF29 lk M) = some o → FCalls CX 29 3 (argsE 4 (canS sgF29 lk M).env) (canS sgF29 lk M).mem (valF29 o) (memF29 o)
def cvce29n0 : List Cv := []
def selce29n0 : St → List Nat := fun st => [(Eng.look st.env 1).id, (Eng.look st.env 2).id, (Eng.look st.env 3).id]
noncomputable def ce29n0 (Fx : TF29) (R : Type) (test : List AV → List Blk → Bool) : CE R := ⟨29, test, fun args M => some (selce29n0 ⟨argEnv 0 args, M, [], .unk⟩), fun args M k => tst (Nat.beq args.length 4) (callFn CX 3 cvce29n0 sgF29 selce29n0 (FFF29 Fx) elF29 args M k)⟩
theorem okce29n0 (Fx : TF29) (h : RecOkF29 Fx) (R : Type) (test : List AV → List Blk → Bool) : CeOk CX (ce29n0 Fx R test) := ce_ok hX (fun o k => by cases o; rfl) h en29 (fun args M ids h => by injection h with h; exact ⟨rfl, h.symm⟩)
noncomputable def csF29 (rec : TF29) (N : Nat) (R : Type) : List (CE R) := [ce23n0 (F23 N) R (fun _ _ => true), ce29n0 rec R (fun _ _ => true)]
theorem hcsF29 (rec : TF29) (hrec : RecOkF29 rec) (N : Nat) (R : Type) : AllE (CeOk CX) (csF29 rec N R) := ⟨okce23n0 (F23 N) (soundF23 N) R (fun _ _ => true), okce29n0 rec hrec R (fun _ _ => true), trivial⟩
noncomputable def T29us6 (rec : TF29) (N : Nat) (R : Type) : LTab R := mkTab ⟨15, 32767⟩ (csF29 rec N R) (noY) [] [] []
theorem okT29us6 (rec : TF29) (hrec : RecOkF29 rec) (N : Nat) (R : Type) : (T29us6 rec N R).Ok CX code29 := mkTab_ok (hcsF29 rec hrec N R) (noY_ok) (trivial) (trivial) (trivial)
def rs29i6f31 : List ResultVar := []
inductive OL29i6f31a6 where
  | x0 (b1c0 : Int) (b2c0 : Int) (b3 : List AV) (b5c0 : List Row)
def L29i6f31a6 (rec : TF29) (N : Nat) : Nat → List Row → Int → Int → Int → Int → List AV → List Row → Option OL29i6f31a6
  | 0 => fun _ _ _ _ _ _ _ => none
  | n + 1 => fun x7 x8 x9 b1c0 b2c0 b3 b5c0 =>
    match decide (x9 < x8) with
    | true =>
      tst (decide ((0 : Int) ≤ x9) && decide (x9 < ((x7.length : Int)))) <|
      match decide ((0 : Int) < x9) with
      | true =>
        match ((((x7.getD x9.toNat [])).getD 5 .top).toI) == b1c0 with
        | true =>
          match decide (b2c0 < (0 : Int)) with
          | true =>
            tst (decide ((0 : Int) ≤ x9) && decide (x9 < (32 : Int))) <|
            tst (decide (((0 + (x9.toNat * 1)) + 1) ≤ 32) && true) <|
            match rec x9 b5c0 (Eng.setAt b3 (0 + (x9.toNat * 1)) [.bool true]) with
            | none => none
            | some (.r rb0c0v2 rb1v2) =>
              L29i6f31a6 rec N n x7 x8 (IntKind.wrap .i64 (x9 + (1 : Int))) b1c0 b2c0 rb1v2 rb0c0v2
          | false =>
            match ((((x7.getD x9.toNat [])).getD 6 .top).toI) == b2c0 with
            | true =>
              tst (decide ((0 : Int) ≤ x9) && decide (x9 < (32 : Int))) <|
              tst (decide (((0 + (x9.toNat * 1)) + 1) ≤ 32) && true) <|
              match rec x9 b5c0 (Eng.setAt b3 (0 + (x9.toNat * 1)) [.bool true]) with
              | none => none
              | some (.r rb0c0v3 rb1v3) =>
                L29i6f31a6 rec N n x7 x8 (IntKind.wrap .i64 (x9 + (1 : Int))) b1c0 b2c0 rb1v3 rb0c0v3
            | false =>
              L29i6f31a6 rec N n x7 x8 (IntKind.wrap .i64 (x9 + (1 : Int))) b1c0 b2c0 b3 b5c0
        | false =>
          L29i6f31a6 rec N n x7 x8 (IntKind.wrap .i64 (x9 + (1 : Int))) b1c0 b2c0 b3 b5c0
      | false =>
        L29i6f31a6 rec N n x7 x8 (IntKind.wrap .i64 (x9 + (1 : Int))) b1c0 b2c0 b3 b5c0
    | false =>
      some (.x0 b1c0 b2c0 b3 b5c0)
def LFL29i6f31a6 (rec : TF29) (N : Nat) (n : Nat) (s : St) : Option OL29i6f31a6 := L29i6f31a6 rec N n ((Eng.look s.env 7).rows) ((Eng.look s.env 8).toI) ((Eng.look s.env 9).toI) (((s.mem.getD 1 .dead).cells.getD 0 .top).toI) (((s.mem.getD 2 .dead).cells.getD 0 .top).toI) ((s.mem.getD 3 .dead).cells) (((s.mem.getD 5 .dead).cells.getD 0 .top).rows)
def sgL29i6f31a6 : LSh := ⟨[(0, .one (.yld 0)), (2, .one (.ptr 1 0 0)), (3, .one (.ptr 2 0 0)), (7, .one (.cell (.slice 30))), (8, .one (.cell (.int .i64))), (9, .one (.cell (.int .i64)))], [.loop 4 [(2, .one (.ptr 3 0 0)), (3, .one (.ptr 4 0 0))] none, .var [.int .i64] [.cell (.int .i64)], .var [.int .i64] [.cell (.int .i64)], .arr [.bool, .bool, .bool, .bool, .bool, .bool, .bool, .bool, .bool, .bool, .bool, .bool, .bool, .bool, .bool, .bool, .bool, .bool, .bool, .bool, .bool, .bool, .bool, .bool, .bool, .bool, .bool, .bool, .bool, .bool, .bool, .bool], .var [.any] [.cl 29 [(5, 0, 0), (3, 0, 0), (4, 0, 0)]], .var [.any] [.cell (.slice 30)]]⟩
def ceL29i6f31a6 : List Cv := []
def seL29i6f31a6 : St → List Nat := fun st => [(Eng.look st.env 0).id, (Eng.look st.env 2).id, (Eng.look st.env 3).id, ((st.mem.getD ((Eng.look st.env 0).id) .dead).lenv.getD 0 (0, .top)).2.id, ((st.mem.getD ((Eng.look st.env 0).id) .dead).lenv.getD 1 (0, .top)).2.id, (((st.mem.getD (((st.mem.getD ((Eng.look st.env 0).id) .dead).lenv.getD 1 (0, .top)).2.id) .dead).cells.getD 0 .top).caps.getD 0 .top).id]
def xL29i6f31a6wx0 : XSh OL29i6f31a6 := ⟨[], ⟨[], [.loop 4 [(2, .one (.ptr 3 0 0)), (3, .one (.ptr 4 0 0))] none, .var [.int .i64] [.cell (.int .i64)], .var [.int .i64] [.cell (.int .i64)], .arr [.bool, .bool, .bool, .bool, .bool, .bool, .bool, .bool, .bool, .bool, .bool, .bool, .bool, .bool, .bool, .bool, .bool, .bool, .bool, .bool, .bool, .bool, .bool, .bool, .bool, .bool, .bool, .bool, .bool, .bool, .bool, .bool], .var [.any] [.cl 29 [(5, 0, 0), (3, 0, 0), (4, 0, 0)]], .var [.any] [.cell (.slice 30)]]⟩, fun st => [0, 1, 2, 3, 4, 5], fun s => .x0 (((s.mem.getD 1 .dead).cells.getD 0 .top).toI) (((s.mem.getD 2 .dead).cells.getD 0 .top).toI) ((s.mem.getD 3 .dead).cells) (((s.mem.getD 5 .dead).cells.getD 0 .top).rows)⟩
def xsL29i6f31a6 : Ex → St → Option (XSh OL29i6f31a6) := fun e st => match e with
  | .exit 0 => some xL29i6f31a6wx0
  | _ => none
def exL29i6f31a6 (o : OL29i6f31a6) : Ex := match o with | .x0 b1c0 b2c0 b3 b5c0 => (.exit 0)
def stL29i6f31a6 (o : OL29i6f31a6) : St := match o with | .x0 b1c0 b2c0 b3 b5c0 => ⟨[], [.loop 4 [(2, .ptr 3 0 0), (3, .ptr 4 0 0)] false none, .var [.int .i64] [.int .i64 b1c0], .var [.int .i64] [.int .i64 b2c0], .var [.bool, .bool, .bool, .bool, .bool, .bool, .bool, .bool, .bool, .bool, .bool, .bool, .bool, .bool, .bool, .bool, .bool, .bool, .bool, .bool, .bool, .bool, .bool, .bool, .bool, .bool, .bool, .bool, .bool, .bool, .bool, .bool] b3, .var [.any] [.clos 29 [] [.ptr 5 0 0, .ptr 3 0 0, .ptr 4 0 0]], .var [.any] [.list 30 b5c0]], [], .unk⟩
def elL29i6f31a6 {R : Type} (o : OL29i6f31a6) (k : Ex → St → Option R) : Option R := match o with | .x0 b1c0 b2c0 b3 b5c0 => k (.exit 0) ⟨[], [.loop 4 [(2, .ptr 3 0 0), (3, .ptr 4 0 0)] false none, .var [.int .i64] [.int .i64 b1c0], .var [.int .i64] [.int .i64 b2c0], .var [.bool, .bool, .bool, .bool, .bool, .bool, .bool, .bool, .bool, .bool, .bool, .bool, .bool, .bool, .bool, .bool, .bool, .bool, .bool, .bool, .bool, .bool, .bool, .bool, .bool, .bool, .bool, .bool, .bool, .bool, .bool, .bool] b3, .var [.any] [.clos 29 [] [.ptr 5 0 0, .ptr 3 0 0, .ptr 4 0 0]], .var [.any] [.list 30 b5c0]], [], .unk⟩
theorem heL29i6f31a6 {R : Type} (o : OL29i6f31a6) (k : Ex → St → Option R) : elL29i6f31a6 o k = k (exL29i6f31a6 o) (stL29i6f31a6 o) := by cases o <;> rfl
theorem hxL29i6f31a6 : ∀ e st x, xsL29i6f31a6 e st = some x → outOk x e exL29i6f31a6 stL29i6f31a6 := by
  intro e st x h
  unfold xsL29i6f31a6 at h
  repeat' split at h
  all_goals first
    | (injection h with h; subst h; exact fun lk M => ⟨rfl, rfl⟩)
    | cases h
noncomputable def T29i6f31ul6 (rec : TF29) (N : Nat) (R : Type) : LTab R := mkTab ⟨39, 549755813472⟩ (csF29 rec N R) (pickY [(4, fun id args M k => evyield CX (T29us6 rec N R) 4 6 id args M k)]) [] [] []
theorem okT29i6f31ul6 (rec : TF29) (hrec : RecOkF29 rec) (N : Nat) (R : Type) : (T29i6f31ul6 rec N R).Ok CX code31 := mkTab_ok (hcsF29 rec hrec N R) (pickY_ok (es := [(4, fun id args M k => evyield CX (T29us6 rec N R) 4 6 id args M k)]) ⟨fun {id args M k r} h => evyield_sound hX (okT29us6 rec hrec N R) (g := nd4.1) (ps := nd4.2.1) ⟨[false, true], by rfl, by kernel_rfl⟩ h, trivial⟩) (trivial) (trivial) (trivial)
noncomputable def bdL29i6f31a6 : Code := match codeAt code31 [false, true] with | some (.loop c) => c | _ => .skip
theorem hsL29i6f31a6 (rec : TF29) (N : Nat) : ∀ (n : Nat) (lk : Nat → AV) (M : List Blk), LFL29i6f31a6 rec N (n + 1) (canS sgL29i6f31a6 lk M) = evk CX (T29i6f31ul6 rec N OL29i6f31a6) bdL29i6f31a6 (2 * 6) (canS sgL29i6f31a6 lk M) (kont CX 6 [] sgL29i6f31a6 (fun st => [0, 1, 2, 3, 4, 5]) xsL29i6f31a6 (LFL29i6f31a6 rec N n)) := by intro n lk M; kernel_rfl
noncomputable def T29i6f31ur1 (rec : TF29) (N : Nat) (R : Type) : LTab R := mkTab ⟨39, 549755813887⟩ (csF29 rec N R) (pickY [(4, fun id args M k => evyield CX (T29us6 rec N R) 4 6 id args M k)]) [(6, fun st k => callLoop CX 6 549755813472 ceL29i6f31a6 sgL29i6f31a6 seL29i6f31a6 ⟨39, 549755813887⟩ (LFL29i6f31a6 rec N N) elL29i6f31a6 st k)] [] []
theorem okT29i6f31ur1 (rec : TF29) (hrec : RecOkF29 rec) (N : Nat) (R : Type) : (T29i6f31ur1 rec N R).Ok CX code31 := mkTab_ok (hcsF29 rec hrec N R) (pickY_ok (es := [(4, fun id args M k => evyield CX (T29us6 rec N R) 4 6 id args M k)]) ⟨fun {id args M k r} h => evyield_sound hX (okT29us6 rec hrec N R) (g := nd4.1) (ps := nd4.2.1) ⟨[false, true], by rfl, by kernel_rfl⟩ h, trivial⟩) (⟨loop_ok hX (path := [false, true]) (by kernel_rfl) (by rfl) (okT29i6f31ul6 rec hrec N OL29i6f31a6) (fun _ _ => rfl) (hsL29i6f31a6 rec N) hxL29i6f31a6 rfl heL29i6f31a6, trivial⟩) (trivial) (trivial)
noncomputable def T29ur1 (rec : TF29) (N : Nat) (R : Type) : LTab R := mkTab ⟨15, 32767⟩ (csF29 rec N R) (noY) [] [(6, fun st k => evrange CX (oneTab ⟨15, 32767⟩ (inl 31 (fun args M k => evfn CX (T29i6f31ur1 rec N R) code31 rs29i6f31 args M k))) 4 [2, 3] (.tmp 8) st k)] []
theorem okT29ur1 (rec : TF29) (hrec : RecOkF29 rec) (N : Nat) (R : Type) : (T29ur1 rec N R).Ok CX code29 := mkTab_ok (hcsF29 rec hrec N R) (noY_ok) (trivial) (⟨range_ok hX (path := [false, true]) (ps0 := nd4.2.1) (a0 := nd4.2.2.1) (b0 := nd4.2.2.2) (by kernel_rfl) (by rfl) (inl_ok fun {args M k r} h => evfn_sound hX (okT29i6f31ur1 rec hrec N R) Try.func31 hb31 rfl en31 (by kernel_rfl) h) (by kernel_rfl), trivial⟩) (trivial)
def rsF29 : List ResultVar := []
def F29 : Nat → TF29
  | 0 => fun _ _ _ => none
  | N + 1 => fun x0 b0c0 b1 =>
    match F23 N b0c0 x0 ((-1)) with
    | none => none
    | some (.r rb0c0v1 rb1c0v1 rb2c0v1) =>
      match L29i6f31a6 (F29 N) N N rb0c0v1 ((rb0c0v1.length : Int)) 0 rb1c0v1 rb2c0v1 b1 b0c0 with
      | none => none
      | some (.x0 b1c0v4 b2c0v4 b3v4 b5c0v4) =>
        some (.r b5c0v4 b3v4)
def xRF29 : XSh R29 := ⟨[], ⟨[], [.var [.any] [.cell (.slice 30)], .arr [.bool, .bool, .bool, .bool, .bool, .bool, .bool, .bool, .bool, .bool, .bool, .bool, .bool, .bool, .bool, .bool, .bool, .bool, .bool, .bool, .bool, .bool, .bool, .bool, .bool, .bool, .bool, .bool, .bool, .bool, .bool, .bool], .var [.any] [.cl 29 [(0, 0, 0), (1, 0, 0), (2, 0, 0)]]]⟩, fun st => [0, 1, 2], fun s => .r (((s.mem.getD 0 .dead).cells.getD 0 .top).rows) ((s.mem.getD 1 .dead).cells)⟩
theorem fsF29 : ∀ (N : Nat) (lk : Nat → AV) (M : List Blk), FFF29 (F29 (N + 1)) (canS sgF29 lk M) = evfn CX (T29ur1 (F29 N) N R29) code29 rsF29 (argsE 4 (canS sgF29 lk M).env) (canS sgF29 lk M).mem (goRt CX 3 0 (fun _ => some xRF29)) := by intro N lk M; kernel_rfl
theorem soundF29 : ∀ N, RecOkF29 (F29 N)
  | 0, lk, M, o, h => by cases h
  | N + 1, lk, M, o, h => fn_soundt hX (okT29ur1 (F29 N) (soundF29 N) N R29) Try.func29 hb29 rfl en29 (by kernel_rfl) (ys := fun _ => some xRF29) (fun st y h => by injection h with h; subst h; exact fun lk M => ⟨rfl, rfl⟩) ((fsF29 N lk M).symm.trans h)
end Go.Proofs.Ytfggehkiglenjaa

namespace Go.Proofs.Ytfggehkiglenjaa
open Go Go.Eng
set_option maxRecDepth 100000

/-! ### F15: ceiling/master.Depends -/
inductive R15 where
  | r (b0 : List Row)
abbrev TF15 := List Row → Int → Option R15
def sgF15 : LSh := ⟨[(0, .one (.cell (.slice 30))), (1, .one (.cell (.int .i64)))], []⟩
def FFF15 (Fx : TF15) (s : St) : Option R15 := Fx ((Eng.look s.env 0).rows) ((Eng.look s.env 1).toI)
def valF15 (o : R15) : AV := match o with | .r b0 => .own 0
def memF15 (o : R15) : List Blk := match o with | .r b0 => [.row 3 b0]
def elF15 {R : Type} (o : R15) (k : AV → List Blk → Option R) : Option R := match o with | .r b0 => k (.own 0) [.row 3 b0]
def RecOkF15 (Fx : TF15) : Prop := ∀ lk M o, FFF15 Fx (canS sgF15 lk M) = some o → FCalls CX 15 0 (argsE 2 (canS sgF15 lk M).env) (canS sgF15 lk M).mem (valF15 o) (memF15 o)
noncomputable def csF15 (N : Nat) (R : Type) : List (CE R) := [ce16n0 (F16 N) R (fun _ _ => true), ce26n0 (F26 N) R (fun _ _ => true), ce29n0 (F29 N) R (fun _ _ => true)]
theorem hcsF15 (N : Nat) (R : Type) : AllE (CeOk CX) (csF15 N R) := ⟨okce16n0 (F16 N) (soundF16 N) R (fun _ _ => true), okce26n0 (F26 N) (soundF26 N) R (fun _ _ => true), okce29n0 (F29 N) (soundF29 N) R (fun _ _ => true), trivial⟩
noncomputable def T15ur1 (N : Nat) (R : Type) : LTab R := mkTab ⟨17, 131071⟩ (csF15 N R) (noY) [] [] []
theorem okT15ur1 (N : Nat) (R : Type) : (T15ur1 N R).Ok CX code15 := mkTab_ok (hcsF15 N R) (noY_ok) (trivial) (trivial) (trivial)
def rsF15 : List ResultVar := [.tmp 4]
def F15 : Nat → TF15
  | 0 => fun _ _ => none
  | N + 1 => fun x0 x1 =>
    match F16 N x0 with
    | none => none
    | some (.r rx0v1) =>
      match !rx0v1 with
      | true =>
        some (.r (([] : List Row)))
      | false =>
        match F29 N x1 x0 (([.bool false, .bool false, .bool false, .bool false, .bool false, .bool false, .bool false, .bool false, .bool false, .bool false, .bool false, .bool false, .bool false, .bool false, .bool false, .bool false, .bool false, .bool false, .bool false, .bool false, .bool false, .bool false, .bool false, .bool false, .bool false, .bool false, .bool false, .bool false, .bool false, .bool false, .bool false, .bool false] : List AV)) with
        | none => none
        | some (.r rb0c0v2 rb1v2) =>
          match F26 N rb0c0v2 ((rb1v2.getD 0 .top).toB) ((rb1v2.getD 1 .top).toB) ((rb1v2.getD 2 .top).toB) ((rb1v2.getD 3 .top).toB) ((rb1v2.getD 4 .top).toB) ((rb1v2.getD 5 .top).toB) ((rb1v2.getD 6 .top).toB) ((rb1v2.getD 7 .top).toB) ((rb1v2.getD 8 .top).toB) ((rb1v2.getD 9 .top).toB) ((rb1v2.getD 10 .top).toB) ((rb1v2.getD 11 .top).toB) ((rb1v2.getD 12 .top).toB) ((rb1v2.getD 13 .top).toB) ((rb1v2.getD 14 .top).toB) ((rb1v2.getD 15 .top).toB) ((rb1v2.getD 16 .top).toB) ((rb1v2.getD 17 .top).toB) ((rb1v2.getD 18 .top).toB) ((rb1v2.getD 19 .top).toB) ((rb1v2.getD 20 .top).toB) ((rb1v2.getD 21 .top).toB) ((rb1v2.getD 22 .top).toB) ((rb1v2.getD 23 .top).toB) ((rb1v2.getD 24 .top).toB) ((rb1v2.getD 25 .top).toB) ((rb1v2.getD 26 .top).toB) ((rb1v2.getD 27 .top).toB) ((rb1v2.getD 28 .top).toB) ((rb1v2.getD 29 .top).toB) ((rb1v2.getD 30 .top).toB) ((rb1v2.getD 31 .top).toB) with
          | none => none
          | some (.r rb0v3) =>
            some (.r rb0v3)
def xRF15 : XSh R15 := ⟨[.mk 0 3], ⟨[(0, .one (.own 0))], [.row 3]⟩, fun st => [(Eng.look st.env 0).id], fun s => .r ((s.mem.getD 0 .dead).rows)⟩
theorem fsF15 : ∀ (N : Nat) (lk : Nat → AV) (M : List Blk), FFF15 (F15 (N + 1)) (canS sgF15 lk M) = evfn CX (T15ur1 N R15) code15 rsF15 (argsE 2 (canS sgF15 lk M).env) (canS sgF15 lk M).mem (goR CX 0 (fun _ => some xRF15)) := by intro N lk M; kernel_rfl
theorem soundF15 : ∀ N, RecOkF15 (F15 N)
  | 0, lk, M, o, h => by cases h
  | N + 1, lk, M, o, h => fn_sound hX (okT15ur1 N R15) Try.func15 hb15 rfl en15 (by kernel_rfl) (ys := fun _ => some xRF15) (fun st y h => by injection h with h; subst h; exact fun lk M => ⟨rfl, rfl⟩) ((fsF15 N lk M).symm.trans h)
def cvce15n0 : List Cv := []
def selce15n0 : St → List Nat := fun _ => []
noncomputable def ce15n0 (Fx : TF15) (R : Type) (test : List AV → List Blk → Bool) : CE R := ⟨15, test, fun args M => some (selce15n0 ⟨argEnv 0 args, M, [], .unk⟩), fun args M k => tst (Nat.beq args.length 2) (callFn CX 0 cvce15n0 sgF15 selce15n0 (FFF15 Fx) elF15 args M k)⟩
theorem okce15n0 (Fx : TF15) (h : RecOkF15 Fx) (R : Type) (test : List AV → List Blk → Bool) : CeOk CX (ce15n0 Fx R test) := ce_ok hX (fun o k => by cases o; rfl) h en15 (fun args M ids h => by injection h with h; exact ⟨rfl, h.symm⟩)
def cvce15n1 : List Cv := [.frz 0 (.slice 30)]
def selce15n1 : St → List Nat := fun _ => []
noncomputable def ce15n1 (Fx : TF15) (R : Type) (test : List AV → List Blk → Bool) : CE R := ⟨15, test, fun _ _ => none, fun args M k => tst (Nat.beq args.length 2) (callFn CX 0 cvce15n1 sgF15 selce15n1 (FFF15 Fx) elF15 args M k)⟩
theorem okce15n1 (Fx : TF15) (h : RecOkF15 Fx) (R : Type) (test : List AV → List Blk → Bool) : CeOk CX (ce15n1 Fx R test) := ce_ok hX (fun o k => by cases o; rfl) h en15 (fun args M ids h => by cases h)
end Go.Proofs.Ytfggehkiglenjaa

namespace Go.Proofs.Ytfggehkiglenjaa
open Go Go.Eng
set_option maxRecDepth 100000

/-! ### F8: ceiling/ceilingref33.Same -/
inductive R8 where
  | r (x0 : Bool)
abbrev TF8 := List Row → List Row → Option R8
def sgF8 : LSh := ⟨[(0, .one (.cell (.slice 3))), (1, .one (.cell (.slice 3)))], []⟩
def FFF8 (Fx : TF8) (s : St) : Option R8 := Fx ((Eng.look s.env 0).rows) ((Eng.look s.env 1).rows)
def valF8 (o : R8) : AV := match o with | .r x0 => .bool x0
def memF8 (o : R8) : List Blk := match o with | .r x0 => []
def elF8 {R : Type} (o : R8) (k : AV → List Blk → Option R) : Option R := match o with | .r x0 => k (.bool x0) []
def RecOkF8 (Fx : TF8) : Prop := ∀ lk M o, FFF8 Fx (canS sgF8 lk M) = some o → FCalls CX 8 0 (argsE 2 (canS sgF8 lk M).env) (canS sgF8 lk M).mem (valF8 o) (memF8 o)
noncomputable def csF8 (N : Nat) (R : Type) : List (CE R) := []
theorem hcsF8 (N : Nat) (R : Type) : AllE (CeOk CX) (csF8 N R) := trivial
inductive OL8a58 where
  | ret (x4 : Bool)
  | x0
def L8a58 (N : Nat) : Nat → List Row → List Row → Int → Option OL8a58
  | 0 => fun _ _ _ => none
  | n + 1 => fun x0 x1 x5 =>
    match decide (x5 < ((x0.length : Int))) with
    | true =>
      tst (decide ((0 : Int) ≤ x5) && decide (x5 < ((x0.length : Int)))) <|
      tst (decide ((0 : Int) ≤ x5) && decide (x5 < ((x1.length : Int)))) <|
      match ((((x0.getD x5.toNat [])).getD 0 .top).toI) != ((((x1.getD x5.toNat [])).getD 0 .top).toI) with
      | true =>
        some (.ret false)
      | false =>
        L8a58 N n x0 x1 (IntKind.wrap .i64 (x5 + (1 : Int)))
    | false =>
      some .x0
def LFL8a58 (N : Nat) (n : Nat) (s : St) : Option OL8a58 := L8a58 N n ((Eng.look s.env 0).rows) ((Eng.look s.env 1).rows) ((Eng.look s.env 5).toI)
def sgL8a58 : LSh := ⟨[(0, .one (.cell (.slice 3))), (1, .one (.cell (.slice 3))), (5, .one (.cell (.int .i64)))], []⟩
def ceL8a58 : List Cv := []
def seL8a58 : St → List Nat := fun _ => []
def xL8a58wret : XSh OL8a58 := ⟨[], ⟨[(4, .one (.cell (.bool)))], []⟩, fun _ => [], fun s => .ret ((Eng.look s.env 4).toB)⟩
def xL8a58wx0 : XSh OL8a58 := ⟨[], ⟨[], []⟩, fun _ => [], fun s => .x0 ⟩
def xsL8a58 : Ex → St → Option (XSh OL8a58) := fun e st => match e with
  | .ret => some xL8a58wret
  | .exit 0 => some xL8a58wx0
  | _ => none
def exL8a58 (o : OL8a58) : Ex := match o with | .ret x4 => .ret | .x0 => (.exit 0)
def stL8a58 (o : OL8a58) : St := match o with | .ret x4 => ⟨[(4, .bool x4)], [], [], .unk⟩ | .x0 => ⟨[], [], [], .unk⟩
def elL8a58 {R : Type} (o : OL8a58) (k : Ex → St → Option R) : Option R := match o with | .ret x4 => k .ret ⟨[(4, .bool x4)], [], [], .unk⟩ | .x0 => k (.exit 0) ⟨[], [], [], .unk⟩
theorem heL8a58 {R : Type} (o : OL8a58) (k : Ex → St → Option R) : elL8a58 o k = k (exL8a58 o) (stL8a58 o) := by cases o <;> rfl
theorem hxL8a58 : ∀ e st x, xsL8a58 e st = some x → outOk x e exL8a58 stL8a58 := by
  intro e st x h
  unfold xsL8a58 at h
  repeat' split at h
  all_goals first
    | (injection h with h; subst h; exact fun lk M => ⟨rfl, rfl⟩)
    | cases h
noncomputable def T8ul58 (N : Nat) (R : Type) : LTab R := mkTab ⟨26, 67106864⟩ (csF8 N R) (noY) [] [] []
theorem okT8ul58 (N : Nat) (R : Type) : (T8ul58 N R).Ok CX code8 := mkTab_ok (hcsF8 N R) (noY_ok) (trivial) (trivial) (trivial)
noncomputable def bdL8a58 : Code := match codeAt code8 [false, true, false, true, true] with | some (.loop c) => c | _ => .skip
theorem hsL8a58 (N : Nat) : ∀ (n : Nat) (lk : Nat → AV) (M : List Blk), LFL8a58 N (n + 1) (canS sgL8a58 lk M) = evk CX (T8ul58 N OL8a58) bdL8a58 (2 * 58) (canS sgL8a58 lk M) (kont CX 0 [] sgL8a58 (fun _ => []) xsL8a58 (LFL8a58 N n)) := by intro n lk M; kernel_rfl
noncomputable def T8ur1 (N : Nat) (R : Type) : LTab R := mkTab ⟨26, 67108863⟩ (csF8 N R) (noY) [(58, fun st k => callLoop CX 0 67106864 ceL8a58 sgL8a58 seL8a58 ⟨26, 67108863⟩ (LFL8a58 N N) elL8a58 st k)] [] []
theorem okT8ur1 (N : Nat) (R : Type) : (T8ur1 N R).Ok CX code8 := mkTab_ok (hcsF8 N R) (noY_ok) (⟨loop_ok hX (path := [false, true, false, true, true]) (by kernel_rfl) (by rfl) (okT8ul58 N OL8a58) (fun _ _ => rfl) (hsL8a58 N) hxL8a58 rfl heL8a58, trivial⟩) (trivial) (trivial)
def rsF8 : List ResultVar := [.tmp 4]
def F8 : Nat → TF8
  | 0 => fun _ _ => none
  | N + 1 => fun x0 x1 =>
    match ((x0.length : Int)) != ((x1.length : Int)) with
    | true =>
      some (.r false)
    | false =>
      match L8a58 N N x0 x1 0 with
      | none => none
      | some (.ret x4v1) =>
        some (.r x4v1)
      | some (.x0) =>
        some (.r true)
def xRF8 : XSh R8 := ⟨[], ⟨[(0, .one (.cell (.bool)))], []⟩, fun _ => [], fun s => .r ((Eng.look s.env 0).toB)⟩
theorem fsF8 : ∀ (N : Nat) (lk : Nat → AV) (M : List Blk), FFF8 (F8 (N + 1)) (canS sgF8 lk M) = evfn CX (T8ur1 N R8) code8 rsF8 (argsE 2 (canS sgF8 lk M).env) (canS sgF8 lk M).mem (goR CX 0 (fun _ => some xRF8)) := by intro N lk M; kernel_rfl
theorem soundF8 : ∀ N, RecOkF8 (F8 N)
  | 0, lk, M, o, h => by cases h
  | N + 1, lk, M, o, h => fn_sound hX (okT8ur1 N R8) Try.func8 hb8 rfl en8 (by kernel_rfl) (ys := fun _ => some xRF8) (fun st y h => by injection h with h; subst h; exact fun lk M => ⟨rfl, rfl⟩) ((fsF8 N lk M).symm.trans h)
def cvce8n0 : List Cv := [.frz 0 (.slice 3), .frz 1 (.slice 3)]
def selce8n0 : St → List Nat := fun _ => []
noncomputable def ce8n0 (Fx : TF8) (R : Type) (test : List AV → List Blk → Bool) : CE R := ⟨8, test, fun _ _ => none, fun args M k => tst (Nat.beq args.length 2) (callFn CX 0 cvce8n0 sgF8 selce8n0 (FFF8 Fx) elF8 args M k)⟩
theorem okce8n0 (Fx : TF8) (h : RecOkF8 Fx) (R : Type) (test : List AV → List Blk → Bool) : CeOk CX (ce8n0 Fx R test) := ce_ok hX (fun o k => by cases o; rfl) h en8 (fun args M ids h => by cases h)
end Go.Proofs.Ytfggehkiglenjaa

namespace Go.Proofs.Ytfggehkiglenjaa
open Go Go.Eng
set_option maxRecDepth 100000

/-! ### F13: ceiling/ceilinglaw33.works -/
inductive R13 where
  | r (x0 : Bool)
abbrev TF13 := Option R13
def sgF13 : LSh := ⟨[], []⟩
def FFF13 (Fx : TF13) (s : St) : Option R13 := Fx 
def valF13 (o : R13) : AV := match o with | .r x0 => .bool x0
def memF13 (o : R13) : List Blk := match o with | .r x0 => []
def elF13 {R : Type} (o : R13) (k : AV → List Blk → Option R) : Option R := match o with | .r x0 => k (.bool x0) []
def RecOkF13 (Fx : TF13) : Prop := ∀ lk M o, FFF13 Fx (canS sgF13 lk M) = some o → FCalls CX 13 0 (argsE 0 (canS sgF13 lk M).env) (canS sgF13 lk M).mem (valF13 o) (memF13 o)
noncomputable def csF13 (N : Nat) (R : Type) : List (CE R) := [ce8n0 (F8 N) R (fun _ _ => true), ce9n0 (F9 N) R (fun _ _ => true), ce11n0 (F11 N) R (testV CX cvce11n0 sgF11 selce11n0), ce11n1 (F11 N) R (testV CX cvce11n1 sgF11 selce11n1), ce15n0 (F15 N) R (fun _ _ => true), ce17n0 (F17 N) R (fun _ _ => true), ce20n0 (F20 N) R (fun _ _ => true), ce21n0 (F21 N) R (fun _ _ => true)]
theorem hcsF13 (N : Nat) (R : Type) : AllE (CeOk CX) (csF13 N R) := ⟨okce8n0 (F8 N) (soundF8 N) R (fun _ _ => true), okce9n0 (F9 N) (soundF9 N) R (fun _ _ => true), okce11n0 (F11 N) (soundF11 N) R (testV CX cvce11n0 sgF11 selce11n0), okce11n1 (F11 N) (soundF11 N) R (testV CX cvce11n1 sgF11 selce11n1), okce15n0 (F15 N) (soundF15 N) R (fun _ _ => true), okce17n0 (F17 N) (soundF17 N) R (fun _ _ => true), okce20n0 (F20 N) (soundF20 N) R (fun _ _ => true), okce21n0 (F21 N) (soundF21 N) R (fun _ _ => true), trivial⟩
inductive OJ13a510 where
  | nx (x7 : Bool) (b0 : List Row) (b1 : List Row) (b2 : List Row) (b3 : List Row) (b4 : List Row)
def J13a510 (N : Nat) : List Row → List Row → List Row → List Row → List Row → Option OJ13a510 := fun b0 b1 b2 b3 b4 =>
    match F9 N b0 with
    | none => none
    | some (.r rb0v7) =>
      match F8 N rb0v7 (([[.int .i64 1], [.int .i64 2]] : List Row)) with
      | none => none
      | some (.r rx0v8) =>
        match rx0v8 with
        | true =>
          match F9 N b1 with
          | none => none
          | some (.r rb0v9) =>
            match ((rb0v9.length : Int)) == (0 : Int) with
            | true =>
              match F17 N b1 2 with
              | none => none
              | some (.r rx0v10) =>
                match !rx0v10 with
                | true =>
                  match F17 N b1 1 with
                  | none => none
                  | some (.r rx0v11) =>
                    match rx0v11 with
                    | true =>
                      match F9 N b2 with
                      | none => none
                      | some (.r rb0v12) =>
                        match F8 N rb0v12 (([[.int .i64 1], [.int .i64 2]] : List Row)) with
                        | none => none
                        | some (.r rx0v13) =>
                          match rx0v13 with
                          | true =>
                            match F9 N b3 with
                            | none => none
                            | some (.r rb0v14) =>
                              match F8 N rb0v14 (([[.int .i64 2]] : List Row)) with
                              | none => none
                              | some (.r rx0v15) =>
                                match rx0v15 with
                                | true =>
                                  match F9 N b4 with
                                  | none => none
                                  | some (.r rb0v16) =>
                                    some (.nx (((rb0v16.length : Int)) == (0 : Int)) b0 b1 b2 b3 b4)
                                | false =>
                                  some (.nx false b0 b1 b2 b3 b4)
                          | false =>
                            some (.nx false b0 b1 b2 b3 b4)
                    | false =>
                      some (.nx false b0 b1 b2 b3 b4)
                | false =>
                  some (.nx false b0 b1 b2 b3 b4)
            | false =>
              some (.nx false b0 b1 b2 b3 b4)
        | false =>
          some (.nx false b0 b1 b2 b3 b4)
def LFJ13a510 (N : Nat) (s : St) : Option OJ13a510 := J13a510 N ((s.mem.getD 0 .dead).rows) ((s.mem.getD 1 .dead).rows) ((s.mem.getD 2 .dead).rows) ((s.mem.getD 3 .dead).rows) ((s.mem.getD 4 .dead).rows)
def sgJ13a510 : LSh := ⟨[(1, .one (.own 0)), (2, .one (.own 1)), (3, .one (.own 2)), (4, .one (.own 3)), (5, .one (.own 4))], [.row 30, .row 30, .row 30, .row 30, .row 30]⟩
def ceJ13a510 : List Cv := []
def seJ13a510 : St → List Nat := fun st => [(Eng.look st.env 1).id, (Eng.look st.env 2).id, (Eng.look st.env 3).id, (Eng.look st.env 4).id, (Eng.look st.env 5).id]
def xJ13a510wnx : XSh OJ13a510 := ⟨[.frzb (fun env M => 4) 30, .frzb (fun env M => 3) 30, .frzb (fun env M => 2) 30, .frzb (fun env M => 1) 30], ⟨[(7, .one (.cell (.bool)))], [.fro 30, .fro 30, .fro 30, .fro 30, .fro 30]⟩, fun st => [0, 1, 2, 3, 4], fun s => .nx ((Eng.look s.env 7).toB) ((s.mem.getD 0 .dead).rows) ((s.mem.getD 1 .dead).rows) ((s.mem.getD 2 .dead).rows) ((s.mem.getD 3 .dead).rows) ((s.mem.getD 4 .dead).rows)⟩
def xsJ13a510 : Ex → St → Option (XSh OJ13a510) := fun e st => match e with
  | .normal => some xJ13a510wnx
  | _ => none
def exJ13a510 (o : OJ13a510) : Ex := match o with | .nx x7 b0 b1 b2 b3 b4 => .normal
def stJ13a510 (o : OJ13a510) : St := match o with | .nx x7 b0 b1 b2 b3 b4 => ⟨[(7, .bool x7)], [.fro 30 b0, .fro 30 b1, .fro 30 b2, .fro 30 b3, .fro 30 b4], [], .unk⟩
def elJ13a510 {R : Type} (o : OJ13a510) (k : Ex → St → Option R) : Option R := match o with | .nx x7 b0 b1 b2 b3 b4 => k .normal ⟨[(7, .bool x7)], [.fro 30 b0, .fro 30 b1, .fro 30 b2, .fro 30 b3, .fro 30 b4], [], .unk⟩
theorem heJ13a510 {R : Type} (o : OJ13a510) (k : Ex → St → Option R) : elJ13a510 o k = k (exJ13a510 o) (stJ13a510 o) := by cases o <;> rfl
theorem hxJ13a510 : ∀ e st x, xsJ13a510 e st = some x → outOk x e exJ13a510 stJ13a510 := by
  intro e st x h
  unfold xsJ13a510 at h
  repeat' split at h
  all_goals first
    | (injection h with h; subst h; exact fun lk M => ⟨rfl, rfl⟩)
    | cases h
noncomputable def T13uc510 (N : Nat) (R : Type) : LTab R := mkTab ⟨125, 1180591620708821368960⟩ (csF13 N R) (noY) [] [] []
theorem okT13uc510 (N : Nat) (R : Type) : (T13uc510 N R).Ok CX code13 := mkTab_ok (hcsF13 N R) (noY_ok) (trivial) (trivial) (trivial)
noncomputable def bdJ13a510 : Code := (codeAt code13 [false, true, true, true, true, true, true, true]).getD .skip
theorem hsJ13a510 (N : Nat) : ∀ (lk : Nat → AV) (M : List Blk), LFJ13a510 N (canS sgJ13a510 lk M) = evk CX (T13uc510 N OJ13a510) bdJ13a510 510 (canS sgJ13a510 lk M) (kontX CX 5 xsJ13a510) := by intro lk M; kernel_rfl
inductive OJ13a1022 where
  | nx (x8 : Bool)
def J13a1022 (N : Nat) : List Row → Option OJ13a1022 := fun x1 =>
    match F15 N x1 0 with
    | none => none
    | some (.r rb0v18) =>
      match F8 N rb0v18 (([[.int .i64 1], [.int .i64 2], [.int .i64 3], [.int .i64 4]] : List Row)) with
      | none => none
      | some (.r rx0v19) =>
        match rx0v19 with
        | true =>
          match F15 N x1 1 with
          | none => none
          | some (.r rb0v20) =>
            match F8 N rb0v20 (([[.int .i64 3]] : List Row)) with
            | none => none
            | some (.r rx0v21) =>
              match rx0v21 with
              | true =>
                match F11 N x1 (([[.int .i64 1]] : List Row)) with
                | none => none
                | some (.r rb0v22) =>
                  match F8 N rb0v22 (([[.int .i64 1], [.int .i64 3]] : List Row)) with
                  | none => none
                  | some (.r rx0v23) =>
                    match rx0v23 with
                    | true =>
                      match F11 N x1 (([[.int .i64 0], [.int .i64 0]] : List Row)) with
                      | none => none
                      | some (.r rb0v24) =>
                        match F8 N rb0v24 (([[.int .i64 0], [.int .i64 1], [.int .i64 2], [.int .i64 3], [.int .i64 4]] : List Row)) with
                        | none => none
                        | some (.r rx0v25) =>
                          some (.nx rx0v25)
                    | false =>
                      some (.nx false)
              | false =>
                some (.nx false)
        | false =>
          some (.nx false)
def LFJ13a1022 (N : Nat) (s : St) : Option OJ13a1022 := J13a1022 N ((Eng.look s.env 1).rows)
def sgJ13a1022 : LSh := ⟨[(1, .one (.cell (.slice 30)))], []⟩
def ceJ13a1022 : List Cv := [.frz 1 (.slice 30)]
def seJ13a1022 : St → List Nat := fun _ => []
def xJ13a1022wnx : XSh OJ13a1022 := ⟨[], ⟨[(8, .one (.cell (.bool)))], []⟩, fun _ => [], fun s => .nx ((Eng.look s.env 8).toB)⟩
def xsJ13a1022 : Ex → St → Option (XSh OJ13a1022) := fun e st => match e with
  | .normal => some xJ13a1022wnx
  | _ => none
def exJ13a1022 (o : OJ13a1022) : Ex := match o with | .nx x8 => .normal
def stJ13a1022 (o : OJ13a1022) : St := match o with | .nx x8 => ⟨[(8, .bool x8)], [], [], .unk⟩
def elJ13a1022 {R : Type} (o : OJ13a1022) (k : Ex → St → Option R) : Option R := match o with | .nx x8 => k .normal ⟨[(8, .bool x8)], [], [], .unk⟩
theorem heJ13a1022 {R : Type} (o : OJ13a1022) (k : Ex → St → Option R) : elJ13a1022 o k = k (exJ13a1022 o) (stJ13a1022 o) := by cases o <;> rfl
theorem hxJ13a1022 : ∀ e st x, xsJ13a1022 e st = some x → outOk x e exJ13a1022 stJ13a1022 := by
  intro e st x h
  unfold xsJ13a1022 at h
  repeat' split at h
  all_goals first
    | (injection h with h; subst h; exact fun lk M => ⟨rfl, rfl⟩)
    | cases h
noncomputable def T13uc1022 (N : Nat) (R : Type) : LTab R := mkTab ⟨125, 19807039447974463680974684416⟩ (csF13 N R) (noY) [] [] []
theorem okT13uc1022 (N : Nat) (R : Type) : (T13uc1022 N R).Ok CX code13 := mkTab_ok (hcsF13 N R) (noY_ok) (trivial) (trivial) (trivial)
noncomputable def bdJ13a1022 : Code := (codeAt code13 [false, true, true, true, true, true, true, true, true]).getD .skip
theorem hsJ13a1022 (N : Nat) : ∀ (lk : Nat → AV) (M : List Blk), LFJ13a1022 N (canS sgJ13a1022 lk M) = evk CX (T13uc1022 N OJ13a1022) bdJ13a1022 1022 (canS sgJ13a1022 lk M) (kontX CX 0 xsJ13a1022) := by intro lk M; kernel_rfl
noncomputable def T13ur1 (N : Nat) (R : Type) : LTab R := mkTab ⟨125, 42535295865117307932921825928971026431⟩ (csF13 N R) (noY) [] [] [(510, fun st k => callLoop CX 5 1180591620708821368960 ceJ13a510 sgJ13a510 seJ13a510 ⟨125, 42535295865117307932921825928971026431⟩ (LFJ13a510 N) elJ13a510 st k), (1022, fun st k => callLoop CX 0 19807039447974463680974684416 ceJ13a1022 sgJ13a1022 seJ13a1022 ⟨125, 42535295865117307932921825928971026431⟩ (LFJ13a1022 N) elJ13a1022 st k)]
theorem okT13ur1 (N : Nat) (R : Type) : (T13ur1 N R).Ok CX code13 := mkTab_ok (hcsF13 N R) (noY_ok) (trivial) (trivial) (⟨cut_ok hX (path := [false, true, true, true, true, true, true, true]) (by kernel_rfl) (by rfl) (okT13uc510 N OJ13a510) (hsJ13a510 N) hxJ13a510 rfl heJ13a510, cut_ok hX (path := [false, true, true, true, true, true, true, true, true]) (by kernel_rfl) (by rfl) (okT13uc1022 N OJ13a1022) (hsJ13a1022 N) hxJ13a1022 rfl heJ13a1022, trivial⟩)
def rsF13 : List ResultVar := [.tmp 0]
def F13 : Nat → TF13
  | 0 => none
  | N + 1 => 
    match F21 N  with
    | none => none
    | some (.r rb0v1) =>
      match F21 N  with
      | none => none
      | some (.r rb0v2) =>
        match F21 N  with
        | none => none
        | some (.r rb0v3) =>
          match F21 N  with
          | none => none
          | some (.r rb0v4) =>
            match F21 N  with
            | none => none
            | some (.r rb0v5) =>
              match F21 N  with
              | none => none
              | some (.r rb0v6) =>
                tst (decide ((4 : Int) < ((rb0v2.length : Int)))) <|
                tst (decide (4 < rb0v2.length)) <|
                tst (decide ((4 : Int) < ((rb0v3.length : Int)))) <|
                tst (decide (4 < rb0v3.length)) <|
                tst (decide ((4 : Int) < (((rb0v3.set 4 (Eng.setAt ((rb0v3.getD 4 [])) 1 [.bool true])).length : Int)))) <|
                tst (decide (4 < ((rb0v3.set 4 (Eng.setAt ((rb0v3.getD 4 [])) 1 [.bool true])).length))) <|
                tst (decide ((1 : Int) < ((rb0v4.length : Int)))) <|
                tst (decide (1 < rb0v4.length)) <|
                tst (decide ((0 : Int) < ((rb0v5.length : Int)))) <|
                tst (decide (0 < rb0v5.length)) <|
                tst (decide ((1 : Int) < ((rb0v6.length : Int)))) <|
                tst (decide (1 < rb0v6.length)) <|
                match J13a510 N rb0v1 (rb0v2.set 4 (Eng.setAt ((rb0v2.getD 4 [])) 3 [.bool false])) ((rb0v3.set 4 (Eng.setAt ((rb0v3.getD 4 [])) 1 [.bool true])).set 4 (Eng.setAt (((rb0v3.set 4 (Eng.setAt ((rb0v3.getD 4 [])) 1 [.bool true])).getD 4 [])) 3 [.bool false])) (rb0v4.set 1 (Eng.setAt ((rb0v4.getD 1 [])) 4 [.bool true])) (rb0v5.set 0 (Eng.setAt ((rb0v5.getD 0 [])) 7 [.int .i64 ((-1))])) with
                | none => none
                | some (.nx x7v17 b0v17 b1v17 b2v17 b3v17 b4v17) =>
                  match J13a1022 N b0v17 with
                  | none => none
                  | some (.nx x8v26) =>
                    match x7v17 with
                    | true =>
                      match x8v26 with
                      | true =>
                        match F9 N (rb0v6.set 1 (Eng.setAt ((rb0v6.getD 1 [])) 2 [.bool true])) with
                        | none => none
                        | some (.r rb0v27) =>
                          match ((rb0v27.length : Int)) == (0 : Int) with
                          | true =>
                            match F11 N (rb0v6.set 1 (Eng.setAt ((rb0v6.getD 1 [])) 2 [.bool true])) (([[.int .i64 0]] : List Row)) with
                            | none => none
                            | some (.r rb0v28) =>
                              match F8 N rb0v28 (([[.int .i64 0], [.int .i64 2], [.int .i64 4]] : List Row)) with
                              | none => none
                              | some (.r rx0v29) =>
                                match rx0v29 with
                                | true =>
                                  match F20 N b0v17 0 0 with
                                  | none => none
                                  | some (.r rx0v30) =>
                                    match !rx0v30 with
                                    | true =>
                                      match F20 N b0v17 0 1 with
                                      | none => none
                                      | some (.r rx0v31) =>
                                        match rx0v31 with
                                        | true =>
                                          match F20 N b0v17 9 0 with
                                          | none => none
                                          | some (.r rx0v32) =>
                                            some (.r (!rx0v32))
                                        | false =>
                                          some (.r false)
                                    | false =>
                                      some (.r false)
                                | false =>
                                  some (.r false)
                          | false =>
                            some (.r false)
                      | false =>
                        some (.r false)
                    | false =>
                      some (.r false)
def xRF13 : XSh R13 := ⟨[], ⟨[(0, .one (.cell (.bool)))], []⟩, fun _ => [], fun s => .r ((Eng.look s.env 0).toB)⟩
theorem fsF13 : ∀ (N : Nat) (lk : Nat → AV) (M : List Blk), FFF13 (F13 (N + 1)) (canS sgF13 lk M) = evfn CX (T13ur1 N R13) code13 rsF13 (argsE 0 (canS sgF13 lk M).env) (canS sgF13 lk M).mem (goR CX 0 (fun _ => some xRF13)) := by intro N lk M; kernel_rfl
theorem soundF13 : ∀ N, RecOkF13 (F13 N)
  | 0, lk, M, o, h => by cases h
  | N + 1, lk, M, o, h => fn_sound hX (okT13ur1 N R13) Try.func13 hb13 rfl en13 (by kernel_rfl) (ys := fun _ => some xRF13) (fun st y h => by injection h with h; subst h; exact fun lk M => ⟨rfl, rfl⟩) ((fsF13 N lk M).symm.trans h)
def cvce13n0 : List Cv := []
def selce13n0 : St → List Nat := fun _ => []
noncomputable def ce13n0 (Fx : TF13) (R : Type) (test : List AV → List Blk → Bool) : CE R := ⟨13, test, fun args M => some (selce13n0 ⟨argEnv 0 args, M, [], .unk⟩), fun args M k => tst (Nat.beq args.length 0) (callFn CX 0 cvce13n0 sgF13 selce13n0 (FFF13 Fx) elF13 args M k)⟩
theorem okce13n0 (Fx : TF13) (h : RecOkF13 Fx) (R : Type) (test : List AV → List Blk → Bool) : CeOk CX (ce13n0 Fx R test) := ce_ok hX (fun o k => by cases o; rfl) h en13 (fun args M ids h => by injection h with h; exact ⟨rfl, h.symm⟩)
end Go.Proofs.Ytfggehkiglenjaa

namespace Go.Proofs.Ytfggehkiglenjaa
open Go Go.Eng
set_option maxRecDepth 100000

/-! ### F7: ceiling/ceilinglaw33.MasterKnown -/
inductive R7 where
  | r (x0 : Bool)
abbrev TF7 := Option R7
def sgF7 : LSh := ⟨[], []⟩
def FFF7 (Fx : TF7) (s : St) : Option R7 := Fx 
def valF7 (o : R7) : AV := match o with | .r x0 => .bool x0
def memF7 (o : R7) : List Blk := match o with | .r x0 => []
def elF7 {R : Type} (o : R7) (k : AV → List Blk → Option R) : Option R := match o with | .r x0 => k (.bool x0) []
def RecOkF7 (Fx : TF7) : Prop := ∀ lk M o, FFF7 Fx (canS sgF7 lk M) = some o → FCalls CX 7 0 (argsE 0 (canS sgF7 lk M).env) (canS sgF7 lk M).mem (valF7 o) (memF7 o)
noncomputable def csF7 (N : Nat) (R : Type) : List (CE R) := [ce9n0 (F9 N) R (fun _ _ => true), ce11n1 (F11 N) R (fun _ _ => true), ce13n0 (F13 N) R (fun _ _ => true), ce14n1 (F14 N) R (fun _ _ => true), ce15n1 (F15 N) R (fun _ _ => true), ce16n1 (F16 N) R (fun _ _ => true), ce17n0 (F17 N) R (fun _ _ => true), ce20n1 (F20 N) R (fun _ _ => true), ce21n0 (F21 N) R (fun _ _ => true)]
theorem hcsF7 (N : Nat) (R : Type) : AllE (CeOk CX) (csF7 N R) := ⟨okce9n0 (F9 N) (soundF9 N) R (fun _ _ => true), okce11n1 (F11 N) (soundF11 N) R (fun _ _ => true), okce13n0 (F13 N) (soundF13 N) R (fun _ _ => true), okce14n1 (F14 N) (soundF14 N) R (fun _ _ => true), okce15n1 (F15 N) (soundF15 N) R (fun _ _ => true), okce16n1 (F16 N) (soundF16 N) R (fun _ _ => true), okce17n0 (F17 N) (soundF17 N) R (fun _ _ => true), okce20n1 (F20 N) (soundF20 N) R (fun _ _ => true), okce21n0 (F21 N) (soundF21 N) R (fun _ _ => true), trivial⟩
inductive OJ7a6 where
  | nx
  | ret (x0 : Bool)
def J7a6 (N : Nat) : Option OJ7a6 := 
    match F16 N ([]) with
    | none => none
    | some (.r rx0v1) =>
      match !rx0v1 with
      | true =>
        some (.ret false)
      | false =>
        match F9 N ([]) with
        | none => none
        | some (.r rb0v2) =>
          match ((rb0v2.length : Int)) != (0 : Int) with
          | true =>
            some (.ret false)
          | false =>
            match F17 N ([]) 0 with
            | none => none
            | some (.r rx0v3) =>
              match rx0v3 with
              | true =>
                some (.ret false)
              | false =>
                match F20 N ([]) 0 0 with
                | none => none
                | some (.r rx0v4) =>
                  match rx0v4 with
                  | true =>
                    some (.ret false)
                  | false =>
                    some .nx
def LFJ7a6 (N : Nat) (s : St) : Option OJ7a6 := J7a6 N 
def sgJ7a6 : LSh := ⟨[], []⟩
def ceJ7a6 : List Cv := []
def seJ7a6 : St → List Nat := fun _ => []
def xJ7a6wnx : XSh OJ7a6 := ⟨[], ⟨[], []⟩, fun _ => [], fun s => .nx ⟩
def xJ7a6wret : XSh OJ7a6 := ⟨[], ⟨[(0, .one (.cell (.bool)))], []⟩, fun _ => [], fun s => .ret ((Eng.look s.env 0).toB)⟩
def xsJ7a6 : Ex → St → Option (XSh OJ7a6) := fun e st => match e with
  | .normal => some xJ7a6wnx
  | .ret => some xJ7a6wret
  | _ => none
def exJ7a6 (o : OJ7a6) : Ex := match o with | .nx => .normal | .ret x0 => .ret
def stJ7a6 (o : OJ7a6) : St := match o with | .nx => ⟨[], [], [], .unk⟩ | .ret x0 => ⟨[(0, .bool x0)], [], [], .unk⟩
def elJ7a6 {R : Type} (o : OJ7a6) (k : Ex → St → Option R) : Option R := match o with | .nx => k .normal ⟨[], [], [], .unk⟩ | .ret x0 => k .ret ⟨[(0, .bool x0)], [], [], .unk⟩
theorem heJ7a6 {R : Type} (o : OJ7a6) (k : Ex → St → Option R) : elJ7a6 o k = k (exJ7a6 o) (stJ7a6 o) := by cases o <;> rfl
theorem hxJ7a6 : ∀ e st x, xsJ7a6 e st = some x → outOk x e exJ7a6 stJ7a6 := by
  intro e st x h
  unfold xsJ7a6 at h
  repeat' split at h
  all_goals first
    | (injection h with h; subst h; exact fun lk M => ⟨rfl, rfl⟩)
    | cases h
noncomputable def T7uc6 (N : Nat) (R : Type) : LTab R := mkTab ⟨131, 131057⟩ (csF7 N R) (noY) [] [] []
theorem okT7uc6 (N : Nat) (R : Type) : (T7uc6 N R).Ok CX code7 := mkTab_ok (hcsF7 N R) (noY_ok) (trivial) (trivial) (trivial)
noncomputable def bdJ7a6 : Code := (codeAt code7 [false, true]).getD .skip
theorem hsJ7a6 (N : Nat) : ∀ (lk : Nat → AV) (M : List Blk), LFJ7a6 N (canS sgJ7a6 lk M) = evk CX (T7uc6 N OJ7a6) bdJ7a6 6 (canS sgJ7a6 lk M) (kontX CX 0 xsJ7a6) := by intro lk M; kernel_rfl
inductive OL7a500732788732 where
  | x3 (b0 : List Row)
def L7a500732788732 (N : Nat) : Nat → List Row → Option OL7a500732788732
  | 0 => fun _ => none
  | n + 1 => fun b0 =>
    match decide (((b0.length : Int)) < (33 : Int)) with
    | true =>
      tst (decide (((b0.length + 1) * 32) ≤ 140737488355328)) <|
      L7a500732788732 N n (b0 ++ (([[.bool false, .bool false, .bool false, .bool false, .bool false, .int .i64 0, .int .i64 0, .int .i64 ((-1))]] : List Row)))
    | false =>
      some (.x3 b0)
def LFL7a500732788732 (N : Nat) (n : Nat) (s : St) : Option OL7a500732788732 := L7a500732788732 N n ((s.mem.getD 0 .dead).rows)
def sgL7a500732788732 : LSh := ⟨[(2, .one (.own 0))], [.row 30]⟩
def ceL7a500732788732 : List Cv := []
def seL7a500732788732 : St → List Nat := fun st => [(Eng.look st.env 2).id]
def xL7a500732788732wx3 : XSh OL7a500732788732 := ⟨[], ⟨[(2, .one (.own 0))], [.row 30]⟩, fun st => [(Eng.look st.env 2).id], fun s => .x3 ((s.mem.getD 0 .dead).rows)⟩
def xsL7a500732788732 : Ex → St → Option (XSh OL7a500732788732) := fun e st => match e with
  | .exit 3 => some xL7a500732788732wx3
  | _ => none
def exL7a500732788732 (o : OL7a500732788732) : Ex := match o with | .x3 b0 => (.exit 3)
def stL7a500732788732 (o : OL7a500732788732) : St := match o with | .x3 b0 => ⟨[(2, .own 0)], [.row 30 b0], [], .unk⟩
def elL7a500732788732 {R : Type} (o : OL7a500732788732) (k : Ex → St → Option R) : Option R := match o with | .x3 b0 => k (.exit 3) ⟨[(2, .own 0)], [.row 30 b0], [], .unk⟩
theorem heL7a500732788732 {R : Type} (o : OL7a500732788732) (k : Ex → St → Option R) : elL7a500732788732 o k = k (exL7a500732788732 o) (stL7a500732788732 o) := by cases o <;> rfl
theorem hxL7a500732788732 : ∀ e st x, xsL7a500732788732 e st = some x → outOk x e exL7a500732788732 stL7a500732788732 := by
  intro e st x h
  unfold xsL7a500732788732 at h
  repeat' split at h
  all_goals first
    | (injection h with h; subst h; exact fun lk M => ⟨rfl, rfl⟩)
    | cases h
noncomputable def T7ul500732788732 (N : Nat) (R : Type) : LTab R := mkTab ⟨131, 1228268632728463241501474820⟩ (csF7 N R) (noY) [] [] []
theorem okT7ul500732788732 (N : Nat) (R : Type) : (T7ul500732788732 N R).Ok CX code7 := mkTab_ok (hcsF7 N R) (noY_ok) (trivial) (trivial) (trivial)
noncomputable def bdL7a500732788732 : Code := match codeAt code7 [false, false, true, true, true, true, true, true, true, true, true, true, true, true, true, true, true, true, true, true, true, true, true, true, true, false, true, false, true, false, false, true, false, false, true, false, true, true] with | some (.loop c) => c | _ => .skip
theorem hsL7a500732788732 (N : Nat) : ∀ (n : Nat) (lk : Nat → AV) (M : List Blk), LFL7a500732788732 N (n + 1) (canS sgL7a500732788732 lk M) = evk CX (T7ul500732788732 N OL7a500732788732) bdL7a500732788732 (2 * 500732788732) (canS sgL7a500732788732 lk M) (kont CX 0 [] sgL7a500732788732 (fun st => [(Eng.look st.env 2).id]) xsL7a500732788732 (LFL7a500732788732 N n)) := by intro n lk M; kernel_rfl
inductive OJ7a3730 where
  | nx (b0 : List Row)
def J7a3730 (N : Nat) : Int → List Row → Option OJ7a3730 := fun x1 b0 =>
    match x1 == (0 : Int) with
    | true =>
      tst (decide ((0 : Int) < ((b0.length : Int)))) <|
      tst (decide (0 < b0.length)) <|
      some (.nx (b0.set 0 (Eng.setAt ((b0.getD 0 [])) 5 [.int .i64 0])))
    | false =>
      match x1 == (1 : Int) with
      | true =>
        tst (decide ((0 : Int) < ((b0.length : Int)))) <|
        tst (decide (0 < b0.length)) <|
        some (.nx (b0.set 0 (Eng.setAt ((b0.getD 0 [])) 6 [.int .i64 0])))
      | false =>
        match x1 == (2 : Int) with
        | true =>
          tst (decide ((1 : Int) < ((b0.length : Int)))) <|
          tst (decide (1 < b0.length)) <|
          some (.nx (b0.set 1 (Eng.setAt ((b0.getD 1 [])) 5 [.int .i64 1])))
        | false =>
          match x1 == (3 : Int) with
          | true =>
            tst (decide ((1 : Int) < ((b0.length : Int)))) <|
            tst (decide (1 < b0.length)) <|
            some (.nx (b0.set 1 (Eng.setAt ((b0.getD 1 [])) 5 [.int .i64 ((-1))])))
          | false =>
            match x1 == (4 : Int) with
            | true =>
              tst (decide ((1 : Int) < ((b0.length : Int)))) <|
              tst (decide (1 < b0.length)) <|
              some (.nx (b0.set 1 (Eng.setAt ((b0.getD 1 [])) 6 [.int .i64 ((-1))])))
            | false =>
              match x1 == (5 : Int) with
              | true =>
                tst (decide ((1 : Int) < ((b0.length : Int)))) <|
                tst (decide (1 < b0.length)) <|
                some (.nx (b0.set 1 (Eng.setAt ((b0.getD 1 [])) 0 [.bool false])))
              | false =>
                match x1 == (6 : Int) with
                | true =>
                  tst (decide ((1 : Int) < ((b0.length : Int)))) <|
                  tst (decide (1 < b0.length)) <|
                  some (.nx (b0.set 1 (Eng.setAt ((b0.getD 1 [])) 1 [.bool true])))
                | false =>
                  match x1 == (7 : Int) with
                  | true =>
                    tst (decide ((1 : Int) < ((b0.length : Int)))) <|
                    tst (decide (1 < b0.length)) <|
                    some (.nx (b0.set 1 (Eng.setAt ((b0.getD 1 [])) 7 [.int .i64 0])))
                  | false =>
                    match x1 == (8 : Int) with
                    | true =>
                      tst (decide ((0 : Int) < ((b0.length : Int)))) <|
                      tst (decide (0 < b0.length)) <|
                      some (.nx (b0.set 0 (Eng.setAt ((b0.getD 0 [])) 7 [.int .i64 ((-2))])))
                    | false =>
                      match x1 == (9 : Int) with
                      | true =>
                        tst (decide ((0 : Int) < ((b0.length : Int)))) <|
                        tst (decide (0 < b0.length)) <|
                        tst (decide ((0 : Int) < (((b0.set 0 (Eng.setAt ((b0.getD 0 [])) 0 [.bool false])).length : Int)))) <|
                        tst (decide (0 < ((b0.set 0 (Eng.setAt ((b0.getD 0 [])) 0 [.bool false])).length))) <|
                        some (.nx ((b0.set 0 (Eng.setAt ((b0.getD 0 [])) 0 [.bool false])).set 0 (Eng.setAt (((b0.set 0 (Eng.setAt ((b0.getD 0 [])) 0 [.bool false])).getD 0 [])) 7 [.int .i64 ((-1))])))
                      | false =>
                        match x1 == (10 : Int) with
                        | true =>
                          tst (decide ((3 : Int) < ((b0.length : Int)))) <|
                          tst (decide (3 < b0.length)) <|
                          some (.nx (b0.set 3 (Eng.setAt ((b0.getD 3 [])) 0 [.bool false, .bool true, .bool false, .bool false, .bool false, .int .i64 1, .int .i64 0, .int .i64 ((-1))])))
                        | false =>
                          match x1 == (11 : Int) with
                          | true =>
                            match L7a500732788732 N N b0 with
                            | none => none
                            | some (.x3 b0v7) =>
                              some (.nx b0v7)
                          | false =>
                            some (.nx b0)
def LFJ7a3730 (N : Nat) (s : St) : Option OJ7a3730 := J7a3730 N ((Eng.look s.env 1).toI) ((s.mem.getD 0 .dead).rows)
def sgJ7a3730 : LSh := ⟨[(1, .one (.cell (.int .i64))), (2, .one (.own 0))], [.row 30]⟩
def ceJ7a3730 : List Cv := []
def seJ7a3730 : St → List Nat := fun st => [(Eng.look st.env 2).id]
def xJ7a3730wnx : XSh OJ7a3730 := ⟨[], ⟨[(2, .one (.own 0))], [.row 30]⟩, fun st => [(Eng.look st.env 2).id], fun s => .nx ((s.mem.getD 0 .dead).rows)⟩
def xsJ7a3730 : Ex → St → Option (XSh OJ7a3730) := fun e st => match e with
  | .normal => some xJ7a3730wnx
  | _ => none
def exJ7a3730 (o : OJ7a3730) : Ex := match o with | .nx b0 => .normal
def stJ7a3730 (o : OJ7a3730) : St := match o with | .nx b0 => ⟨[(2, .own 0)], [.row 30 b0], [], .unk⟩
def elJ7a3730 {R : Type} (o : OJ7a3730) (k : Ex → St → Option R) : Option R := match o with | .nx b0 => k .normal ⟨[(2, .own 0)], [.row 30 b0], [], .unk⟩
theorem heJ7a3730 {R : Type} (o : OJ7a3730) (k : Ex → St → Option R) : elJ7a3730 o k = k (exJ7a3730 o) (stJ7a3730 o) := by cases o <;> rfl
theorem hxJ7a3730 : ∀ e st x, xsJ7a3730 e st = some x → outOk x e exJ7a3730 stJ7a3730 := by
  intro e st x h
  unfold xsJ7a3730 at h
  repeat' split at h
  all_goals first
    | (injection h with h; subst h; exact fun lk M => ⟨rfl, rfl⟩)
    | cases h
noncomputable def T7uc3730 (N : Nat) (R : Type) : LTab R := mkTab ⟨131, 1237940039285380274894929924⟩ (csF7 N R) (noY) [(500732788732, fun st k => callLoop CX 0 1228268632728463241501474820 ceL7a500732788732 sgL7a500732788732 seL7a500732788732 ⟨131, 1237940039285380274894929924⟩ (LFL7a500732788732 N N) elL7a500732788732 st k)] [] []
theorem okT7uc3730 (N : Nat) (R : Type) : (T7uc3730 N R).Ok CX code7 := mkTab_ok (hcsF7 N R) (noY_ok) (⟨loop_ok hX (path := [false, false, true, true, true, true, true, true, true, true, true, true, true, true, true, true, true, true, true, true, true, true, true, true, true, false, true, false, true, false, false, true, false, false, true, false, true, true]) (by kernel_rfl) (by rfl) (okT7ul500732788732 N OL7a500732788732) (fun _ _ => rfl) (hsL7a500732788732 N) hxL7a500732788732 rfl heL7a500732788732, trivial⟩) (trivial) (trivial)
noncomputable def bdJ7a3730 : Code := (codeAt code7 [false, true, false, false, true, false, false, true, false, true, true]).getD .skip
theorem hsJ7a3730 (N : Nat) : ∀ (lk : Nat → AV) (M : List Blk), LFJ7a3730 N (canS sgJ7a3730 lk M) = evk CX (T7uc3730 N OJ7a3730) bdJ7a3730 3730 (canS sgJ7a3730 lk M) (kontX CX 0 xsJ7a3730) := by intro lk M; kernel_rfl
inductive OL7a58 where
  | ret (x0 : Bool)
  | x0
def L7a58 (N : Nat) : Nat → Int → Option OL7a58
  | 0 => fun _ => none
  | n + 1 => fun x1 =>
    match decide (x1 < (12 : Int)) with
    | true =>
      match F21 N  with
      | none => none
      | some (.r rb0v6) =>
        match J7a3730 N x1 rb0v6 with
        | none => none
        | some (.nx b0v8) =>
          match F16 N b0v8 with
          | none => none
          | some (.r rx0v9) =>
            match rx0v9 with
            | true =>
              some (.ret false)
            | false =>
              match F11 N b0v8 (([[.int .i64 0]] : List Row)) with
              | none => none
              | some (.r rb0v10) =>
                match ((rb0v10.length : Int)) != (0 : Int) with
                | true =>
                  some (.ret false)
                | false =>
                  L7a58 N n (IntKind.wrap .i64 (x1 + (1 : Int)))
    | false =>
      some .x0
def LFL7a58 (N : Nat) (n : Nat) (s : St) : Option OL7a58 := L7a58 N n ((Eng.look s.env 1).toI)
def sgL7a58 : LSh := ⟨[(1, .one (.cell (.int .i64)))], []⟩
def ceL7a58 : List Cv := []
def seL7a58 : St → List Nat := fun _ => []
def xL7a58wret : XSh OL7a58 := ⟨[], ⟨[(0, .one (.cell (.bool)))], []⟩, fun _ => [], fun s => .ret ((Eng.look s.env 0).toB)⟩
def xL7a58wx0 : XSh OL7a58 := ⟨[], ⟨[], []⟩, fun _ => [], fun s => .x0 ⟩
def xsL7a58 : Ex → St → Option (XSh OL7a58) := fun e st => match e with
  | .ret => some xL7a58wret
  | .exit 0 => some xL7a58wx0
  | _ => none
def exL7a58 (o : OL7a58) : Ex := match o with | .ret x0 => .ret | .x0 => (.exit 0)
def stL7a58 (o : OL7a58) : St := match o with | .ret x0 => ⟨[(0, .bool x0)], [], [], .unk⟩ | .x0 => ⟨[], [], [], .unk⟩
def elL7a58 {R : Type} (o : OL7a58) (k : Ex → St → Option R) : Option R := match o with | .ret x0 => k .ret ⟨[(0, .bool x0)], [], [], .unk⟩ | .x0 => k (.exit 0) ⟨[], [], [], .unk⟩
theorem heL7a58 {R : Type} (o : OL7a58) (k : Ex → St → Option R) : elL7a58 o k = k (exL7a58 o) (stL7a58 o) := by cases o <;> rfl
theorem hxL7a58 : ∀ e st x, xsL7a58 e st = some x → outOk x e exL7a58 stL7a58 := by
  intro e st x h
  unfold xsL7a58 at h
  repeat' split at h
  all_goals first
    | (injection h with h; subst h; exact fun lk M => ⟨rfl, rfl⟩)
    | cases h
noncomputable def T7ul58 (N : Nat) (R : Type) : LTab R := mkTab ⟨131, 633825300114114700748351471623⟩ (csF7 N R) (noY) [] [] [(3730, fun st k => callLoop CX 0 1237940039285380274894929924 ceJ7a3730 sgJ7a3730 seJ7a3730 ⟨131, 633825300114114700748351471623⟩ (LFJ7a3730 N) elJ7a3730 st k)]
theorem okT7ul58 (N : Nat) (R : Type) : (T7ul58 N R).Ok CX code7 := mkTab_ok (hcsF7 N R) (noY_ok) (trivial) (trivial) (⟨cut_ok hX (path := [false, true, false, false, true, false, false, true, false, true, true]) (by kernel_rfl) (by rfl) (okT7uc3730 N OJ7a3730) (hsJ7a3730 N) hxJ7a3730 rfl heJ7a3730, trivial⟩)
noncomputable def bdL7a58 : Code := match codeAt code7 [false, true, false, true, true] with | some (.loop c) => c | _ => .skip
theorem hsL7a58 (N : Nat) : ∀ (n : Nat) (lk : Nat → AV) (M : List Blk), LFL7a58 N (n + 1) (canS sgL7a58 lk M) = evk CX (T7ul58 N OL7a58) bdL7a58 (2 * 58) (canS sgL7a58 lk M) (kont CX 0 [] sgL7a58 (fun _ => []) xsL7a58 (LFL7a58 N n)) := by intro n lk M; kernel_rfl
inductive OJ7a14 where
  | nx
  | ret (x0 : Bool)
def J7a14 (N : Nat) : Option OJ7a14 := 
    match L7a58 N N 0 with
    | none => none
    | some (.ret x0v11) =>
      some (.ret x0v11)
    | some (.x0) =>
      some .nx
def LFJ7a14 (N : Nat) (s : St) : Option OJ7a14 := J7a14 N 
def sgJ7a14 : LSh := ⟨[], []⟩
def ceJ7a14 : List Cv := []
def seJ7a14 : St → List Nat := fun _ => []
def xJ7a14wnx : XSh OJ7a14 := ⟨[], ⟨[], []⟩, fun _ => [], fun s => .nx ⟩
def xJ7a14wret : XSh OJ7a14 := ⟨[], ⟨[(0, .one (.cell (.bool)))], []⟩, fun _ => [], fun s => .ret ((Eng.look s.env 0).toB)⟩
def xsJ7a14 : Ex → St → Option (XSh OJ7a14) := fun e st => match e with
  | .normal => some xJ7a14wnx
  | .ret => some xJ7a14wret
  | _ => none
def exJ7a14 (o : OJ7a14) : Ex := match o with | .nx => .normal | .ret x0 => .ret
def stJ7a14 (o : OJ7a14) : St := match o with | .nx => ⟨[], [], [], .unk⟩ | .ret x0 => ⟨[(0, .bool x0)], [], [], .unk⟩
def elJ7a14 {R : Type} (o : OJ7a14) (k : Ex → St → Option R) : Option R := match o with | .nx => k .normal ⟨[], [], [], .unk⟩ | .ret x0 => k .ret ⟨[(0, .bool x0)], [], [], .unk⟩
theorem heJ7a14 {R : Type} (o : OJ7a14) (k : Ex → St → Option R) : elJ7a14 o k = k (exJ7a14 o) (stJ7a14 o) := by cases o <;> rfl
theorem hxJ7a14 : ∀ e st x, xsJ7a14 e st = some x → outOk x e exJ7a14 stJ7a14 := by
  intro e st x h
  unfold xsJ7a14 at h
  repeat' split at h
  all_goals first
    | (injection h with h; subst h; exact fun lk M => ⟨rfl, rfl⟩)
    | cases h
noncomputable def T7uc14 (N : Nat) (R : Type) : LTab R := mkTab ⟨131, 633825300114114700748351471623⟩ (csF7 N R) (noY) [(58, fun st k => callLoop CX 0 633825300114114700748351471623 ceL7a58 sgL7a58 seL7a58 ⟨131, 633825300114114700748351471623⟩ (LFL7a58 N N) elL7a58 st k)] [] []
theorem okT7uc14 (N : Nat) (R : Type) : (T7uc14 N R).Ok CX code7 := mkTab_ok (hcsF7 N R) (noY_ok) (⟨loop_ok hX (path := [false, true, false, true, true]) (by kernel_rfl) (by rfl) (okT7ul58 N OL7a58) (fun _ _ => rfl) (hsL7a58 N) hxL7a58 rfl heL7a58, trivial⟩) (trivial) (trivial)
noncomputable def bdJ7a14 : Code := (codeAt code7 [false, true, true]).getD .skip
theorem hsJ7a14 (N : Nat) : ∀ (lk : Nat → AV) (M : List Blk), LFJ7a14 N (canS sgJ7a14 lk M) = evk CX (T7uc14 N OJ7a14) bdJ7a14 14 (canS sgJ7a14 lk M) (kontX CX 0 xsJ7a14) := by intro lk M; kernel_rfl
noncomputable def T7ur1 (N : Nat) (R : Type) : LTab R := mkTab ⟨131, 2722258935367507707706996859454145691647⟩ (csF7 N R) (noY) [] [] [(6, fun st k => callLoop CX 0 131057 ceJ7a6 sgJ7a6 seJ7a6 ⟨131, 2722258935367507707706996859454145691647⟩ (LFJ7a6 N) elJ7a6 st k), (14, fun st k => callLoop CX 0 633825300114114700748351471623 ceJ7a14 sgJ7a14 seJ7a14 ⟨131, 2722258935367507707706996859454145691647⟩ (LFJ7a14 N) elJ7a14 st k)]
theorem okT7ur1 (N : Nat) (R : Type) : (T7ur1 N R).Ok CX code7 := mkTab_ok (hcsF7 N R) (noY_ok) (trivial) (trivial) (⟨cut_ok hX (path := [false, true]) (by kernel_rfl) (by rfl) (okT7uc6 N OJ7a6) (hsJ7a6 N) hxJ7a6 rfl heJ7a6, cut_ok hX (path := [false, true, true]) (by kernel_rfl) (by rfl) (okT7uc14 N OJ7a14) (hsJ7a14 N) hxJ7a14 rfl heJ7a14, trivial⟩)
def rsF7 : List ResultVar := [.tmp 0]
def F7 : Nat → TF7
  | 0 => none
  | N + 1 => 
    match J7a6 N  with
    | none => none
    | some (.nx) =>
      match J7a14 N  with
      | none => none
      | some (.nx) =>
        match F21 N  with
        | none => none
        | some (.r rb0v14) =>
          match F11 N rb0v14 (([[.int .i64 ((-1))], [.int .i64 5], [.int .i64 1099511627776]] : List Row)) with
          | none => none
          | some (.r rb0v15) =>
            match ((rb0v15.length : Int)) == (0 : Int) with
            | true =>
              match F15 N rb0v14 ((-1)) with
              | none => none
              | some (.r rb0v16) =>
                match ((rb0v16.length : Int)) == (0 : Int) with
                | true =>
                  match F15 N rb0v14 9 with
                  | none => none
                  | some (.r rb0v17) =>
                    match ((rb0v17.length : Int)) == (0 : Int) with
                    | true =>
                      match F14 N rb0v14 ((-1)) ((-1)) with
                      | none => none
                      | some (.r rb0v18) =>
                        match ((rb0v18.length : Int)) == (0 : Int) with
                        | true =>
                          match F17 N rb0v14 0 with
                          | none => none
                          | some (.r rx0v19) =>
                            match !rx0v19 with
                            | true =>
                              match F13 N  with
                              | none => none
                              | some (.r rx0v20) =>
                                some (.r rx0v20)
                            | false =>
                              some (.r false)
                        | false =>
                          some (.r false)
                    | false =>
                      some (.r false)
                | false =>
                  some (.r false)
            | false =>
              some (.r false)
      | some (.ret x0v21) =>
        some (.r x0v21)
    | some (.ret x0v22) =>
      some (.r x0v22)
def xRF7 : XSh R7 := ⟨[], ⟨[(0, .one (.cell (.bool)))], []⟩, fun _ => [], fun s => .r ((Eng.look s.env 0).toB)⟩
theorem fsF7 : ∀ (N : Nat) (lk : Nat → AV) (M : List Blk), FFF7 (F7 (N + 1)) (canS sgF7 lk M) = evfn CX (T7ur1 N R7) code7 rsF7 (argsE 0 (canS sgF7 lk M).env) (canS sgF7 lk M).mem (goR CX 0 (fun _ => some xRF7)) := by intro N lk M; kernel_rfl
theorem soundF7 : ∀ N, RecOkF7 (F7 N)
  | 0, lk, M, o, h => by cases h
  | N + 1, lk, M, o, h => fn_sound hX (okT7ur1 N R7) Try.func7 hb7 rfl en7 (by kernel_rfl) (ys := fun _ => some xRF7) (fun st y h => by injection h with h; subst h; exact fun lk M => ⟨rfl, rfl⟩) ((fsF7 N lk M).symm.trans h)
end Go.Proofs.Ytfggehkiglenjaa

namespace Go.Proofs.Ytfggehkiglenjaa
open Go Go.Eng Go.ChangeShapes Go.WideShapes Go.ChangeAt Go.RowKit

theorem own : ownKnob Try.prog.godebug = none := by kernel_rfl
theorem laidOut : laidOutB Try.prog = true := by kernel_rfl

theorem run7 : F7 60 = some (.r true) := by kernel_rfl

theorem law7 (xs : List AV) (h : ArgsAV CX [] xs) : ∃ m M', FCalls CX 7 m xs [] (.bool true) M' := by
  cases xs with
  | nil => exact ⟨_, _, soundF7 60 (fun _ => .top) [] (.r true) run7⟩
  | cons x xs => exact h.elim

set_option maxRecDepth 100000 in
theorem lifted7 (os : Os) (started : os.Started) (H : Type) (enc : TypeId × Value → H) :
    ReturnsInHanded {} Try.checked os 7 .any (Rows.masterKnownSpec.pre6 enc Try.prog Try.f7 Rows.masterKnownRow.domain false) (Rows.masterKnownSpec.post enc Try.prog Try.f7 false true false false) := by
  refine returnsInHanded_of_change (C := Try.checked) own started (by kernel_rfl) Try.func7
    (ChangeSpec.witness6 (enc := enc) (C := Try.checked) false ⟨#[], #[], []⟩ 8 (by kernel_rfl) (by kernel_rfl) (by kernel_rfl) (by kernel_rfl)) ?_
  intro W base args ds gs before hval hW _ _
  exact law_contract (X := CX) hX (fun _ => rfl) laidOut (ts := []) (tb := 4) (n := 8) (by kernel_rfl) (by kernel_rfl) Try.underlying4 (by kernel_rfl) (by kernel_rfl) rfl
    (fun ds hds => by cases ds with | nil => rfl | cons _ _ => simp at hds) law7 W base args ds gs before hval hW

theorem masterKnown_holds : Rows.MasterKnownSaid :=
  OpenClaim.holds_of_wide 7 Try.f7 rfl rfl rfl rfl rfl rfl rfl ⟨rfl, rfl, rfl, rfl, rfl⟩ rfl rfl rfl rfl rfl (by kernel_rfl) Try.func7 (by kernel_rfl)
    (of_decide_eq_true (by kernel_rfl)) (by unfold Func.isWrapper; first | (rw [if_pos (by decide +kernel)]; kernel_rfl) | (rw [if_neg (by decide +kernel)]; exact ⟨rfl, rfl⟩))
    (fun os started H enc _ => lifted7 os started H enc)

#print axioms masterKnown_holds
end Go.Proofs.Ytfggehkiglenjaa
