/-
  The functions of the code as typed functions, and that the code runs so. Printed by gen2.py.
  The functions of the code as typed functions, and that the code runs so. Printed by gen2.py.
  The functions of the code as typed functions, and that the code runs so. Printed by gen2.py.
  The functions of the code as typed functions, and that the code runs so. Printed by gen2.py.
  The functions of the code as typed functions, and that the code runs so. Printed by gen2.py.
  The functions of the code as typed functions, and that the code runs so. Printed by gen2.py.
  The functions of the code as typed functions, and that the code runs so. Printed by gen2.py.
  The functions of the code as typed functions, and that the code runs so. Printed by gen2.py.
  The functions of the code as typed functions, and that the code runs so. Printed by gen2.py.
  The functions of the code as typed functions, and that the code runs so. Printed by gen2.py.
  The functions of the code as typed functions, and that the code runs so. Printed by gen2.py.
  The functions of the code as typed functions, and that the code runs so. Printed by gen2.py.
  The functions of the code as typed functions, and that the code runs so. Printed by gen2.py.
  The functions of the code as typed functions, and that the code runs so. Printed by gen2.py.
  The functions of the code as typed functions, and that the code runs so. Printed by gen2.py.
  The functions of the code as typed functions, and that the code runs so. Printed by gen2.py.
  Plain laws of chapter 01: numbers.
  Plain laws of chapter 01: the machine's values, in both texts.
  Plain laws of chapter 01: intervals, in both texts; NumIvals.
  Plain laws of chapter 01: exact sums, differences, products, quotients, in both texts.
  Plain laws of chapter 01: products, in both texts.
  Plain laws of chapter 01: corners, in both texts.
  Plain laws of chapter 01: checked values (NumApply, NumAgrees).
  Plain laws of chapter 01: intervals of operators, in both texts; NumRange.
-/
import Derived.Test.YtnfmdenclkdmbaaEx3
import Derived.KernelRfl
import Derived.Test.YtnfmdenclkdmbaaEx4
set_option linter.all false
set_option linter.deprecated false
namespace Go.Proofs.Ytnfmdenclkdmbaa
open Go Go.Eng
set_option maxRecDepth 100000

/-! ### F58: ceiling/ceilingref01.remainder -/
inductive R58 where
  | r (x0c0 : Int) (x0c1 : Int)
abbrev TF58 := Int → Int → Int → Int → Option R58
def sgF58 : LSh := ⟨[(0, .agg [.cell (.int .i64), .cell (.int .i64)]), (1, .agg [.cell (.int .i64), .cell (.int .i64)])], []⟩
def FFF58 (Fx : TF58) (s : St) : Option R58 := Fx (((Eng.look s.env 0).cells.getD 0 .top).toI) (((Eng.look s.env 0).cells.getD 1 .top).toI) (((Eng.look s.env 1).cells.getD 0 .top).toI) (((Eng.look s.env 1).cells.getD 1 .top).toI)
def valF58 (o : R58) : AV := match o with | .r x0c0 x0c1 => .agg [.int .i64 x0c0, .int .i64 x0c1]
def memF58 (o : R58) : List Blk := match o with | .r x0c0 x0c1 => []
def elF58 {R : Type} (o : R58) (k : AV → List Blk → Option R) : Option R := match o with | .r x0c0 x0c1 => k (.agg [.int .i64 x0c0, .int .i64 x0c1]) []
def RecOkF58 (Fx : TF58) : Prop := ∀ lk M o, FFF58 Fx (canS sgF58 lk M) = some o → FCalls CX 58 0 (argsE 2 (canS sgF58 lk M).env) (canS sgF58 lk M).mem (valF58 o) (memF58 o)
noncomputable def csF58 (N : Nat) (R : Type) : List (CE R) := []
theorem hcsF58 (N : Nat) (R : Type) : AllE (CeOk CX) (csF58 N R) := trivial
inductive OJ58a28 where
  | nx (x22 : Bool) (b0c0 : Int) (b0c1 : Int)
def J58a28 (N : Nat) : Int → Int → Int → Option OJ58a28 := fun x5 b0c0 b0c1 =>
    match decide ((0 : Int) ≤ b0c1) with
    | true =>
      match decide ((IntKind.wrap .i64 (0 - b0c1)) < x5) with
      | true =>
        some (.nx true b0c0 b0c1)
      | false =>
        some (.nx (decide ((0 : Int) < b0c0)) b0c0 b0c1)
    | false =>
      some (.nx (decide ((0 : Int) < b0c0)) b0c0 b0c1)
def LFJ58a28 (N : Nat) (s : St) : Option OJ58a28 := J58a28 N ((Eng.look s.env 5).toI) (((s.mem.getD 0 .dead).cells.getD 0 .top).toI) (((s.mem.getD 0 .dead).cells.getD 1 .top).toI)
def sgJ58a28 : LSh := ⟨[(3, .one (.ptr 0 0 0)), (5, .one (.cell (.int .i64)))], [.var [.int .i64, .int .i64] [.cell (.int .i64), .cell (.int .i64)]]⟩
def ceJ58a28 : List Cv := []
def seJ58a28 : St → List Nat := fun st => [(Eng.look st.env 3).id]
def xJ58a28wnx : XSh OJ58a28 := ⟨[], ⟨[(22, .one (.cell (.bool)))], [.var [.int .i64, .int .i64] [.cell (.int .i64), .cell (.int .i64)]]⟩, fun st => [0], fun s => .nx ((Eng.look s.env 22).toB) (((s.mem.getD 0 .dead).cells.getD 0 .top).toI) (((s.mem.getD 0 .dead).cells.getD 1 .top).toI)⟩
def xsJ58a28 : Ex → St → Option (XSh OJ58a28) := fun e st => match e with
  | .normal => some xJ58a28wnx
  | _ => none
def exJ58a28 (o : OJ58a28) : Ex := match o with | .nx x22 b0c0 b0c1 => .normal
def stJ58a28 (o : OJ58a28) : St := match o with | .nx x22 b0c0 b0c1 => ⟨[(22, .bool x22)], [.var [.int .i64, .int .i64] [.int .i64 b0c0, .int .i64 b0c1]], [], .unk⟩
def elJ58a28 {R : Type} (o : OJ58a28) (k : Ex → St → Option R) : Option R := match o with | .nx x22 b0c0 b0c1 => k .normal ⟨[(22, .bool x22)], [.var [.int .i64, .int .i64] [.int .i64 b0c0, .int .i64 b0c1]], [], .unk⟩
theorem heJ58a28 {R : Type} (o : OJ58a28) (k : Ex → St → Option R) : elJ58a28 o k = k (exJ58a28 o) (stJ58a28 o) := by cases o <;> rfl
theorem hxJ58a28 : ∀ e st x, xsJ58a28 e st = some x → outOk x e exJ58a28 stJ58a28 := by
  intro e st x h
  unfold xsJ58a28 at h
  repeat' split at h
  all_goals first
    | (injection h with h; subst h; exact fun lk M => ⟨rfl, rfl⟩)
    | cases h
noncomputable def T58uc28 (N : Nat) (R : Type) : LTab R := mkTab ⟨40, 8388352⟩ (csF58 N R) (noY) [] [] []
theorem okT58uc28 (N : Nat) (R : Type) : (T58uc28 N R).Ok CX code58 := mkTab_ok (hcsF58 N R) (noY_ok) (trivial) (trivial) (trivial)
noncomputable def bdJ58a28 : Code := (codeAt code58 [false, false, true, true]).getD .skip
theorem hsJ58a28 (N : Nat) : ∀ (lk : Nat → AV) (M : List Blk), LFJ58a28 N (canS sgJ58a28 lk M) = evk CX (T58uc28 N OJ58a28) bdJ58a28 28 (canS sgJ58a28 lk M) (kontX CX 1 xsJ58a28) := by intro lk M; kernel_rfl
inductive OJ58a14 where
  | nx (x5 : Int) (b0c0 : Int) (b0c1 : Int)
def J58a14 (N : Nat) : Int → Int → Int → Option OJ58a14 := fun x5 b0c0 b0c1 =>
    match J58a28 N x5 b0c0 b0c1 with
    | none => none
    | some (.nx x22v1 b0c0v1 b0c1v1) =>
      match x22v1 with
      | true =>
        some (.nx (IntKind.wrap .i64 (0 - b0c1v1)) b0c0v1 b0c1v1)
      | false =>
        some (.nx x5 b0c0v1 b0c1v1)
def LFJ58a14 (N : Nat) (s : St) : Option OJ58a14 := J58a14 N ((Eng.look s.env 5).toI) (((s.mem.getD 0 .dead).cells.getD 0 .top).toI) (((s.mem.getD 0 .dead).cells.getD 1 .top).toI)
def sgJ58a14 : LSh := ⟨[(3, .one (.ptr 0 0 0)), (5, .one (.cell (.int .i64)))], [.var [.int .i64, .int .i64] [.cell (.int .i64), .cell (.int .i64)]]⟩
def ceJ58a14 : List Cv := []
def seJ58a14 : St → List Nat := fun st => [(Eng.look st.env 3).id]
def xJ58a14wnx : XSh OJ58a14 := ⟨[], ⟨[(5, .one (.cell (.int .i64)))], [.var [.int .i64, .int .i64] [.cell (.int .i64), .cell (.int .i64)]]⟩, fun st => [0], fun s => .nx ((Eng.look s.env 5).toI) (((s.mem.getD 0 .dead).cells.getD 0 .top).toI) (((s.mem.getD 0 .dead).cells.getD 1 .top).toI)⟩
def xsJ58a14 : Ex → St → Option (XSh OJ58a14) := fun e st => match e with
  | .normal => some xJ58a14wnx
  | _ => none
def exJ58a14 (o : OJ58a14) : Ex := match o with | .nx x5 b0c0 b0c1 => .normal
def stJ58a14 (o : OJ58a14) : St := match o with | .nx x5 b0c0 b0c1 => ⟨[(5, .int .i64 x5)], [.var [.int .i64, .int .i64] [.int .i64 b0c0, .int .i64 b0c1]], [], .unk⟩
def elJ58a14 {R : Type} (o : OJ58a14) (k : Ex → St → Option R) : Option R := match o with | .nx x5 b0c0 b0c1 => k .normal ⟨[(5, .int .i64 x5)], [.var [.int .i64, .int .i64] [.int .i64 b0c0, .int .i64 b0c1]], [], .unk⟩
theorem heJ58a14 {R : Type} (o : OJ58a14) (k : Ex → St → Option R) : elJ58a14 o k = k (exJ58a14 o) (stJ58a14 o) := by cases o <;> rfl
theorem hxJ58a14 : ∀ e st x, xsJ58a14 e st = some x → outOk x e exJ58a14 stJ58a14 := by
  intro e st x h
  unfold xsJ58a14 at h
  repeat' split at h
  all_goals first
    | (injection h with h; subst h; exact fun lk M => ⟨rfl, rfl⟩)
    | cases h
noncomputable def T58uc14 (N : Nat) (R : Type) : LTab R := mkTab ⟨40, 67108640⟩ (csF58 N R) (noY) [] [] [(28, fun st k => callLoop CX 1 8388352 ceJ58a28 sgJ58a28 seJ58a28 ⟨40, 67108640⟩ (LFJ58a28 N) elJ58a28 st k)]
theorem okT58uc14 (N : Nat) (R : Type) : (T58uc14 N R).Ok CX code58 := mkTab_ok (hcsF58 N R) (noY_ok) (trivial) (trivial) (⟨cut_ok hX (path := [false, false, true, true]) (by kernel_rfl) (by rfl) (okT58uc28 N OJ58a28) (hsJ58a28 N) hxJ58a28 rfl heJ58a28, trivial⟩)
noncomputable def bdJ58a14 : Code := (codeAt code58 [false, true, true]).getD .skip
theorem hsJ58a14 (N : Nat) : ∀ (lk : Nat → AV) (M : List Blk), LFJ58a14 N (canS sgJ58a14 lk M) = evk CX (T58uc14 N OJ58a14) bdJ58a14 14 (canS sgJ58a14 lk M) (kontX CX 1 xsJ58a14) := by intro lk M; kernel_rfl
noncomputable def T58ur1 (N : Nat) (R : Type) : LTab R := mkTab ⟨40, 1099511627775⟩ (csF58 N R) (noY) [] [] [(14, fun st k => callLoop CX 1 67108640 ceJ58a14 sgJ58a14 seJ58a14 ⟨40, 1099511627775⟩ (LFJ58a14 N) elJ58a14 st k)]
theorem okT58ur1 (N : Nat) (R : Type) : (T58ur1 N R).Ok CX code58 := mkTab_ok (hcsF58 N R) (noY_ok) (trivial) (trivial) (⟨cut_ok hX (path := [false, true, true]) (by kernel_rfl) (by rfl) (okT58uc14 N OJ58a14) (hsJ58a14 N) hxJ58a14 rfl heJ58a14, trivial⟩)
def rsF58 : List ResultVar := [.cell 4 29]
def F58 : Nat → TF58
  | 0 => fun _ _ _ _ => none
  | N + 1 => fun x0c0 x0c1 x1c0 x1c1 =>
    match J58a14 N x1c0 x1c0 x1c1 with
    | none => none
    | some (.nx x5v2 b0c0v2 b0c1v2) =>
      some (.r (Eng.imin (Eng.imax x0c0 (IntKind.wrap .i64 (x5v2 + (1 : Int)))) 0) (Eng.imax (Eng.imin x0c1 (IntKind.wrap .i64 (0 - (IntKind.wrap .i64 (x5v2 + (1 : Int)))))) 0))
def xRF58 : XSh R58 := ⟨[], ⟨[(0, .agg [.cell (.int .i64), .cell (.int .i64)])], []⟩, fun _ => [], fun s => .r (((Eng.look s.env 0).cells.getD 0 .top).toI) (((Eng.look s.env 0).cells.getD 1 .top).toI)⟩
theorem fsF58 : ∀ (N : Nat) (lk : Nat → AV) (M : List Blk), FFF58 (F58 (N + 1)) (canS sgF58 lk M) = evfn CX (T58ur1 N R58) code58 rsF58 (argsE 2 (canS sgF58 lk M).env) (canS sgF58 lk M).mem (goR CX 0 (fun _ => some xRF58)) := by intro N lk M; kernel_rfl
theorem soundF58 : ∀ N, RecOkF58 (F58 N)
  | 0, lk, M, o, h => by cases h
  | N + 1, lk, M, o, h => fn_sound hX (okT58ur1 N R58) Try.func58 hb58 rfl en58 (by kernel_rfl) (ys := fun _ => some xRF58) (fun st y h => by injection h with h; subst h; exact fun lk M => ⟨rfl, rfl⟩) ((fsF58 N lk M).symm.trans h)
def cvce58n0 : List Cv := []
def selce58n0 : St → List Nat := fun _ => []
noncomputable def ce58n0 (Fx : TF58) (R : Type) (test : List AV → List Blk → Bool) : CE R := ⟨58, test, fun args M => some (selce58n0 ⟨argEnv 0 args, M, [], .unk⟩), fun args M k => tst (Nat.beq args.length 2) (callFn CX 0 cvce58n0 sgF58 selce58n0 (FFF58 Fx) elF58 args M k)⟩
theorem okce58n0 (Fx : TF58) (h : RecOkF58 Fx) (R : Type) (test : List AV → List Blk → Bool) : CeOk CX (ce58n0 Fx R test) := ce_ok hX (fun o k => by cases o; rfl) h en58 (fun args M ids h => by injection h with h; exact ⟨rfl, h.symm⟩)
end Go.Proofs.Ytnfmdenclkdmbaa

namespace Go.Proofs.Ytnfmdenclkdmbaa
open Go Go.Eng
set_option maxRecDepth 100000

/-! ### F59: ceiling/ceilingref01.modular -/
inductive R59 where
  | r (x0c0 : Int) (x0c1 : Int)
abbrev TF59 := Int → Int → Int → Int → Option R59
def sgF59 : LSh := ⟨[(0, .agg [.cell (.int .i64), .cell (.int .i64)]), (1, .agg [.cell (.int .i64), .cell (.int .i64)])], []⟩
def FFF59 (Fx : TF59) (s : St) : Option R59 := Fx (((Eng.look s.env 0).cells.getD 0 .top).toI) (((Eng.look s.env 0).cells.getD 1 .top).toI) (((Eng.look s.env 1).cells.getD 0 .top).toI) (((Eng.look s.env 1).cells.getD 1 .top).toI)
def valF59 (o : R59) : AV := match o with | .r x0c0 x0c1 => .agg [.int .i64 x0c0, .int .i64 x0c1]
def memF59 (o : R59) : List Blk := match o with | .r x0c0 x0c1 => []
def elF59 {R : Type} (o : R59) (k : AV → List Blk → Option R) : Option R := match o with | .r x0c0 x0c1 => k (.agg [.int .i64 x0c0, .int .i64 x0c1]) []
def RecOkF59 (Fx : TF59) : Prop := ∀ lk M o, FFF59 Fx (canS sgF59 lk M) = some o → FCalls CX 59 0 (argsE 2 (canS sgF59 lk M).env) (canS sgF59 lk M).mem (valF59 o) (memF59 o)
noncomputable def csF59 (N : Nat) (R : Type) : List (CE R) := []
theorem hcsF59 (N : Nat) (R : Type) : AllE (CeOk CX) (csF59 N R) := trivial
inductive OJ59a14 where
  | nx (b0c0 : Int) (b0c1 : Int) (b1c0 : Int) (b1c1 : Int)
def J59a14 (N : Nat) : Int → Int → Int → Int → Option OJ59a14 := fun b0c0 b0c1 b1c0 b1c1 =>
    match decide ((1 : Int) ≤ b0c1) with
    | true =>
      some (.nx b0c0 b0c1 b1c0 (IntKind.wrap .i64 (b0c1 - (1 : Int))))
    | false =>
      some (.nx b0c0 b0c1 b1c0 b1c1)
def LFJ59a14 (N : Nat) (s : St) : Option OJ59a14 := J59a14 N (((s.mem.getD 0 .dead).cells.getD 0 .top).toI) (((s.mem.getD 0 .dead).cells.getD 1 .top).toI) (((s.mem.getD 1 .dead).cells.getD 0 .top).toI) (((s.mem.getD 1 .dead).cells.getD 1 .top).toI)
def sgJ59a14 : LSh := ⟨[(3, .one (.ptr 0 0 0)), (5, .one (.ptr 1 0 0))], [.var [.int .i64, .int .i64] [.cell (.int .i64), .cell (.int .i64)], .var [.int .i64, .int .i64] [.cell (.int .i64), .cell (.int .i64)]]⟩
def ceJ59a14 : List Cv := []
def seJ59a14 : St → List Nat := fun st => [(Eng.look st.env 3).id, (Eng.look st.env 5).id]
def xJ59a14wnx : XSh OJ59a14 := ⟨[], ⟨[], [.var [.int .i64, .int .i64] [.cell (.int .i64), .cell (.int .i64)], .var [.int .i64, .int .i64] [.cell (.int .i64), .cell (.int .i64)]]⟩, fun st => [0, 1], fun s => .nx (((s.mem.getD 0 .dead).cells.getD 0 .top).toI) (((s.mem.getD 0 .dead).cells.getD 1 .top).toI) (((s.mem.getD 1 .dead).cells.getD 0 .top).toI) (((s.mem.getD 1 .dead).cells.getD 1 .top).toI)⟩
def xsJ59a14 : Ex → St → Option (XSh OJ59a14) := fun e st => match e with
  | .normal => some xJ59a14wnx
  | _ => none
def exJ59a14 (o : OJ59a14) : Ex := match o with | .nx b0c0 b0c1 b1c0 b1c1 => .normal
def stJ59a14 (o : OJ59a14) : St := match o with | .nx b0c0 b0c1 b1c0 b1c1 => ⟨[], [.var [.int .i64, .int .i64] [.int .i64 b0c0, .int .i64 b0c1], .var [.int .i64, .int .i64] [.int .i64 b1c0, .int .i64 b1c1]], [], .unk⟩
def elJ59a14 {R : Type} (o : OJ59a14) (k : Ex → St → Option R) : Option R := match o with | .nx b0c0 b0c1 b1c0 b1c1 => k .normal ⟨[], [.var [.int .i64, .int .i64] [.int .i64 b0c0, .int .i64 b0c1], .var [.int .i64, .int .i64] [.int .i64 b1c0, .int .i64 b1c1]], [], .unk⟩
theorem heJ59a14 {R : Type} (o : OJ59a14) (k : Ex → St → Option R) : elJ59a14 o k = k (exJ59a14 o) (stJ59a14 o) := by cases o <;> rfl
theorem hxJ59a14 : ∀ e st x, xsJ59a14 e st = some x → outOk x e exJ59a14 stJ59a14 := by
  intro e st x h
  unfold xsJ59a14 at h
  repeat' split at h
  all_goals first
    | (injection h with h; subst h; exact fun lk M => ⟨rfl, rfl⟩)
    | cases h
noncomputable def T59uc14 (N : Nat) (R : Type) : LTab R := mkTab ⟨50, 16256⟩ (csF59 N R) (noY) [] [] []
theorem okT59uc14 (N : Nat) (R : Type) : (T59uc14 N R).Ok CX code59 := mkTab_ok (hcsF59 N R) (noY_ok) (trivial) (trivial) (trivial)
noncomputable def bdJ59a14 : Code := (codeAt code59 [false, true, true]).getD .skip
theorem hsJ59a14 (N : Nat) : ∀ (lk : Nat → AV) (M : List Blk), LFJ59a14 N (canS sgJ59a14 lk M) = evk CX (T59uc14 N OJ59a14) bdJ59a14 14 (canS sgJ59a14 lk M) (kontX CX 2 xsJ59a14) := by intro lk M; kernel_rfl
inductive OJ59a30 where
  | nx (b0c0 : Int) (b0c1 : Int) (b1c0 : Int) (b1c1 : Int)
def J59a30 (N : Nat) : Int → Int → Int → Int → Option OJ59a30 := fun b0c0 b0c1 b1c0 b1c1 =>
    match decide (b0c0 ≤ (-1 : Int)) with
    | true =>
      some (.nx b0c0 b0c1 (IntKind.wrap .i64 (b0c0 + (1 : Int))) b1c1)
    | false =>
      some (.nx b0c0 b0c1 b1c0 b1c1)
def LFJ59a30 (N : Nat) (s : St) : Option OJ59a30 := J59a30 N (((s.mem.getD 0 .dead).cells.getD 0 .top).toI) (((s.mem.getD 0 .dead).cells.getD 1 .top).toI) (((s.mem.getD 1 .dead).cells.getD 0 .top).toI) (((s.mem.getD 1 .dead).cells.getD 1 .top).toI)
def sgJ59a30 : LSh := ⟨[(3, .one (.ptr 0 0 0)), (5, .one (.ptr 1 0 0))], [.var [.int .i64, .int .i64] [.cell (.int .i64), .cell (.int .i64)], .var [.int .i64, .int .i64] [.cell (.int .i64), .cell (.int .i64)]]⟩
def ceJ59a30 : List Cv := []
def seJ59a30 : St → List Nat := fun st => [(Eng.look st.env 3).id, (Eng.look st.env 5).id]
def xJ59a30wnx : XSh OJ59a30 := ⟨[], ⟨[], [.var [.int .i64, .int .i64] [.cell (.int .i64), .cell (.int .i64)], .var [.int .i64, .int .i64] [.cell (.int .i64), .cell (.int .i64)]]⟩, fun st => [0, 1], fun s => .nx (((s.mem.getD 0 .dead).cells.getD 0 .top).toI) (((s.mem.getD 0 .dead).cells.getD 1 .top).toI) (((s.mem.getD 1 .dead).cells.getD 0 .top).toI) (((s.mem.getD 1 .dead).cells.getD 1 .top).toI)⟩
def xsJ59a30 : Ex → St → Option (XSh OJ59a30) := fun e st => match e with
  | .normal => some xJ59a30wnx
  | _ => none
def exJ59a30 (o : OJ59a30) : Ex := match o with | .nx b0c0 b0c1 b1c0 b1c1 => .normal
def stJ59a30 (o : OJ59a30) : St := match o with | .nx b0c0 b0c1 b1c0 b1c1 => ⟨[], [.var [.int .i64, .int .i64] [.int .i64 b0c0, .int .i64 b0c1], .var [.int .i64, .int .i64] [.int .i64 b1c0, .int .i64 b1c1]], [], .unk⟩
def elJ59a30 {R : Type} (o : OJ59a30) (k : Ex → St → Option R) : Option R := match o with | .nx b0c0 b0c1 b1c0 b1c1 => k .normal ⟨[], [.var [.int .i64, .int .i64] [.int .i64 b0c0, .int .i64 b0c1], .var [.int .i64, .int .i64] [.int .i64 b1c0, .int .i64 b1c1]], [], .unk⟩
theorem heJ59a30 {R : Type} (o : OJ59a30) (k : Ex → St → Option R) : elJ59a30 o k = k (exJ59a30 o) (stJ59a30 o) := by cases o <;> rfl
theorem hxJ59a30 : ∀ e st x, xsJ59a30 e st = some x → outOk x e exJ59a30 stJ59a30 := by
  intro e st x h
  unfold xsJ59a30 at h
  repeat' split at h
  all_goals first
    | (injection h with h; subst h; exact fun lk M => ⟨rfl, rfl⟩)
    | cases h
noncomputable def T59uc30 (N : Nat) (R : Type) : LTab R := mkTab ⟨50, 2080768⟩ (csF59 N R) (noY) [] [] []
theorem okT59uc30 (N : Nat) (R : Type) : (T59uc30 N R).Ok CX code59 := mkTab_ok (hcsF59 N R) (noY_ok) (trivial) (trivial) (trivial)
noncomputable def bdJ59a30 : Code := (codeAt code59 [false, true, true, true]).getD .skip
theorem hsJ59a30 (N : Nat) : ∀ (lk : Nat → AV) (M : List Blk), LFJ59a30 N (canS sgJ59a30 lk M) = evk CX (T59uc30 N OJ59a30) bdJ59a30 30 (canS sgJ59a30 lk M) (kontX CX 2 xsJ59a30) := by intro lk M; kernel_rfl
inductive OJ59a62 where
  | nx (b0c0 : Int) (b0c1 : Int) (b1c0 : Int) (b1c1 : Int) (b2c0 : Int) (b2c1 : Int)
def J59a62 (N : Nat) : Int → Int → Int → Int → Int → Int → Option OJ59a62 := fun b0c0 b0c1 b1c0 b1c1 b2c0 b2c1 =>
    match decide ((0 : Int) ≤ b0c0) with
    | true =>
      match decide ((1 : Int) ≤ b1c0) with
      | true =>
        some (.nx b0c0 b0c1 b1c0 b1c1 b2c0 (Eng.imin b2c1 b0c1))
      | false =>
        some (.nx b0c0 b0c1 b1c0 b1c1 b2c0 b2c1)
    | false =>
      some (.nx b0c0 b0c1 b1c0 b1c1 b2c0 b2c1)
def LFJ59a62 (N : Nat) (s : St) : Option OJ59a62 := J59a62 N (((s.mem.getD 0 .dead).cells.getD 0 .top).toI) (((s.mem.getD 0 .dead).cells.getD 1 .top).toI) (((s.mem.getD 1 .dead).cells.getD 0 .top).toI) (((s.mem.getD 1 .dead).cells.getD 1 .top).toI) (((s.mem.getD 2 .dead).cells.getD 0 .top).toI) (((s.mem.getD 2 .dead).cells.getD 1 .top).toI)
def sgJ59a62 : LSh := ⟨[(2, .one (.ptr 0 0 0)), (3, .one (.ptr 1 0 0)), (5, .one (.ptr 2 0 0))], [.var [.int .i64, .int .i64] [.cell (.int .i64), .cell (.int .i64)], .var [.int .i64, .int .i64] [.cell (.int .i64), .cell (.int .i64)], .var [.int .i64, .int .i64] [.cell (.int .i64), .cell (.int .i64)]]⟩
def ceJ59a62 : List Cv := []
def seJ59a62 : St → List Nat := fun st => [(Eng.look st.env 2).id, (Eng.look st.env 3).id, (Eng.look st.env 5).id]
def xJ59a62wnx : XSh OJ59a62 := ⟨[], ⟨[], [.var [.int .i64, .int .i64] [.cell (.int .i64), .cell (.int .i64)], .var [.int .i64, .int .i64] [.cell (.int .i64), .cell (.int .i64)], .var [.int .i64, .int .i64] [.cell (.int .i64), .cell (.int .i64)]]⟩, fun st => [0, 1, 2], fun s => .nx (((s.mem.getD 0 .dead).cells.getD 0 .top).toI) (((s.mem.getD 0 .dead).cells.getD 1 .top).toI) (((s.mem.getD 1 .dead).cells.getD 0 .top).toI) (((s.mem.getD 1 .dead).cells.getD 1 .top).toI) (((s.mem.getD 2 .dead).cells.getD 0 .top).toI) (((s.mem.getD 2 .dead).cells.getD 1 .top).toI)⟩
def xsJ59a62 : Ex → St → Option (XSh OJ59a62) := fun e st => match e with
  | .normal => some xJ59a62wnx
  | _ => none
def exJ59a62 (o : OJ59a62) : Ex := match o with | .nx b0c0 b0c1 b1c0 b1c1 b2c0 b2c1 => .normal
def stJ59a62 (o : OJ59a62) : St := match o with | .nx b0c0 b0c1 b1c0 b1c1 b2c0 b2c1 => ⟨[], [.var [.int .i64, .int .i64] [.int .i64 b0c0, .int .i64 b0c1], .var [.int .i64, .int .i64] [.int .i64 b1c0, .int .i64 b1c1], .var [.int .i64, .int .i64] [.int .i64 b2c0, .int .i64 b2c1]], [], .unk⟩
def elJ59a62 {R : Type} (o : OJ59a62) (k : Ex → St → Option R) : Option R := match o with | .nx b0c0 b0c1 b1c0 b1c1 b2c0 b2c1 => k .normal ⟨[], [.var [.int .i64, .int .i64] [.int .i64 b0c0, .int .i64 b0c1], .var [.int .i64, .int .i64] [.int .i64 b1c0, .int .i64 b1c1], .var [.int .i64, .int .i64] [.int .i64 b2c0, .int .i64 b2c1]], [], .unk⟩
theorem heJ59a62 {R : Type} (o : OJ59a62) (k : Ex → St → Option R) : elJ59a62 o k = k (exJ59a62 o) (stJ59a62 o) := by cases o <;> rfl
theorem hxJ59a62 : ∀ e st x, xsJ59a62 e st = some x → outOk x e exJ59a62 stJ59a62 := by
  intro e st x h
  unfold xsJ59a62 at h
  repeat' split at h
  all_goals first
    | (injection h with h; subst h; exact fun lk M => ⟨rfl, rfl⟩)
    | cases h
noncomputable def T59uc62 (N : Nat) (R : Type) : LTab R := mkTab ⟨50, 34357641216⟩ (csF59 N R) (noY) [] [] []
theorem okT59uc62 (N : Nat) (R : Type) : (T59uc62 N R).Ok CX code59 := mkTab_ok (hcsF59 N R) (noY_ok) (trivial) (trivial) (trivial)
noncomputable def bdJ59a62 : Code := (codeAt code59 [false, true, true, true, true]).getD .skip
theorem hsJ59a62 (N : Nat) : ∀ (lk : Nat → AV) (M : List Blk), LFJ59a62 N (canS sgJ59a62 lk M) = evk CX (T59uc62 N OJ59a62) bdJ59a62 62 (canS sgJ59a62 lk M) (kontX CX 3 xsJ59a62) := by intro lk M; kernel_rfl
noncomputable def T59ur1 (N : Nat) (R : Type) : LTab R := mkTab ⟨50, 1125899906842623⟩ (csF59 N R) (noY) [] [] [(14, fun st k => callLoop CX 2 16256 ceJ59a14 sgJ59a14 seJ59a14 ⟨50, 1125899906842623⟩ (LFJ59a14 N) elJ59a14 st k), (30, fun st k => callLoop CX 2 2080768 ceJ59a30 sgJ59a30 seJ59a30 ⟨50, 1125899906842623⟩ (LFJ59a30 N) elJ59a30 st k), (62, fun st k => callLoop CX 3 34357641216 ceJ59a62 sgJ59a62 seJ59a62 ⟨50, 1125899906842623⟩ (LFJ59a62 N) elJ59a62 st k)]
theorem okT59ur1 (N : Nat) (R : Type) : (T59ur1 N R).Ok CX code59 := mkTab_ok (hcsF59 N R) (noY_ok) (trivial) (trivial) (⟨cut_ok hX (path := [false, true, true]) (by kernel_rfl) (by rfl) (okT59uc14 N OJ59a14) (hsJ59a14 N) hxJ59a14 rfl heJ59a14, cut_ok hX (path := [false, true, true, true]) (by kernel_rfl) (by rfl) (okT59uc30 N OJ59a30) (hsJ59a30 N) hxJ59a30 rfl heJ59a30, cut_ok hX (path := [false, true, true, true, true]) (by kernel_rfl) (by rfl) (okT59uc62 N OJ59a62) (hsJ59a62 N) hxJ59a62 rfl heJ59a62, trivial⟩)
def rsF59 : List ResultVar := [.cell 4 29]
def F59 : Nat → TF59
  | 0 => fun _ _ _ _ => none
  | N + 1 => fun x0c0 x0c1 x1c0 x1c1 =>
    match J59a14 N x1c0 x1c1 0 0 with
    | none => none
    | some (.nx b0c0v1 b0c1v1 b1c0v1 b1c1v1) =>
      match J59a30 N b0c0v1 b0c1v1 b1c0v1 b1c1v1 with
      | none => none
      | some (.nx b0c0v2 b0c1v2 b1c0v2 b1c1v2) =>
        match J59a62 N x0c0 x0c1 b0c0v2 b0c1v2 b1c0v2 b1c1v2 with
        | none => none
        | some (.nx b0c0v3 b0c1v3 b1c0v3 b1c1v3 b2c0v3 b2c1v3) =>
          match decide (b0c1v3 ≤ (0 : Int)) with
          | true =>
            match decide (b1c1v3 ≤ (-1 : Int)) with
            | true =>
              some (.r (Eng.imax b2c0v3 b0c0v3) b2c1v3)
            | false =>
              some (.r b2c0v3 b2c1v3)
          | false =>
            some (.r b2c0v3 b2c1v3)
def xRF59 : XSh R59 := ⟨[], ⟨[(0, .agg [.cell (.int .i64), .cell (.int .i64)])], []⟩, fun _ => [], fun s => .r (((Eng.look s.env 0).cells.getD 0 .top).toI) (((Eng.look s.env 0).cells.getD 1 .top).toI)⟩
theorem fsF59 : ∀ (N : Nat) (lk : Nat → AV) (M : List Blk), FFF59 (F59 (N + 1)) (canS sgF59 lk M) = evfn CX (T59ur1 N R59) code59 rsF59 (argsE 2 (canS sgF59 lk M).env) (canS sgF59 lk M).mem (goR CX 0 (fun _ => some xRF59)) := by intro N lk M; kernel_rfl
theorem soundF59 : ∀ N, RecOkF59 (F59 N)
  | 0, lk, M, o, h => by cases h
  | N + 1, lk, M, o, h => fn_sound hX (okT59ur1 N R59) Try.func59 hb59 rfl en59 (by kernel_rfl) (ys := fun _ => some xRF59) (fun st y h => by injection h with h; subst h; exact fun lk M => ⟨rfl, rfl⟩) ((fsF59 N lk M).symm.trans h)
def cvce59n0 : List Cv := []
def selce59n0 : St → List Nat := fun _ => []
noncomputable def ce59n0 (Fx : TF59) (R : Type) (test : List AV → List Blk → Bool) : CE R := ⟨59, test, fun args M => some (selce59n0 ⟨argEnv 0 args, M, [], .unk⟩), fun args M k => tst (Nat.beq args.length 2) (callFn CX 0 cvce59n0 sgF59 selce59n0 (FFF59 Fx) elF59 args M k)⟩
theorem okce59n0 (Fx : TF59) (h : RecOkF59 Fx) (R : Type) (test : List AV → List Blk → Bool) : CeOk CX (ce59n0 Fx R test) := ce_ok hX (fun o k => by cases o; rfl) h en59 (fun args M ids h => by injection h with h; exact ⟨rfl, h.symm⟩)
end Go.Proofs.Ytnfmdenclkdmbaa

namespace Go.Proofs.Ytnfmdenclkdmbaa
open Go Go.Eng
set_option maxRecDepth 100000

/-! ### F61: ceiling/ceilingref01.contrary -/
inductive R61 where
  | r (x0 : Int)
abbrev TF61 := Int → Option R61
def sgF61 : LSh := ⟨[(0, .one (.cell (.int .u8)))], []⟩
def FFF61 (Fx : TF61) (s : St) : Option R61 := Fx ((Eng.look s.env 0).toI)
def valF61 (o : R61) : AV := match o with | .r x0 => .int .u8 x0
def memF61 (o : R61) : List Blk := match o with | .r x0 => []
def elF61 {R : Type} (o : R61) (k : AV → List Blk → Option R) : Option R := match o with | .r x0 => k (.int .u8 x0) []
def RecOkF61 (Fx : TF61) : Prop := ∀ lk M o, FFF61 Fx (canS sgF61 lk M) = some o → FCalls CX 61 0 (argsE 1 (canS sgF61 lk M).env) (canS sgF61 lk M).mem (valF61 o) (memF61 o)
noncomputable def csF61 (N : Nat) (R : Type) : List (CE R) := []
theorem hcsF61 (N : Nat) (R : Type) : AllE (CeOk CX) (csF61 N R) := trivial
noncomputable def T61ur1 (N : Nat) (R : Type) : LTab R := mkTab ⟨14, 16383⟩ (csF61 N R) (noY) [] [] []
theorem okT61ur1 (N : Nat) (R : Type) : (T61ur1 N R).Ok CX code61 := mkTab_ok (hcsF61 N R) (noY_ok) (trivial) (trivial) (trivial)
def rsF61 : List ResultVar := [.tmp 2]
def F61 : Nat → TF61
  | 0 => fun _ => none
  | N + 1 => fun x0 =>
    match x0 == (7 : Int) with
    | true =>
      some (.r 8)
    | false =>
      match x0 == (8 : Int) with
      | true =>
        some (.r 7)
      | false =>
        match x0 == (9 : Int) with
        | true =>
          some (.r 12)
        | false =>
          match x0 == (10 : Int) with
          | true =>
            some (.r 11)
          | false =>
            match x0 == (11 : Int) with
            | true =>
              some (.r 10)
            | false =>
              some (.r 9)
def xRF61 : XSh R61 := ⟨[], ⟨[(0, .one (.cell (.int .u8)))], []⟩, fun _ => [], fun s => .r ((Eng.look s.env 0).toI)⟩
theorem fsF61 : ∀ (N : Nat) (lk : Nat → AV) (M : List Blk), FFF61 (F61 (N + 1)) (canS sgF61 lk M) = evfn CX (T61ur1 N R61) code61 rsF61 (argsE 1 (canS sgF61 lk M).env) (canS sgF61 lk M).mem (goR CX 0 (fun _ => some xRF61)) := by intro N lk M; kernel_rfl
theorem soundF61 : ∀ N, RecOkF61 (F61 N)
  | 0, lk, M, o, h => by cases h
  | N + 1, lk, M, o, h => fn_sound hX (okT61ur1 N R61) Try.func61 hb61 rfl en61 (by kernel_rfl) (ys := fun _ => some xRF61) (fun st y h => by injection h with h; subst h; exact fun lk M => ⟨rfl, rfl⟩) ((fsF61 N lk M).symm.trans h)
def cvce61n0 : List Cv := []
def selce61n0 : St → List Nat := fun _ => []
noncomputable def ce61n0 (Fx : TF61) (R : Type) (test : List AV → List Blk → Bool) : CE R := ⟨61, test, fun args M => some (selce61n0 ⟨argEnv 0 args, M, [], .unk⟩), fun args M k => tst (Nat.beq args.length 1) (callFn CX 0 cvce61n0 sgF61 selce61n0 (FFF61 Fx) elF61 args M k)⟩
theorem okce61n0 (Fx : TF61) (h : RecOkF61 Fx) (R : Type) (test : List AV → List Blk → Bool) : CeOk CX (ce61n0 Fx R test) := ce_ok hX (fun o k => by cases o; rfl) h en61 (fun args M ids h => by injection h with h; exact ⟨rfl, h.symm⟩)
end Go.Proofs.Ytnfmdenclkdmbaa

namespace Go.Proofs.Ytnfmdenclkdmbaa
open Go Go.Eng
set_option maxRecDepth 100000

/-! ### F31: ceiling/ceilingref01.Meet -/
inductive R31 where
  | r (x0c0 : Int) (x0c1 : Int)
abbrev TF31 := Int → Int → Int → Int → Option R31
def sgF31 : LSh := ⟨[(0, .agg [.cell (.int .i64), .cell (.int .i64)]), (1, .agg [.cell (.int .i64), .cell (.int .i64)])], []⟩
def FFF31 (Fx : TF31) (s : St) : Option R31 := Fx (((Eng.look s.env 0).cells.getD 0 .top).toI) (((Eng.look s.env 0).cells.getD 1 .top).toI) (((Eng.look s.env 1).cells.getD 0 .top).toI) (((Eng.look s.env 1).cells.getD 1 .top).toI)
def valF31 (o : R31) : AV := match o with | .r x0c0 x0c1 => .agg [.int .i64 x0c0, .int .i64 x0c1]
def memF31 (o : R31) : List Blk := match o with | .r x0c0 x0c1 => []
def elF31 {R : Type} (o : R31) (k : AV → List Blk → Option R) : Option R := match o with | .r x0c0 x0c1 => k (.agg [.int .i64 x0c0, .int .i64 x0c1]) []
def RecOkF31 (Fx : TF31) : Prop := ∀ lk M o, FFF31 Fx (canS sgF31 lk M) = some o → FCalls CX 31 0 (argsE 2 (canS sgF31 lk M).env) (canS sgF31 lk M).mem (valF31 o) (memF31 o)
noncomputable def csF31 (N : Nat) (R : Type) : List (CE R) := [ce66n0 (F66 N) R (fun _ _ => true)]
theorem hcsF31 (N : Nat) (R : Type) : AllE (CeOk CX) (csF31 N R) := ⟨okce66n0 (F66 N) (soundF66 N) R (fun _ _ => true), trivial⟩
noncomputable def T31ur1 (N : Nat) (R : Type) : LTab R := mkTab ⟨17, 131071⟩ (csF31 N R) (noY) [] [] []
theorem okT31ur1 (N : Nat) (R : Type) : (T31ur1 N R).Ok CX code31 := mkTab_ok (hcsF31 N R) (noY_ok) (trivial) (trivial) (trivial)
def rsF31 : List ResultVar := [.cell 4 29]
def F31 : Nat → TF31
  | 0 => fun _ _ _ _ => none
  | N + 1 => fun x0c0 x0c1 x1c0 x1c1 =>
    match F66 N (Eng.imax x0c0 x1c0) (Eng.imin x0c1 x1c1) with
    | none => none
    | some (.r rx0c0v1 rx0c1v1) =>
      some (.r rx0c0v1 rx0c1v1)
def xRF31 : XSh R31 := ⟨[], ⟨[(0, .agg [.cell (.int .i64), .cell (.int .i64)])], []⟩, fun _ => [], fun s => .r (((Eng.look s.env 0).cells.getD 0 .top).toI) (((Eng.look s.env 0).cells.getD 1 .top).toI)⟩
theorem fsF31 : ∀ (N : Nat) (lk : Nat → AV) (M : List Blk), FFF31 (F31 (N + 1)) (canS sgF31 lk M) = evfn CX (T31ur1 N R31) code31 rsF31 (argsE 2 (canS sgF31 lk M).env) (canS sgF31 lk M).mem (goR CX 0 (fun _ => some xRF31)) := by intro N lk M; kernel_rfl
theorem soundF31 : ∀ N, RecOkF31 (F31 N)
  | 0, lk, M, o, h => by cases h
  | N + 1, lk, M, o, h => fn_sound hX (okT31ur1 N R31) Try.func31 hb31 rfl en31 (by kernel_rfl) (ys := fun _ => some xRF31) (fun st y h => by injection h with h; subst h; exact fun lk M => ⟨rfl, rfl⟩) ((fsF31 N lk M).symm.trans h)
def cvce31n0 : List Cv := []
def selce31n0 : St → List Nat := fun _ => []
noncomputable def ce31n0 (Fx : TF31) (R : Type) (test : List AV → List Blk → Bool) : CE R := ⟨31, test, fun args M => some (selce31n0 ⟨argEnv 0 args, M, [], .unk⟩), fun args M k => tst (Nat.beq args.length 2) (callFn CX 0 cvce31n0 sgF31 selce31n0 (FFF31 Fx) elF31 args M k)⟩
theorem okce31n0 (Fx : TF31) (h : RecOkF31 Fx) (R : Type) (test : List AV → List Blk → Bool) : CeOk CX (ce31n0 Fx R test) := ce_ok hX (fun o k => by cases o; rfl) h en31 (fun args M ids h => by injection h with h; exact ⟨rfl, h.symm⟩)
end Go.Proofs.Ytnfmdenclkdmbaa

namespace Go.Proofs.Ytnfmdenclkdmbaa
open Go Go.Eng
set_option maxRecDepth 100000

/-! ### F60: ceiling/ceilingref01.can -/
inductive R60 where
  | r (x0 : Bool)
abbrev TF60 := Int → Int → Int → Int → Int → Option R60
def sgF60 : LSh := ⟨[(0, .one (.cell (.int .u8))), (1, .agg [.cell (.int .i64), .cell (.int .i64)]), (2, .agg [.cell (.int .i64), .cell (.int .i64)])], []⟩
def FFF60 (Fx : TF60) (s : St) : Option R60 := Fx ((Eng.look s.env 0).toI) (((Eng.look s.env 1).cells.getD 0 .top).toI) (((Eng.look s.env 1).cells.getD 1 .top).toI) (((Eng.look s.env 2).cells.getD 0 .top).toI) (((Eng.look s.env 2).cells.getD 1 .top).toI)
def valF60 (o : R60) : AV := match o with | .r x0 => .bool x0
def memF60 (o : R60) : List Blk := match o with | .r x0 => []
def elF60 {R : Type} (o : R60) (k : AV → List Blk → Option R) : Option R := match o with | .r x0 => k (.bool x0) []
def RecOkF60 (Fx : TF60) : Prop := ∀ lk M o, FFF60 Fx (canS sgF60 lk M) = some o → FCalls CX 60 0 (argsE 3 (canS sgF60 lk M).env) (canS sgF60 lk M).mem (valF60 o) (memF60 o)
noncomputable def csF60 (N : Nat) (R : Type) : List (CE R) := [ce31n0 (F31 N) R (fun _ _ => true), ce54n0 (F54 N) R (fun _ _ => true)]
theorem hcsF60 (N : Nat) (R : Type) : AllE (CeOk CX) (csF60 N R) := ⟨okce31n0 (F31 N) (soundF31 N) R (fun _ _ => true), okce54n0 (F54 N) (soundF54 N) R (fun _ _ => true), trivial⟩
noncomputable def T60ur1 (N : Nat) (R : Type) : LTab R := mkTab ⟨62, 4611686018427387903⟩ (csF60 N R) (noY) [] [] []
theorem okT60ur1 (N : Nat) (R : Type) : (T60ur1 N R).Ok CX code60 := mkTab_ok (hcsF60 N R) (noY_ok) (trivial) (trivial) (trivial)
def rsF60 : List ResultVar := [.tmp 6]
def F60 : Nat → TF60
  | 0 => fun _ _ _ _ _ => none
  | N + 1 => fun x0 x1c0 x1c1 x2c0 x2c1 =>
    match x0 == (7 : Int) with
    | true =>
      match F31 N x1c0 x1c1 x2c0 x2c1 with
      | none => none
      | some (.r rx0c0v1 rx0c1v1) =>
        match F54 N rx0c0v1 rx0c1v1 with
        | none => none
        | some (.r rx0v2) =>
          some (.r (!rx0v2))
    | false =>
      match x0 == (8 : Int) with
      | true =>
        match x1c0 != x1c1 with
        | true =>
          some (.r true)
        | false =>
          match x2c0 != x2c1 with
          | true =>
            some (.r true)
          | false =>
            some (.r (x1c0 != x2c0))
      | false =>
        match x0 == (9 : Int) with
        | true =>
          some (.r (decide (x1c0 < x2c1)))
        | false =>
          match x0 == (10 : Int) with
          | true =>
            some (.r (decide (x1c0 ≤ x2c1)))
          | false =>
            match x0 == (11 : Int) with
            | true =>
              some (.r (decide (x2c0 < x1c1)))
            | false =>
              some (.r (decide (x2c0 ≤ x1c1)))
def xRF60 : XSh R60 := ⟨[], ⟨[(0, .one (.cell (.bool)))], []⟩, fun _ => [], fun s => .r ((Eng.look s.env 0).toB)⟩
theorem fsF60 : ∀ (N : Nat) (lk : Nat → AV) (M : List Blk), FFF60 (F60 (N + 1)) (canS sgF60 lk M) = evfn CX (T60ur1 N R60) code60 rsF60 (argsE 3 (canS sgF60 lk M).env) (canS sgF60 lk M).mem (goR CX 0 (fun _ => some xRF60)) := by intro N lk M; kernel_rfl
theorem soundF60 : ∀ N, RecOkF60 (F60 N)
  | 0, lk, M, o, h => by cases h
  | N + 1, lk, M, o, h => fn_sound hX (okT60ur1 N R60) Try.func60 hb60 rfl en60 (by kernel_rfl) (ys := fun _ => some xRF60) (fun st y h => by injection h with h; subst h; exact fun lk M => ⟨rfl, rfl⟩) ((fsF60 N lk M).symm.trans h)
def cvce60n0 : List Cv := []
def selce60n0 : St → List Nat := fun _ => []
noncomputable def ce60n0 (Fx : TF60) (R : Type) (test : List AV → List Blk → Bool) : CE R := ⟨60, test, fun args M => some (selce60n0 ⟨argEnv 0 args, M, [], .unk⟩), fun args M k => tst (Nat.beq args.length 3) (callFn CX 0 cvce60n0 sgF60 selce60n0 (FFF60 Fx) elF60 args M k)⟩
theorem okce60n0 (Fx : TF60) (h : RecOkF60 Fx) (R : Type) (test : List AV → List Blk → Bool) : CeOk CX (ce60n0 Fx R test) := ce_ok hX (fun o k => by cases o; rfl) h en60 (fun args M ids h => by injection h with h; exact ⟨rfl, h.symm⟩)
end Go.Proofs.Ytnfmdenclkdmbaa

namespace Go.Proofs.Ytnfmdenclkdmbaa
open Go Go.Eng
set_option maxRecDepth 100000

/-! ### F62: ceiling/ceilingref01.bits -/
inductive R62 where
  | r (x0c0 : Int) (x0c1 : Int)
abbrev TF62 := Int → Int → Int → Int → Int → Option R62
def sgF62 : LSh := ⟨[(0, .one (.cell (.int .u8))), (1, .agg [.cell (.int .i64), .cell (.int .i64)]), (2, .agg [.cell (.int .i64), .cell (.int .i64)])], []⟩
def FFF62 (Fx : TF62) (s : St) : Option R62 := Fx ((Eng.look s.env 0).toI) (((Eng.look s.env 1).cells.getD 0 .top).toI) (((Eng.look s.env 1).cells.getD 1 .top).toI) (((Eng.look s.env 2).cells.getD 0 .top).toI) (((Eng.look s.env 2).cells.getD 1 .top).toI)
def valF62 (o : R62) : AV := match o with | .r x0c0 x0c1 => .agg [.int .i64 x0c0, .int .i64 x0c1]
def memF62 (o : R62) : List Blk := match o with | .r x0c0 x0c1 => []
def elF62 {R : Type} (o : R62) (k : AV → List Blk → Option R) : Option R := match o with | .r x0c0 x0c1 => k (.agg [.int .i64 x0c0, .int .i64 x0c1]) []
def RecOkF62 (Fx : TF62) : Prop := ∀ lk M o, FFF62 Fx (canS sgF62 lk M) = some o → FCalls CX 62 0 (argsE 3 (canS sgF62 lk M).env) (canS sgF62 lk M).mem (valF62 o) (memF62 o)
noncomputable def csF62 (N : Nat) (R : Type) : List (CE R) := [ce18n0 (F18 N) R (fun _ _ => true), ce29n0 (F29 N) R (fun _ _ => true), ce55n0 (F55 N) R (fun _ _ => true), ce63n0 (F63 N) R (fun _ _ => true)]
theorem hcsF62 (N : Nat) (R : Type) : AllE (CeOk CX) (csF62 N R) := ⟨okce18n0 (F18 N) (soundF18 N) R (fun _ _ => true), okce29n0 (F29 N) (soundF29 N) R (fun _ _ => true), okce55n0 (F55 N) (soundF55 N) R (fun _ _ => true), okce63n0 (F63 N) (soundF63 N) R (fun _ _ => true), trivial⟩
inductive OJ62a6 where
  | nx (b0c0 : Int) (b0c1 : Int) (b1c0 : Int) (b1c1 : Int) (b2c0 : Int) (b2c1 : Int)
  | ret (b0c0 : Int) (b0c1 : Int) (b1c0 : Int) (b1c1 : Int) (b2c0 : Int) (b2c1 : Int)
def J62a6 (N : Nat) : Int → Int → Int → Int → Int → Int → Option OJ62a6 := fun b0c0 b0c1 b1c0 b1c1 b2c0 b2c1 =>
    match decide (b0c0 < (0 : Int)) with
    | true =>
      match F63 N  with
      | none => none
      | some (.r rx0c0v1 rx0c1v1) =>
        some (.ret b0c0 b0c1 b1c0 b1c1 rx0c0v1 rx0c1v1)
    | false =>
      match decide ((1 : Int) < b0c1) with
      | true =>
        match F63 N  with
        | none => none
        | some (.r rx0c0v2 rx0c1v2) =>
          some (.ret b0c0 b0c1 b1c0 b1c1 rx0c0v2 rx0c1v2)
      | false =>
        match decide (b1c0 < (0 : Int)) with
        | true =>
          match F63 N  with
          | none => none
          | some (.r rx0c0v3 rx0c1v3) =>
            some (.ret b0c0 b0c1 b1c0 b1c1 rx0c0v3 rx0c1v3)
        | false =>
          match decide ((1 : Int) < b1c1) with
          | true =>
            match F63 N  with
            | none => none
            | some (.r rx0c0v4 rx0c1v4) =>
              some (.ret b0c0 b0c1 b1c0 b1c1 rx0c0v4 rx0c1v4)
          | false =>
            some (.nx b0c0 b0c1 b1c0 b1c1 b2c0 b2c1)
def LFJ62a6 (N : Nat) (s : St) : Option OJ62a6 := J62a6 N (((s.mem.getD 0 .dead).cells.getD 0 .top).toI) (((s.mem.getD 0 .dead).cells.getD 1 .top).toI) (((s.mem.getD 1 .dead).cells.getD 0 .top).toI) (((s.mem.getD 1 .dead).cells.getD 1 .top).toI) (((s.mem.getD 2 .dead).cells.getD 0 .top).toI) (((s.mem.getD 2 .dead).cells.getD 1 .top).toI)
def sgJ62a6 : LSh := ⟨[(4, .one (.ptr 0 0 0)), (5, .one (.ptr 1 0 0)), (6, .one (.ptr 2 0 0))], [.var [.int .i64, .int .i64] [.cell (.int .i64), .cell (.int .i64)], .var [.int .i64, .int .i64] [.cell (.int .i64), .cell (.int .i64)], .var [.int .i64, .int .i64] [.cell (.int .i64), .cell (.int .i64)]]⟩
def ceJ62a6 : List Cv := []
def seJ62a6 : St → List Nat := fun st => [(Eng.look st.env 4).id, (Eng.look st.env 5).id, (Eng.look st.env 6).id]
def xJ62a6wnx : XSh OJ62a6 := ⟨[], ⟨[], [.var [.int .i64, .int .i64] [.cell (.int .i64), .cell (.int .i64)], .var [.int .i64, .int .i64] [.cell (.int .i64), .cell (.int .i64)], .var [.int .i64, .int .i64] [.cell (.int .i64), .cell (.int .i64)]]⟩, fun st => [0, 1, 2], fun s => .nx (((s.mem.getD 0 .dead).cells.getD 0 .top).toI) (((s.mem.getD 0 .dead).cells.getD 1 .top).toI) (((s.mem.getD 1 .dead).cells.getD 0 .top).toI) (((s.mem.getD 1 .dead).cells.getD 1 .top).toI) (((s.mem.getD 2 .dead).cells.getD 0 .top).toI) (((s.mem.getD 2 .dead).cells.getD 1 .top).toI)⟩
def xJ62a6wret : XSh OJ62a6 := ⟨[], ⟨[], [.var [.int .i64, .int .i64] [.cell (.int .i64), .cell (.int .i64)], .var [.int .i64, .int .i64] [.cell (.int .i64), .cell (.int .i64)], .var [.int .i64, .int .i64] [.cell (.int .i64), .cell (.int .i64)]]⟩, fun st => [0, 1, 2], fun s => .ret (((s.mem.getD 0 .dead).cells.getD 0 .top).toI) (((s.mem.getD 0 .dead).cells.getD 1 .top).toI) (((s.mem.getD 1 .dead).cells.getD 0 .top).toI) (((s.mem.getD 1 .dead).cells.getD 1 .top).toI) (((s.mem.getD 2 .dead).cells.getD 0 .top).toI) (((s.mem.getD 2 .dead).cells.getD 1 .top).toI)⟩
def xsJ62a6 : Ex → St → Option (XSh OJ62a6) := fun e st => match e with
  | .normal => some xJ62a6wnx
  | .ret => some xJ62a6wret
  | _ => none
def exJ62a6 (o : OJ62a6) : Ex := match o with | .nx b0c0 b0c1 b1c0 b1c1 b2c0 b2c1 => .normal | .ret b0c0 b0c1 b1c0 b1c1 b2c0 b2c1 => .ret
def stJ62a6 (o : OJ62a6) : St := match o with | .nx b0c0 b0c1 b1c0 b1c1 b2c0 b2c1 => ⟨[], [.var [.int .i64, .int .i64] [.int .i64 b0c0, .int .i64 b0c1], .var [.int .i64, .int .i64] [.int .i64 b1c0, .int .i64 b1c1], .var [.int .i64, .int .i64] [.int .i64 b2c0, .int .i64 b2c1]], [], .unk⟩ | .ret b0c0 b0c1 b1c0 b1c1 b2c0 b2c1 => ⟨[], [.var [.int .i64, .int .i64] [.int .i64 b0c0, .int .i64 b0c1], .var [.int .i64, .int .i64] [.int .i64 b1c0, .int .i64 b1c1], .var [.int .i64, .int .i64] [.int .i64 b2c0, .int .i64 b2c1]], [], .unk⟩
def elJ62a6 {R : Type} (o : OJ62a6) (k : Ex → St → Option R) : Option R := match o with | .nx b0c0 b0c1 b1c0 b1c1 b2c0 b2c1 => k .normal ⟨[], [.var [.int .i64, .int .i64] [.int .i64 b0c0, .int .i64 b0c1], .var [.int .i64, .int .i64] [.int .i64 b1c0, .int .i64 b1c1], .var [.int .i64, .int .i64] [.int .i64 b2c0, .int .i64 b2c1]], [], .unk⟩ | .ret b0c0 b0c1 b1c0 b1c1 b2c0 b2c1 => k .ret ⟨[], [.var [.int .i64, .int .i64] [.int .i64 b0c0, .int .i64 b0c1], .var [.int .i64, .int .i64] [.int .i64 b1c0, .int .i64 b1c1], .var [.int .i64, .int .i64] [.int .i64 b2c0, .int .i64 b2c1]], [], .unk⟩
theorem heJ62a6 {R : Type} (o : OJ62a6) (k : Ex → St → Option R) : elJ62a6 o k = k (exJ62a6 o) (stJ62a6 o) := by cases o <;> rfl
theorem hxJ62a6 : ∀ e st x, xsJ62a6 e st = some x → outOk x e exJ62a6 stJ62a6 := by
  intro e st x h
  unfold xsJ62a6 at h
  repeat' split at h
  all_goals first
    | (injection h with h; subst h; exact fun lk M => ⟨rfl, rfl⟩)
    | cases h
noncomputable def T62uc6 (N : Nat) (R : Type) : LTab R := mkTab ⟨61, 2147479552⟩ (csF62 N R) (noY) [] [] []
theorem okT62uc6 (N : Nat) (R : Type) : (T62uc6 N R).Ok CX code62 := mkTab_ok (hcsF62 N R) (noY_ok) (trivial) (trivial) (trivial)
noncomputable def bdJ62a6 : Code := (codeAt code62 [false, true]).getD .skip
theorem hsJ62a6 (N : Nat) : ∀ (lk : Nat → AV) (M : List Blk), LFJ62a6 N (canS sgJ62a6 lk M) = evk CX (T62uc6 N OJ62a6) bdJ62a6 6 (canS sgJ62a6 lk M) (kontX CX 3 xsJ62a6) := by intro lk M; kernel_rfl
inductive OL62a7826 where
  | x2 (b0c0 : Int) (b0c1 : Int) (b1c0 : Int) (b1c1 : Int)
def L62a7826 (N : Nat) : Nat → Int → Int → Int → Int → Int → Int → Int → Option OL62a7826
  | 0 => fun _ _ _ _ _ _ _ => none
  | n + 1 => fun x0 x8 x9 b0c0 b0c1 b1c0 b1c1 =>
    match decide (x9 ≤ b0c1) with
    | true =>
      match F18 N x0 x8 x9 with
      | none => none
      | some (.r rx0v7 rx1v7) =>
        match F29 N b1c0 b1c1 rx0v7 rx0v7 with
        | none => none
        | some (.r rx0c0v8 rx0c1v8) =>
          L62a7826 N n x0 x8 (IntKind.wrap .i64 (x9 + (1 : Int))) b0c0 b0c1 rx0c0v8 rx0c1v8
    | false =>
      some (.x2 b0c0 b0c1 b1c0 b1c1)
def LFL62a7826 (N : Nat) (n : Nat) (s : St) : Option OL62a7826 := L62a7826 N n ((Eng.look s.env 0).toI) ((Eng.look s.env 8).toI) ((Eng.look s.env 9).toI) (((s.mem.getD 0 .dead).cells.getD 0 .top).toI) (((s.mem.getD 0 .dead).cells.getD 1 .top).toI) (((s.mem.getD 1 .dead).cells.getD 0 .top).toI) (((s.mem.getD 1 .dead).cells.getD 1 .top).toI)
def sgL62a7826 : LSh := ⟨[(0, .one (.cell (.int .u8))), (5, .one (.ptr 0 0 0)), (7, .one (.ptr 1 0 0)), (8, .one (.cell (.int .i64))), (9, .one (.cell (.int .i64)))], [.var [.int .i64, .int .i64] [.cell (.int .i64), .cell (.int .i64)], .var [.int .i64, .int .i64] [.cell (.int .i64), .cell (.int .i64)]]⟩
def ceL62a7826 : List Cv := []
def seL62a7826 : St → List Nat := fun st => [(Eng.look st.env 5).id, (Eng.look st.env 7).id]
def xL62a7826wx2 : XSh OL62a7826 := ⟨[], ⟨[], [.var [.int .i64, .int .i64] [.cell (.int .i64), .cell (.int .i64)], .var [.int .i64, .int .i64] [.cell (.int .i64), .cell (.int .i64)]]⟩, fun st => [0, 1], fun s => .x2 (((s.mem.getD 0 .dead).cells.getD 0 .top).toI) (((s.mem.getD 0 .dead).cells.getD 1 .top).toI) (((s.mem.getD 1 .dead).cells.getD 0 .top).toI) (((s.mem.getD 1 .dead).cells.getD 1 .top).toI)⟩
def xsL62a7826 : Ex → St → Option (XSh OL62a7826) := fun e st => match e with
  | .exit 2 => some xL62a7826wx2
  | _ => none
def exL62a7826 (o : OL62a7826) : Ex := match o with | .x2 b0c0 b0c1 b1c0 b1c1 => (.exit 2)
def stL62a7826 (o : OL62a7826) : St := match o with | .x2 b0c0 b0c1 b1c0 b1c1 => ⟨[], [.var [.int .i64, .int .i64] [.int .i64 b0c0, .int .i64 b0c1], .var [.int .i64, .int .i64] [.int .i64 b1c0, .int .i64 b1c1]], [], .unk⟩
def elL62a7826 {R : Type} (o : OL62a7826) (k : Ex → St → Option R) : Option R := match o with | .x2 b0c0 b0c1 b1c0 b1c1 => k (.exit 2) ⟨[], [.var [.int .i64, .int .i64] [.int .i64 b0c0, .int .i64 b0c1], .var [.int .i64, .int .i64] [.int .i64 b1c0, .int .i64 b1c1]], [], .unk⟩
theorem heL62a7826 {R : Type} (o : OL62a7826) (k : Ex → St → Option R) : elL62a7826 o k = k (exL62a7826 o) (stL62a7826 o) := by cases o <;> rfl
theorem hxL62a7826 : ∀ e st x, xsL62a7826 e st = some x → outOk x e exL62a7826 stL62a7826 := by
  intro e st x h
  unfold xsL62a7826 at h
  repeat' split at h
  all_goals first
    | (injection h with h; subst h; exact fun lk M => ⟨rfl, rfl⟩)
    | cases h
noncomputable def T62ul7826 (N : Nat) (R : Type) : LTab R := mkTab ⟨61, 1152917106560339456⟩ (csF62 N R) (noY) [] [] []
theorem okT62ul7826 (N : Nat) (R : Type) : (T62ul7826 N R).Ok CX code62 := mkTab_ok (hcsF62 N R) (noY_ok) (trivial) (trivial) (trivial)
noncomputable def bdL62a7826 : Code := match codeAt code62 [false, true, false, false, true, false, false, true, false, true, true, true] with | some (.loop c) => c | _ => .skip
theorem hsL62a7826 (N : Nat) : ∀ (n : Nat) (lk : Nat → AV) (M : List Blk), LFL62a7826 N (n + 1) (canS sgL62a7826 lk M) = evk CX (T62ul7826 N OL62a7826) bdL62a7826 (2 * 7826) (canS sgL62a7826 lk M) (kont CX 2 [] sgL62a7826 (fun st => [0, 1]) xsL62a7826 (LFL62a7826 N n)) := by intro n lk M; kernel_rfl
inductive OL62a122 where
  | x0 (b0c0 : Int) (b0c1 : Int) (b1c0 : Int) (b1c1 : Int) (b2c0 : Int) (b2c1 : Int)
def L62a122 (N : Nat) : Nat → Int → Int → Int → Int → Int → Int → Int → Int → Option OL62a122
  | 0 => fun _ _ _ _ _ _ _ _ => none
  | n + 1 => fun x0 x8 b0c0 b0c1 b1c0 b1c1 b2c0 b2c1 =>
    match decide (x8 ≤ b0c1) with
    | true =>
      match L62a7826 N N x0 x8 b1c0 b1c0 b1c1 b2c0 b2c1 with
      | none => none
      | some (.x2 b0c0v9 b0c1v9 b1c0v9 b1c1v9) =>
        L62a122 N n x0 (IntKind.wrap .i64 (x8 + (1 : Int))) b0c0 b0c1 b0c0v9 b0c1v9 b1c0v9 b1c1v9
    | false =>
      some (.x0 b0c0 b0c1 b1c0 b1c1 b2c0 b2c1)
def LFL62a122 (N : Nat) (n : Nat) (s : St) : Option OL62a122 := L62a122 N n ((Eng.look s.env 0).toI) ((Eng.look s.env 8).toI) (((s.mem.getD 0 .dead).cells.getD 0 .top).toI) (((s.mem.getD 0 .dead).cells.getD 1 .top).toI) (((s.mem.getD 1 .dead).cells.getD 0 .top).toI) (((s.mem.getD 1 .dead).cells.getD 1 .top).toI) (((s.mem.getD 2 .dead).cells.getD 0 .top).toI) (((s.mem.getD 2 .dead).cells.getD 1 .top).toI)
def sgL62a122 : LSh := ⟨[(0, .one (.cell (.int .u8))), (4, .one (.ptr 0 0 0)), (5, .one (.ptr 1 0 0)), (7, .one (.ptr 2 0 0)), (8, .one (.cell (.int .i64)))], [.var [.int .i64, .int .i64] [.cell (.int .i64), .cell (.int .i64)], .var [.int .i64, .int .i64] [.cell (.int .i64), .cell (.int .i64)], .var [.int .i64, .int .i64] [.cell (.int .i64), .cell (.int .i64)]]⟩
def ceL62a122 : List Cv := []
def seL62a122 : St → List Nat := fun st => [(Eng.look st.env 4).id, (Eng.look st.env 5).id, (Eng.look st.env 7).id]
def xL62a122wx0 : XSh OL62a122 := ⟨[], ⟨[], [.var [.int .i64, .int .i64] [.cell (.int .i64), .cell (.int .i64)], .var [.int .i64, .int .i64] [.cell (.int .i64), .cell (.int .i64)], .var [.int .i64, .int .i64] [.cell (.int .i64), .cell (.int .i64)]]⟩, fun st => [0, 1, 2], fun s => .x0 (((s.mem.getD 0 .dead).cells.getD 0 .top).toI) (((s.mem.getD 0 .dead).cells.getD 1 .top).toI) (((s.mem.getD 1 .dead).cells.getD 0 .top).toI) (((s.mem.getD 1 .dead).cells.getD 1 .top).toI) (((s.mem.getD 2 .dead).cells.getD 0 .top).toI) (((s.mem.getD 2 .dead).cells.getD 1 .top).toI)⟩
def xsL62a122 : Ex → St → Option (XSh OL62a122) := fun e st => match e with
  | .exit 0 => some xL62a122wx0
  | _ => none
def exL62a122 (o : OL62a122) : Ex := match o with | .x0 b0c0 b0c1 b1c0 b1c1 b2c0 b2c1 => (.exit 0)
def stL62a122 (o : OL62a122) : St := match o with | .x0 b0c0 b0c1 b1c0 b1c1 b2c0 b2c1 => ⟨[], [.var [.int .i64, .int .i64] [.int .i64 b0c0, .int .i64 b0c1], .var [.int .i64, .int .i64] [.int .i64 b1c0, .int .i64 b1c1], .var [.int .i64, .int .i64] [.int .i64 b2c0, .int .i64 b2c1]], [], .unk⟩
def elL62a122 {R : Type} (o : OL62a122) (k : Ex → St → Option R) : Option R := match o with | .x0 b0c0 b0c1 b1c0 b1c1 b2c0 b2c1 => k (.exit 0) ⟨[], [.var [.int .i64, .int .i64] [.int .i64 b0c0, .int .i64 b0c1], .var [.int .i64, .int .i64] [.int .i64 b1c0, .int .i64 b1c1], .var [.int .i64, .int .i64] [.int .i64 b2c0, .int .i64 b2c1]], [], .unk⟩
theorem heL62a122 {R : Type} (o : OL62a122) (k : Ex → St → Option R) : elL62a122 o k = k (exL62a122 o) (stL62a122 o) := by cases o <;> rfl
theorem hxL62a122 : ∀ e st x, xsL62a122 e st = some x → outOk x e exL62a122 stL62a122 := by
  intro e st x h
  unfold xsL62a122 at h
  repeat' split at h
  all_goals first
    | (injection h with h; subst h; exact fun lk M => ⟨rfl, rfl⟩)
    | cases h
noncomputable def T62ul122 (N : Nat) (R : Type) : LTab R := mkTab ⟨61, 1152921487426981632⟩ (csF62 N R) (noY) [(7826, fun st k => callLoop CX 2 1152917106560339456 ceL62a7826 sgL62a7826 seL62a7826 ⟨61, 1152921487426981632⟩ (LFL62a7826 N N) elL62a7826 st k)] [] []
theorem okT62ul122 (N : Nat) (R : Type) : (T62ul122 N R).Ok CX code62 := mkTab_ok (hcsF62 N R) (noY_ok) (⟨loop_ok hX (path := [false, true, false, false, true, false, false, true, false, true, true, true]) (by kernel_rfl) (by rfl) (okT62ul7826 N OL62a7826) (fun _ _ => rfl) (hsL62a7826 N) hxL62a7826 rfl heL62a7826, trivial⟩) (trivial) (trivial)
noncomputable def bdL62a122 : Code := match codeAt code62 [false, true, false, true, true, true] with | some (.loop c) => c | _ => .skip
theorem hsL62a122 (N : Nat) : ∀ (n : Nat) (lk : Nat → AV) (M : List Blk), LFL62a122 N (n + 1) (canS sgL62a122 lk M) = evk CX (T62ul122 N OL62a122) bdL62a122 (2 * 122) (canS sgL62a122 lk M) (kont CX 3 [] sgL62a122 (fun st => [0, 1, 2]) xsL62a122 (LFL62a122 N n)) := by intro n lk M; kernel_rfl
noncomputable def T62ur1 (N : Nat) (R : Type) : LTab R := mkTab ⟨61, 2305843009213693951⟩ (csF62 N R) (noY) [(122, fun st k => callLoop CX 3 1152921487426981632 ceL62a122 sgL62a122 seL62a122 ⟨61, 2305843009213693951⟩ (LFL62a122 N N) elL62a122 st k)] [] [(6, fun st k => callLoop CX 3 2147479552 ceJ62a6 sgJ62a6 seJ62a6 ⟨61, 2305843009213693951⟩ (LFJ62a6 N) elJ62a6 st k)]
theorem okT62ur1 (N : Nat) (R : Type) : (T62ur1 N R).Ok CX code62 := mkTab_ok (hcsF62 N R) (noY_ok) (⟨loop_ok hX (path := [false, true, false, true, true, true]) (by kernel_rfl) (by rfl) (okT62ul122 N OL62a122) (fun _ _ => rfl) (hsL62a122 N) hxL62a122 rfl heL62a122, trivial⟩) (trivial) (⟨cut_ok hX (path := [false, true]) (by kernel_rfl) (by rfl) (okT62uc6 N OJ62a6) (hsJ62a6 N) hxJ62a6 rfl heJ62a6, trivial⟩)
def rsF62 : List ResultVar := [.cell 6 29]
def F62 : Nat → TF62
  | 0 => fun _ _ _ _ _ => none
  | N + 1 => fun x0 x1c0 x1c1 x2c0 x2c1 =>
    match J62a6 N x1c0 x1c1 x2c0 x2c1 0 0 with
    | none => none
    | some (.nx b0c0v5 b0c1v5 b1c0v5 b1c1v5 b2c0v5 b2c1v5) =>
      match F55 N  with
      | none => none
      | some (.r rx0c0v6 rx0c1v6) =>
        match L62a122 N N x0 b0c0v5 b0c0v5 b0c1v5 b1c0v5 b1c1v5 rx0c0v6 rx0c1v6 with
        | none => none
        | some (.x0 b0c0v10 b0c1v10 b1c0v10 b1c1v10 b2c0v10 b2c1v10) =>
          some (.r b2c0v10 b2c1v10)
    | some (.ret b0c0v11 b0c1v11 b1c0v11 b1c1v11 b2c0v11 b2c1v11) =>
      some (.r b2c0v11 b2c1v11)
def xRF62 : XSh R62 := ⟨[], ⟨[(0, .agg [.cell (.int .i64), .cell (.int .i64)])], []⟩, fun _ => [], fun s => .r (((Eng.look s.env 0).cells.getD 0 .top).toI) (((Eng.look s.env 0).cells.getD 1 .top).toI)⟩
theorem fsF62 : ∀ (N : Nat) (lk : Nat → AV) (M : List Blk), FFF62 (F62 (N + 1)) (canS sgF62 lk M) = evfn CX (T62ur1 N R62) code62 rsF62 (argsE 3 (canS sgF62 lk M).env) (canS sgF62 lk M).mem (goR CX 0 (fun _ => some xRF62)) := by intro N lk M; kernel_rfl
theorem soundF62 : ∀ N, RecOkF62 (F62 N)
  | 0, lk, M, o, h => by cases h
  | N + 1, lk, M, o, h => fn_sound hX (okT62ur1 N R62) Try.func62 hb62 rfl en62 (by kernel_rfl) (ys := fun _ => some xRF62) (fun st y h => by injection h with h; subst h; exact fun lk M => ⟨rfl, rfl⟩) ((fsF62 N lk M).symm.trans h)
def cvce62n0 : List Cv := []
def selce62n0 : St → List Nat := fun _ => []
noncomputable def ce62n0 (Fx : TF62) (R : Type) (test : List AV → List Blk → Bool) : CE R := ⟨62, test, fun args M => some (selce62n0 ⟨argEnv 0 args, M, [], .unk⟩), fun args M k => tst (Nat.beq args.length 3) (callFn CX 0 cvce62n0 sgF62 selce62n0 (FFF62 Fx) elF62 args M k)⟩
theorem okce62n0 (Fx : TF62) (h : RecOkF62 Fx) (R : Type) (test : List AV → List Blk → Bool) : CeOk CX (ce62n0 Fx R test) := ce_ok hX (fun o k => by cases o; rfl) h en62 (fun args M ids h => by injection h with h; exact ⟨rfl, h.symm⟩)
end Go.Proofs.Ytnfmdenclkdmbaa

namespace Go.Proofs.Ytnfmdenclkdmbaa
open Go Go.Eng
set_option maxRecDepth 100000

/-! ### F20: ceiling/ceilingref01.Range -/
inductive R20 where
  | r (x0c0 : Int) (x0c1 : Int)
abbrev TF20 := Int → Int → Int → Int → Int → Option R20
def sgF20 : LSh := ⟨[(0, .one (.cell (.int .u8))), (1, .agg [.cell (.int .i64), .cell (.int .i64)]), (2, .agg [.cell (.int .i64), .cell (.int .i64)])], []⟩
def FFF20 (Fx : TF20) (s : St) : Option R20 := Fx ((Eng.look s.env 0).toI) (((Eng.look s.env 1).cells.getD 0 .top).toI) (((Eng.look s.env 1).cells.getD 1 .top).toI) (((Eng.look s.env 2).cells.getD 0 .top).toI) (((Eng.look s.env 2).cells.getD 1 .top).toI)
def valF20 (o : R20) : AV := match o with | .r x0c0 x0c1 => .agg [.int .i64 x0c0, .int .i64 x0c1]
def memF20 (o : R20) : List Blk := match o with | .r x0c0 x0c1 => []
def elF20 {R : Type} (o : R20) (k : AV → List Blk → Option R) : Option R := match o with | .r x0c0 x0c1 => k (.agg [.int .i64 x0c0, .int .i64 x0c1]) []
def RecOkF20 (Fx : TF20) : Prop := ∀ lk M o, FFF20 Fx (canS sgF20 lk M) = some o → FCalls CX 20 0 (argsE 3 (canS sgF20 lk M).env) (canS sgF20 lk M).mem (valF20 o) (memF20 o)
noncomputable def csF20 (N : Nat) (R : Type) : List (CE R) := [ce27n0 (F27 N) R (fun _ _ => true), ce34n0 (F34 N) R (fun _ _ => true), ce40n0 (F40 N) R (fun _ _ => true), ce54n0 (F54 N) R (fun _ _ => true), ce55n0 (F55 N) R (fun _ _ => true), ce56n1 (F56 N) R (testV CX cvce56n1 sgF56 selce56n1), ce56n0 (F56 N) R (testV CX cvce56n0 sgF56 selce56n0), ce57n0 (F57 N) R (fun _ _ => true), ce58n0 (F58 N) R (fun _ _ => true), ce59n0 (F59 N) R (fun _ _ => true), ce60n0 (F60 N) R (fun _ _ => true), ce61n0 (F61 N) R (fun _ _ => true), ce62n0 (F62 N) R (fun _ _ => true), ce63n0 (F63 N) R (fun _ _ => true)]
theorem hcsF20 (N : Nat) (R : Type) : AllE (CeOk CX) (csF20 N R) := ⟨okce27n0 (F27 N) (soundF27 N) R (fun _ _ => true), okce34n0 (F34 N) (soundF34 N) R (fun _ _ => true), okce40n0 (F40 N) (soundF40 N) R (fun _ _ => true), okce54n0 (F54 N) (soundF54 N) R (fun _ _ => true), okce55n0 (F55 N) (soundF55 N) R (fun _ _ => true), okce56n1 (F56 N) (soundF56 N) R (testV CX cvce56n1 sgF56 selce56n1), okce56n0 (F56 N) (soundF56 N) R (testV CX cvce56n0 sgF56 selce56n0), okce57n0 (F57 N) (soundF57 N) R (fun _ _ => true), okce58n0 (F58 N) (soundF58 N) R (fun _ _ => true), okce59n0 (F59 N) (soundF59 N) R (fun _ _ => true), okce60n0 (F60 N) (soundF60 N) R (fun _ _ => true), okce61n0 (F61 N) (soundF61 N) R (fun _ _ => true), okce62n0 (F62 N) (soundF62 N) R (fun _ _ => true), okce63n0 (F63 N) (soundF63 N) R (fun _ _ => true), trivial⟩
inductive OJ20a6 where
  | nx (b0c0 : Int) (b0c1 : Int) (b1c0 : Int) (b1c1 : Int) (b2c0 : Int) (b2c1 : Int)
  | ret (b0c0 : Int) (b0c1 : Int) (b1c0 : Int) (b1c1 : Int) (b2c0 : Int) (b2c1 : Int)
def J20a6 (N : Nat) : Int → Int → Int → Int → Int → Int → Int → Option OJ20a6 := fun x0 b0c0 b0c1 b1c0 b1c1 b2c0 b2c1 =>
    match F54 N b0c0 b0c1 with
    | none => none
    | some (.r rx0v1) =>
      match rx0v1 with
      | true =>
        match F55 N  with
        | none => none
        | some (.r rx0c0v2 rx0c1v2) =>
          some (.ret b0c0 b0c1 b1c0 b1c1 rx0c0v2 rx0c1v2)
      | false =>
        match F34 N x0 with
        | none => none
        | some (.r rx0v3) =>
          match !rx0v3 with
          | true =>
            match F54 N b1c0 b1c1 with
            | none => none
            | some (.r rx0v4) =>
              match rx0v4 with
              | true =>
                match F55 N  with
                | none => none
                | some (.r rx0c0v5 rx0c1v5) =>
                  some (.ret b0c0 b0c1 b1c0 b1c1 rx0c0v5 rx0c1v5)
              | false =>
                some (.nx b0c0 b0c1 b1c0 b1c1 b2c0 b2c1)
          | false =>
            some (.nx b0c0 b0c1 b1c0 b1c1 b2c0 b2c1)
def LFJ20a6 (N : Nat) (s : St) : Option OJ20a6 := J20a6 N ((Eng.look s.env 0).toI) (((s.mem.getD 0 .dead).cells.getD 0 .top).toI) (((s.mem.getD 0 .dead).cells.getD 1 .top).toI) (((s.mem.getD 1 .dead).cells.getD 0 .top).toI) (((s.mem.getD 1 .dead).cells.getD 1 .top).toI) (((s.mem.getD 2 .dead).cells.getD 0 .top).toI) (((s.mem.getD 2 .dead).cells.getD 1 .top).toI)
def sgJ20a6 : LSh := ⟨[(0, .one (.cell (.int .u8))), (4, .one (.ptr 0 0 0)), (5, .one (.ptr 1 0 0)), (6, .one (.ptr 2 0 0))], [.var [.int .i64, .int .i64] [.cell (.int .i64), .cell (.int .i64)], .var [.int .i64, .int .i64] [.cell (.int .i64), .cell (.int .i64)], .var [.int .i64, .int .i64] [.cell (.int .i64), .cell (.int .i64)]]⟩
def ceJ20a6 : List Cv := []
def seJ20a6 : St → List Nat := fun st => [(Eng.look st.env 4).id, (Eng.look st.env 5).id, (Eng.look st.env 6).id]
def xJ20a6wnx : XSh OJ20a6 := ⟨[], ⟨[], [.var [.int .i64, .int .i64] [.cell (.int .i64), .cell (.int .i64)], .var [.int .i64, .int .i64] [.cell (.int .i64), .cell (.int .i64)], .var [.int .i64, .int .i64] [.cell (.int .i64), .cell (.int .i64)]]⟩, fun st => [0, 1, 2], fun s => .nx (((s.mem.getD 0 .dead).cells.getD 0 .top).toI) (((s.mem.getD 0 .dead).cells.getD 1 .top).toI) (((s.mem.getD 1 .dead).cells.getD 0 .top).toI) (((s.mem.getD 1 .dead).cells.getD 1 .top).toI) (((s.mem.getD 2 .dead).cells.getD 0 .top).toI) (((s.mem.getD 2 .dead).cells.getD 1 .top).toI)⟩
def xJ20a6wret : XSh OJ20a6 := ⟨[], ⟨[], [.var [.int .i64, .int .i64] [.cell (.int .i64), .cell (.int .i64)], .var [.int .i64, .int .i64] [.cell (.int .i64), .cell (.int .i64)], .var [.int .i64, .int .i64] [.cell (.int .i64), .cell (.int .i64)]]⟩, fun st => [0, 1, 2], fun s => .ret (((s.mem.getD 0 .dead).cells.getD 0 .top).toI) (((s.mem.getD 0 .dead).cells.getD 1 .top).toI) (((s.mem.getD 1 .dead).cells.getD 0 .top).toI) (((s.mem.getD 1 .dead).cells.getD 1 .top).toI) (((s.mem.getD 2 .dead).cells.getD 0 .top).toI) (((s.mem.getD 2 .dead).cells.getD 1 .top).toI)⟩
def xsJ20a6 : Ex → St → Option (XSh OJ20a6) := fun e st => match e with
  | .normal => some xJ20a6wnx
  | .ret => some xJ20a6wret
  | _ => none
def exJ20a6 (o : OJ20a6) : Ex := match o with | .nx b0c0 b0c1 b1c0 b1c1 b2c0 b2c1 => .normal | .ret b0c0 b0c1 b1c0 b1c1 b2c0 b2c1 => .ret
def stJ20a6 (o : OJ20a6) : St := match o with | .nx b0c0 b0c1 b1c0 b1c1 b2c0 b2c1 => ⟨[], [.var [.int .i64, .int .i64] [.int .i64 b0c0, .int .i64 b0c1], .var [.int .i64, .int .i64] [.int .i64 b1c0, .int .i64 b1c1], .var [.int .i64, .int .i64] [.int .i64 b2c0, .int .i64 b2c1]], [], .unk⟩ | .ret b0c0 b0c1 b1c0 b1c1 b2c0 b2c1 => ⟨[], [.var [.int .i64, .int .i64] [.int .i64 b0c0, .int .i64 b0c1], .var [.int .i64, .int .i64] [.int .i64 b1c0, .int .i64 b1c1], .var [.int .i64, .int .i64] [.int .i64 b2c0, .int .i64 b2c1]], [], .unk⟩
def elJ20a6 {R : Type} (o : OJ20a6) (k : Ex → St → Option R) : Option R := match o with | .nx b0c0 b0c1 b1c0 b1c1 b2c0 b2c1 => k .normal ⟨[], [.var [.int .i64, .int .i64] [.int .i64 b0c0, .int .i64 b0c1], .var [.int .i64, .int .i64] [.int .i64 b1c0, .int .i64 b1c1], .var [.int .i64, .int .i64] [.int .i64 b2c0, .int .i64 b2c1]], [], .unk⟩ | .ret b0c0 b0c1 b1c0 b1c1 b2c0 b2c1 => k .ret ⟨[], [.var [.int .i64, .int .i64] [.int .i64 b0c0, .int .i64 b0c1], .var [.int .i64, .int .i64] [.int .i64 b1c0, .int .i64 b1c1], .var [.int .i64, .int .i64] [.int .i64 b2c0, .int .i64 b2c1]], [], .unk⟩
theorem heJ20a6 {R : Type} (o : OJ20a6) (k : Ex → St → Option R) : elJ20a6 o k = k (exJ20a6 o) (stJ20a6 o) := by cases o <;> rfl
theorem hxJ20a6 : ∀ e st x, xsJ20a6 e st = some x → outOk x e exJ20a6 stJ20a6 := by
  intro e st x h
  unfold xsJ20a6 at h
  repeat' split at h
  all_goals first
    | (injection h with h; subst h; exact fun lk M => ⟨rfl, rfl⟩)
    | cases h
noncomputable def T20uc6 (N : Nat) (R : Type) : LTab R := mkTab ⟨145, 2096640⟩ (csF20 N R) (noY) [] [] []
theorem okT20uc6 (N : Nat) (R : Type) : (T20uc6 N R).Ok CX code20 := mkTab_ok (hcsF20 N R) (noY_ok) (trivial) (trivial) (trivial)
noncomputable def bdJ20a6 : Code := (codeAt code20 [false, true]).getD .skip
theorem hsJ20a6 (N : Nat) : ∀ (lk : Nat → AV) (M : List Blk), LFJ20a6 N (canS sgJ20a6 lk M) = evk CX (T20uc6 N OJ20a6) bdJ20a6 6 (canS sgJ20a6 lk M) (kontX CX 3 xsJ20a6) := by intro lk M; kernel_rfl
inductive OJ20a14 where
  | nx (x7 : Bool) (b0c0 : Int) (b0c1 : Int)
def J20a14 (N : Nat) : Int → Int → Option OJ20a14 := fun b0c0 b0c1 =>
    match b0c0 == (0 : Int) with
    | true =>
      some (.nx (b0c1 == (0 : Int)) b0c0 b0c1)
    | false =>
      some (.nx false b0c0 b0c1)
def LFJ20a14 (N : Nat) (s : St) : Option OJ20a14 := J20a14 N (((s.mem.getD 0 .dead).cells.getD 0 .top).toI) (((s.mem.getD 0 .dead).cells.getD 1 .top).toI)
def sgJ20a14 : LSh := ⟨[(5, .one (.ptr 0 0 0))], [.var [.int .i64, .int .i64] [.cell (.int .i64), .cell (.int .i64)]]⟩
def ceJ20a14 : List Cv := []
def seJ20a14 : St → List Nat := fun st => [(Eng.look st.env 5).id]
def xJ20a14wnx : XSh OJ20a14 := ⟨[], ⟨[(7, .one (.cell (.bool)))], [.var [.int .i64, .int .i64] [.cell (.int .i64), .cell (.int .i64)]]⟩, fun st => [0], fun s => .nx ((Eng.look s.env 7).toB) (((s.mem.getD 0 .dead).cells.getD 0 .top).toI) (((s.mem.getD 0 .dead).cells.getD 1 .top).toI)⟩
def xsJ20a14 : Ex → St → Option (XSh OJ20a14) := fun e st => match e with
  | .normal => some xJ20a14wnx
  | _ => none
def exJ20a14 (o : OJ20a14) : Ex := match o with | .nx x7 b0c0 b0c1 => .normal
def stJ20a14 (o : OJ20a14) : St := match o with | .nx x7 b0c0 b0c1 => ⟨[(7, .bool x7)], [.var [.int .i64, .int .i64] [.int .i64 b0c0, .int .i64 b0c1]], [], .unk⟩
def elJ20a14 {R : Type} (o : OJ20a14) (k : Ex → St → Option R) : Option R := match o with | .nx x7 b0c0 b0c1 => k .normal ⟨[(7, .bool x7)], [.var [.int .i64, .int .i64] [.int .i64 b0c0, .int .i64 b0c1]], [], .unk⟩
theorem heJ20a14 {R : Type} (o : OJ20a14) (k : Ex → St → Option R) : elJ20a14 o k = k (exJ20a14 o) (stJ20a14 o) := by cases o <;> rfl
theorem hxJ20a14 : ∀ e st x, xsJ20a14 e st = some x → outOk x e exJ20a14 stJ20a14 := by
  intro e st x h
  unfold xsJ20a14 at h
  repeat' split at h
  all_goals first
    | (injection h with h; subst h; exact fun lk M => ⟨rfl, rfl⟩)
    | cases h
noncomputable def T20uc14 (N : Nat) (R : Type) : LTab R := mkTab ⟨145, 534773888⟩ (csF20 N R) (noY) [] [] []
theorem okT20uc14 (N : Nat) (R : Type) : (T20uc14 N R).Ok CX code20 := mkTab_ok (hcsF20 N R) (noY_ok) (trivial) (trivial) (trivial)
noncomputable def bdJ20a14 : Code := (codeAt code20 [false, true, true]).getD .skip
theorem hsJ20a14 (N : Nat) : ∀ (lk : Nat → AV) (M : List Blk), LFJ20a14 N (canS sgJ20a14 lk M) = evk CX (T20uc14 N OJ20a14) bdJ20a14 14 (canS sgJ20a14 lk M) (kontX CX 1 xsJ20a14) := by intro lk M; kernel_rfl
inductive OJ20a244 where
  | nx (x30 : Bool)
def J20a244 (N : Nat) : Int → Option OJ20a244 := fun x29 =>
    match x29 == (1 : Int) with
    | true =>
      some (.nx true)
    | false =>
      match x29 == (2 : Int) with
      | true =>
        some (.nx true)
      | false =>
        some (.nx (x29 == (3 : Int)))
def LFJ20a244 (N : Nat) (s : St) : Option OJ20a244 := J20a244 N ((Eng.look s.env 29).toI)
def sgJ20a244 : LSh := ⟨[(29, .one (.cell (.int .u8)))], []⟩
def ceJ20a244 : List Cv := []
def seJ20a244 : St → List Nat := fun _ => []
def xJ20a244wnx : XSh OJ20a244 := ⟨[], ⟨[(30, .one (.cell (.bool)))], []⟩, fun _ => [], fun s => .nx ((Eng.look s.env 30).toB)⟩
def xsJ20a244 : Ex → St → Option (XSh OJ20a244) := fun e st => match e with
  | .normal => some xJ20a244wnx
  | _ => none
def exJ20a244 (o : OJ20a244) : Ex := match o with | .nx x30 => .normal
def stJ20a244 (o : OJ20a244) : St := match o with | .nx x30 => ⟨[(30, .bool x30)], [], [], .unk⟩
def elJ20a244 {R : Type} (o : OJ20a244) (k : Ex → St → Option R) : Option R := match o with | .nx x30 => k .normal ⟨[(30, .bool x30)], [], [], .unk⟩
theorem heJ20a244 {R : Type} (o : OJ20a244) (k : Ex → St → Option R) : elJ20a244 o k = k (exJ20a244 o) (stJ20a244 o) := by cases o <;> rfl
theorem hxJ20a244 : ∀ e st x, xsJ20a244 e st = some x → outOk x e exJ20a244 stJ20a244 := by
  intro e st x h
  unfold xsJ20a244 at h
  repeat' split at h
  all_goals first
    | (injection h with h; subst h; exact fun lk M => ⟨rfl, rfl⟩)
    | cases h
noncomputable def T20uc244 (N : Nat) (R : Type) : LTab R := mkTab ⟨145, 16106127360⟩ (csF20 N R) (noY) [] [] []
theorem okT20uc244 (N : Nat) (R : Type) : (T20uc244 N R).Ok CX code20 := mkTab_ok (hcsF20 N R) (noY_ok) (trivial) (trivial) (trivial)
noncomputable def bdJ20a244 : Code := (codeAt code20 [false, false, true, false, true, true, true]).getD .skip
theorem hsJ20a244 (N : Nat) : ∀ (lk : Nat → AV) (M : List Blk), LFJ20a244 N (canS sgJ20a244 lk M) = evk CX (T20uc244 N OJ20a244) bdJ20a244 244 (canS sgJ20a244 lk M) (kontX CX 0 xsJ20a244) := by intro lk M; kernel_rfl
inductive OJ20a62974 where
  | nx (x71 : Bool)
def J20a62974 (N : Nat) : Int → Option OJ20a62974 := fun x29 =>
    match x29 == (7 : Int) with
    | true =>
      some (.nx true)
    | false =>
      match x29 == (8 : Int) with
      | true =>
        some (.nx true)
      | false =>
        match x29 == (9 : Int) with
        | true =>
          some (.nx true)
        | false =>
          match x29 == (10 : Int) with
          | true =>
            some (.nx true)
          | false =>
            match x29 == (11 : Int) with
            | true =>
              some (.nx true)
            | false =>
              some (.nx (x29 == (12 : Int)))
def LFJ20a62974 (N : Nat) (s : St) : Option OJ20a62974 := J20a62974 N ((Eng.look s.env 29).toI)
def sgJ20a62974 : LSh := ⟨[(29, .one (.cell (.int .u8)))], []⟩
def ceJ20a62974 : List Cv := []
def seJ20a62974 : St → List Nat := fun _ => []
def xJ20a62974wnx : XSh OJ20a62974 := ⟨[], ⟨[(71, .one (.cell (.bool)))], []⟩, fun _ => [], fun s => .nx ((Eng.look s.env 71).toB)⟩
def xsJ20a62974 : Ex → St → Option (XSh OJ20a62974) := fun e st => match e with
  | .normal => some xJ20a62974wnx
  | _ => none
def exJ20a62974 (o : OJ20a62974) : Ex := match o with | .nx x71 => .normal
def stJ20a62974 (o : OJ20a62974) : St := match o with | .nx x71 => ⟨[(71, .bool x71)], [], [], .unk⟩
def elJ20a62974 {R : Type} (o : OJ20a62974) (k : Ex → St → Option R) : Option R := match o with | .nx x71 => k .normal ⟨[(71, .bool x71)], [], [], .unk⟩
theorem heJ20a62974 {R : Type} (o : OJ20a62974) (k : Ex → St → Option R) : elJ20a62974 o k = k (exJ20a62974 o) (stJ20a62974 o) := by cases o <;> rfl
theorem hxJ20a62974 : ∀ e st x, xsJ20a62974 e st = some x → outOk x e exJ20a62974 stJ20a62974 := by
  intro e st x h
  unfold xsJ20a62974 at h
  repeat' split at h
  all_goals first
    | (injection h with h; subst h; exact fun lk M => ⟨rfl, rfl⟩)
    | cases h
noncomputable def T20uc62974 (N : Nat) (R : Type) : LTab R := mkTab ⟨145, 299870271662222471069696⟩ (csF20 N R) (noY) [] [] []
theorem okT20uc62974 (N : Nat) (R : Type) : (T20uc62974 N R).Ok CX code20 := mkTab_ok (hcsF20 N R) (noY_ok) (trivial) (trivial) (trivial)
noncomputable def bdJ20a62974 : Code := (codeAt code20 [false, true, true, true, true, true, true, true, true, false, true, false, true, true, true]).getD .skip
theorem hsJ20a62974 (N : Nat) : ∀ (lk : Nat → AV) (M : List Blk), LFJ20a62974 N (canS sgJ20a62974 lk M) = evk CX (T20uc62974 N OJ20a62974) bdJ20a62974 62974 (canS sgJ20a62974 lk M) (kontX CX 0 xsJ20a62974) := by intro lk M; kernel_rfl
inductive OJ20a251902 where
  | nx (x91 : Bool)
def J20a251902 (N : Nat) : Int → Option OJ20a251902 := fun x29 =>
    match x29 == (13 : Int) with
    | true =>
      some (.nx true)
    | false =>
      match x29 == (14 : Int) with
      | true =>
        some (.nx true)
      | false =>
        some (.nx (x29 == (15 : Int)))
def LFJ20a251902 (N : Nat) (s : St) : Option OJ20a251902 := J20a251902 N ((Eng.look s.env 29).toI)
def sgJ20a251902 : LSh := ⟨[(29, .one (.cell (.int .u8)))], []⟩
def ceJ20a251902 : List Cv := []
def seJ20a251902 : St → List Nat := fun _ => []
def xJ20a251902wnx : XSh OJ20a251902 := ⟨[], ⟨[(91, .one (.cell (.bool)))], []⟩, fun _ => [], fun s => .nx ((Eng.look s.env 91).toB)⟩
def xsJ20a251902 : Ex → St → Option (XSh OJ20a251902) := fun e st => match e with
  | .normal => some xJ20a251902wnx
  | _ => none
def exJ20a251902 (o : OJ20a251902) : Ex := match o with | .nx x91 => .normal
def stJ20a251902 (o : OJ20a251902) : St := match o with | .nx x91 => ⟨[(91, .bool x91)], [], [], .unk⟩
def elJ20a251902 {R : Type} (o : OJ20a251902) (k : Ex → St → Option R) : Option R := match o with | .nx x91 => k .normal ⟨[(91, .bool x91)], [], [], .unk⟩
theorem heJ20a251902 {R : Type} (o : OJ20a251902) (k : Ex → St → Option R) : elJ20a251902 o k = k (exJ20a251902 o) (stJ20a251902 o) := by cases o <;> rfl
theorem hxJ20a251902 : ∀ e st x, xsJ20a251902 e st = some x → outOk x e exJ20a251902 stJ20a251902 := by
  intro e st x h
  unfold xsJ20a251902 at h
  repeat' split at h
  all_goals first
    | (injection h with h; subst h; exact fun lk M => ⟨rfl, rfl⟩)
    | cases h
noncomputable def T20uc251902 (N : Nat) (R : Type) : LTab R := mkTab ⟨145, 37138201178561408246973726720⟩ (csF20 N R) (noY) [] [] []
theorem okT20uc251902 (N : Nat) (R : Type) : (T20uc251902 N R).Ok CX code20 := mkTab_ok (hcsF20 N R) (noY_ok) (trivial) (trivial) (trivial)
noncomputable def bdJ20a251902 : Code := (codeAt code20 [false, true, true, true, true, true, true, true, true, true, true, false, true, false, true, true, true]).getD .skip
theorem hsJ20a251902 (N : Nat) : ∀ (lk : Nat → AV) (M : List Blk), LFJ20a251902 N (canS sgJ20a251902 lk M) = evk CX (T20uc251902 N OJ20a251902) bdJ20a251902 251902 (canS sgJ20a251902 lk M) (kontX CX 0 xsJ20a251902) := by intro lk M; kernel_rfl
noncomputable def T20ur1 (N : Nat) (R : Type) : LTab R := mkTab ⟨145, 44601490397061246283071436545296723011960831⟩ (csF20 N R) (noY) [] [] [(6, fun st k => callLoop CX 3 2096640 ceJ20a6 sgJ20a6 seJ20a6 ⟨145, 44601490397061246283071436545296723011960831⟩ (LFJ20a6 N) elJ20a6 st k), (14, fun st k => callLoop CX 1 534773888 ceJ20a14 sgJ20a14 seJ20a14 ⟨145, 44601490397061246283071436545296723011960831⟩ (LFJ20a14 N) elJ20a14 st k), (244, fun st k => callLoop CX 0 16106127360 ceJ20a244 sgJ20a244 seJ20a244 ⟨145, 44601490397061246283071436545296723011960831⟩ (LFJ20a244 N) elJ20a244 st k), (62974, fun st k => callLoop CX 0 299870271662222471069696 ceJ20a62974 sgJ20a62974 seJ20a62974 ⟨145, 44601490397061246283071436545296723011960831⟩ (LFJ20a62974 N) elJ20a62974 st k), (251902, fun st k => callLoop CX 0 37138201178561408246973726720 ceJ20a251902 sgJ20a251902 seJ20a251902 ⟨145, 44601490397061246283071436545296723011960831⟩ (LFJ20a251902 N) elJ20a251902 st k)]
theorem okT20ur1 (N : Nat) (R : Type) : (T20ur1 N R).Ok CX code20 := mkTab_ok (hcsF20 N R) (noY_ok) (trivial) (trivial) (⟨cut_ok hX (path := [false, true]) (by kernel_rfl) (by rfl) (okT20uc6 N OJ20a6) (hsJ20a6 N) hxJ20a6 rfl heJ20a6, cut_ok hX (path := [false, true, true]) (by kernel_rfl) (by rfl) (okT20uc14 N OJ20a14) (hsJ20a14 N) hxJ20a14 rfl heJ20a14, cut_ok hX (path := [false, false, true, false, true, true, true]) (by kernel_rfl) (by rfl) (okT20uc244 N OJ20a244) (hsJ20a244 N) hxJ20a244 rfl heJ20a244, cut_ok hX (path := [false, true, true, true, true, true, true, true, true, false, true, false, true, true, true]) (by kernel_rfl) (by rfl) (okT20uc62974 N OJ20a62974) (hsJ20a62974 N) hxJ20a62974 rfl heJ20a62974, cut_ok hX (path := [false, true, true, true, true, true, true, true, true, true, true, false, true, false, true, true, true]) (by kernel_rfl) (by rfl) (okT20uc251902 N OJ20a251902) (hsJ20a251902 N) hxJ20a251902 rfl heJ20a251902, trivial⟩)
def rsF20 : List ResultVar := [.cell 6 29]
def F20 : Nat → TF20
  | 0 => fun _ _ _ _ _ => none
  | N + 1 => fun x0 x1c0 x1c1 x2c0 x2c1 =>
    match J20a6 N x0 x1c0 x1c1 x2c0 x2c1 0 0 with
    | none => none
    | some (.nx b0c0v6 b0c1v6 b1c0v6 b1c1v6 b2c0v6 b2c1v6) =>
      match J20a14 N b1c0v6 b1c1v6 with
      | none => none
      | some (.nx x7v7 b0c0v7 b0c1v7) =>
        match J20a244 N x0 with
        | none => none
        | some (.nx x30v8) =>
          match x30v8 with
          | true =>
            match F56 N x0 (([[.int .i64 b0c0v6], [.int .i64 b0c1v6]] : List Row)) (([[.int .i64 b0c0v7], [.int .i64 b0c1v7]] : List Row)) with
            | none => none
            | some (.r rx0c0v9 rx0c1v9) =>
              some (.r rx0c0v9 rx0c1v9)
          | false =>
            match x0 == (4 : Int) with
            | true =>
              match F57 N b0c0v7 b0c1v7 with
              | none => none
              | some (.r rb0v10) =>
                match F56 N x0 (([[.int .i64 b0c0v6], [.int .i64 b0c1v6]] : List Row)) rb0v10 with
                | none => none
                | some (.r rx0c0v11 rx0c1v11) =>
                  some (.r rx0c0v11 rx0c1v11)
            | false =>
              match x0 == (5 : Int) with
              | true =>
                match x7v7 with
                | true =>
                  match F55 N  with
                  | none => none
                  | some (.r rx0c0v12 rx0c1v12) =>
                    some (.r rx0c0v12 rx0c1v12)
                | false =>
                  match F58 N b0c0v6 b0c1v6 b0c0v7 b0c1v7 with
                  | none => none
                  | some (.r rx0c0v13 rx0c1v13) =>
                    some (.r rx0c0v13 rx0c1v13)
              | false =>
                match x0 == (6 : Int) with
                | true =>
                  match x7v7 with
                  | true =>
                    match F55 N  with
                    | none => none
                    | some (.r rx0c0v14 rx0c1v14) =>
                      some (.r rx0c0v14 rx0c1v14)
                  | false =>
                    match F59 N b0c0v6 b0c1v6 b0c0v7 b0c1v7 with
                    | none => none
                    | some (.r rx0c0v15 rx0c1v15) =>
                      some (.r rx0c0v15 rx0c1v15)
                | false =>
                  match J20a62974 N x0 with
                  | none => none
                  | some (.nx x71v16) =>
                    match x71v16 with
                    | true =>
                      match F61 N x0 with
                      | none => none
                      | some (.r rx0v17) =>
                        match F60 N rx0v17 b0c0v6 b0c1v6 b0c0v7 b0c1v7 with
                        | none => none
                        | some (.r rx0v18) =>
                          match F40 N (!rx0v18) with
                          | none => none
                          | some (.r rx0v19) =>
                            match F60 N x0 b0c0v6 b0c1v6 b0c0v7 b0c1v7 with
                            | none => none
                            | some (.r rx0v20) =>
                              match F40 N rx0v20 with
                              | none => none
                              | some (.r rx0v21) =>
                                some (.r rx0v19 rx0v21)
                    | false =>
                      match J20a251902 N x0 with
                      | none => none
                      | some (.nx x91v22) =>
                        match x91v22 with
                        | true =>
                          match F62 N x0 b0c0v6 b0c1v6 b0c0v7 b0c1v7 with
                          | none => none
                          | some (.r rx0c0v23 rx0c1v23) =>
                            some (.r rx0c0v23 rx0c1v23)
                        | false =>
                          match x0 == (16 : Int) with
                          | true =>
                            match F56 N 2 (([[.int .i64 0]] : List Row)) (([[.int .i64 b0c0v6], [.int .i64 b0c1v6]] : List Row)) with
                            | none => none
                            | some (.r rx0c0v24 rx0c1v24) =>
                              some (.r rx0c0v24 rx0c1v24)
                          | false =>
                            match x0 == (18 : Int) with
                            | true =>
                              match F56 N 2 (([[.int .i64 1]] : List Row)) (([[.int .i64 b0c0v6], [.int .i64 b0c1v6]] : List Row)) with
                              | none => none
                              | some (.r rx0c0v25 rx0c1v25) =>
                                some (.r rx0c0v25 rx0c1v25)
                            | false =>
                              match x0 == (17 : Int) with
                              | true =>
                                match b0c0v6 == (-9223372036854775808 : Int) with
                                | true =>
                                  match F63 N  with
                                  | none => none
                                  | some (.r rx0c0v26 rx0c1v26) =>
                                    some (.r rx0c0v26 rx0c1v26)
                                | false =>
                                  match F27 N b0c0v6 b0c1v6 0 with
                                  | none => none
                                  | some (.r rx0v27) =>
                                    match rx0v27 with
                                    | true =>
                                      match F56 N 1 (([[.int .i64 (Eng.imax b0c0v6 (IntKind.wrap .i64 (0 - b0c0v6)))], [.int .i64 (Eng.imax b0c1v6 (IntKind.wrap .i64 (0 - b0c1v6)))], [.int .i64 0]] : List Row)) (([[.int .i64 0]] : List Row)) with
                                      | none => none
                                      | some (.r rx0c0v28 rx0c1v28) =>
                                        some (.r rx0c0v28 rx0c1v28)
                                    | false =>
                                      match F56 N 1 (([[.int .i64 (Eng.imax b0c0v6 (IntKind.wrap .i64 (0 - b0c0v6)))], [.int .i64 (Eng.imax b0c1v6 (IntKind.wrap .i64 (0 - b0c1v6)))]] : List Row)) (([[.int .i64 0]] : List Row)) with
                                      | none => none
                                      | some (.r rx0c0v29 rx0c1v29) =>
                                        some (.r rx0c0v29 rx0c1v29)
                              | false =>
                                match F55 N  with
                                | none => none
                                | some (.r rx0c0v30 rx0c1v30) =>
                                  some (.r rx0c0v30 rx0c1v30)
    | some (.ret b0c0v31 b0c1v31 b1c0v31 b1c1v31 b2c0v31 b2c1v31) =>
      some (.r b2c0v31 b2c1v31)
def xRF20 : XSh R20 := ⟨[], ⟨[(0, .agg [.cell (.int .i64), .cell (.int .i64)])], []⟩, fun _ => [], fun s => .r (((Eng.look s.env 0).cells.getD 0 .top).toI) (((Eng.look s.env 0).cells.getD 1 .top).toI)⟩
theorem fsF20 : ∀ (N : Nat) (lk : Nat → AV) (M : List Blk), FFF20 (F20 (N + 1)) (canS sgF20 lk M) = evfn CX (T20ur1 N R20) code20 rsF20 (argsE 3 (canS sgF20 lk M).env) (canS sgF20 lk M).mem (goR CX 0 (fun _ => some xRF20)) := by intro N lk M; kernel_rfl
theorem soundF20 : ∀ N, RecOkF20 (F20 N)
  | 0, lk, M, o, h => by cases h
  | N + 1, lk, M, o, h => fn_sound hX (okT20ur1 N R20) Try.func20 hb20 rfl en20 (by kernel_rfl) (ys := fun _ => some xRF20) (fun st y h => by injection h with h; subst h; exact fun lk M => ⟨rfl, rfl⟩) ((fsF20 N lk M).symm.trans h)
def cvce20n0 : List Cv := []
def selce20n0 : St → List Nat := fun _ => []
noncomputable def ce20n0 (Fx : TF20) (R : Type) (test : List AV → List Blk → Bool) : CE R := ⟨20, test, fun args M => some (selce20n0 ⟨argEnv 0 args, M, [], .unk⟩), fun args M k => tst (Nat.beq args.length 3) (callFn CX 0 cvce20n0 sgF20 selce20n0 (FFF20 Fx) elF20 args M k)⟩
theorem okce20n0 (Fx : TF20) (h : RecOkF20 Fx) (R : Type) (test : List AV → List Blk → Bool) : CeOk CX (ce20n0 Fx R test) := ce_ok hX (fun o k => by cases o; rfl) h en20 (fun args M ids h => by injection h with h; exact ⟨rfl, h.symm⟩)
end Go.Proofs.Ytnfmdenclkdmbaa

namespace Go.Proofs.Ytnfmdenclkdmbaa
open Go Go.Eng
set_option maxRecDepth 100000

/-! ### F5: ceiling/ceilinglaw01.NumRange -/
inductive R5 where
  | r (x0 : Bool)
abbrev TF5 := Int → Int → Int → Int → Int → Option R5
def sgF5 : LSh := ⟨[(0, .one (.cell (.int .u8))), (1, .agg [.cell (.int .i64), .cell (.int .i64)]), (2, .agg [.cell (.int .i64), .cell (.int .i64)])], []⟩
def FFF5 (Fx : TF5) (s : St) : Option R5 := Fx ((Eng.look s.env 0).toI) (((Eng.look s.env 1).cells.getD 0 .top).toI) (((Eng.look s.env 1).cells.getD 1 .top).toI) (((Eng.look s.env 2).cells.getD 0 .top).toI) (((Eng.look s.env 2).cells.getD 1 .top).toI)
def valF5 (o : R5) : AV := match o with | .r x0 => .bool x0
def memF5 (o : R5) : List Blk := match o with | .r x0 => []
def elF5 {R : Type} (o : R5) (k : AV → List Blk → Option R) : Option R := match o with | .r x0 => k (.bool x0) []
def RecOkF5 (Fx : TF5) : Prop := ∀ lk M o, FFF5 Fx (canS sgF5 lk M) = some o → FCalls CX 5 0 (argsE 3 (canS sgF5 lk M).env) (canS sgF5 lk M).mem (valF5 o) (memF5 o)
noncomputable def csF5 (N : Nat) (R : Type) : List (CE R) := [ce16n0 (F16 N) R (fun _ _ => true), ce19n0 (F19 N) R (fun _ _ => true), ce20n0 (F20 N) R (fun _ _ => true)]
theorem hcsF5 (N : Nat) (R : Type) : AllE (CeOk CX) (csF5 N R) := ⟨okce16n0 (F16 N) (soundF16 N) R (fun _ _ => true), okce19n0 (F19 N) (soundF19 N) R (fun _ _ => true), okce20n0 (F20 N) (soundF20 N) R (fun _ _ => true), trivial⟩
noncomputable def T5ur1 (N : Nat) (R : Type) : LTab R := mkTab ⟨19, 524287⟩ (csF5 N R) (noY) [] [] []
theorem okT5ur1 (N : Nat) (R : Type) : (T5ur1 N R).Ok CX code5 := mkTab_ok (hcsF5 N R) (noY_ok) (trivial) (trivial) (trivial)
def rsF5 : List ResultVar := [.tmp 6]
def F5 : Nat → TF5
  | 0 => fun _ _ _ _ _ => none
  | N + 1 => fun x0 x1c0 x1c1 x2c0 x2c1 =>
    match F19 N x0 x1c0 x1c1 x2c0 x2c1 with
    | none => none
    | some (.r rx0c0v1 rx0c1v1) =>
      match F20 N x0 x1c0 x1c1 x2c0 x2c1 with
      | none => none
      | some (.r rx0c0v2 rx0c1v2) =>
        match ((rx0c0v1 == rx0c0v2) && ((rx0c1v1 == rx0c1v2) && true)) with
        | true =>
          match F16 N  with
          | none => none
          | some (.r rx0v3) =>
            some (.r rx0v3)
        | false =>
          some (.r false)
def xRF5 : XSh R5 := ⟨[], ⟨[(0, .one (.cell (.bool)))], []⟩, fun _ => [], fun s => .r ((Eng.look s.env 0).toB)⟩
theorem fsF5 : ∀ (N : Nat) (lk : Nat → AV) (M : List Blk), FFF5 (F5 (N + 1)) (canS sgF5 lk M) = evfn CX (T5ur1 N R5) code5 rsF5 (argsE 3 (canS sgF5 lk M).env) (canS sgF5 lk M).mem (goR CX 0 (fun _ => some xRF5)) := by intro N lk M; kernel_rfl
theorem soundF5 : ∀ N, RecOkF5 (F5 N)
  | 0, lk, M, o, h => by cases h
  | N + 1, lk, M, o, h => fn_sound hX (okT5ur1 N R5) Try.func5 hb5 rfl en5 (by kernel_rfl) (ys := fun _ => some xRF5) (fun st y h => by injection h with h; subst h; exact fun lk M => ⟨rfl, rfl⟩) ((fsF5 N lk M).symm.trans h)
end Go.Proofs.Ytnfmdenclkdmbaa

namespace Go.Proofs.Ytnfmdenclkdmbaa
open Go Go.Eng
set_option maxRecDepth 100000

/-! ### F6: ceiling/ceilinglaw01.NumAgrees -/
inductive R6 where
  | r (x0 : Bool)
abbrev TF6 := Int → Int → Int → Option R6
def sgF6 : LSh := ⟨[(0, .one (.cell (.int .u8))), (1, .one (.cell (.int .i64))), (2, .one (.cell (.int .i64)))], []⟩
def FFF6 (Fx : TF6) (s : St) : Option R6 := Fx ((Eng.look s.env 0).toI) ((Eng.look s.env 1).toI) ((Eng.look s.env 2).toI)
def valF6 (o : R6) : AV := match o with | .r x0 => .bool x0
def memF6 (o : R6) : List Blk := match o with | .r x0 => []
def elF6 {R : Type} (o : R6) (k : AV → List Blk → Option R) : Option R := match o with | .r x0 => k (.bool x0) []
def RecOkF6 (Fx : TF6) : Prop := ∀ lk M o, FFF6 Fx (canS sgF6 lk M) = some o → FCalls CX 6 0 (argsE 3 (canS sgF6 lk M).env) (canS sgF6 lk M).mem (valF6 o) (memF6 o)
noncomputable def csF6 (N : Nat) (R : Type) : List (CE R) := [ce12n0 (F12 N) R (fun _ _ => true), ce14n0 (F14 N) R (fun _ _ => true), ce16n0 (F16 N) R (fun _ _ => true), ce17n0 (F17 N) R (fun _ _ => true)]
theorem hcsF6 (N : Nat) (R : Type) : AllE (CeOk CX) (csF6 N R) := ⟨okce12n0 (F12 N) (soundF12 N) R (fun _ _ => true), okce14n0 (F14 N) (soundF14 N) R (fun _ _ => true), okce16n0 (F16 N) (soundF16 N) R (fun _ _ => true), okce17n0 (F17 N) (soundF17 N) R (fun _ _ => true), trivial⟩
inductive OJ6a62 where
  | nx (x11 : Bool)
def J6a62 (N : Nat) : Int → Option OJ6a62 := fun x0 =>
    match x0 == (13 : Int) with
    | true =>
      some (.nx true)
    | false =>
      match x0 == (14 : Int) with
      | true =>
        some (.nx true)
      | false =>
        match x0 == (15 : Int) with
        | true =>
          some (.nx true)
        | false =>
          some (.nx (x0 == (18 : Int)))
def LFJ6a62 (N : Nat) (s : St) : Option OJ6a62 := J6a62 N ((Eng.look s.env 0).toI)
def sgJ6a62 : LSh := ⟨[(0, .one (.cell (.int .u8)))], []⟩
def ceJ6a62 : List Cv := []
def seJ6a62 : St → List Nat := fun _ => []
def xJ6a62wnx : XSh OJ6a62 := ⟨[], ⟨[(11, .one (.cell (.bool)))], []⟩, fun _ => [], fun s => .nx ((Eng.look s.env 11).toB)⟩
def xsJ6a62 : Ex → St → Option (XSh OJ6a62) := fun e st => match e with
  | .normal => some xJ6a62wnx
  | _ => none
def exJ6a62 (o : OJ6a62) : Ex := match o with | .nx x11 => .normal
def stJ6a62 (o : OJ6a62) : St := match o with | .nx x11 => ⟨[(11, .bool x11)], [], [], .unk⟩
def elJ6a62 {R : Type} (o : OJ6a62) (k : Ex → St → Option R) : Option R := match o with | .nx x11 => k .normal ⟨[(11, .bool x11)], [], [], .unk⟩
theorem heJ6a62 {R : Type} (o : OJ6a62) (k : Ex → St → Option R) : elJ6a62 o k = k (exJ6a62 o) (stJ6a62 o) := by cases o <;> rfl
theorem hxJ6a62 : ∀ e st x, xsJ6a62 e st = some x → outOk x e exJ6a62 stJ6a62 := by
  intro e st x h
  unfold xsJ6a62 at h
  repeat' split at h
  all_goals first
    | (injection h with h; subst h; exact fun lk M => ⟨rfl, rfl⟩)
    | cases h
noncomputable def T6uc62 (N : Nat) (R : Type) : LTab R := mkTab ⟨100, 576425567931336704⟩ (csF6 N R) (noY) [] [] []
theorem okT6uc62 (N : Nat) (R : Type) : (T6uc62 N R).Ok CX code6 := mkTab_ok (hcsF6 N R) (noY_ok) (trivial) (trivial) (trivial)
noncomputable def bdJ6a62 : Code := (codeAt code6 [false, true, true, true, true]).getD .skip
theorem hsJ6a62 (N : Nat) : ∀ (lk : Nat → AV) (M : List Blk), LFJ6a62 N (canS sgJ6a62 lk M) = evk CX (T6uc62 N OJ6a62) bdJ6a62 62 (canS sgJ6a62 lk M) (kontX CX 0 xsJ6a62) := by intro lk M; kernel_rfl
inductive OJ6a126 where
  | nx (x12 : Bool)
def J6a126 (N : Nat) : Int → Option OJ6a126 := fun x0 =>
    match x0 == (16 : Int) with
    | true =>
      some (.nx true)
    | false =>
      match x0 == (17 : Int) with
      | true =>
        some (.nx true)
      | false =>
        some (.nx (x0 == (18 : Int)))
def LFJ6a126 (N : Nat) (s : St) : Option OJ6a126 := J6a126 N ((Eng.look s.env 0).toI)
def sgJ6a126 : LSh := ⟨[(0, .one (.cell (.int .u8)))], []⟩
def ceJ6a126 : List Cv := []
def seJ6a126 : St → List Nat := fun _ => []
def xJ6a126wnx : XSh OJ6a126 := ⟨[], ⟨[(12, .one (.cell (.bool)))], []⟩, fun _ => [], fun s => .nx ((Eng.look s.env 12).toB)⟩
def xsJ6a126 : Ex → St → Option (XSh OJ6a126) := fun e st => match e with
  | .normal => some xJ6a126wnx
  | _ => none
def exJ6a126 (o : OJ6a126) : Ex := match o with | .nx x12 => .normal
def stJ6a126 (o : OJ6a126) : St := match o with | .nx x12 => ⟨[(12, .bool x12)], [], [], .unk⟩
def elJ6a126 {R : Type} (o : OJ6a126) (k : Ex → St → Option R) : Option R := match o with | .nx x12 => k .normal ⟨[(12, .bool x12)], [], [], .unk⟩
theorem heJ6a126 {R : Type} (o : OJ6a126) (k : Ex → St → Option R) : elJ6a126 o k = k (exJ6a126 o) (stJ6a126 o) := by cases o <;> rfl
theorem hxJ6a126 : ∀ e st x, xsJ6a126 e st = some x → outOk x e exJ6a126 stJ6a126 := by
  intro e st x h
  unfold xsJ6a126 at h
  repeat' split at h
  all_goals first
    | (injection h with h; subst h; exact fun lk M => ⟨rfl, rfl⟩)
    | cases h
noncomputable def T6uc126 (N : Nat) (R : Type) : LTab R := mkTab ⟨100, 589719349606402232320⟩ (csF6 N R) (noY) [] [] []
theorem okT6uc126 (N : Nat) (R : Type) : (T6uc126 N R).Ok CX code6 := mkTab_ok (hcsF6 N R) (noY_ok) (trivial) (trivial) (trivial)
noncomputable def bdJ6a126 : Code := (codeAt code6 [false, true, true, true, true, true]).getD .skip
theorem hsJ6a126 (N : Nat) : ∀ (lk : Nat → AV) (M : List Blk), LFJ6a126 N (canS sgJ6a126 lk M) = evk CX (T6uc126 N OJ6a126) bdJ6a126 126 (canS sgJ6a126 lk M) (kontX CX 0 xsJ6a126) := by intro lk M; kernel_rfl
noncomputable def T6ur1 (N : Nat) (R : Type) : LTab R := mkTab ⟨100, 1267650600228229401496703205375⟩ (csF6 N R) (noY) [] [] [(62, fun st k => callLoop CX 0 576425567931336704 ceJ6a62 sgJ6a62 seJ6a62 ⟨100, 1267650600228229401496703205375⟩ (LFJ6a62 N) elJ6a62 st k), (126, fun st k => callLoop CX 0 589719349606402232320 ceJ6a126 sgJ6a126 seJ6a126 ⟨100, 1267650600228229401496703205375⟩ (LFJ6a126 N) elJ6a126 st k)]
theorem okT6ur1 (N : Nat) (R : Type) : (T6ur1 N R).Ok CX code6 := mkTab_ok (hcsF6 N R) (noY_ok) (trivial) (trivial) (⟨cut_ok hX (path := [false, true, true, true, true]) (by kernel_rfl) (by rfl) (okT6uc62 N OJ6a62) (hsJ6a62 N) hxJ6a62 rfl heJ6a62, cut_ok hX (path := [false, true, true, true, true, true]) (by kernel_rfl) (by rfl) (okT6uc126 N OJ6a126) (hsJ6a126 N) hxJ6a126 rfl heJ6a126, trivial⟩)
def rsF6 : List ResultVar := [.tmp 6]
def F6 : Nat → TF6
  | 0 => fun _ _ _ => none
  | N + 1 => fun x0 x1 x2 =>
    match F12 N x0 x1 x2 with
    | none => none
    | some (.r rx0v1 rx1v1) =>
      match F17 N x0 x1 x2 with
      | none => none
      | some (.r rx0v2 rx1v2) =>
        match rx1v1 with
        | true =>
          match rx1v2 with
          | true =>
            match rx0v1 == rx0v2 with
            | true =>
              match F14 N rx0v1 with
              | none => none
              | some (.r rx0v3) =>
                match rx0v3 with
                | true =>
                  match F14 N x1 with
                  | none => none
                  | some (.r rx0v4) =>
                    match rx0v4 with
                    | true =>
                      match F16 N  with
                      | none => none
                      | some (.r rx0v5) =>
                        some (.r rx0v5)
                    | false =>
                      some (.r false)
                | false =>
                  some (.r false)
            | false =>
              some (.r false)
          | false =>
            some (.r false)
        | false =>
          match J6a62 N x0 with
          | none => none
          | some (.nx x11v6) =>
            match J6a126 N x0 with
            | none => none
            | some (.nx x12v7) =>
              match rx0v1 == (0 : Int) with
              | true =>
                match !rx1v2 with
                | true =>
                  match F16 N  with
                  | none => none
                  | some (.r rx0v8) =>
                    some (.r rx0v8)
                | false =>
                  match F14 N rx0v2 with
                  | none => none
                  | some (.r rx0v9) =>
                    match !rx0v9 with
                    | true =>
                      match F16 N  with
                      | none => none
                      | some (.r rx0v10) =>
                        some (.r rx0v10)
                    | false =>
                      match F14 N x1 with
                      | none => none
                      | some (.r rx0v11) =>
                        match !rx0v11 with
                        | true =>
                          match F16 N  with
                          | none => none
                          | some (.r rx0v12) =>
                            some (.r rx0v12)
                        | false =>
                          match !x12v7 with
                          | true =>
                            match F14 N x2 with
                            | none => none
                            | some (.r rx0v13) =>
                              match !rx0v13 with
                              | true =>
                                match F16 N  with
                                | none => none
                                | some (.r rx0v14) =>
                                  some (.r rx0v14)
                              | false =>
                                match x11v6 with
                                | true =>
                                  match F16 N  with
                                  | none => none
                                  | some (.r rx0v15) =>
                                    some (.r rx0v15)
                                | false =>
                                  some (.r false)
                          | false =>
                            match x11v6 with
                            | true =>
                              match F16 N  with
                              | none => none
                              | some (.r rx0v16) =>
                                some (.r rx0v16)
                            | false =>
                              some (.r false)
              | false =>
                some (.r false)
def xRF6 : XSh R6 := ⟨[], ⟨[(0, .one (.cell (.bool)))], []⟩, fun _ => [], fun s => .r ((Eng.look s.env 0).toB)⟩
theorem fsF6 : ∀ (N : Nat) (lk : Nat → AV) (M : List Blk), FFF6 (F6 (N + 1)) (canS sgF6 lk M) = evfn CX (T6ur1 N R6) code6 rsF6 (argsE 3 (canS sgF6 lk M).env) (canS sgF6 lk M).mem (goR CX 0 (fun _ => some xRF6)) := by intro N lk M; kernel_rfl
theorem soundF6 : ∀ N, RecOkF6 (F6 N)
  | 0, lk, M, o, h => by cases h
  | N + 1, lk, M, o, h => fn_sound hX (okT6ur1 N R6) Try.func6 hb6 rfl en6 (by kernel_rfl) (ys := fun _ => some xRF6) (fun st y h => by injection h with h; subst h; exact fun lk M => ⟨rfl, rfl⟩) ((fsF6 N lk M).symm.trans h)
end Go.Proofs.Ytnfmdenclkdmbaa

namespace Go.Proofs.Ytnfmdenclkdmbaa
open Go Go.Eng
set_option maxRecDepth 100000

/-! ### F21: ceiling/ceilinglaw01.inside -/
inductive R21 where
  | r (x0 : Int)
abbrev TF21 := Int → Int → Int → Option R21
def sgF21 : LSh := ⟨[(0, .agg [.cell (.int .i64), .cell (.int .i64)]), (1, .one (.cell (.int .i64)))], []⟩
def FFF21 (Fx : TF21) (s : St) : Option R21 := Fx (((Eng.look s.env 0).cells.getD 0 .top).toI) (((Eng.look s.env 0).cells.getD 1 .top).toI) ((Eng.look s.env 1).toI)
def valF21 (o : R21) : AV := match o with | .r x0 => .int .i64 x0
def memF21 (o : R21) : List Blk := match o with | .r x0 => []
def elF21 {R : Type} (o : R21) (k : AV → List Blk → Option R) : Option R := match o with | .r x0 => k (.int .i64 x0) []
def RecOkF21 (Fx : TF21) : Prop := ∀ lk M o, FFF21 Fx (canS sgF21 lk M) = some o → FCalls CX 21 0 (argsE 2 (canS sgF21 lk M).env) (canS sgF21 lk M).mem (valF21 o) (memF21 o)
noncomputable def csF21 (N : Nat) (R : Type) : List (CE R) := []
theorem hcsF21 (N : Nat) (R : Type) : AllE (CeOk CX) (csF21 N R) := trivial
noncomputable def T21ur1 (N : Nat) (R : Type) : LTab R := mkTab ⟨12, 4095⟩ (csF21 N R) (noY) [] [] []
theorem okT21ur1 (N : Nat) (R : Type) : (T21ur1 N R).Ok CX code21 := mkTab_ok (hcsF21 N R) (noY_ok) (trivial) (trivial) (trivial)
def rsF21 : List ResultVar := [.tmp 4]
def F21 : Nat → TF21
  | 0 => fun _ _ _ => none
  | N + 1 => fun x0c0 x0c1 x1 =>
    some (.r (Eng.imax x0c0 (Eng.imin x0c1 x1)))
def xRF21 : XSh R21 := ⟨[], ⟨[(0, .one (.cell (.int .i64)))], []⟩, fun _ => [], fun s => .r ((Eng.look s.env 0).toI)⟩
theorem fsF21 : ∀ (N : Nat) (lk : Nat → AV) (M : List Blk), FFF21 (F21 (N + 1)) (canS sgF21 lk M) = evfn CX (T21ur1 N R21) code21 rsF21 (argsE 2 (canS sgF21 lk M).env) (canS sgF21 lk M).mem (goR CX 0 (fun _ => some xRF21)) := by intro N lk M; kernel_rfl
theorem soundF21 : ∀ N, RecOkF21 (F21 N)
  | 0, lk, M, o, h => by cases h
  | N + 1, lk, M, o, h => fn_sound hX (okT21ur1 N R21) Try.func21 hb21 rfl en21 (by kernel_rfl) (ys := fun _ => some xRF21) (fun st y h => by injection h with h; subst h; exact fun lk M => ⟨rfl, rfl⟩) ((fsF21 N lk M).symm.trans h)
def cvce21n0 : List Cv := []
def selce21n0 : St → List Nat := fun _ => []
noncomputable def ce21n0 (Fx : TF21) (R : Type) (test : List AV → List Blk → Bool) : CE R := ⟨21, test, fun args M => some (selce21n0 ⟨argEnv 0 args, M, [], .unk⟩), fun args M k => tst (Nat.beq args.length 2) (callFn CX 0 cvce21n0 sgF21 selce21n0 (FFF21 Fx) elF21 args M k)⟩
theorem okce21n0 (Fx : TF21) (h : RecOkF21 Fx) (R : Type) (test : List AV → List Blk → Bool) : CeOk CX (ce21n0 Fx R test) := ce_ok hX (fun o k => by cases o; rfl) h en21 (fun args M ids h => by injection h with h; exact ⟨rfl, h.symm⟩)
end Go.Proofs.Ytnfmdenclkdmbaa

namespace Go.Proofs.Ytnfmdenclkdmbaa
open Go Go.Eng
set_option maxRecDepth 100000

/-! ### F7: ceiling/ceilinglaw01.NumSound -/
inductive R7 where
  | r (x0 : Bool)
abbrev TF7 := Int → Int → Int → Int → Int → Int → Int → Option R7
def sgF7 : LSh := ⟨[(0, .one (.cell (.int .u8))), (1, .agg [.cell (.int .i64), .cell (.int .i64)]), (2, .agg [.cell (.int .i64), .cell (.int .i64)]), (3, .one (.cell (.int .i64))), (4, .one (.cell (.int .i64)))], []⟩
def FFF7 (Fx : TF7) (s : St) : Option R7 := Fx ((Eng.look s.env 0).toI) (((Eng.look s.env 1).cells.getD 0 .top).toI) (((Eng.look s.env 1).cells.getD 1 .top).toI) (((Eng.look s.env 2).cells.getD 0 .top).toI) (((Eng.look s.env 2).cells.getD 1 .top).toI) ((Eng.look s.env 3).toI) ((Eng.look s.env 4).toI)
def valF7 (o : R7) : AV := match o with | .r x0 => .bool x0
def memF7 (o : R7) : List Blk := match o with | .r x0 => []
def elF7 {R : Type} (o : R7) (k : AV → List Blk → Option R) : Option R := match o with | .r x0 => k (.bool x0) []
def RecOkF7 (Fx : TF7) : Prop := ∀ lk M o, FFF7 Fx (canS sgF7 lk M) = some o → FCalls CX 7 0 (argsE 5 (canS sgF7 lk M).env) (canS sgF7 lk M).mem (valF7 o) (memF7 o)
noncomputable def csF7 (N : Nat) (R : Type) : List (CE R) := [ce16n0 (F16 N) R (fun _ _ => true), ce17n0 (F17 N) R (fun _ _ => true), ce19n0 (F19 N) R (fun _ _ => true), ce21n0 (F21 N) R (fun _ _ => true), ce22n0 (F22 N) R (fun _ _ => true), ce23n0 (F23 N) R (fun _ _ => true), ce24n0 (F24 N) R (fun _ _ => true), ce25n0 (F25 N) R (fun _ _ => true)]
theorem hcsF7 (N : Nat) (R : Type) : AllE (CeOk CX) (csF7 N R) := ⟨okce16n0 (F16 N) (soundF16 N) R (fun _ _ => true), okce17n0 (F17 N) (soundF17 N) R (fun _ _ => true), okce19n0 (F19 N) (soundF19 N) R (fun _ _ => true), okce21n0 (F21 N) (soundF21 N) R (fun _ _ => true), okce22n0 (F22 N) (soundF22 N) R (fun _ _ => true), okce23n0 (F23 N) (soundF23 N) R (fun _ _ => true), okce24n0 (F24 N) (soundF24 N) R (fun _ _ => true), okce25n0 (F25 N) (soundF25 N) R (fun _ _ => true), trivial⟩
inductive OJ7a28 where
  | nx (x31 : Bool) (b0c0 : Int) (b0c1 : Int) (b1c0 : Int) (b1c1 : Int)
def J7a28 (N : Nat) : Int → Int → Int → Int → Option OJ7a28 := fun b0c0 b0c1 b1c0 b1c1 =>
    match decide (b0c1 < b0c0) with
    | true =>
      some (.nx true b0c0 b0c1 b1c0 b1c1)
    | false =>
      some (.nx (decide (b1c1 < b1c0)) b0c0 b0c1 b1c0 b1c1)
def LFJ7a28 (N : Nat) (s : St) : Option OJ7a28 := J7a28 N (((s.mem.getD 0 .dead).cells.getD 0 .top).toI) (((s.mem.getD 0 .dead).cells.getD 1 .top).toI) (((s.mem.getD 1 .dead).cells.getD 0 .top).toI) (((s.mem.getD 1 .dead).cells.getD 1 .top).toI)
def sgJ7a28 : LSh := ⟨[(6, .one (.ptr 0 0 0)), (7, .one (.ptr 1 0 0))], [.var [.int .i64, .int .i64] [.cell (.int .i64), .cell (.int .i64)], .var [.int .i64, .int .i64] [.cell (.int .i64), .cell (.int .i64)]]⟩
def ceJ7a28 : List Cv := []
def seJ7a28 : St → List Nat := fun st => [(Eng.look st.env 6).id, (Eng.look st.env 7).id]
def xJ7a28wnx : XSh OJ7a28 := ⟨[], ⟨[(31, .one (.cell (.bool)))], [.var [.int .i64, .int .i64] [.cell (.int .i64), .cell (.int .i64)], .var [.int .i64, .int .i64] [.cell (.int .i64), .cell (.int .i64)]]⟩, fun st => [0, 1], fun s => .nx ((Eng.look s.env 31).toB) (((s.mem.getD 0 .dead).cells.getD 0 .top).toI) (((s.mem.getD 0 .dead).cells.getD 1 .top).toI) (((s.mem.getD 1 .dead).cells.getD 0 .top).toI) (((s.mem.getD 1 .dead).cells.getD 1 .top).toI)⟩
def xsJ7a28 : Ex → St → Option (XSh OJ7a28) := fun e st => match e with
  | .normal => some xJ7a28wnx
  | _ => none
def exJ7a28 (o : OJ7a28) : Ex := match o with | .nx x31 b0c0 b0c1 b1c0 b1c1 => .normal
def stJ7a28 (o : OJ7a28) : St := match o with | .nx x31 b0c0 b0c1 b1c0 b1c1 => ⟨[(31, .bool x31)], [.var [.int .i64, .int .i64] [.int .i64 b0c0, .int .i64 b0c1], .var [.int .i64, .int .i64] [.int .i64 b1c0, .int .i64 b1c1]], [], .unk⟩
def elJ7a28 {R : Type} (o : OJ7a28) (k : Ex → St → Option R) : Option R := match o with | .nx x31 b0c0 b0c1 b1c0 b1c1 => k .normal ⟨[(31, .bool x31)], [.var [.int .i64, .int .i64] [.int .i64 b0c0, .int .i64 b0c1], .var [.int .i64, .int .i64] [.int .i64 b1c0, .int .i64 b1c1]], [], .unk⟩
theorem heJ7a28 {R : Type} (o : OJ7a28) (k : Ex → St → Option R) : elJ7a28 o k = k (exJ7a28 o) (stJ7a28 o) := by cases o <;> rfl
theorem hxJ7a28 : ∀ e st x, xsJ7a28 e st = some x → outOk x e exJ7a28 stJ7a28 := by
  intro e st x h
  unfold xsJ7a28 at h
  repeat' split at h
  all_goals first
    | (injection h with h; subst h; exact fun lk M => ⟨rfl, rfl⟩)
    | cases h
noncomputable def T7uc28 (N : Nat) (R : Type) : LTab R := mkTab ⟨107, 4293918720⟩ (csF7 N R) (noY) [] [] []
theorem okT7uc28 (N : Nat) (R : Type) : (T7uc28 N R).Ok CX code7 := mkTab_ok (hcsF7 N R) (noY_ok) (trivial) (trivial) (trivial)
noncomputable def bdJ7a28 : Code := (codeAt code7 [false, false, true, true]).getD .skip
theorem hsJ7a28 (N : Nat) : ∀ (lk : Nat → AV) (M : List Blk), LFJ7a28 N (canS sgJ7a28 lk M) = evk CX (T7uc28 N OJ7a28) bdJ7a28 28 (canS sgJ7a28 lk M) (kontX CX 2 xsJ7a28) := by intro lk M; kernel_rfl
inductive OJ7a116 where
  | nx (x12 : Bool)
def J7a116 (N : Nat) : Int → Option OJ7a116 := fun x0 =>
    match x0 == (16 : Int) with
    | true =>
      some (.nx true)
    | false =>
      match x0 == (17 : Int) with
      | true =>
        some (.nx true)
      | false =>
        some (.nx (x0 == (18 : Int)))
def LFJ7a116 (N : Nat) (s : St) : Option OJ7a116 := J7a116 N ((Eng.look s.env 0).toI)
def sgJ7a116 : LSh := ⟨[(0, .one (.cell (.int .u8)))], []⟩
def ceJ7a116 : List Cv := []
def seJ7a116 : St → List Nat := fun _ => []
def xJ7a116wnx : XSh OJ7a116 := ⟨[], ⟨[(12, .one (.cell (.bool)))], []⟩, fun _ => [], fun s => .nx ((Eng.look s.env 12).toB)⟩
def xsJ7a116 : Ex → St → Option (XSh OJ7a116) := fun e st => match e with
  | .normal => some xJ7a116wnx
  | _ => none
def exJ7a116 (o : OJ7a116) : Ex := match o with | .nx x12 => .normal
def stJ7a116 (o : OJ7a116) : St := match o with | .nx x12 => ⟨[(12, .bool x12)], [], [], .unk⟩
def elJ7a116 {R : Type} (o : OJ7a116) (k : Ex → St → Option R) : Option R := match o with | .nx x12 => k .normal ⟨[(12, .bool x12)], [], [], .unk⟩
theorem heJ7a116 {R : Type} (o : OJ7a116) (k : Ex → St → Option R) : elJ7a116 o k = k (exJ7a116 o) (stJ7a116 o) := by cases o <;> rfl
theorem hxJ7a116 : ∀ e st x, xsJ7a116 e st = some x → outOk x e exJ7a116 stJ7a116 := by
  intro e st x h
  unfold xsJ7a116 at h
  repeat' split at h
  all_goals first
    | (injection h with h; subst h; exact fun lk M => ⟨rfl, rfl⟩)
    | cases h
noncomputable def T7uc116 (N : Nat) (R : Type) : LTab R := mkTab ⟨107, 4393751547904⟩ (csF7 N R) (noY) [] [] []
theorem okT7uc116 (N : Nat) (R : Type) : (T7uc116 N R).Ok CX code7 := mkTab_ok (hcsF7 N R) (noY_ok) (trivial) (trivial) (trivial)
noncomputable def bdJ7a116 : Code := (codeAt code7 [false, false, true, false, true, true]).getD .skip
theorem hsJ7a116 (N : Nat) : ∀ (lk : Nat → AV) (M : List Blk), LFJ7a116 N (canS sgJ7a116 lk M) = evk CX (T7uc116 N OJ7a116) bdJ7a116 116 (canS sgJ7a116 lk M) (kontX CX 0 xsJ7a116) := by intro lk M; kernel_rfl
inductive OJ7a14 where
  | nx (b0c0 : Int) (b0c1 : Int) (b1c0 : Int) (b1c1 : Int) (b2c0 : Int) (b2c1 : Int)
  | ret (x10 : Bool) (b0c0 : Int) (b0c1 : Int) (b1c0 : Int) (b1c1 : Int) (b2c0 : Int) (b2c1 : Int)
def J7a14 (N : Nat) : Int → Int → Int → Int → Int → Int → Int → Option OJ7a14 := fun x0 b0c0 b0c1 b1c0 b1c1 b2c0 b2c1 =>
    match J7a28 N b0c0 b0c1 b1c0 b1c1 with
    | none => none
    | some (.nx x31v2 b0c0v2 b0c1v2 b1c0v2 b1c1v2) =>
      match x31v2 with
      | true =>
        match J7a116 N x0 with
        | none => none
        | some (.nx x12v3) =>
          match decide (b0c0v2 ≤ b0c1v2) with
          | true =>
            match x12v3 with
            | true =>
              match F16 N  with
              | none => none
              | some (.r rx0v4) =>
                some (.ret rx0v4 b0c0v2 b0c1v2 b1c0v2 b1c1v2 b2c0 b2c1)
            | false =>
              match decide (b2c1 < b2c0) with
              | true =>
                match F16 N  with
                | none => none
                | some (.r rx0v5) =>
                  some (.ret rx0v5 b0c0v2 b0c1v2 b1c0v2 b1c1v2 b2c0 b2c1)
              | false =>
                some (.ret false b0c0v2 b0c1v2 b1c0v2 b1c1v2 b2c0 b2c1)
          | false =>
            match decide (b2c1 < b2c0) with
            | true =>
              match F16 N  with
              | none => none
              | some (.r rx0v6) =>
                some (.ret rx0v6 b0c0v2 b0c1v2 b1c0v2 b1c1v2 b2c0 b2c1)
            | false =>
              some (.ret false b0c0v2 b0c1v2 b1c0v2 b1c1v2 b2c0 b2c1)
      | false =>
        some (.nx b0c0v2 b0c1v2 b1c0v2 b1c1v2 b2c0 b2c1)
def LFJ7a14 (N : Nat) (s : St) : Option OJ7a14 := J7a14 N ((Eng.look s.env 0).toI) (((s.mem.getD 0 .dead).cells.getD 0 .top).toI) (((s.mem.getD 0 .dead).cells.getD 1 .top).toI) (((s.mem.getD 1 .dead).cells.getD 0 .top).toI) (((s.mem.getD 1 .dead).cells.getD 1 .top).toI) (((s.mem.getD 2 .dead).cells.getD 0 .top).toI) (((s.mem.getD 2 .dead).cells.getD 1 .top).toI)
def sgJ7a14 : LSh := ⟨[(0, .one (.cell (.int .u8))), (6, .one (.ptr 0 0 0)), (7, .one (.ptr 1 0 0)), (11, .one (.ptr 2 0 0))], [.var [.int .i64, .int .i64] [.cell (.int .i64), .cell (.int .i64)], .var [.int .i64, .int .i64] [.cell (.int .i64), .cell (.int .i64)], .var [.int .i64, .int .i64] [.cell (.int .i64), .cell (.int .i64)]]⟩
def ceJ7a14 : List Cv := []
def seJ7a14 : St → List Nat := fun st => [(Eng.look st.env 6).id, (Eng.look st.env 7).id, (Eng.look st.env 11).id]
def xJ7a14wnx : XSh OJ7a14 := ⟨[], ⟨[], [.var [.int .i64, .int .i64] [.cell (.int .i64), .cell (.int .i64)], .var [.int .i64, .int .i64] [.cell (.int .i64), .cell (.int .i64)], .var [.int .i64, .int .i64] [.cell (.int .i64), .cell (.int .i64)]]⟩, fun st => [0, 1, 2], fun s => .nx (((s.mem.getD 0 .dead).cells.getD 0 .top).toI) (((s.mem.getD 0 .dead).cells.getD 1 .top).toI) (((s.mem.getD 1 .dead).cells.getD 0 .top).toI) (((s.mem.getD 1 .dead).cells.getD 1 .top).toI) (((s.mem.getD 2 .dead).cells.getD 0 .top).toI) (((s.mem.getD 2 .dead).cells.getD 1 .top).toI)⟩
def xJ7a14wret : XSh OJ7a14 := ⟨[], ⟨[(10, .one (.cell (.bool)))], [.var [.int .i64, .int .i64] [.cell (.int .i64), .cell (.int .i64)], .var [.int .i64, .int .i64] [.cell (.int .i64), .cell (.int .i64)], .var [.int .i64, .int .i64] [.cell (.int .i64), .cell (.int .i64)]]⟩, fun st => [0, 1, 2], fun s => .ret ((Eng.look s.env 10).toB) (((s.mem.getD 0 .dead).cells.getD 0 .top).toI) (((s.mem.getD 0 .dead).cells.getD 1 .top).toI) (((s.mem.getD 1 .dead).cells.getD 0 .top).toI) (((s.mem.getD 1 .dead).cells.getD 1 .top).toI) (((s.mem.getD 2 .dead).cells.getD 0 .top).toI) (((s.mem.getD 2 .dead).cells.getD 1 .top).toI)⟩
def xsJ7a14 : Ex → St → Option (XSh OJ7a14) := fun e st => match e with
  | .normal => some xJ7a14wnx
  | .ret => some xJ7a14wret
  | _ => none
def exJ7a14 (o : OJ7a14) : Ex := match o with | .nx b0c0 b0c1 b1c0 b1c1 b2c0 b2c1 => .normal | .ret x10 b0c0 b0c1 b1c0 b1c1 b2c0 b2c1 => .ret
def stJ7a14 (o : OJ7a14) : St := match o with | .nx b0c0 b0c1 b1c0 b1c1 b2c0 b2c1 => ⟨[], [.var [.int .i64, .int .i64] [.int .i64 b0c0, .int .i64 b0c1], .var [.int .i64, .int .i64] [.int .i64 b1c0, .int .i64 b1c1], .var [.int .i64, .int .i64] [.int .i64 b2c0, .int .i64 b2c1]], [], .unk⟩ | .ret x10 b0c0 b0c1 b1c0 b1c1 b2c0 b2c1 => ⟨[(10, .bool x10)], [.var [.int .i64, .int .i64] [.int .i64 b0c0, .int .i64 b0c1], .var [.int .i64, .int .i64] [.int .i64 b1c0, .int .i64 b1c1], .var [.int .i64, .int .i64] [.int .i64 b2c0, .int .i64 b2c1]], [], .unk⟩
def elJ7a14 {R : Type} (o : OJ7a14) (k : Ex → St → Option R) : Option R := match o with | .nx b0c0 b0c1 b1c0 b1c1 b2c0 b2c1 => k .normal ⟨[], [.var [.int .i64, .int .i64] [.int .i64 b0c0, .int .i64 b0c1], .var [.int .i64, .int .i64] [.int .i64 b1c0, .int .i64 b1c1], .var [.int .i64, .int .i64] [.int .i64 b2c0, .int .i64 b2c1]], [], .unk⟩ | .ret x10 b0c0 b0c1 b1c0 b1c1 b2c0 b2c1 => k .ret ⟨[(10, .bool x10)], [.var [.int .i64, .int .i64] [.int .i64 b0c0, .int .i64 b0c1], .var [.int .i64, .int .i64] [.int .i64 b1c0, .int .i64 b1c1], .var [.int .i64, .int .i64] [.int .i64 b2c0, .int .i64 b2c1]], [], .unk⟩
theorem heJ7a14 {R : Type} (o : OJ7a14) (k : Ex → St → Option R) : elJ7a14 o k = k (exJ7a14 o) (stJ7a14 o) := by cases o <;> rfl
theorem hxJ7a14 : ∀ e st x, xsJ7a14 e st = some x → outOk x e exJ7a14 stJ7a14 := by
  intro e st x h
  unfold xsJ7a14 at h
  repeat' split at h
  all_goals first
    | (injection h with h; subst h; exact fun lk M => ⟨rfl, rfl⟩)
    | cases h
noncomputable def T7uc14 (N : Nat) (R : Type) : LTab R := mkTab ⟨107, 1152921504605803520⟩ (csF7 N R) (noY) [] [] [(28, fun st k => callLoop CX 2 4293918720 ceJ7a28 sgJ7a28 seJ7a28 ⟨107, 1152921504605803520⟩ (LFJ7a28 N) elJ7a28 st k), (116, fun st k => callLoop CX 0 4393751547904 ceJ7a116 sgJ7a116 seJ7a116 ⟨107, 1152921504605803520⟩ (LFJ7a116 N) elJ7a116 st k)]
theorem okT7uc14 (N : Nat) (R : Type) : (T7uc14 N R).Ok CX code7 := mkTab_ok (hcsF7 N R) (noY_ok) (trivial) (trivial) (⟨cut_ok hX (path := [false, false, true, true]) (by kernel_rfl) (by rfl) (okT7uc28 N OJ7a28) (hsJ7a28 N) hxJ7a28 rfl heJ7a28, cut_ok hX (path := [false, false, true, false, true, true]) (by kernel_rfl) (by rfl) (okT7uc116 N OJ7a116) (hsJ7a116 N) hxJ7a116 rfl heJ7a116, trivial⟩)
noncomputable def bdJ7a14 : Code := (codeAt code7 [false, true, true]).getD .skip
theorem hsJ7a14 (N : Nat) : ∀ (lk : Nat → AV) (M : List Blk), LFJ7a14 N (canS sgJ7a14 lk M) = evk CX (T7uc14 N OJ7a14) bdJ7a14 14 (canS sgJ7a14 lk M) (kontX CX 3 xsJ7a14) := by intro lk M; kernel_rfl
noncomputable def T7ur1 (N : Nat) (R : Type) : LTab R := mkTab ⟨107, 162259276829213363391578010288127⟩ (csF7 N R) (noY) [] [] [(14, fun st k => callLoop CX 3 1152921504605803520 ceJ7a14 sgJ7a14 seJ7a14 ⟨107, 162259276829213363391578010288127⟩ (LFJ7a14 N) elJ7a14 st k)]
theorem okT7ur1 (N : Nat) (R : Type) : (T7ur1 N R).Ok CX code7 := mkTab_ok (hcsF7 N R) (noY_ok) (trivial) (trivial) (⟨cut_ok hX (path := [false, true, true]) (by kernel_rfl) (by rfl) (okT7uc14 N OJ7a14) (hsJ7a14 N) hxJ7a14 rfl heJ7a14, trivial⟩)
def rsF7 : List ResultVar := [.tmp 10]
def F7 : Nat → TF7
  | 0 => fun _ _ _ _ _ _ _ => none
  | N + 1 => fun x0 x1c0 x1c1 x2c0 x2c1 x3 x4 =>
    match F19 N x0 x1c0 x1c1 x2c0 x2c1 with
    | none => none
    | some (.r rx0c0v1 rx0c1v1) =>
      match J7a14 N x0 x1c0 x1c1 x2c0 x2c1 rx0c0v1 rx0c1v1 with
      | none => none
      | some (.nx b0c0v7 b0c1v7 b1c0v7 b1c1v7 b2c0v7 b2c1v7) =>
        match F21 N b0c0v7 b0c1v7 x3 with
        | none => none
        | some (.r rx0v8) =>
          match F21 N b1c0v7 b1c1v7 x4 with
          | none => none
          | some (.r rx0v9) =>
            match F17 N x0 rx0v8 rx0v9 with
            | none => none
            | some (.r rx0v10 rx1v10) =>
              match F22 N rx0v8 rx0v8 with
              | none => none
              | some (.r rx0c0v11 rx0c1v11) =>
                match F22 N rx0v9 rx0v9 with
                | none => none
                | some (.r rx0c0v12 rx0c1v12) =>
                  match F19 N x0 rx0c0v11 rx0c1v11 rx0c0v12 rx0c1v12 with
                  | none => none
                  | some (.r rx0c0v13 rx0c1v13) =>
                    match !rx1v10 with
                    | true =>
                      match F25 N b2c0v7 b2c1v7 rx0c0v13 rx0c1v13 with
                      | none => none
                      | some (.r rx0c0v14 rx0c1v14) =>
                        match F24 N rx0c0v13 rx0c1v13 rx0c0v14 rx0c1v14 with
                        | none => none
                        | some (.r rx0v15) =>
                          match rx0v15 with
                          | true =>
                            match F24 N rx0c0v13 rx0c1v13 b2c0v7 b2c1v7 with
                            | none => none
                            | some (.r rx0v16) =>
                              match rx0v16 with
                              | true =>
                                match F16 N  with
                                | none => none
                                | some (.r rx0v17) =>
                                  some (.r rx0v17)
                              | false =>
                                match !rx1v10 with
                                | true =>
                                  match F16 N  with
                                  | none => none
                                  | some (.r rx0v18) =>
                                    some (.r rx0v18)
                                | false =>
                                  some (.r false)
                          | false =>
                            some (.r false)
                    | false =>
                      match F23 N b2c0v7 b2c1v7 rx0v10 with
                      | none => none
                      | some (.r rx0v19) =>
                        match rx0v19 with
                        | true =>
                          match F25 N b2c0v7 b2c1v7 rx0c0v13 rx0c1v13 with
                          | none => none
                          | some (.r rx0c0v20 rx0c1v20) =>
                            match F24 N rx0c0v13 rx0c1v13 rx0c0v20 rx0c1v20 with
                            | none => none
                            | some (.r rx0v21) =>
                              match rx0v21 with
                              | true =>
                                match F24 N rx0c0v13 rx0c1v13 b2c0v7 b2c1v7 with
                                | none => none
                                | some (.r rx0v22) =>
                                  match rx0v22 with
                                  | true =>
                                    match F16 N  with
                                    | none => none
                                    | some (.r rx0v23) =>
                                      some (.r rx0v23)
                                  | false =>
                                    match !rx1v10 with
                                    | true =>
                                      match F16 N  with
                                      | none => none
                                      | some (.r rx0v24) =>
                                        some (.r rx0v24)
                                    | false =>
                                      some (.r false)
                              | false =>
                                some (.r false)
                        | false =>
                          some (.r false)
      | some (.ret x10v25 b0c0v25 b0c1v25 b1c0v25 b1c1v25 b2c0v25 b2c1v25) =>
        some (.r x10v25)
def xRF7 : XSh R7 := ⟨[], ⟨[(0, .one (.cell (.bool)))], []⟩, fun _ => [], fun s => .r ((Eng.look s.env 0).toB)⟩
theorem fsF7 : ∀ (N : Nat) (lk : Nat → AV) (M : List Blk), FFF7 (F7 (N + 1)) (canS sgF7 lk M) = evfn CX (T7ur1 N R7) code7 rsF7 (argsE 5 (canS sgF7 lk M).env) (canS sgF7 lk M).mem (goR CX 0 (fun _ => some xRF7)) := by intro N lk M; kernel_rfl
theorem soundF7 : ∀ N, RecOkF7 (F7 N)
  | 0, lk, M, o, h => by cases h
  | N + 1, lk, M, o, h => fn_sound hX (okT7ur1 N R7) Try.func7 hb7 rfl en7 (by kernel_rfl) (ys := fun _ => some xRF7) (fun st y h => by injection h with h; subst h; exact fun lk M => ⟨rfl, rfl⟩) ((fsF7 N lk M).symm.trans h)
end Go.Proofs.Ytnfmdenclkdmbaa

namespace Go.Proofs.Ytnfmdenclkdmbaa
open Go Go.Eng
set_option maxRecDepth 100000

/-! ### F9: ceiling/ceilinglaw01.NumExact -/
inductive R9 where
  | r (x0 : Bool)
abbrev TF9 := Int → Int → Int → Int → Int → Option R9
def sgF9 : LSh := ⟨[(0, .one (.cell (.int .u8))), (1, .one (.cell (.int .i8))), (2, .one (.cell (.int .i8))), (3, .one (.cell (.int .i8))), (4, .one (.cell (.int .i8)))], []⟩
def FFF9 (Fx : TF9) (s : St) : Option R9 := Fx ((Eng.look s.env 0).toI) ((Eng.look s.env 1).toI) ((Eng.look s.env 2).toI) ((Eng.look s.env 3).toI) ((Eng.look s.env 4).toI)
def valF9 (o : R9) : AV := match o with | .r x0 => .bool x0
def memF9 (o : R9) : List Blk := match o with | .r x0 => []
def elF9 {R : Type} (o : R9) (k : AV → List Blk → Option R) : Option R := match o with | .r x0 => k (.bool x0) []
def RecOkF9 (Fx : TF9) : Prop := ∀ lk M o, FFF9 Fx (canS sgF9 lk M) = some o → FCalls CX 9 0 (argsE 5 (canS sgF9 lk M).env) (canS sgF9 lk M).mem (valF9 o) (memF9 o)
noncomputable def csF9 (N : Nat) (R : Type) : List (CE R) := [ce16n0 (F16 N) R (fun _ _ => true), ce17n0 (F17 N) R (fun _ _ => true), ce19n0 (F19 N) R (fun _ _ => true), ce22n0 (F22 N) R (fun _ _ => true), ce25n0 (F25 N) R (fun _ _ => true)]
theorem hcsF9 (N : Nat) (R : Type) : AllE (CeOk CX) (csF9 N R) := ⟨okce16n0 (F16 N) (soundF16 N) R (fun _ _ => true), okce17n0 (F17 N) (soundF17 N) R (fun _ _ => true), okce19n0 (F19 N) (soundF19 N) R (fun _ _ => true), okce22n0 (F22 N) (soundF22 N) R (fun _ _ => true), okce25n0 (F25 N) (soundF25 N) R (fun _ _ => true), trivial⟩
inductive OJ9a30 where
  | nx
  | ret (x10 : Bool)
def J9a30 (N : Nat) : Int → Option OJ9a30 := fun x0 =>
    match x0 == (5 : Int) with
    | true =>
      match F16 N  with
      | none => none
      | some (.r rx0v3) =>
        some (.ret rx0v3)
    | false =>
      match x0 == (6 : Int) with
      | true =>
        match F16 N  with
        | none => none
        | some (.r rx0v4) =>
          some (.ret rx0v4)
      | false =>
        match x0 == (13 : Int) with
        | true =>
          match F16 N  with
          | none => none
          | some (.r rx0v5) =>
            some (.ret rx0v5)
        | false =>
          match x0 == (14 : Int) with
          | true =>
            match F16 N  with
            | none => none
            | some (.r rx0v6) =>
              some (.ret rx0v6)
          | false =>
            match x0 == (15 : Int) with
            | true =>
              match F16 N  with
              | none => none
              | some (.r rx0v7) =>
                some (.ret rx0v7)
            | false =>
              some .nx
def LFJ9a30 (N : Nat) (s : St) : Option OJ9a30 := J9a30 N ((Eng.look s.env 0).toI)
def sgJ9a30 : LSh := ⟨[(0, .one (.cell (.int .u8)))], []⟩
def ceJ9a30 : List Cv := []
def seJ9a30 : St → List Nat := fun _ => []
def xJ9a30wnx : XSh OJ9a30 := ⟨[], ⟨[], []⟩, fun _ => [], fun s => .nx ⟩
def xJ9a30wret : XSh OJ9a30 := ⟨[], ⟨[(10, .one (.cell (.bool)))], []⟩, fun _ => [], fun s => .ret ((Eng.look s.env 10).toB)⟩
def xsJ9a30 : Ex → St → Option (XSh OJ9a30) := fun e st => match e with
  | .normal => some xJ9a30wnx
  | .ret => some xJ9a30wret
  | _ => none
def exJ9a30 (o : OJ9a30) : Ex := match o with | .nx => .normal | .ret x10 => .ret
def stJ9a30 (o : OJ9a30) : St := match o with | .nx => ⟨[], [], [], .unk⟩ | .ret x10 => ⟨[(10, .bool x10)], [], [], .unk⟩
def elJ9a30 {R : Type} (o : OJ9a30) (k : Ex → St → Option R) : Option R := match o with | .nx => k .normal ⟨[], [], [], .unk⟩ | .ret x10 => k .ret ⟨[(10, .bool x10)], [], [], .unk⟩
theorem heJ9a30 {R : Type} (o : OJ9a30) (k : Ex → St → Option R) : elJ9a30 o k = k (exJ9a30 o) (stJ9a30 o) := by cases o <;> rfl
theorem hxJ9a30 : ∀ e st x, xsJ9a30 e st = some x → outOk x e exJ9a30 stJ9a30 := by
  intro e st x h
  unfold xsJ9a30 at h
  repeat' split at h
  all_goals first
    | (injection h with h; subst h; exact fun lk M => ⟨rfl, rfl⟩)
    | cases h
noncomputable def T9uc30 (N : Nat) (R : Type) : LTab R := mkTab ⟨98, 576459652791796736⟩ (csF9 N R) (noY) [] [] []
theorem okT9uc30 (N : Nat) (R : Type) : (T9uc30 N R).Ok CX code9 := mkTab_ok (hcsF9 N R) (noY_ok) (trivial) (trivial) (trivial)
noncomputable def bdJ9a30 : Code := (codeAt code9 [false, true, true, true]).getD .skip
theorem hsJ9a30 (N : Nat) : ∀ (lk : Nat → AV) (M : List Blk), LFJ9a30 N (canS sgJ9a30 lk M) = evk CX (T9uc30 N OJ9a30) bdJ9a30 30 (canS sgJ9a30 lk M) (kontX CX 0 xsJ9a30) := by intro lk M; kernel_rfl
inductive OL9a32402 where
  | x2 (b0c0 : Int) (b0c1 : Int) (b1c0 : Int) (b1c1 : Int)
def L9a32402 (N : Nat) : Nat → Int → Int → Int → Int → Int → Int → Int → Option OL9a32402
  | 0 => fun _ _ _ _ _ _ _ => none
  | n + 1 => fun x0 x14 x15 b0c0 b0c1 b1c0 b1c1 =>
    match decide (x15 ≤ b0c1) with
    | true =>
      match F17 N x0 x14 x15 with
      | none => none
      | some (.r rx0v10 rx1v10) =>
        match rx1v10 with
        | true =>
          match F22 N rx0v10 rx0v10 with
          | none => none
          | some (.r rx0c0v11 rx0c1v11) =>
            match F25 N b1c0 b1c1 rx0c0v11 rx0c1v11 with
            | none => none
            | some (.r rx0c0v12 rx0c1v12) =>
              L9a32402 N n x0 x14 (IntKind.wrap .i64 (x15 + (1 : Int))) b0c0 b0c1 rx0c0v12 rx0c1v12
        | false =>
          L9a32402 N n x0 x14 (IntKind.wrap .i64 (x15 + (1 : Int))) b0c0 b0c1 b1c0 b1c1
    | false =>
      some (.x2 b0c0 b0c1 b1c0 b1c1)
def LFL9a32402 (N : Nat) (n : Nat) (s : St) : Option OL9a32402 := L9a32402 N n ((Eng.look s.env 0).toI) ((Eng.look s.env 14).toI) ((Eng.look s.env 15).toI) (((s.mem.getD 0 .dead).cells.getD 0 .top).toI) (((s.mem.getD 0 .dead).cells.getD 1 .top).toI) (((s.mem.getD 1 .dead).cells.getD 0 .top).toI) (((s.mem.getD 1 .dead).cells.getD 1 .top).toI)
def sgL9a32402 : LSh := ⟨[(0, .one (.cell (.int .u8))), (12, .one (.ptr 0 0 0)), (13, .one (.ptr 1 0 0)), (14, .one (.cell (.int .i64))), (15, .one (.cell (.int .i64)))], [.var [.int .i64, .int .i64] [.cell (.int .i64), .cell (.int .i64)], .var [.int .i64, .int .i64] [.cell (.int .i64), .cell (.int .i64)]]⟩
def ceL9a32402 : List Cv := []
def seL9a32402 : St → List Nat := fun st => [(Eng.look st.env 12).id, (Eng.look st.env 13).id]
def xL9a32402wx2 : XSh OL9a32402 := ⟨[], ⟨[], [.var [.int .i64, .int .i64] [.cell (.int .i64), .cell (.int .i64)], .var [.int .i64, .int .i64] [.cell (.int .i64), .cell (.int .i64)]]⟩, fun st => [0, 1], fun s => .x2 (((s.mem.getD 0 .dead).cells.getD 0 .top).toI) (((s.mem.getD 0 .dead).cells.getD 1 .top).toI) (((s.mem.getD 1 .dead).cells.getD 0 .top).toI) (((s.mem.getD 1 .dead).cells.getD 1 .top).toI)⟩
def xsL9a32402 : Ex → St → Option (XSh OL9a32402) := fun e st => match e with
  | .exit 2 => some xL9a32402wx2
  | _ => none
def exL9a32402 (o : OL9a32402) : Ex := match o with | .x2 b0c0 b0c1 b1c0 b1c1 => (.exit 2)
def stL9a32402 (o : OL9a32402) : St := match o with | .x2 b0c0 b0c1 b1c0 b1c1 => ⟨[], [.var [.int .i64, .int .i64] [.int .i64 b0c0, .int .i64 b0c1], .var [.int .i64, .int .i64] [.int .i64 b1c0, .int .i64 b1c1]], [], .unk⟩
def elL9a32402 {R : Type} (o : OL9a32402) (k : Ex → St → Option R) : Option R := match o with | .x2 b0c0 b0c1 b1c0 b1c1 => k (.exit 2) ⟨[], [.var [.int .i64, .int .i64] [.int .i64 b0c0, .int .i64 b0c1], .var [.int .i64, .int .i64] [.int .i64 b1c0, .int .i64 b1c1]], [], .unk⟩
theorem heL9a32402 {R : Type} (o : OL9a32402) (k : Ex → St → Option R) : elL9a32402 o k = k (exL9a32402 o) (stL9a32402 o) := by cases o <;> rfl
theorem hxL9a32402 : ∀ e st x, xsL9a32402 e st = some x → outOk x e exL9a32402 stL9a32402 := by
  intro e st x h
  unfold xsL9a32402 at h
  repeat' split at h
  all_goals first
    | (injection h with h; subst h; exact fun lk M => ⟨rfl, rfl⟩)
    | cases h
noncomputable def T9ul32402 (N : Nat) (R : Type) : LTab R := mkTab ⟨98, 618968839051069420038488064⟩ (csF9 N R) (noY) [] [] []
theorem okT9ul32402 (N : Nat) (R : Type) : (T9ul32402 N R).Ok CX code9 := mkTab_ok (hcsF9 N R) (noY_ok) (trivial) (trivial) (trivial)
noncomputable def bdL9a32402 : Code := match codeAt code9 [false, true, false, false, true, false, false, true, false, true, true, true, true, true] with | some (.loop c) => c | _ => .skip
theorem hsL9a32402 (N : Nat) : ∀ (n : Nat) (lk : Nat → AV) (M : List Blk), LFL9a32402 N (n + 1) (canS sgL9a32402 lk M) = evk CX (T9ul32402 N OL9a32402) bdL9a32402 (2 * 32402) (canS sgL9a32402 lk M) (kont CX 2 [] sgL9a32402 (fun st => [0, 1]) xsL9a32402 (LFL9a32402 N n)) := by intro n lk M; kernel_rfl
inductive OL9a506 where
  | x0 (b0c0 : Int) (b0c1 : Int) (b1c0 : Int) (b1c1 : Int) (b2c0 : Int) (b2c1 : Int)
def L9a506 (N : Nat) : Nat → Int → Int → Int → Int → Int → Int → Int → Int → Option OL9a506
  | 0 => fun _ _ _ _ _ _ _ _ => none
  | n + 1 => fun x0 x14 b0c0 b0c1 b1c0 b1c1 b2c0 b2c1 =>
    match decide (x14 ≤ b0c1) with
    | true =>
      match L9a32402 N N x0 x14 b1c0 b1c0 b1c1 b2c0 b2c1 with
      | none => none
      | some (.x2 b0c0v13 b0c1v13 b1c0v13 b1c1v13) =>
        L9a506 N n x0 (IntKind.wrap .i64 (x14 + (1 : Int))) b0c0 b0c1 b0c0v13 b0c1v13 b1c0v13 b1c1v13
    | false =>
      some (.x0 b0c0 b0c1 b1c0 b1c1 b2c0 b2c1)
def LFL9a506 (N : Nat) (n : Nat) (s : St) : Option OL9a506 := L9a506 N n ((Eng.look s.env 0).toI) ((Eng.look s.env 14).toI) (((s.mem.getD 0 .dead).cells.getD 0 .top).toI) (((s.mem.getD 0 .dead).cells.getD 1 .top).toI) (((s.mem.getD 1 .dead).cells.getD 0 .top).toI) (((s.mem.getD 1 .dead).cells.getD 1 .top).toI) (((s.mem.getD 2 .dead).cells.getD 0 .top).toI) (((s.mem.getD 2 .dead).cells.getD 1 .top).toI)
def sgL9a506 : LSh := ⟨[(0, .one (.cell (.int .u8))), (11, .one (.ptr 0 0 0)), (12, .one (.ptr 1 0 0)), (13, .one (.ptr 2 0 0)), (14, .one (.cell (.int .i64)))], [.var [.int .i64, .int .i64] [.cell (.int .i64), .cell (.int .i64)], .var [.int .i64, .int .i64] [.cell (.int .i64), .cell (.int .i64)], .var [.int .i64, .int .i64] [.cell (.int .i64), .cell (.int .i64)]]⟩
def ceL9a506 : List Cv := []
def seL9a506 : St → List Nat := fun st => [(Eng.look st.env 11).id, (Eng.look st.env 12).id, (Eng.look st.env 13).id]
def xL9a506wx0 : XSh OL9a506 := ⟨[], ⟨[], [.var [.int .i64, .int .i64] [.cell (.int .i64), .cell (.int .i64)], .var [.int .i64, .int .i64] [.cell (.int .i64), .cell (.int .i64)], .var [.int .i64, .int .i64] [.cell (.int .i64), .cell (.int .i64)]]⟩, fun st => [0, 1, 2], fun s => .x0 (((s.mem.getD 0 .dead).cells.getD 0 .top).toI) (((s.mem.getD 0 .dead).cells.getD 1 .top).toI) (((s.mem.getD 1 .dead).cells.getD 0 .top).toI) (((s.mem.getD 1 .dead).cells.getD 1 .top).toI) (((s.mem.getD 2 .dead).cells.getD 0 .top).toI) (((s.mem.getD 2 .dead).cells.getD 1 .top).toI)⟩
def xsL9a506 : Ex → St → Option (XSh OL9a506) := fun e st => match e with
  | .exit 0 => some xL9a506wx0
  | _ => none
def exL9a506 (o : OL9a506) : Ex := match o with | .x0 b0c0 b0c1 b1c0 b1c1 b2c0 b2c1 => (.exit 0)
def stL9a506 (o : OL9a506) : St := match o with | .x0 b0c0 b0c1 b1c0 b1c1 b2c0 b2c1 => ⟨[], [.var [.int .i64, .int .i64] [.int .i64 b0c0, .int .i64 b0c1], .var [.int .i64, .int .i64] [.int .i64 b1c0, .int .i64 b1c1], .var [.int .i64, .int .i64] [.int .i64 b2c0, .int .i64 b2c1]], [], .unk⟩
def elL9a506 {R : Type} (o : OL9a506) (k : Ex → St → Option R) : Option R := match o with | .x0 b0c0 b0c1 b1c0 b1c1 b2c0 b2c1 => k (.exit 0) ⟨[], [.var [.int .i64, .int .i64] [.int .i64 b0c0, .int .i64 b0c1], .var [.int .i64, .int .i64] [.int .i64 b1c0, .int .i64 b1c1], .var [.int .i64, .int .i64] [.int .i64 b2c0, .int .i64 b2c1]], [], .unk⟩
theorem heL9a506 {R : Type} (o : OL9a506) (k : Ex → St → Option R) : elL9a506 o k = k (exL9a506 o) (stL9a506 o) := by cases o <;> rfl
theorem hxL9a506 : ∀ e st x, xsL9a506 e st = some x → outOk x e exL9a506 stL9a506 := by
  intro e st x h
  unfold xsL9a506 at h
  repeat' split at h
  all_goals first
    | (injection h with h; subst h; exact fun lk M => ⟨rfl, rfl⟩)
    | cases h
noncomputable def T9ul506 (N : Nat) (R : Type) : LTab R := mkTab ⟨98, 618970015031004119022419968⟩ (csF9 N R) (noY) [(32402, fun st k => callLoop CX 2 618968839051069420038488064 ceL9a32402 sgL9a32402 seL9a32402 ⟨98, 618970015031004119022419968⟩ (LFL9a32402 N N) elL9a32402 st k)] [] []
theorem okT9ul506 (N : Nat) (R : Type) : (T9ul506 N R).Ok CX code9 := mkTab_ok (hcsF9 N R) (noY_ok) (⟨loop_ok hX (path := [false, true, false, false, true, false, false, true, false, true, true, true, true, true]) (by kernel_rfl) (by rfl) (okT9ul32402 N OL9a32402) (fun _ _ => rfl) (hsL9a32402 N) hxL9a32402 rfl heL9a32402, trivial⟩) (trivial) (trivial)
noncomputable def bdL9a506 : Code := match codeAt code9 [false, true, false, true, true, true, true, true] with | some (.loop c) => c | _ => .skip
theorem hsL9a506 (N : Nat) : ∀ (n : Nat) (lk : Nat → AV) (M : List Blk), LFL9a506 N (n + 1) (canS sgL9a506 lk M) = evk CX (T9ul506 N OL9a506) bdL9a506 (2 * 506) (canS sgL9a506 lk M) (kont CX 3 [] sgL9a506 (fun st => [0, 1, 2]) xsL9a506 (LFL9a506 N n)) := by intro n lk M; kernel_rfl
noncomputable def T9ur1 (N : Nat) (R : Type) : LTab R := mkTab ⟨98, 316912650057057350374175801343⟩ (csF9 N R) (noY) [(506, fun st k => callLoop CX 3 618970015031004119022419968 ceL9a506 sgL9a506 seL9a506 ⟨98, 316912650057057350374175801343⟩ (LFL9a506 N N) elL9a506 st k)] [] [(30, fun st k => callLoop CX 0 576459652791796736 ceJ9a30 sgJ9a30 seJ9a30 ⟨98, 316912650057057350374175801343⟩ (LFJ9a30 N) elJ9a30 st k)]
theorem okT9ur1 (N : Nat) (R : Type) : (T9ur1 N R).Ok CX code9 := mkTab_ok (hcsF9 N R) (noY_ok) (⟨loop_ok hX (path := [false, true, false, true, true, true, true, true]) (by kernel_rfl) (by rfl) (okT9ul506 N OL9a506) (fun _ _ => rfl) (hsL9a506 N) hxL9a506 rfl heL9a506, trivial⟩) (trivial) (⟨cut_ok hX (path := [false, true, true, true]) (by kernel_rfl) (by rfl) (okT9uc30 N OJ9a30) (hsJ9a30 N) hxJ9a30 rfl heJ9a30, trivial⟩)
def rsF9 : List ResultVar := [.tmp 10]
def F9 : Nat → TF9
  | 0 => fun _ _ _ _ _ => none
  | N + 1 => fun x0 x1 x2 x3 x4 =>
    match F22 N (Int.tmod (IntKind.wrap .i64 x1) (21 : Int)) (IntKind.wrap .i64 ((Int.tmod (IntKind.wrap .i64 x1) (21 : Int)) + (IntKind.wrap .i64 ((BitVec.ofInt 64 (IntKind.wrap .i64 x3) &&& BitVec.ofInt 64 (7 : Int)).toNat : Int)))) with
    | none => none
    | some (.r rx0c0v1 rx0c1v1) =>
      match F22 N (Int.tmod (IntKind.wrap .i64 x2) (21 : Int)) (IntKind.wrap .i64 ((Int.tmod (IntKind.wrap .i64 x2) (21 : Int)) + (IntKind.wrap .i64 ((BitVec.ofInt 64 (IntKind.wrap .i64 x4) &&& BitVec.ofInt 64 (7 : Int)).toNat : Int)))) with
      | none => none
      | some (.r rx0c0v2 rx0c1v2) =>
        match J9a30 N x0 with
        | none => none
        | some (.nx) =>
          match F22 N 1 0 with
          | none => none
          | some (.r rx0c0v9 rx0c1v9) =>
            match L9a506 N N x0 rx0c0v1 rx0c0v1 rx0c1v1 rx0c0v2 rx0c1v2 rx0c0v9 rx0c1v9 with
            | none => none
            | some (.x0 b0c0v14 b0c1v14 b1c0v14 b1c1v14 b2c0v14 b2c1v14) =>
              match F19 N x0 b0c0v14 b0c1v14 b1c0v14 b1c1v14 with
              | none => none
              | some (.r rx0c0v15 rx0c1v15) =>
                match ((rx0c0v15 == b2c0v14) && ((rx0c1v15 == b2c1v14) && true)) with
                | true =>
                  match F16 N  with
                  | none => none
                  | some (.r rx0v16) =>
                    some (.r rx0v16)
                | false =>
                  some (.r false)
        | some (.ret x10v17) =>
          some (.r x10v17)
def xRF9 : XSh R9 := ⟨[], ⟨[(0, .one (.cell (.bool)))], []⟩, fun _ => [], fun s => .r ((Eng.look s.env 0).toB)⟩
theorem fsF9 : ∀ (N : Nat) (lk : Nat → AV) (M : List Blk), FFF9 (F9 (N + 1)) (canS sgF9 lk M) = evfn CX (T9ur1 N R9) code9 rsF9 (argsE 5 (canS sgF9 lk M).env) (canS sgF9 lk M).mem (goR CX 0 (fun _ => some xRF9)) := by intro N lk M; kernel_rfl
theorem soundF9 : ∀ N, RecOkF9 (F9 N)
  | 0, lk, M, o, h => by cases h
  | N + 1, lk, M, o, h => fn_sound hX (okT9ur1 N R9) Try.func9 hb9 rfl en9 (by kernel_rfl) (ys := fun _ => some xRF9) (fun st y h => by injection h with h; subst h; exact fun lk M => ⟨rfl, rfl⟩) ((fsF9 N lk M).symm.trans h)
end Go.Proofs.Ytnfmdenclkdmbaa

namespace Go.Proofs.Ytnfmdenclkdmbaa
open Go Go.Eng
set_option maxRecDepth 100000

/-! ### F28: ceiling/ceilingref01.Lies -/
inductive R28 where
  | r (x0 : Bool)
abbrev TF28 := Int → Int → Int → Int → Option R28
def sgF28 : LSh := ⟨[(0, .agg [.cell (.int .i64), .cell (.int .i64)]), (1, .agg [.cell (.int .i64), .cell (.int .i64)])], []⟩
def FFF28 (Fx : TF28) (s : St) : Option R28 := Fx (((Eng.look s.env 0).cells.getD 0 .top).toI) (((Eng.look s.env 0).cells.getD 1 .top).toI) (((Eng.look s.env 1).cells.getD 0 .top).toI) (((Eng.look s.env 1).cells.getD 1 .top).toI)
def valF28 (o : R28) : AV := match o with | .r x0 => .bool x0
def memF28 (o : R28) : List Blk := match o with | .r x0 => []
def elF28 {R : Type} (o : R28) (k : AV → List Blk → Option R) : Option R := match o with | .r x0 => k (.bool x0) []
def RecOkF28 (Fx : TF28) : Prop := ∀ lk M o, FFF28 Fx (canS sgF28 lk M) = some o → FCalls CX 28 0 (argsE 2 (canS sgF28 lk M).env) (canS sgF28 lk M).mem (valF28 o) (memF28 o)
noncomputable def csF28 (N : Nat) (R : Type) : List (CE R) := [ce54n0 (F54 N) R (fun _ _ => true)]
theorem hcsF28 (N : Nat) (R : Type) : AllE (CeOk CX) (csF28 N R) := ⟨okce54n0 (F54 N) (soundF54 N) R (fun _ _ => true), trivial⟩
noncomputable def T28ur1 (N : Nat) (R : Type) : LTab R := mkTab ⟨21, 2097151⟩ (csF28 N R) (noY) [] [] []
theorem okT28ur1 (N : Nat) (R : Type) : (T28ur1 N R).Ok CX code28 := mkTab_ok (hcsF28 N R) (noY_ok) (trivial) (trivial) (trivial)
def rsF28 : List ResultVar := [.tmp 4]
def F28 : Nat → TF28
  | 0 => fun _ _ _ _ => none
  | N + 1 => fun x0c0 x0c1 x1c0 x1c1 =>
    match F54 N x0c0 x0c1 with
    | none => none
    | some (.r rx0v1) =>
      match rx0v1 with
      | true =>
        some (.r true)
      | false =>
        match decide (x1c0 ≤ x0c0) with
        | true =>
          some (.r (decide (x0c1 ≤ x1c1)))
        | false =>
          some (.r false)
def xRF28 : XSh R28 := ⟨[], ⟨[(0, .one (.cell (.bool)))], []⟩, fun _ => [], fun s => .r ((Eng.look s.env 0).toB)⟩
theorem fsF28 : ∀ (N : Nat) (lk : Nat → AV) (M : List Blk), FFF28 (F28 (N + 1)) (canS sgF28 lk M) = evfn CX (T28ur1 N R28) code28 rsF28 (argsE 2 (canS sgF28 lk M).env) (canS sgF28 lk M).mem (goR CX 0 (fun _ => some xRF28)) := by intro N lk M; kernel_rfl
theorem soundF28 : ∀ N, RecOkF28 (F28 N)
  | 0, lk, M, o, h => by cases h
  | N + 1, lk, M, o, h => fn_sound hX (okT28ur1 N R28) Try.func28 hb28 rfl en28 (by kernel_rfl) (ys := fun _ => some xRF28) (fun st y h => by injection h with h; subst h; exact fun lk M => ⟨rfl, rfl⟩) ((fsF28 N lk M).symm.trans h)
def cvce28n0 : List Cv := []
def selce28n0 : St → List Nat := fun _ => []
noncomputable def ce28n0 (Fx : TF28) (R : Type) (test : List AV → List Blk → Bool) : CE R := ⟨28, test, fun args M => some (selce28n0 ⟨argEnv 0 args, M, [], .unk⟩), fun args M k => tst (Nat.beq args.length 2) (callFn CX 0 cvce28n0 sgF28 selce28n0 (FFF28 Fx) elF28 args M k)⟩
theorem okce28n0 (Fx : TF28) (h : RecOkF28 Fx) (R : Type) (test : List AV → List Blk → Bool) : CeOk CX (ce28n0 Fx R test) := ce_ok hX (fun o k => by cases o; rfl) h en28 (fun args M ids h => by injection h with h; exact ⟨rfl, h.symm⟩)
end Go.Proofs.Ytnfmdenclkdmbaa

namespace Go.Proofs.Ytnfmdenclkdmbaa
open Go Go.Eng
set_option maxRecDepth 100000

/-! ### F30: ceiling/num.Meet -/
inductive R30 where
  | r (x0c0 : Int) (x0c1 : Int)
abbrev TF30 := Int → Int → Int → Int → Option R30
def sgF30 : LSh := ⟨[(0, .agg [.cell (.int .i64), .cell (.int .i64)]), (1, .agg [.cell (.int .i64), .cell (.int .i64)])], []⟩
def FFF30 (Fx : TF30) (s : St) : Option R30 := Fx (((Eng.look s.env 0).cells.getD 0 .top).toI) (((Eng.look s.env 0).cells.getD 1 .top).toI) (((Eng.look s.env 1).cells.getD 0 .top).toI) (((Eng.look s.env 1).cells.getD 1 .top).toI)
def valF30 (o : R30) : AV := match o with | .r x0c0 x0c1 => .agg [.int .i64 x0c0, .int .i64 x0c1]
def memF30 (o : R30) : List Blk := match o with | .r x0c0 x0c1 => []
def elF30 {R : Type} (o : R30) (k : AV → List Blk → Option R) : Option R := match o with | .r x0c0 x0c1 => k (.agg [.int .i64 x0c0, .int .i64 x0c1]) []
def RecOkF30 (Fx : TF30) : Prop := ∀ lk M o, FFF30 Fx (canS sgF30 lk M) = some o → FCalls CX 30 0 (argsE 2 (canS sgF30 lk M).env) (canS sgF30 lk M).mem (valF30 o) (memF30 o)
noncomputable def csF30 (N : Nat) (R : Type) : List (CE R) := [ce41n0 (F41 N) R (fun _ _ => true), ce42n0 (F42 N) R (fun _ _ => true)]
theorem hcsF30 (N : Nat) (R : Type) : AllE (CeOk CX) (csF30 N R) := ⟨okce41n0 (F41 N) (soundF41 N) R (fun _ _ => true), okce42n0 (F42 N) (soundF42 N) R (fun _ _ => true), trivial⟩
noncomputable def T30ur1 (N : Nat) (R : Type) : LTab R := mkTab ⟨22, 4194303⟩ (csF30 N R) (noY) [] [] []
theorem okT30ur1 (N : Nat) (R : Type) : (T30ur1 N R).Ok CX code30 := mkTab_ok (hcsF30 N R) (noY_ok) (trivial) (trivial) (trivial)
def rsF30 : List ResultVar := [.cell 4 29]
def F30 : Nat → TF30
  | 0 => fun _ _ _ _ => none
  | N + 1 => fun x0c0 x0c1 x1c0 x1c1 =>
    match F41 N (Eng.imax x0c0 x1c0) (Eng.imin x0c1 x1c1) with
    | none => none
    | some (.r rx0v1) =>
      match !rx0v1 with
      | true =>
        some (.r (Eng.imax x0c0 x1c0) (Eng.imin x0c1 x1c1))
      | false =>
        match F42 N  with
        | none => none
        | some (.r rx0c0v2 rx0c1v2) =>
          some (.r rx0c0v2 rx0c1v2)
def xRF30 : XSh R30 := ⟨[], ⟨[(0, .agg [.cell (.int .i64), .cell (.int .i64)])], []⟩, fun _ => [], fun s => .r (((Eng.look s.env 0).cells.getD 0 .top).toI) (((Eng.look s.env 0).cells.getD 1 .top).toI)⟩
theorem fsF30 : ∀ (N : Nat) (lk : Nat → AV) (M : List Blk), FFF30 (F30 (N + 1)) (canS sgF30 lk M) = evfn CX (T30ur1 N R30) code30 rsF30 (argsE 2 (canS sgF30 lk M).env) (canS sgF30 lk M).mem (goR CX 0 (fun _ => some xRF30)) := by intro N lk M; kernel_rfl
theorem soundF30 : ∀ N, RecOkF30 (F30 N)
  | 0, lk, M, o, h => by cases h
  | N + 1, lk, M, o, h => fn_sound hX (okT30ur1 N R30) Try.func30 hb30 rfl en30 (by kernel_rfl) (ys := fun _ => some xRF30) (fun st y h => by injection h with h; subst h; exact fun lk M => ⟨rfl, rfl⟩) ((fsF30 N lk M).symm.trans h)
def cvce30n0 : List Cv := []
def selce30n0 : St → List Nat := fun _ => []
noncomputable def ce30n0 (Fx : TF30) (R : Type) (test : List AV → List Blk → Bool) : CE R := ⟨30, test, fun args M => some (selce30n0 ⟨argEnv 0 args, M, [], .unk⟩), fun args M k => tst (Nat.beq args.length 2) (callFn CX 0 cvce30n0 sgF30 selce30n0 (FFF30 Fx) elF30 args M k)⟩
theorem okce30n0 (Fx : TF30) (h : RecOkF30 Fx) (R : Type) (test : List AV → List Blk → Bool) : CeOk CX (ce30n0 Fx R test) := ce_ok hX (fun o k => by cases o; rfl) h en30 (fun args M ids h => by injection h with h; exact ⟨rfl, h.symm⟩)
end Go.Proofs.Ytnfmdenclkdmbaa

namespace Go.Proofs.Ytnfmdenclkdmbaa
open Go Go.Eng
set_option maxRecDepth 100000

/-! ### F32: ceiling/ceilingref01.Widen -/
inductive R32 where
  | r (x0c0 : Int) (x0c1 : Int)
abbrev TF32 := Int → Int → Int → Int → Int → Int → Option R32
def sgF32 : LSh := ⟨[(0, .agg [.cell (.int .i64), .cell (.int .i64)]), (1, .agg [.cell (.int .i64), .cell (.int .i64)]), (2, .agg [.cell (.int .i64), .cell (.int .i64)])], []⟩
def FFF32 (Fx : TF32) (s : St) : Option R32 := Fx (((Eng.look s.env 0).cells.getD 0 .top).toI) (((Eng.look s.env 0).cells.getD 1 .top).toI) (((Eng.look s.env 1).cells.getD 0 .top).toI) (((Eng.look s.env 1).cells.getD 1 .top).toI) (((Eng.look s.env 2).cells.getD 0 .top).toI) (((Eng.look s.env 2).cells.getD 1 .top).toI)
def valF32 (o : R32) : AV := match o with | .r x0c0 x0c1 => .agg [.int .i64 x0c0, .int .i64 x0c1]
def memF32 (o : R32) : List Blk := match o with | .r x0c0 x0c1 => []
def elF32 {R : Type} (o : R32) (k : AV → List Blk → Option R) : Option R := match o with | .r x0c0 x0c1 => k (.agg [.int .i64 x0c0, .int .i64 x0c1]) []
def RecOkF32 (Fx : TF32) : Prop := ∀ lk M o, FFF32 Fx (canS sgF32 lk M) = some o → FCalls CX 32 0 (argsE 3 (canS sgF32 lk M).env) (canS sgF32 lk M).mem (valF32 o) (memF32 o)
noncomputable def csF32 (N : Nat) (R : Type) : List (CE R) := [ce29n0 (F29 N) R (fun _ _ => true), ce54n0 (F54 N) R (fun _ _ => true), ce63n0 (F63 N) R (fun _ _ => true)]
theorem hcsF32 (N : Nat) (R : Type) : AllE (CeOk CX) (csF32 N R) := ⟨okce29n0 (F29 N) (soundF29 N) R (fun _ _ => true), okce54n0 (F54 N) (soundF54 N) R (fun _ _ => true), okce63n0 (F63 N) (soundF63 N) R (fun _ _ => true), trivial⟩
inductive OJ32a6 where
  | nx (b0c0 : Int) (b0c1 : Int) (b1c0 : Int) (b1c1 : Int) (b2c0 : Int) (b2c1 : Int)
  | ret (b0c0 : Int) (b0c1 : Int) (b1c0 : Int) (b1c1 : Int) (b2c0 : Int) (b2c1 : Int)
def J32a6 (N : Nat) : Int → Int → Int → Int → Int → Int → Option OJ32a6 := fun b0c0 b0c1 b1c0 b1c1 b2c0 b2c1 =>
    match F54 N b0c0 b0c1 with
    | none => none
    | some (.r rx0v1) =>
      match rx0v1 with
      | true =>
        match F29 N b0c0 b0c1 b1c0 b1c1 with
        | none => none
        | some (.r rx0c0v2 rx0c1v2) =>
          some (.ret b0c0 b0c1 b1c0 b1c1 rx0c0v2 rx0c1v2)
      | false =>
        match F54 N b1c0 b1c1 with
        | none => none
        | some (.r rx0v3) =>
          match rx0v3 with
          | true =>
            match F29 N b0c0 b0c1 b1c0 b1c1 with
            | none => none
            | some (.r rx0c0v4 rx0c1v4) =>
              some (.ret b0c0 b0c1 b1c0 b1c1 rx0c0v4 rx0c1v4)
          | false =>
            some (.nx b0c0 b0c1 b1c0 b1c1 b2c0 b2c1)
def LFJ32a6 (N : Nat) (s : St) : Option OJ32a6 := J32a6 N (((s.mem.getD 0 .dead).cells.getD 0 .top).toI) (((s.mem.getD 0 .dead).cells.getD 1 .top).toI) (((s.mem.getD 1 .dead).cells.getD 0 .top).toI) (((s.mem.getD 1 .dead).cells.getD 1 .top).toI) (((s.mem.getD 2 .dead).cells.getD 0 .top).toI) (((s.mem.getD 2 .dead).cells.getD 1 .top).toI)
def sgJ32a6 : LSh := ⟨[(3, .one (.ptr 0 0 0)), (4, .one (.ptr 1 0 0)), (6, .one (.ptr 2 0 0))], [.var [.int .i64, .int .i64] [.cell (.int .i64), .cell (.int .i64)], .var [.int .i64, .int .i64] [.cell (.int .i64), .cell (.int .i64)], .var [.int .i64, .int .i64] [.cell (.int .i64), .cell (.int .i64)]]⟩
def ceJ32a6 : List Cv := []
def seJ32a6 : St → List Nat := fun st => [(Eng.look st.env 3).id, (Eng.look st.env 4).id, (Eng.look st.env 6).id]
def xJ32a6wnx : XSh OJ32a6 := ⟨[], ⟨[], [.var [.int .i64, .int .i64] [.cell (.int .i64), .cell (.int .i64)], .var [.int .i64, .int .i64] [.cell (.int .i64), .cell (.int .i64)], .var [.int .i64, .int .i64] [.cell (.int .i64), .cell (.int .i64)]]⟩, fun st => [0, 1, 2], fun s => .nx (((s.mem.getD 0 .dead).cells.getD 0 .top).toI) (((s.mem.getD 0 .dead).cells.getD 1 .top).toI) (((s.mem.getD 1 .dead).cells.getD 0 .top).toI) (((s.mem.getD 1 .dead).cells.getD 1 .top).toI) (((s.mem.getD 2 .dead).cells.getD 0 .top).toI) (((s.mem.getD 2 .dead).cells.getD 1 .top).toI)⟩
def xJ32a6wret : XSh OJ32a6 := ⟨[], ⟨[], [.var [.int .i64, .int .i64] [.cell (.int .i64), .cell (.int .i64)], .var [.int .i64, .int .i64] [.cell (.int .i64), .cell (.int .i64)], .var [.int .i64, .int .i64] [.cell (.int .i64), .cell (.int .i64)]]⟩, fun st => [0, 1, 2], fun s => .ret (((s.mem.getD 0 .dead).cells.getD 0 .top).toI) (((s.mem.getD 0 .dead).cells.getD 1 .top).toI) (((s.mem.getD 1 .dead).cells.getD 0 .top).toI) (((s.mem.getD 1 .dead).cells.getD 1 .top).toI) (((s.mem.getD 2 .dead).cells.getD 0 .top).toI) (((s.mem.getD 2 .dead).cells.getD 1 .top).toI)⟩
def xsJ32a6 : Ex → St → Option (XSh OJ32a6) := fun e st => match e with
  | .normal => some xJ32a6wnx
  | .ret => some xJ32a6wret
  | _ => none
def exJ32a6 (o : OJ32a6) : Ex := match o with | .nx b0c0 b0c1 b1c0 b1c1 b2c0 b2c1 => .normal | .ret b0c0 b0c1 b1c0 b1c1 b2c0 b2c1 => .ret
def stJ32a6 (o : OJ32a6) : St := match o with | .nx b0c0 b0c1 b1c0 b1c1 b2c0 b2c1 => ⟨[], [.var [.int .i64, .int .i64] [.int .i64 b0c0, .int .i64 b0c1], .var [.int .i64, .int .i64] [.int .i64 b1c0, .int .i64 b1c1], .var [.int .i64, .int .i64] [.int .i64 b2c0, .int .i64 b2c1]], [], .unk⟩ | .ret b0c0 b0c1 b1c0 b1c1 b2c0 b2c1 => ⟨[], [.var [.int .i64, .int .i64] [.int .i64 b0c0, .int .i64 b0c1], .var [.int .i64, .int .i64] [.int .i64 b1c0, .int .i64 b1c1], .var [.int .i64, .int .i64] [.int .i64 b2c0, .int .i64 b2c1]], [], .unk⟩
def elJ32a6 {R : Type} (o : OJ32a6) (k : Ex → St → Option R) : Option R := match o with | .nx b0c0 b0c1 b1c0 b1c1 b2c0 b2c1 => k .normal ⟨[], [.var [.int .i64, .int .i64] [.int .i64 b0c0, .int .i64 b0c1], .var [.int .i64, .int .i64] [.int .i64 b1c0, .int .i64 b1c1], .var [.int .i64, .int .i64] [.int .i64 b2c0, .int .i64 b2c1]], [], .unk⟩ | .ret b0c0 b0c1 b1c0 b1c1 b2c0 b2c1 => k .ret ⟨[], [.var [.int .i64, .int .i64] [.int .i64 b0c0, .int .i64 b0c1], .var [.int .i64, .int .i64] [.int .i64 b1c0, .int .i64 b1c1], .var [.int .i64, .int .i64] [.int .i64 b2c0, .int .i64 b2c1]], [], .unk⟩
theorem heJ32a6 {R : Type} (o : OJ32a6) (k : Ex → St → Option R) : elJ32a6 o k = k (exJ32a6 o) (stJ32a6 o) := by cases o <;> rfl
theorem hxJ32a6 : ∀ e st x, xsJ32a6 e st = some x → outOk x e exJ32a6 stJ32a6 := by
  intro e st x h
  unfold xsJ32a6 at h
  repeat' split at h
  all_goals first
    | (injection h with h; subst h; exact fun lk M => ⟨rfl, rfl⟩)
    | cases h
noncomputable def T32uc6 (N : Nat) (R : Type) : LTab R := mkTab ⟨51, 130816⟩ (csF32 N R) (noY) [] [] []
theorem okT32uc6 (N : Nat) (R : Type) : (T32uc6 N R).Ok CX code32 := mkTab_ok (hcsF32 N R) (noY_ok) (trivial) (trivial) (trivial)
noncomputable def bdJ32a6 : Code := (codeAt code32 [false, true]).getD .skip
theorem hsJ32a6 (N : Nat) : ∀ (lk : Nat → AV) (M : List Blk), LFJ32a6 N (canS sgJ32a6 lk M) = evk CX (T32uc6 N OJ32a6) bdJ32a6 6 (canS sgJ32a6 lk M) (kontX CX 3 xsJ32a6) := by intro lk M; kernel_rfl
inductive OJ32a30 where
  | nx (b0c0 : Int) (b0c1 : Int) (b1c0 : Int) (b1c1 : Int) (b2c0 : Int) (b2c1 : Int) (b3c0 : Int) (b3c1 : Int)
def J32a30 (N : Nat) : Int → Int → Int → Int → Int → Int → Int → Int → Option OJ32a30 := fun b0c0 b0c1 b1c0 b1c1 b2c0 b2c1 b3c0 b3c1 =>
    match decide (b0c0 ≤ b1c0) with
    | true =>
      some (.nx b0c0 b0c1 b1c0 b1c1 b2c0 b2c1 b0c0 b3c1)
    | false =>
      match decide (b2c0 ≤ b1c0) with
      | true =>
        some (.nx b0c0 b0c1 b1c0 b1c1 b2c0 b2c1 b2c0 b3c1)
      | false =>
        some (.nx b0c0 b0c1 b1c0 b1c1 b2c0 b2c1 b3c0 b3c1)
def LFJ32a30 (N : Nat) (s : St) : Option OJ32a30 := J32a30 N (((s.mem.getD 0 .dead).cells.getD 0 .top).toI) (((s.mem.getD 0 .dead).cells.getD 1 .top).toI) (((s.mem.getD 1 .dead).cells.getD 0 .top).toI) (((s.mem.getD 1 .dead).cells.getD 1 .top).toI) (((s.mem.getD 2 .dead).cells.getD 0 .top).toI) (((s.mem.getD 2 .dead).cells.getD 1 .top).toI) (((s.mem.getD 3 .dead).cells.getD 0 .top).toI) (((s.mem.getD 3 .dead).cells.getD 1 .top).toI)
def sgJ32a30 : LSh := ⟨[(3, .one (.ptr 0 0 0)), (4, .one (.ptr 1 0 0)), (5, .one (.ptr 2 0 0)), (7, .one (.ptr 3 0 0))], [.var [.int .i64, .int .i64] [.cell (.int .i64), .cell (.int .i64)], .var [.int .i64, .int .i64] [.cell (.int .i64), .cell (.int .i64)], .var [.int .i64, .int .i64] [.cell (.int .i64), .cell (.int .i64)], .var [.int .i64, .int .i64] [.cell (.int .i64), .cell (.int .i64)]]⟩
def ceJ32a30 : List Cv := []
def seJ32a30 : St → List Nat := fun st => [(Eng.look st.env 3).id, (Eng.look st.env 4).id, (Eng.look st.env 5).id, (Eng.look st.env 7).id]
def xJ32a30wnx : XSh OJ32a30 := ⟨[], ⟨[], [.var [.int .i64, .int .i64] [.cell (.int .i64), .cell (.int .i64)], .var [.int .i64, .int .i64] [.cell (.int .i64), .cell (.int .i64)], .var [.int .i64, .int .i64] [.cell (.int .i64), .cell (.int .i64)], .var [.int .i64, .int .i64] [.cell (.int .i64), .cell (.int .i64)]]⟩, fun st => [0, 1, 2, 3], fun s => .nx (((s.mem.getD 0 .dead).cells.getD 0 .top).toI) (((s.mem.getD 0 .dead).cells.getD 1 .top).toI) (((s.mem.getD 1 .dead).cells.getD 0 .top).toI) (((s.mem.getD 1 .dead).cells.getD 1 .top).toI) (((s.mem.getD 2 .dead).cells.getD 0 .top).toI) (((s.mem.getD 2 .dead).cells.getD 1 .top).toI) (((s.mem.getD 3 .dead).cells.getD 0 .top).toI) (((s.mem.getD 3 .dead).cells.getD 1 .top).toI)⟩
def xsJ32a30 : Ex → St → Option (XSh OJ32a30) := fun e st => match e with
  | .normal => some xJ32a30wnx
  | _ => none
def exJ32a30 (o : OJ32a30) : Ex := match o with | .nx b0c0 b0c1 b1c0 b1c1 b2c0 b2c1 b3c0 b3c1 => .normal
def stJ32a30 (o : OJ32a30) : St := match o with | .nx b0c0 b0c1 b1c0 b1c1 b2c0 b2c1 b3c0 b3c1 => ⟨[], [.var [.int .i64, .int .i64] [.int .i64 b0c0, .int .i64 b0c1], .var [.int .i64, .int .i64] [.int .i64 b1c0, .int .i64 b1c1], .var [.int .i64, .int .i64] [.int .i64 b2c0, .int .i64 b2c1], .var [.int .i64, .int .i64] [.int .i64 b3c0, .int .i64 b3c1]], [], .unk⟩
def elJ32a30 {R : Type} (o : OJ32a30) (k : Ex → St → Option R) : Option R := match o with | .nx b0c0 b0c1 b1c0 b1c1 b2c0 b2c1 b3c0 b3c1 => k .normal ⟨[], [.var [.int .i64, .int .i64] [.int .i64 b0c0, .int .i64 b0c1], .var [.int .i64, .int .i64] [.int .i64 b1c0, .int .i64 b1c1], .var [.int .i64, .int .i64] [.int .i64 b2c0, .int .i64 b2c1], .var [.int .i64, .int .i64] [.int .i64 b3c0, .int .i64 b3c1]], [], .unk⟩
theorem heJ32a30 {R : Type} (o : OJ32a30) (k : Ex → St → Option R) : elJ32a30 o k = k (exJ32a30 o) (stJ32a30 o) := by cases o <;> rfl
theorem hxJ32a30 : ∀ e st x, xsJ32a30 e st = some x → outOk x e exJ32a30 stJ32a30 := by
  intro e st x h
  unfold xsJ32a30 at h
  repeat' split at h
  all_goals first
    | (injection h with h; subst h; exact fun lk M => ⟨rfl, rfl⟩)
    | cases h
noncomputable def T32uc30 (N : Nat) (R : Type) : LTab R := mkTab ⟨51, 17179607040⟩ (csF32 N R) (noY) [] [] []
theorem okT32uc30 (N : Nat) (R : Type) : (T32uc30 N R).Ok CX code32 := mkTab_ok (hcsF32 N R) (noY_ok) (trivial) (trivial) (trivial)
noncomputable def bdJ32a30 : Code := (codeAt code32 [false, true, true, true]).getD .skip
theorem hsJ32a30 (N : Nat) : ∀ (lk : Nat → AV) (M : List Blk), LFJ32a30 N (canS sgJ32a30 lk M) = evk CX (T32uc30 N OJ32a30) bdJ32a30 30 (canS sgJ32a30 lk M) (kontX CX 4 xsJ32a30) := by intro lk M; kernel_rfl
noncomputable def T32ur1 (N : Nat) (R : Type) : LTab R := mkTab ⟨51, 2251799813685247⟩ (csF32 N R) (noY) [] [] [(6, fun st k => callLoop CX 3 130816 ceJ32a6 sgJ32a6 seJ32a6 ⟨51, 2251799813685247⟩ (LFJ32a6 N) elJ32a6 st k), (30, fun st k => callLoop CX 4 17179607040 ceJ32a30 sgJ32a30 seJ32a30 ⟨51, 2251799813685247⟩ (LFJ32a30 N) elJ32a30 st k)]
theorem okT32ur1 (N : Nat) (R : Type) : (T32ur1 N R).Ok CX code32 := mkTab_ok (hcsF32 N R) (noY_ok) (trivial) (trivial) (⟨cut_ok hX (path := [false, true]) (by kernel_rfl) (by rfl) (okT32uc6 N OJ32a6) (hsJ32a6 N) hxJ32a6 rfl heJ32a6, cut_ok hX (path := [false, true, true, true]) (by kernel_rfl) (by rfl) (okT32uc30 N OJ32a30) (hsJ32a30 N) hxJ32a30 rfl heJ32a30, trivial⟩)
def rsF32 : List ResultVar := [.cell 6 29]
def F32 : Nat → TF32
  | 0 => fun _ _ _ _ _ _ => none
  | N + 1 => fun x0c0 x0c1 x1c0 x1c1 x2c0 x2c1 =>
    match J32a6 N x0c0 x0c1 x1c0 x1c1 0 0 with
    | none => none
    | some (.nx b0c0v5 b0c1v5 b1c0v5 b1c1v5 b2c0v5 b2c1v5) =>
      match F63 N  with
      | none => none
      | some (.r rx0c0v6 rx0c1v6) =>
        match J32a30 N b0c0v5 b0c1v5 b1c0v5 b1c1v5 x2c0 x2c1 rx0c0v6 rx0c1v6 with
        | none => none
        | some (.nx b0c0v7 b0c1v7 b1c0v7 b1c1v7 b2c0v7 b2c1v7 b3c0v7 b3c1v7) =>
          match decide (b1c1v7 ≤ b0c1v7) with
          | true =>
            some (.r b3c0v7 b0c1v7)
          | false =>
            match decide (b1c1v7 ≤ b2c1v7) with
            | true =>
              some (.r b3c0v7 b2c1v7)
            | false =>
              some (.r b3c0v7 b3c1v7)
    | some (.ret b0c0v8 b0c1v8 b1c0v8 b1c1v8 b2c0v8 b2c1v8) =>
      some (.r b2c0v8 b2c1v8)
def xRF32 : XSh R32 := ⟨[], ⟨[(0, .agg [.cell (.int .i64), .cell (.int .i64)])], []⟩, fun _ => [], fun s => .r (((Eng.look s.env 0).cells.getD 0 .top).toI) (((Eng.look s.env 0).cells.getD 1 .top).toI)⟩
theorem fsF32 : ∀ (N : Nat) (lk : Nat → AV) (M : List Blk), FFF32 (F32 (N + 1)) (canS sgF32 lk M) = evfn CX (T32ur1 N R32) code32 rsF32 (argsE 3 (canS sgF32 lk M).env) (canS sgF32 lk M).mem (goR CX 0 (fun _ => some xRF32)) := by intro N lk M; kernel_rfl
theorem soundF32 : ∀ N, RecOkF32 (F32 N)
  | 0, lk, M, o, h => by cases h
  | N + 1, lk, M, o, h => fn_sound hX (okT32ur1 N R32) Try.func32 hb32 rfl en32 (by kernel_rfl) (ys := fun _ => some xRF32) (fun st y h => by injection h with h; subst h; exact fun lk M => ⟨rfl, rfl⟩) ((fsF32 N lk M).symm.trans h)
def cvce32n0 : List Cv := []
def selce32n0 : St → List Nat := fun _ => []
noncomputable def ce32n0 (Fx : TF32) (R : Type) (test : List AV → List Blk → Bool) : CE R := ⟨32, test, fun args M => some (selce32n0 ⟨argEnv 0 args, M, [], .unk⟩), fun args M k => tst (Nat.beq args.length 3) (callFn CX 0 cvce32n0 sgF32 selce32n0 (FFF32 Fx) elF32 args M k)⟩
theorem okce32n0 (Fx : TF32) (h : RecOkF32 Fx) (R : Type) (test : List AV → List Blk → Bool) : CeOk CX (ce32n0 Fx R test) := ce_ok hX (fun o k => by cases o; rfl) h en32 (fun args M ids h => by injection h with h; exact ⟨rfl, h.symm⟩)
end Go.Proofs.Ytnfmdenclkdmbaa

namespace Go.Proofs.Ytnfmdenclkdmbaa
open Go Go.Eng
set_option maxRecDepth 100000

/-! ### F10: ceiling/ceilinglaw01.NumIvals -/
inductive R10 where
  | r (x0 : Bool)
abbrev TF10 := Int → Int → Int → Int → Int → Int → Int → Option R10
def sgF10 : LSh := ⟨[(0, .agg [.cell (.int .i64), .cell (.int .i64)]), (1, .agg [.cell (.int .i64), .cell (.int .i64)]), (2, .agg [.cell (.int .i64), .cell (.int .i64)]), (3, .one (.cell (.int .i64)))], []⟩
def FFF10 (Fx : TF10) (s : St) : Option R10 := Fx (((Eng.look s.env 0).cells.getD 0 .top).toI) (((Eng.look s.env 0).cells.getD 1 .top).toI) (((Eng.look s.env 1).cells.getD 0 .top).toI) (((Eng.look s.env 1).cells.getD 1 .top).toI) (((Eng.look s.env 2).cells.getD 0 .top).toI) (((Eng.look s.env 2).cells.getD 1 .top).toI) ((Eng.look s.env 3).toI)
def valF10 (o : R10) : AV := match o with | .r x0 => .bool x0
def memF10 (o : R10) : List Blk := match o with | .r x0 => []
def elF10 {R : Type} (o : R10) (k : AV → List Blk → Option R) : Option R := match o with | .r x0 => k (.bool x0) []
def RecOkF10 (Fx : TF10) : Prop := ∀ lk M o, FFF10 Fx (canS sgF10 lk M) = some o → FCalls CX 10 0 (argsE 4 (canS sgF10 lk M).env) (canS sgF10 lk M).mem (valF10 o) (memF10 o)
noncomputable def csF10 (N : Nat) (R : Type) : List (CE R) := [ce16n0 (F16 N) R (fun _ _ => true), ce23n0 (F23 N) R (fun _ _ => true), ce24n0 (F24 N) R (fun _ _ => true), ce25n0 (F25 N) R (fun _ _ => true), ce26n0 (F26 N) R (fun _ _ => true), ce27n0 (F27 N) R (fun _ _ => true), ce28n0 (F28 N) R (fun _ _ => true), ce29n0 (F29 N) R (fun _ _ => true), ce30n0 (F30 N) R (fun _ _ => true), ce31n0 (F31 N) R (fun _ _ => true), ce32n0 (F32 N) R (fun _ _ => true)]
theorem hcsF10 (N : Nat) (R : Type) : AllE (CeOk CX) (csF10 N R) := ⟨okce16n0 (F16 N) (soundF16 N) R (fun _ _ => true), okce23n0 (F23 N) (soundF23 N) R (fun _ _ => true), okce24n0 (F24 N) (soundF24 N) R (fun _ _ => true), okce25n0 (F25 N) (soundF25 N) R (fun _ _ => true), okce26n0 (F26 N) (soundF26 N) R (fun _ _ => true), okce27n0 (F27 N) (soundF27 N) R (fun _ _ => true), okce28n0 (F28 N) (soundF28 N) R (fun _ _ => true), okce29n0 (F29 N) (soundF29 N) R (fun _ _ => true), okce30n0 (F30 N) (soundF30 N) R (fun _ _ => true), okce31n0 (F31 N) (soundF31 N) R (fun _ _ => true), okce32n0 (F32 N) (soundF32 N) R (fun _ _ => true), trivial⟩
noncomputable def T10ur1 (N : Nat) (R : Type) : LTab R := mkTab ⟨57, 144115188075855871⟩ (csF10 N R) (noY) [] [] []
theorem okT10ur1 (N : Nat) (R : Type) : (T10ur1 N R).Ok CX code10 := mkTab_ok (hcsF10 N R) (noY_ok) (trivial) (trivial) (trivial)
def rsF10 : List ResultVar := [.tmp 8]
def F10 : Nat → TF10
  | 0 => fun _ _ _ _ _ _ _ => none
  | N + 1 => fun x0c0 x0c1 x1c0 x1c1 x2c0 x2c1 x3 =>
    match F23 N x0c0 x0c1 x3 with
    | none => none
    | some (.r rx0v1) =>
      match F27 N x0c0 x0c1 x3 with
      | none => none
      | some (.r rx0v2) =>
        match rx0v1 == rx0v2 with
        | true =>
          match F24 N x0c0 x0c1 x1c0 x1c1 with
          | none => none
          | some (.r rx0v3) =>
            match F28 N x0c0 x0c1 x1c0 x1c1 with
            | none => none
            | some (.r rx0v4) =>
              match rx0v3 == rx0v4 with
              | true =>
                match F25 N x0c0 x0c1 x1c0 x1c1 with
                | none => none
                | some (.r rx0c0v5 rx0c1v5) =>
                  match F29 N x0c0 x0c1 x1c0 x1c1 with
                  | none => none
                  | some (.r rx0c0v6 rx0c1v6) =>
                    match ((rx0c0v5 == rx0c0v6) && ((rx0c1v5 == rx0c1v6) && true)) with
                    | true =>
                      match F30 N x0c0 x0c1 x1c0 x1c1 with
                      | none => none
                      | some (.r rx0c0v7 rx0c1v7) =>
                        match F31 N x0c0 x0c1 x1c0 x1c1 with
                        | none => none
                        | some (.r rx0c0v8 rx0c1v8) =>
                          match ((rx0c0v7 == rx0c0v8) && ((rx0c1v7 == rx0c1v8) && true)) with
                          | true =>
                            match F26 N x0c0 x0c1 x1c0 x1c1 x2c0 x2c1 with
                            | none => none
                            | some (.r rx0c0v9 rx0c1v9) =>
                              match F32 N x0c0 x0c1 x1c0 x1c1 x2c0 x2c1 with
                              | none => none
                              | some (.r rx0c0v10 rx0c1v10) =>
                                match ((rx0c0v9 == rx0c0v10) && ((rx0c1v9 == rx0c1v10) && true)) with
                                | true =>
                                  match F16 N  with
                                  | none => none
                                  | some (.r rx0v11) =>
                                    some (.r rx0v11)
                                | false =>
                                  some (.r false)
                          | false =>
                            some (.r false)
                    | false =>
                      some (.r false)
              | false =>
                some (.r false)
        | false =>
          some (.r false)
def xRF10 : XSh R10 := ⟨[], ⟨[(0, .one (.cell (.bool)))], []⟩, fun _ => [], fun s => .r ((Eng.look s.env 0).toB)⟩
theorem fsF10 : ∀ (N : Nat) (lk : Nat → AV) (M : List Blk), FFF10 (F10 (N + 1)) (canS sgF10 lk M) = evfn CX (T10ur1 N R10) code10 rsF10 (argsE 4 (canS sgF10 lk M).env) (canS sgF10 lk M).mem (goR CX 0 (fun _ => some xRF10)) := by intro N lk M; kernel_rfl
theorem soundF10 : ∀ N, RecOkF10 (F10 N)
  | 0, lk, M, o, h => by cases h
  | N + 1, lk, M, o, h => fn_sound hX (okT10ur1 N R10) Try.func10 hb10 rfl en10 (by kernel_rfl) (ys := fun _ => some xRF10) (fun st y h => by injection h with h; subst h; exact fun lk M => ⟨rfl, rfl⟩) ((fsF10 N lk M).symm.trans h)
end Go.Proofs.Ytnfmdenclkdmbaa

namespace Go.Proofs.Ytnfmdenclkdmbaa
open Go Go.Eng

def inI (x : Int) : Prop := -9223372036854775808 ≤ x ∧ x ≤ 9223372036854775807
theorem wrap_id {n : Int} (h : inI n) : IntKind.wrap .i64 n = n := by
  obtain ⟨h0, h1⟩ := h
  simp [IntKind.wrap, IntKind.bits, IntKind.signed]
  split <;> omega
theorem wrap_in (n : Int) : inI (IntKind.wrap .i64 n) := by
  simp [IntKind.wrap, IntKind.bits, IntKind.signed]
  unfold inI
  split <;> omega
theorem wrap_mod (n : Int) : ∃ k : Int, IntKind.wrap .i64 n = n + k * 18446744073709551616 := by
  simp [IntKind.wrap, IntKind.bits, IntKind.signed]
  split
  · exact ⟨-(n / 18446744073709551616) - 1, by omega⟩
  · exact ⟨-(n / 18446744073709551616), by omega⟩
theorem wrapBV (v : BitVec 64) : IntKind.wrap .i64 (v.toNat : Int) = v.toInt := by
  have := v.isLt
  rw [BitVec.toInt_eq_toNat_cond]
  simp [IntKind.wrap, IntKind.bits, IntKind.signed]
  split <;> split <;> omega
theorem toInt_ofInt {x : Int} (h : inI x) : (BitVec.ofInt 64 x).toInt = x := by
  obtain ⟨h0, h1⟩ := h
  rw [BitVec.toInt_ofInt, Int.bmod_def]
  split <;> omega
theorem msb_ofInt {x : Int} (h : inI x) : (BitVec.ofInt 64 x).msb = decide (x < 0) := by
  rw [BitVec.msb_eq_toInt, toInt_ofInt h]
theorem nonneg_toInt (v : BitVec 64) : decide (0 ≤ v.toInt) = !v.msb := by
  rw [BitVec.msb_eq_toInt]
  by_cases h : v.toInt < 0
  · simp [h]
  · have : 0 ≤ v.toInt := by omega
    simp [this]
theorem xor_sign {x y : Int} (hx : inI x) (hy : inI y) : decide (0 ≤ IntKind.wrap .i64 ((BitVec.ofInt 64 x ^^^ BitVec.ofInt 64 y).toNat : Int)) = (decide (x < 0) == decide (y < 0)) := by
  rw [wrapBV, nonneg_toInt, BitVec.msb_xor, msb_ofInt hx, msb_ofInt hy]
  cases decide (x < 0) <;> cases decide (y < 0) <;> rfl
theorem toNat_ofInt (x : Int) : ((BitVec.ofInt 64 x).toNat : Int) = x % 18446744073709551616 := by
  have h : (BitVec.ofInt 64 x).toNat = (x % 18446744073709551616).toNat := by rw [BitVec.toNat_ofInt]; rfl
  have : (0 : Int) ≤ x % 18446744073709551616 := Int.emod_nonneg _ (by decide)
  rw [h]
  omega
theorem bits2 {v : BitVec 64} (h : ∀ i, 1 ≤ i → v.getLsbD i = false) : v.toNat < 2 :=
  Nat.lt_pow_two_of_testBit (n := 1) v.toNat (fun i hi => by have := h i hi; rwa [← BitVec.testBit_toNat] at this)
theorem mask_or {a b : Int} (ha : inI a) (hb : inI b) : ((IntKind.wrap .i64 ((BitVec.ofInt 64 (IntKind.wrap .i64 ((BitVec.ofInt 64 a ||| BitVec.ofInt 64 b).toNat : Int)) &&& ~~~ BitVec.ofInt 64 (1 : Int)).toNat : Int)) != (0 : Int)) = !(decide (0 ≤ a ∧ a ≤ 1) && decide (0 ≤ b ∧ b ≤ 1)) := by
  rw [wrapBV, wrapBV, BitVec.ofInt_toInt]
  by_cases h : (0 ≤ a ∧ a ≤ 1) ∧ (0 ≤ b ∧ b ≤ 1)
  · obtain ⟨⟨h1, h2⟩, h3, h4⟩ := h
    have ea : a = 0 ∨ a = 1 := by omega
    have eb : b = 0 ∨ b = 1 := by omega
    rcases ea with rfl | rfl <;> rcases eb with rfl | rfl <;> decide
  · have hr : (decide (0 ≤ a ∧ a ≤ 1) && decide (0 ≤ b ∧ b ≤ 1)) = false := by
      rw [Bool.eq_false_iff]
      intro hc
      simp only [Bool.and_eq_true, decide_eq_true_eq] at hc
      exact h hc
    rw [hr]
    simp only [Bool.not_false, bne_iff_ne, ne_eq]
    intro hz
    apply h
    have hz' : (BitVec.ofInt 64 a ||| BitVec.ofInt 64 b) &&& ~~~BitVec.ofInt 64 1 = 0#64 := BitVec.eq_of_toInt_eq (by rw [hz]; rfl)
    have hbit : ∀ i, 1 ≤ i → (BitVec.ofInt 64 a).getLsbD i = false ∧ (BitVec.ofInt 64 b).getLsbD i = false := by
      intro i hi
      by_cases hlt : i < 64
      · have := congrArg (fun v => BitVec.getLsbD v i) hz'
        have h1 : (BitVec.ofInt 64 1).getLsbD i = false := by
          rw [show BitVec.ofInt 64 1 = 1#64 by rfl, BitVec.getLsbD_one]
          simp; omega
        simp only [BitVec.getLsbD_and, BitVec.getLsbD_or, BitVec.getLsbD_not, h1, hlt, decide_true, Bool.not_false, Bool.and_true, BitVec.getLsbD_zero, Bool.or_eq_false_iff] at this
        exact this
      · exact ⟨BitVec.getLsbD_of_ge _ _ (by omega), BitVec.getLsbD_of_ge _ _ (by omega)⟩
    have na := bits2 fun i hi => (hbit i hi).1
    have nb := bits2 fun i hi => (hbit i hi).2
    have ea := toNat_ofInt a
    have eb := toNat_ofInt b
    obtain ⟨a0, a1⟩ := ha
    obtain ⟨b0, b1⟩ := hb
    generalize (BitVec.ofInt 64 a).toNat = ma at *
    generalize (BitVec.ofInt 64 b).toNat = mb at *
    omega

/-- The document's examples. -/
theorem head_true : F16 40 = some (.r true) := by kernel_rfl
end Go.Proofs.Ytnfmdenclkdmbaa

namespace Go.Proofs.Ytnfmdenclkdmbaa
open Go Go.Eng

def w (x : Int) : Int := IntKind.wrap .i64 x
def tr (b : Bool) : Int := if b then 1 else 0
def modS (a b : Int) : Int := if Int.tmod a b = 0 then 0 else if (decide (Int.tmod a b < 0) == decide (b < 0)) then Int.tmod a b else w (Int.tmod a b + b)
def bw (f : BitVec 64 → BitVec 64 → BitVec 64) (a b : Int) : Int := w ((f (BitVec.ofInt 64 a) (BitVec.ofInt 64 b)).toNat : Int)
def divQ (b v : Int) : Int × Bool := if b = 0 then (0, false) else (v, true)
def apS (op a b : Int) : Int × Bool :=
  if op = 1 then (w (a + b), true) else
  if op = 2 then (w (a - b), true) else
  if op = 3 then (w (a * b), true) else
  if op = 4 then divQ b (w (Int.tdiv a b)) else
  if op = 5 then divQ b (Int.tmod a b) else
  if op = 6 then divQ b (modS a b) else
  if op = 7 then (tr (a == b), true) else
  if op = 8 then (tr (a != b), true) else
  if op = 9 then (tr (decide (a < b)), true) else
  if op = 10 then (tr (decide (a ≤ b)), true) else
  if op = 11 then (tr (decide (b < a)), true) else
  if op = 12 then (tr (decide (b ≤ a)), true) else
  if op = 13 then (bw (· &&& ·) a b, true) else
  if op = 14 then (bw (· ||| ·) a b, true) else
  if op = 15 then (bw (· ^^^ ·) a b, true) else
  if op = 16 then (w (0 - a), true) else
  if op = 17 then (imax a (w (0 - a)), true) else
  if op = 18 then (w (1 - a), true) else
  (0, false)

theorem tmod_in {a b : Int} (hb : inI b) (h0 : b ≠ 0) : inI (Int.tmod a b) := by
  have h : (Int.tmod a b).natAbs = a.natAbs % b.natAbs := Int.natAbs_tmod a b
  have h1 : a.natAbs % b.natAbs < b.natAbs := Nat.mod_lt _ (by omega)
  obtain ⟨b0, b1⟩ := hb
  unfold inI
  omega
theorem beq_f {x k : Int} (h : x ≠ k) : (x == k) = false := by simpa using h
theorem beq_t {x k : Int} (h : x = k) : (x == k) = true := by simpa using h
theorem F74_eq (N : Nat) {a b : Int} (hb : inI b) (h0 : b ≠ 0) : F74 (N + 1) a b = some (.r (modS a b)) := by
  unfold F74 modS
  simp only [beq_f h0, Bool.not_false, tst]
  by_cases h : Int.tmod a b = 0
  · rw [h]; rfl
  · simp only [beq_f h, if_neg h, xor_sign (tmod_in hb h0) hb]
    cases (decide (Int.tmod a b < 0) == decide (b < 0)) <;> rfl
theorem F39_eq (N : Nat) {a b : Int} (h0 : b ≠ 0) : F39 (N + 1) a b = some (.r (modS a b)) := by
  unfold F39 modS
  simp only [beq_f h0, Bool.not_false, tst, bne]
  by_cases h : Int.tmod a b = 0
  · rw [h]; rfl
  · simp only [beq_f h, if_neg h, Bool.not_false]
    cases (decide (Int.tmod a b < 0) == decide (b < 0)) <;> rfl
theorem F40_eq (N : Nat) (x : Bool) : F40 (N + 1) x = some (.r (tr x)) := by cases x <;> rfl
theorem F91_eq (N : Nat) (x : Bool) : F91 (N + 1) x = some (.r (tr x)) := by cases x <;> rfl
theorem F95_eq (N : Nat) (a b : Int) : F95 (N + 2) a b = some (.r (divQ b (w (Int.tdiv a b))).1 (divQ b (w (Int.tdiv a b))).2) := by
  unfold F95 F72 divQ
  by_cases h0 : b = 0
  · simp only [beq_t h0, if_pos h0]
  · simp only [beq_f h0, Bool.not_false, tst, if_neg h0, w]
theorem F95v1_eq (N : Nat) (a b : Int) : F95v1 (N + 2) a b = some (.r (divQ b (Int.tmod a b)).1 (divQ b (Int.tmod a b)).2) := by
  unfold F95v1 F73 divQ
  by_cases h0 : b = 0
  · simp only [beq_t h0, if_pos h0]
  · simp only [beq_f h0, Bool.not_false, tst, if_neg h0]
theorem F95v2_eq (N : Nat) {a b : Int} (hb : inI b) : F95v2 (N + 2) a b = some (.r (divQ b (modS a b)).1 (divQ b (modS a b)).2) := by
  unfold F95v2 divQ
  by_cases h0 : b = 0
  · simp only [beq_t h0, if_pos h0]
  · simp only [beq_f h0, F74_eq N hb h0, if_neg h0]
theorem F96_eq (N : Nat) (a b : Int) : F96 (N + 2) a b = some (.r (tr (a == b)) true) := by
  unfold F96 F76
  simp only [F91_eq]
theorem F96v1_eq (N : Nat) (a b : Int) : F96v1 (N + 2) a b = some (.r (tr (a != b)) true) := by
  unfold F96v1 F77
  simp only [F91_eq]
theorem F96v2_eq (N : Nat) (a b : Int) : F96v2 (N + 2) a b = some (.r (tr (decide (a < b))) true) := by
  unfold F96v2 F78
  simp only [F91_eq]
theorem F96v3_eq (N : Nat) (a b : Int) : F96v3 (N + 2) a b = some (.r (tr (decide (a ≤ b))) true) := by
  unfold F96v3 F79
  simp only [F91_eq]
theorem F96v4_eq (N : Nat) (a b : Int) : F96v4 (N + 2) a b = some (.r (tr (decide (b < a))) true) := by
  unfold F96v4 F80
  simp only [F91_eq]
theorem F96v5_eq (N : Nat) (a b : Int) : F96v5 (N + 2) a b = some (.r (tr (decide (b ≤ a))) true) := by
  unfold F96v5 F81
  simp only [F91_eq]
theorem F94v2_eq (N : Nat) (a b : Int) : F94v2 (N + 2) a b = some (.r (w (a * b)) true) := rfl
theorem F94v3_eq (N : Nat) (a b : Int) : F94v3 (N + 2) a b = some (.r (bw (· &&& ·) a b) true) := rfl
theorem F94v4_eq (N : Nat) (a b : Int) : F94v4 (N + 2) a b = some (.r (bw (· ||| ·) a b) true) := rfl
theorem F94v5_eq (N : Nat) (a b : Int) : F94v5 (N + 2) a b = some (.r (bw (· ^^^ ·) a b) true) := rfl
theorem F94v6_eq (N : Nat) (a b : Int) : F94v6 (N + 2) a b = some (.r (w (0 - a)) true) := rfl
theorem F94v7_eq (N : Nat) (a b : Int) : F94v7 (N + 2) a b = some (.r (imax a (w (0 - a))) true) := rfl
theorem F94v8_eq (N : Nat) (a b : Int) : F94v8 (N + 2) a b = some (.r (w (1 - a)) true) := rfl

theorem F17_eq (N : Nat) {op a b : Int} (hb : inI b) : F17 (N + 4) op a b = some (.r (apS op a b).1 (apS op a b).2) := by
  unfold F17
  by_cases h1 : op = 1
  · simp only [apS, beq_t h1, if_pos h1, w]
  by_cases h2 : op = 2
  · simp only [apS, beq_f h1, if_neg h1, beq_t h2, if_pos h2, w]
  by_cases h3 : op = 3
  · simp only [apS, beq_f h1, beq_f h2, if_neg h1, if_neg h2, beq_t h3, if_pos h3, F67, F67v1, F67v2, F67v3, F67v4, F67v5, F67v6, F67v7, F67v8, F71, F71v1, F71v2, F75, F75v1, F75v2, F75v3, F75v4, F75v5, F94v2_eq]
  by_cases h4 : op = 4
  · simp only [apS, beq_f h1, beq_f h2, beq_f h3, if_neg h1, if_neg h2, if_neg h3, beq_t h4, if_pos h4, F67, F67v1, F67v2, F67v3, F67v4, F67v5, F67v6, F67v7, F67v8, F71, F71v1, F71v2, F75, F75v1, F75v2, F75v3, F75v4, F75v5, F95_eq]
  by_cases h5 : op = 5
  · simp only [apS, beq_f h1, beq_f h2, beq_f h3, beq_f h4, if_neg h1, if_neg h2, if_neg h3, if_neg h4, beq_t h5, if_pos h5, F67, F67v1, F67v2, F67v3, F67v4, F67v5, F67v6, F67v7, F67v8, F71, F71v1, F71v2, F75, F75v1, F75v2, F75v3, F75v4, F75v5, F95v1_eq]
  by_cases h6 : op = 6
  · simp only [apS, beq_f h1, beq_f h2, beq_f h3, beq_f h4, beq_f h5, if_neg h1, if_neg h2, if_neg h3, if_neg h4, if_neg h5, beq_t h6, if_pos h6, F67, F67v1, F67v2, F67v3, F67v4, F67v5, F67v6, F67v7, F67v8, F71, F71v1, F71v2, F75, F75v1, F75v2, F75v3, F75v4, F75v5, F95v2_eq _ hb]
  by_cases h7 : op = 7
  · simp only [apS, beq_f h1, beq_f h2, beq_f h3, beq_f h4, beq_f h5, beq_f h6, if_neg h1, if_neg h2, if_neg h3, if_neg h4, if_neg h5, if_neg h6, beq_t h7, if_pos h7, F67, F67v1, F67v2, F67v3, F67v4, F67v5, F67v6, F67v7, F67v8, F71, F71v1, F71v2, F75, F75v1, F75v2, F75v3, F75v4, F75v5, F96_eq]
  by_cases h8 : op = 8
  · simp only [apS, beq_f h1, beq_f h2, beq_f h3, beq_f h4, beq_f h5, beq_f h6, beq_f h7, if_neg h1, if_neg h2, if_neg h3, if_neg h4, if_neg h5, if_neg h6, if_neg h7, beq_t h8, if_pos h8, F67, F67v1, F67v2, F67v3, F67v4, F67v5, F67v6, F67v7, F67v8, F71, F71v1, F71v2, F75, F75v1, F75v2, F75v3, F75v4, F75v5, F96v1_eq]
  by_cases h9 : op = 9
  · simp only [apS, beq_f h1, beq_f h2, beq_f h3, beq_f h4, beq_f h5, beq_f h6, beq_f h7, beq_f h8, if_neg h1, if_neg h2, if_neg h3, if_neg h4, if_neg h5, if_neg h6, if_neg h7, if_neg h8, beq_t h9, if_pos h9, F67, F67v1, F67v2, F67v3, F67v4, F67v5, F67v6, F67v7, F67v8, F71, F71v1, F71v2, F75, F75v1, F75v2, F75v3, F75v4, F75v5, F96v2_eq]
  by_cases h10 : op = 10
  · simp only [apS, beq_f h1, beq_f h2, beq_f h3, beq_f h4, beq_f h5, beq_f h6, beq_f h7, beq_f h8, beq_f h9, if_neg h1, if_neg h2, if_neg h3, if_neg h4, if_neg h5, if_neg h6, if_neg h7, if_neg h8, if_neg h9, beq_t h10, if_pos h10, F67, F67v1, F67v2, F67v3, F67v4, F67v5, F67v6, F67v7, F67v8, F71, F71v1, F71v2, F75, F75v1, F75v2, F75v3, F75v4, F75v5, F96v3_eq]
  by_cases h11 : op = 11
  · simp only [apS, beq_f h1, beq_f h2, beq_f h3, beq_f h4, beq_f h5, beq_f h6, beq_f h7, beq_f h8, beq_f h9, beq_f h10, if_neg h1, if_neg h2, if_neg h3, if_neg h4, if_neg h5, if_neg h6, if_neg h7, if_neg h8, if_neg h9, if_neg h10, beq_t h11, if_pos h11, F67, F67v1, F67v2, F67v3, F67v4, F67v5, F67v6, F67v7, F67v8, F71, F71v1, F71v2, F75, F75v1, F75v2, F75v3, F75v4, F75v5, F96v4_eq]
  by_cases h12 : op = 12
  · simp only [apS, beq_f h1, beq_f h2, beq_f h3, beq_f h4, beq_f h5, beq_f h6, beq_f h7, beq_f h8, beq_f h9, beq_f h10, beq_f h11, if_neg h1, if_neg h2, if_neg h3, if_neg h4, if_neg h5, if_neg h6, if_neg h7, if_neg h8, if_neg h9, if_neg h10, if_neg h11, beq_t h12, if_pos h12, F67, F67v1, F67v2, F67v3, F67v4, F67v5, F67v6, F67v7, F67v8, F71, F71v1, F71v2, F75, F75v1, F75v2, F75v3, F75v4, F75v5, F96v5_eq]
  by_cases h13 : op = 13
  · simp only [apS, beq_f h1, beq_f h2, beq_f h3, beq_f h4, beq_f h5, beq_f h6, beq_f h7, beq_f h8, beq_f h9, beq_f h10, beq_f h11, beq_f h12, if_neg h1, if_neg h2, if_neg h3, if_neg h4, if_neg h5, if_neg h6, if_neg h7, if_neg h8, if_neg h9, if_neg h10, if_neg h11, if_neg h12, beq_t h13, if_pos h13, F67, F67v1, F67v2, F67v3, F67v4, F67v5, F67v6, F67v7, F67v8, F71, F71v1, F71v2, F75, F75v1, F75v2, F75v3, F75v4, F75v5, F94v3_eq]
  by_cases h14 : op = 14
  · simp only [apS, beq_f h1, beq_f h2, beq_f h3, beq_f h4, beq_f h5, beq_f h6, beq_f h7, beq_f h8, beq_f h9, beq_f h10, beq_f h11, beq_f h12, beq_f h13, if_neg h1, if_neg h2, if_neg h3, if_neg h4, if_neg h5, if_neg h6, if_neg h7, if_neg h8, if_neg h9, if_neg h10, if_neg h11, if_neg h12, if_neg h13, beq_t h14, if_pos h14, F67, F67v1, F67v2, F67v3, F67v4, F67v5, F67v6, F67v7, F67v8, F71, F71v1, F71v2, F75, F75v1, F75v2, F75v3, F75v4, F75v5, F94v4_eq]
  by_cases h15 : op = 15
  · simp only [apS, beq_f h1, beq_f h2, beq_f h3, beq_f h4, beq_f h5, beq_f h6, beq_f h7, beq_f h8, beq_f h9, beq_f h10, beq_f h11, beq_f h12, beq_f h13, beq_f h14, if_neg h1, if_neg h2, if_neg h3, if_neg h4, if_neg h5, if_neg h6, if_neg h7, if_neg h8, if_neg h9, if_neg h10, if_neg h11, if_neg h12, if_neg h13, if_neg h14, beq_t h15, if_pos h15, F67, F67v1, F67v2, F67v3, F67v4, F67v5, F67v6, F67v7, F67v8, F71, F71v1, F71v2, F75, F75v1, F75v2, F75v3, F75v4, F75v5, F94v5_eq]
  by_cases h16 : op = 16
  · simp only [apS, beq_f h1, beq_f h2, beq_f h3, beq_f h4, beq_f h5, beq_f h6, beq_f h7, beq_f h8, beq_f h9, beq_f h10, beq_f h11, beq_f h12, beq_f h13, beq_f h14, beq_f h15, if_neg h1, if_neg h2, if_neg h3, if_neg h4, if_neg h5, if_neg h6, if_neg h7, if_neg h8, if_neg h9, if_neg h10, if_neg h11, if_neg h12, if_neg h13, if_neg h14, if_neg h15, beq_t h16, if_pos h16, F67, F67v1, F67v2, F67v3, F67v4, F67v5, F67v6, F67v7, F67v8, F71, F71v1, F71v2, F75, F75v1, F75v2, F75v3, F75v4, F75v5, F94v6_eq]
  by_cases h17 : op = 17
  · simp only [apS, beq_f h1, beq_f h2, beq_f h3, beq_f h4, beq_f h5, beq_f h6, beq_f h7, beq_f h8, beq_f h9, beq_f h10, beq_f h11, beq_f h12, beq_f h13, beq_f h14, beq_f h15, beq_f h16, if_neg h1, if_neg h2, if_neg h3, if_neg h4, if_neg h5, if_neg h6, if_neg h7, if_neg h8, if_neg h9, if_neg h10, if_neg h11, if_neg h12, if_neg h13, if_neg h14, if_neg h15, if_neg h16, beq_t h17, if_pos h17, F67, F67v1, F67v2, F67v3, F67v4, F67v5, F67v6, F67v7, F67v8, F71, F71v1, F71v2, F75, F75v1, F75v2, F75v3, F75v4, F75v5, F94v7_eq]
  by_cases h18 : op = 18
  · simp only [apS, beq_f h1, beq_f h2, beq_f h3, beq_f h4, beq_f h5, beq_f h6, beq_f h7, beq_f h8, beq_f h9, beq_f h10, beq_f h11, beq_f h12, beq_f h13, beq_f h14, beq_f h15, beq_f h16, beq_f h17, if_neg h1, if_neg h2, if_neg h3, if_neg h4, if_neg h5, if_neg h6, if_neg h7, if_neg h8, if_neg h9, if_neg h10, if_neg h11, if_neg h12, if_neg h13, if_neg h14, if_neg h15, if_neg h16, if_neg h17, beq_t h18, if_pos h18, F67, F67v1, F67v2, F67v3, F67v4, F67v5, F67v6, F67v7, F67v8, F71, F71v1, F71v2, F75, F75v1, F75v2, F75v3, F75v4, F75v5, F94v8_eq]
  simp only [apS, beq_f h1, beq_f h2, beq_f h3, beq_f h4, beq_f h5, beq_f h6, beq_f h7, beq_f h8, beq_f h9, beq_f h10, beq_f h11, beq_f h12, beq_f h13, beq_f h14, beq_f h15, beq_f h16, beq_f h17, beq_f h18, if_neg h1, if_neg h2, if_neg h3, if_neg h4, if_neg h5, if_neg h6, if_neg h7, if_neg h8, if_neg h9, if_neg h10, if_neg h11, if_neg h12, if_neg h13, if_neg h14, if_neg h15, if_neg h16, if_neg h17, if_neg h18, F67, F67v1, F67v2, F67v3, F67v4, F67v5, F67v6, F67v7, F67v8, F71, F71v1, F71v2, F75, F75v1, F75v2, F75v3, F75v4, F75v5]

theorem tdiv_neg1 (a : Int) : Int.tdiv a (-1) = -a := by rw [Int.tdiv_neg, Int.tdiv_one]
theorem tmod_neg1 (a : Int) : Int.tmod a (-1) = 0 := by rw [Int.tmod_neg, Int.tmod_one]
theorem abs_eq {a : Int} (ha : inI a) : (if a < 0 then w (0 - a) else a) = imax a (w (0 - a)) := by
  obtain ⟨a0, a1⟩ := ha
  by_cases hm : a = -9223372036854775808
  · subst hm; decide
  · unfold w imax
    rw [wrap_id (by unfold inI; omega)]
    split <;> split <;> omega
theorem J18_eq (N : Nat) (op : Int) : J18a3454 N op = some (.nx (decide (op = 4 ∨ op = 5 ∨ op = 6))) := by
  unfold J18a3454
  by_cases h4 : op = 4
  · simp [h4]
  by_cases h5 : op = 5
  · simp [h5]
  by_cases h6 : op = 6
  · simp [h6]
  simp only [beq_f h4, beq_f h5, beq_f h6, h4, h5, h6, or_self, decide_false]
theorem F18_div (N : Nat) {op a b : Int} (ho : op = 4 ∨ op = 5 ∨ op = 6) : F18 (N + 2) op a b = some (.r (apS op a b).1 (apS op a b).2) := by
  have h1 : op ≠ 1 := by omega
  have h2 : op ≠ 2 := by omega
  have h3 : op ≠ 3 := by omega
  unfold F18
  simp only [beq_f h1, beq_f h2, beq_f h3, J18_eq, ho, decide_true, apS, if_neg h1, if_neg h2, if_neg h3, divQ]
  by_cases h0 : b = 0
  · simp only [beq_t h0, if_pos h0]
    rcases ho with rfl | rfl | rfl <;> simp
  · simp only [beq_f h0, if_neg h0]
    by_cases hm : b = -1
    · subst hm
      simp only [beq_self_eq_true]
      rcases ho with h | h | h
      · simp only [beq_t h, if_pos h, tdiv_neg1, w, Int.zero_sub]
      · have h4 : op ≠ 4 := by omega
        simp only [beq_f h4, if_neg h4, if_pos h, tmod_neg1]
      · have h4 : op ≠ 4 := by omega
        have h5 : op ≠ 5 := by omega
        simp only [beq_f h4, if_neg h4, if_neg h5, if_pos h, tmod_neg1, modS, if_true]
    · simp only [beq_f hm, tst, F39_eq _ h0, Bool.not_false]
      rcases ho with h | h | h
      · simp only [beq_t h, if_pos h, w]
      · have h4 : op ≠ 4 := by omega
        simp only [beq_f h4, if_neg h4, beq_t h, if_pos h]
      · have h4 : op ≠ 4 := by omega
        have h5 : op ≠ 5 := by omega
        simp only [beq_f h4, if_neg h4, beq_f h5, if_neg h5, if_pos h]
theorem F18_eq (N : Nat) {op a b : Int} (ha : inI a) : F18 (N + 2) op a b = some (.r (apS op a b).1 (apS op a b).2) := by
  by_cases h456 : op = 4 ∨ op = 5 ∨ op = 6
  · exact F18_div N h456
  have h4 : op ≠ 4 := fun e => h456 (.inl e)
  have h5 : op ≠ 5 := fun e => h456 (.inr (.inl e))
  have h6 : op ≠ 6 := fun e => h456 (.inr (.inr e))
  unfold F18
  simp only [J18_eq, decide_eq_false h456]
  by_cases h1 : op = 1
  · simp only [apS, beq_t h1, if_pos h1, F40_eq, bw, w]
  by_cases h2 : op = 2
  · simp only [apS, beq_f h1, if_neg h1, beq_t h2, if_pos h2, F40_eq, bw, w]
  by_cases h3 : op = 3
  · simp only [apS, beq_f h1, beq_f h2, if_neg h1, if_neg h2, beq_t h3, if_pos h3, F40_eq, bw, w]
  by_cases h7 : op = 7
  · simp only [apS, beq_f h1, beq_f h2, beq_f h3, if_neg h1, if_neg h2, if_neg h3, if_neg h4, if_neg h5, if_neg h6, beq_t h7, if_pos h7, F40_eq, bw, w]
  by_cases h8 : op = 8
  · simp only [apS, beq_f h1, beq_f h2, beq_f h3, beq_f h7, if_neg h1, if_neg h2, if_neg h3, if_neg h4, if_neg h5, if_neg h6, if_neg h7, beq_t h8, if_pos h8, F40_eq, bw, w]
  by_cases h9 : op = 9
  · simp only [apS, beq_f h1, beq_f h2, beq_f h3, beq_f h7, beq_f h8, if_neg h1, if_neg h2, if_neg h3, if_neg h4, if_neg h5, if_neg h6, if_neg h7, if_neg h8, beq_t h9, if_pos h9, F40_eq, bw, w]
  by_cases h10 : op = 10
  · simp only [apS, beq_f h1, beq_f h2, beq_f h3, beq_f h7, beq_f h8, beq_f h9, if_neg h1, if_neg h2, if_neg h3, if_neg h4, if_neg h5, if_neg h6, if_neg h7, if_neg h8, if_neg h9, beq_t h10, if_pos h10, F40_eq, bw, w]
  by_cases h11 : op = 11
  · simp only [apS, beq_f h1, beq_f h2, beq_f h3, beq_f h7, beq_f h8, beq_f h9, beq_f h10, if_neg h1, if_neg h2, if_neg h3, if_neg h4, if_neg h5, if_neg h6, if_neg h7, if_neg h8, if_neg h9, if_neg h10, beq_t h11, if_pos h11, F40_eq, bw, w]
  by_cases h12 : op = 12
  · simp only [apS, beq_f h1, beq_f h2, beq_f h3, beq_f h7, beq_f h8, beq_f h9, beq_f h10, beq_f h11, if_neg h1, if_neg h2, if_neg h3, if_neg h4, if_neg h5, if_neg h6, if_neg h7, if_neg h8, if_neg h9, if_neg h10, if_neg h11, beq_t h12, if_pos h12, F40_eq, bw, w]
  by_cases h13 : op = 13
  · simp only [apS, beq_f h1, beq_f h2, beq_f h3, beq_f h7, beq_f h8, beq_f h9, beq_f h10, beq_f h11, beq_f h12, if_neg h1, if_neg h2, if_neg h3, if_neg h4, if_neg h5, if_neg h6, if_neg h7, if_neg h8, if_neg h9, if_neg h10, if_neg h11, if_neg h12, beq_t h13, if_pos h13, F40_eq, bw, w]
  by_cases h14 : op = 14
  · simp only [apS, beq_f h1, beq_f h2, beq_f h3, beq_f h7, beq_f h8, beq_f h9, beq_f h10, beq_f h11, beq_f h12, beq_f h13, if_neg h1, if_neg h2, if_neg h3, if_neg h4, if_neg h5, if_neg h6, if_neg h7, if_neg h8, if_neg h9, if_neg h10, if_neg h11, if_neg h12, if_neg h13, beq_t h14, if_pos h14, F40_eq, bw, w]
  by_cases h15 : op = 15
  · simp only [apS, beq_f h1, beq_f h2, beq_f h3, beq_f h7, beq_f h8, beq_f h9, beq_f h10, beq_f h11, beq_f h12, beq_f h13, beq_f h14, if_neg h1, if_neg h2, if_neg h3, if_neg h4, if_neg h5, if_neg h6, if_neg h7, if_neg h8, if_neg h9, if_neg h10, if_neg h11, if_neg h12, if_neg h13, if_neg h14, beq_t h15, if_pos h15, F40_eq, bw, w]
  by_cases h16 : op = 16
  · simp only [apS, beq_f h1, beq_f h2, beq_f h3, beq_f h7, beq_f h8, beq_f h9, beq_f h10, beq_f h11, beq_f h12, beq_f h13, beq_f h14, beq_f h15, if_neg h1, if_neg h2, if_neg h3, if_neg h4, if_neg h5, if_neg h6, if_neg h7, if_neg h8, if_neg h9, if_neg h10, if_neg h11, if_neg h12, if_neg h13, if_neg h14, if_neg h15, beq_t h16, if_pos h16, F40_eq, bw, w]
  by_cases h17 : op = 17
  · simp only [apS, beq_f h1, beq_f h2, beq_f h3, beq_f h7, beq_f h8, beq_f h9, beq_f h10, beq_f h11, beq_f h12, beq_f h13, beq_f h14, beq_f h15, beq_f h16, if_neg h1, if_neg h2, if_neg h3, if_neg h4, if_neg h5, if_neg h6, if_neg h7, if_neg h8, if_neg h9, if_neg h10, if_neg h11, if_neg h12, if_neg h13, if_neg h14, if_neg h15, if_neg h16, beq_t h17, if_pos h17, F40_eq, bw, w]
    have := abs_eq ha
    unfold w at this
    rw [← this]
    by_cases hn : a < 0
    · simp only [decide_eq_true hn, if_pos hn]
    · simp only [decide_eq_false hn, if_neg hn]
  by_cases h18 : op = 18
  · simp only [apS, beq_f h1, beq_f h2, beq_f h3, beq_f h7, beq_f h8, beq_f h9, beq_f h10, beq_f h11, beq_f h12, beq_f h13, beq_f h14, beq_f h15, beq_f h16, beq_f h17, if_neg h1, if_neg h2, if_neg h3, if_neg h4, if_neg h5, if_neg h6, if_neg h7, if_neg h8, if_neg h9, if_neg h10, if_neg h11, if_neg h12, if_neg h13, if_neg h14, if_neg h15, if_neg h16, if_neg h17, beq_t h18, if_pos h18, F40_eq, bw, w]
  simp only [apS, beq_f h1, beq_f h2, beq_f h3, beq_f h7, beq_f h8, beq_f h9, beq_f h10, beq_f h11, beq_f h12, beq_f h13, beq_f h14, beq_f h15, beq_f h16, beq_f h17, beq_f h18, if_neg h1, if_neg h2, if_neg h3, if_neg h4, if_neg h5, if_neg h6, if_neg h7, if_neg h8, if_neg h9, if_neg h10, if_neg h11, if_neg h12, if_neg h13, if_neg h14, if_neg h15, if_neg h16, if_neg h17, if_neg h18]

/-- NumWrap. -/
theorem wrap_true {op a b : Int} (ha : inI a) (hb : inI b) : F4 41 op a b = some (.r true) := by
  have e1 : F17 40 op a b = _ := F17_eq 36 hb
  have e2 : F18 40 op a b = _ := F18_eq 38 ha
  show F4 (40 + 1) op a b = _
  unfold F4
  simp only [e1, e2, beq_self_eq_true, head_true]

end Go.Proofs.Ytnfmdenclkdmbaa

namespace Go.Proofs.Ytnfmdenclkdmbaa
open Go Go.Eng

theorem imin_eq (x y : Int) : imin x y = min x y := by unfold imin; omega
theorem imax_eq (x y : Int) : imax x y = max x y := by unfold imax; omega
def rowsI (l : List Int) : List Row := l.map fun v => [.int .i64 v]
theorem rowsI_len (l : List Int) : (rowsI l).length = l.length := by simp [rowsI]
theorem rowsI_get (l : List Int) {i : Nat} (h : i < l.length) : ((((rowsI l).getD ((i : Int).toNat) [])).getD 0 .top).toI = l[i] := by
  simp [rowsI, List.getD_eq_getElem?_getD, h, AV.toI]
theorem wrap_succ {i : Nat} (h : i ≤ 1000000) : IntKind.wrap .i64 ((i : Int) + 1) = ((i + 1 : Nat) : Int) := by
  rw [wrap_id (by unfold inI; omega)]; omega
theorem dlt {i n : Nat} (h : i < n) : decide ((i : Int) < (n : Int)) = true := decide_eq_true (by omega)
theorem dge {i n : Nat} (h : n ≤ i) : decide ((i : Int) < (n : Int)) = false := decide_eq_false (by omega)
theorem dz (i : Nat) : decide ((0 : Int) ≤ (i : Int)) = true := decide_eq_true (by omega)
theorem match_dec {α : Sort _} (p : Prop) [Decidable p] (f g : α) : (match decide p with | true => f | false => g) = if p then f else g := by
  by_cases h : p <;> simp [h]

theorem L64_eq (N : Nat) (l : List Int) (hl : l.length ≤ 1000) : ∀ (k i n : Nat) (lo hi : Int), i + k = l.length → k < n →
    L64a58 N n (rowsI l) (l.length : Int) (i : Int) lo hi = some (.x0 ((l.drop i).foldl min lo) ((l.drop i).foldl max hi))
  | 0, i, n + 1, lo, hi, h, _ => by
    unfold L64a58
    rw [dge (by omega), List.drop_eq_nil_of_le (by omega)]
    rfl
  | k + 1, i, n + 1, lo, hi, h, hn => by
    unfold L64a58
    have hi' : i < l.length := by omega
    rw [dlt hi', dz, rowsI_len, dlt hi', rowsI_get l hi', wrap_succ (by omega)]
    simp only [Bool.and_self, tst]
    rw [L64_eq N l hl k (i + 1) n _ _ (by omega) (by omega), List.drop_eq_getElem_cons hi', List.foldl_cons, List.foldl_cons, imin_eq, imax_eq]
theorem F64_eq (N : Nat) (a : Int) (l : List Int) (hl : l.length ≤ 4) : F64 (N + 6) a (rowsI l) = some (.r (l.foldl min a) (l.foldl max a)) := by
  simp only [F64]
  have := L64_eq (N + 5) l (by omega) l.length 0 (N + 5) a a (by omega) (by omega)
  rw [rowsI_len]
  simp only [List.drop_zero] at this
  rw [show ((0 : Nat) : Int) = 0 from rfl] at this
  simp only [this]

def joinS (a b c d : Int) : Int × Int := if b < a then (if d < c then (1, 0) else (c, d)) else if d < c then (a, b) else (min a c, max b d)
def meetS (a b c d : Int) : Int × Int := if min b d < max a c then (1, 0) else (max a c, min b d)
def widS (a b c d e f : Int) : Int × Int :=
  if b < a ∨ d < c then joinS a b c d else
    (if a ≤ c then a else if e ≤ c then e else -9223372036854775808, if d ≤ b then b else if d ≤ f then f else 9223372036854775807)
def hasS (a b v : Int) : Bool := decide (a ≤ v) && decide (v ≤ b)
def liesS (a b c d : Int) : Bool := decide (b < a) || (decide (c ≤ a) && decide (b ≤ d))

theorem F41_eq (N : Nat) (a b : Int) : F41 (N + 1) a b = some (.r (decide (b < a))) := rfl
theorem F54_eq (N : Nat) (a b : Int) : F54 (N + 1) a b = some (.r (decide (b < a))) := rfl
theorem F23_eq (N : Nat) (a b v : Int) : F23 (N + 1) a b v = some (.r (hasS a b v)) := by
  simp only [F23, hasS]
  cases decide (a ≤ v) <;> rfl
theorem F27_eq (N : Nat) (a b v : Int) : F27 (N + 1) a b v = some (.r (hasS a b v)) := by
  simp only [F27, hasS]
  cases decide (a ≤ v) <;> rfl
theorem F24_eq (N : Nat) (a b c d : Int) : F24 (N + 2) a b c d = some (.r (liesS a b c d)) := by
  unfold F24 liesS
  simp only [F41_eq]
  cases decide (b < a) <;> cases decide (c ≤ a) <;> rfl
theorem F28_eq (N : Nat) (a b c d : Int) : F28 (N + 2) a b c d = some (.r (liesS a b c d)) := by
  unfold F28 liesS
  simp only [F54_eq]
  cases decide (b < a) <;> cases decide (c ≤ a) <;> rfl
theorem F25_eq (N : Nat) (a b c d : Int) : F25 (N + 7) a b c d = some (.r (joinS a b c d).1 (joinS a b c d).2) := by
  have h : F64 (N + 6) a [[.int .i64 b], [.int .i64 c], [.int .i64 d]] = some (.r (min (min (min a b) c) d) (max (max (max a b) c) d)) := F64_eq N a [b, c, d] (by simp)
  unfold F25 joinS
  simp only [F41_eq, h, F42]
  by_cases h1 : b < a
  · simp only [h1, decide_true, if_true]
    by_cases h2 : d < c
    · simp only [h2, decide_true, if_true]
    · simp only [h2, decide_false, if_false]
  · simp only [h1, decide_false, if_false]
    by_cases h2 : d < c
    · simp only [h2, decide_true, if_true]
    · simp only [h2, decide_false, if_false]
      rw [show min (min (min a b) c) d = min a c by omega, show max (max (max a b) c) d = max b d by omega]
theorem F66_eq (N : Nat) (a b : Int) : F66 (N + 2) a b = some (.r (if b < a then (1, 0) else (a, b)).1 (if b < a then ((1 : Int), (0 : Int)) else (a, b)).2) := by
  unfold F66
  simp only [F54_eq, F55]
  by_cases h1 : b < a
  · simp only [h1, decide_true, if_true]
  · simp only [h1, decide_false, if_false]
theorem F29_eq (N : Nat) (a b c d : Int) : F29 (N + 3) a b c d = some (.r (joinS a b c d).1 (joinS a b c d).2) := by
  unfold F29 joinS
  simp only [F54_eq, F66_eq, imin_eq, imax_eq]
  by_cases h1 : b < a
  · simp only [h1, decide_true, if_true]
  · simp only [h1, decide_false, if_false]
    by_cases h2 : d < c
    · simp only [h2, decide_true, if_true]
    · simp only [h2, decide_false, if_false]
theorem F30_eq (N : Nat) (a b c d : Int) : F30 (N + 2) a b c d = some (.r (meetS a b c d).1 (meetS a b c d).2) := by
  unfold F30 meetS
  simp only [F41_eq, F42, imin_eq, imax_eq]
  by_cases h1 : min b d < max a c
  · simp only [h1, decide_true, if_true, Bool.not_true]
  · simp only [h1, decide_false, if_false, Bool.not_false]
theorem F31_eq (N : Nat) (a b c d : Int) : F31 (N + 3) a b c d = some (.r (meetS a b c d).1 (meetS a b c d).2) := by
  unfold F31 meetS
  simp only [F66_eq, imin_eq, imax_eq]
theorem F26_eq (N : Nat) (a b c d e f : Int) : F26 (N + 8) a b c d e f = some (.r (widS a b c d e f).1 (widS a b c d e f).2) := by
  unfold F26 J26a6 J26a30 widS
  simp only [F41_eq, F25_eq, F65]
  by_cases h1 : b < a
  · simp only [h1, decide_true, true_or, if_true]
  · by_cases h2 : d < c
    · simp only [h1, h2, decide_true, decide_false, or_true, if_true]
    · simp only [h1, h2, decide_false, or_self, if_false]
      by_cases h3 : a ≤ c <;> by_cases h4 : e ≤ c <;> by_cases h5 : d ≤ b <;> by_cases h6 : d ≤ f <;> simp only [h3, h4, h5, h6, decide_true, decide_false, if_true, if_false]
theorem F32_eq (N : Nat) (a b c d e f : Int) : F32 (N + 8) a b c d e f = some (.r (widS a b c d e f).1 (widS a b c d e f).2) := by
  unfold F32 J32a6 J32a30 widS
  simp only [F54_eq, F29_eq, F63]
  by_cases h1 : b < a
  · simp only [h1, decide_true, true_or, if_true]
  · by_cases h2 : d < c
    · simp only [h1, h2, decide_true, decide_false, or_true, if_true]
    · simp only [h1, h2, decide_false, or_self, if_false]
      by_cases h3 : a ≤ c <;> by_cases h4 : e ≤ c <;> by_cases h5 : d ≤ b <;> by_cases h6 : d ≤ f <;> simp only [h3, h4, h5, h6, decide_true, decide_false, if_true, if_false]

/-- NumIvals. -/
theorem numIvals_true {a b c d e f v : Int} (_ : inI a) (_ : inI b) (_ : inI c) (_ : inI d) (_ : inI e) (_ : inI f) (_ : inI v) : F10 41 a b c d e f v = some (.r true) := by
  have e1 : F23 40 a b v = _ := F23_eq 39 a b v
  have e2 : F27 40 a b v = _ := F27_eq 39 a b v
  have e3 : F24 40 a b c d = _ := F24_eq 38 a b c d
  have e4 : F28 40 a b c d = _ := F28_eq 38 a b c d
  have e5 : F25 40 a b c d = _ := F25_eq 33 a b c d
  have e6 : F29 40 a b c d = _ := F29_eq 37 a b c d
  have e7 : F30 40 a b c d = _ := F30_eq 38 a b c d
  have e8 : F31 40 a b c d = _ := F31_eq 37 a b c d
  have e9 : F26 40 a b c d e f = _ := F26_eq 32 a b c d e f
  have e10 : F32 40 a b c d e f = _ := F32_eq 32 a b c d e f
  show F10 (40 + 1) a b c d e f v = _
  unfold F10
  simp only [e1, e2, e3, e4, e5, e6, e7, e8, e9, e10, beq_self_eq_true, Bool.and_self, head_true]
end Go.Proofs.Ytnfmdenclkdmbaa

namespace Go.Proofs.Ytnfmdenclkdmbaa
open Go Go.Eng

def inIb (x : Int) : Bool := decide (-9223372036854775808 ≤ x) && decide (x ≤ 9223372036854775807)
theorem inIb_iff {x : Int} : inIb x = true ↔ inI x := by simp [inIb, inI]
theorem bool_eq {a b : Bool} (h : a = true ↔ b = true) : a = b := by
  cases a <;> cases b <;> simp at h ⊢
/-- The exact value of a sum, a difference, a product or a quotient, and whether it is one. -/
def exS (op x y : Int) : Int × Bool :=
  if op = 1 then (w (x + y), inIb (x + y)) else if op = 2 then (w (x - y), inIb (x - y)) else if op = 3 then (w (x * y), inIb (x * y)) else (w (Int.tdiv x y), inIb (Int.tdiv x y))

theorem and_sign (A B : BitVec 64) : decide (0 ≤ IntKind.wrap .i64 ((BitVec.ofInt 64 (IntKind.wrap .i64 (A.toNat : Int)) &&& BitVec.ofInt 64 (IntKind.wrap .i64 (B.toNat : Int))).toNat : Int)) = !(A.msb && B.msb) := by
  rw [wrapBV, wrapBV, wrapBV, BitVec.ofInt_toInt, BitVec.ofInt_toInt, nonneg_toInt, BitVec.msb_and]
theorem wrap_cases {x : Int} (h : -18446744073709551616 ≤ x ∧ x ≤ 18446744073709551615) : (inI x ∧ w x = x) ∨ (x < -9223372036854775808 ∧ w x = x + 18446744073709551616) ∨ (9223372036854775807 < x ∧ w x = x - 18446744073709551616) := by
  unfold w inI
  simp [IntKind.wrap, IntKind.bits, IntKind.signed]
  split <;> omega
theorem F44_eq (N : Nat) {x y : Int} (hx : inI x) (hy : inI y) : F44 (N + 1) x y = some (.r (w (x + y)) (inIb (x + y))) := by
  have hw : inI (w (x + y)) := wrap_in _
  have h : decide (0 ≤ IntKind.wrap .i64 ((BitVec.ofInt 64 (IntKind.wrap .i64 ((BitVec.ofInt 64 x ^^^ BitVec.ofInt 64 (IntKind.wrap .i64 (x + y))).toNat : Int)) &&& BitVec.ofInt 64 (IntKind.wrap .i64 ((BitVec.ofInt 64 y ^^^ BitVec.ofInt 64 (IntKind.wrap .i64 (x + y))).toNat : Int))).toNat : Int)) = inIb (x + y) := by
    rw [and_sign, BitVec.msb_xor, BitVec.msb_xor, msb_ofInt hx, msb_ofInt hy]
    have := msb_ofInt hw
    unfold w at this
    rw [this]
    apply bool_eq
    rw [inIb_iff]
    obtain ⟨x0, x1⟩ := hx
    obtain ⟨y0, y1⟩ := hy
    rcases wrap_cases (x := x + y) (by omega) with ⟨h1, h2⟩ | ⟨h1, h2⟩ | ⟨h1, h2⟩ <;> unfold w at h2 <;> rw [h2] <;> unfold inI at * <;> by_cases hx : x < 0 <;> by_cases hy : y < 0 <;> simp [hx, hy] <;> omega
  show some (R44.r (w (x + y)) _) = _
  rw [h]
theorem F45_eq (N : Nat) {x y : Int} (hx : inI x) (hy : inI y) : F45 (N + 1) x y = some (.r (w (x - y)) (inIb (x - y))) := by
  have hw : inI (w (x - y)) := wrap_in _
  have h : decide (0 ≤ IntKind.wrap .i64 ((BitVec.ofInt 64 (IntKind.wrap .i64 ((BitVec.ofInt 64 x ^^^ BitVec.ofInt 64 y).toNat : Int)) &&& BitVec.ofInt 64 (IntKind.wrap .i64 ((BitVec.ofInt 64 x ^^^ BitVec.ofInt 64 (IntKind.wrap .i64 (x - y))).toNat : Int))).toNat : Int)) = inIb (x - y) := by
    rw [and_sign, BitVec.msb_xor, BitVec.msb_xor, msb_ofInt hx, msb_ofInt hy]
    have := msb_ofInt hw
    unfold w at this
    rw [this]
    apply bool_eq
    rw [inIb_iff]
    obtain ⟨x0, x1⟩ := hx
    obtain ⟨y0, y1⟩ := hy
    rcases wrap_cases (x := x - y) (by omega) with ⟨h1, h2⟩ | ⟨h1, h2⟩ | ⟨h1, h2⟩ <;> unfold w at h2 <;> rw [h2] <;> unfold inI at * <;> by_cases hx : x < 0 <;> by_cases hy : y < 0 <;> simp [hx, hy] <;> omega
  show some (R45.r (w (x - y)) _) = _
  rw [h]

theorem tdiv_in {x y : Int} (hx : inI x) (h : ¬ (x = -9223372036854775808 ∧ y = -1)) : inI (Int.tdiv x y) := by
  have h1 : (Int.tdiv x y).natAbs = x.natAbs / y.natAbs := Int.natAbs_tdiv x y
  obtain ⟨x0, x1⟩ := hx
  have h2 : x.natAbs / y.natAbs ≤ x.natAbs := Nat.div_le_self _ _
  unfold inI
  by_cases hm : x = -9223372036854775808
  · subst hm
    by_cases hy1 : y = 1
    · subst hy1; rw [Int.tdiv_one]; omega
    · by_cases hy0 : y = 0
      · subst hy0; rw [Int.tdiv_zero]; omega
      · have hy : 2 ≤ y.natAbs := by omega
        have h3 : Int.natAbs (-9223372036854775808) / y.natAbs ≤ Int.natAbs (-9223372036854775808) / 2 := Nat.div_le_div_left hy (by decide)
        have h4 : Int.natAbs (-9223372036854775808) / 2 = 4611686018427387904 := by decide
        omega
  · omega
theorem tdiv_min : Int.tdiv (-9223372036854775808) (-1) = 9223372036854775808 := by decide
theorem quot_in {x y : Int} (hx : inI x) : inIb (Int.tdiv x y) = !(x == -9223372036854775808 && y == -1) := by
  apply bool_eq
  rw [inIb_iff]
  by_cases h : x = -9223372036854775808 ∧ y = -1
  · obtain ⟨rfl, rfl⟩ := h
    rw [tdiv_min]
    unfold inI
    simp
  · refine ⟨fun _ => ?_, fun _ => tdiv_in hx h⟩
    simp only [Bool.not_eq_true', Bool.and_eq_false_imp, beq_iff_eq]
    intro h1
    exact beq_f fun h2 => h ⟨h1, h2⟩
theorem F47_eq (N : Nat) {x y : Int} (hx : inI x) (hy : y ≠ 0) : F47 (N + 1) x y = some (.r (w (Int.tdiv x y)) (inIb (Int.tdiv x y))) := by
  simp only [F47, beq_f hy, Bool.not_false, tst, quot_in hx, bne]
  by_cases h : x = -9223372036854775808
  · simp only [beq_t h, Bool.not_true, Bool.true_and, w]
  · simp only [beq_f h, Bool.not_false, Bool.false_and, w]

/-! ### The product -/
theorem wrap_u {x : Int} : IntKind.wrap .u64 x = x % 18446744073709551616 := by
  simp [IntKind.wrap, IntKind.bits, IntKind.signed]
def inU (x : Int) : Prop := 0 ≤ x ∧ x < 18446744073709551616
theorem wrap_uid {x : Int} (h : inU x) : IntKind.wrap .u64 x = x := by
  rw [wrap_u]; obtain ⟨h0, h1⟩ := h; omega
theorem low_and {x : Int} (h : inU x) : ((BitVec.ofInt 64 x &&& BitVec.ofInt 64 (4294967295 : Int)).toNat : Int) = x % 4294967296 := by
  have e : BitVec.ofInt 64 (4294967295 : Int) = 4294967295#64 := rfl
  rw [e, BitVec.toNat_and]
  have h1 : (4294967295#64).toNat = 2 ^ 32 - 1 := rfl
  rw [h1, Nat.and_two_pow_sub_one_eq_mod]
  have := toNat_ofInt x
  obtain ⟨h0, h1⟩ := h
  omega
theorem mul_bd {a b : Int} (ha : 0 ≤ a ∧ a ≤ 4294967295) (hb : 0 ≤ b ∧ b ≤ 4294967295) : 0 ≤ a * b ∧ a * b ≤ 18446744065119617025 := by
  refine ⟨Int.mul_nonneg ha.1 hb.1, ?_⟩
  have := Int.mul_le_mul ha.2 hb.2 hb.1 (by decide)
  simpa using this
theorem F88_eq (N : Nat) {x y : Int} (hx : inU x) (hy : inU y) : F88 (N + 1) x y = some (.r ((x * y) / 18446744073709551616) ((x * y) % 18446744073709551616)) := by
  simp only [F88]
  have ef : ∀ z : Int, Int.fdiv z (2 ^ 32) = z / 4294967296 := fun z => by rw [Int.fdiv_eq_ediv_of_nonneg _ (by decide)]; rfl
  simp only [ef, low_and hx, low_and hy]
  obtain ⟨x0, x1⟩ := hx
  obtain ⟨y0, y1⟩ := hy
  have ex : x = x / 4294967296 * 4294967296 + x % 4294967296 := by omega
  have ey : y = y / 4294967296 * 4294967296 + y % 4294967296 := by omega
  have ha : 0 ≤ x / 4294967296 ∧ x / 4294967296 ≤ 4294967295 := by omega
  have hb : 0 ≤ x % 4294967296 ∧ x % 4294967296 ≤ 4294967295 := by omega
  have hc : 0 ≤ y / 4294967296 ∧ y / 4294967296 ≤ 4294967295 := by omega
  have hd : 0 ≤ y % 4294967296 ∧ y % 4294967296 ≤ 4294967295 := by omega
  have exy : x * y = (x / 4294967296 * (y / 4294967296)) * 18446744073709551616 + (x / 4294967296 * (y % 4294967296)) * 4294967296 + (x % 4294967296 * (y / 4294967296)) * 4294967296 + x % 4294967296 * (y % 4294967296) := by
    generalize x / 4294967296 = a at *
    generalize x % 4294967296 = b at *
    generalize y / 4294967296 = c at *
    generalize y % 4294967296 = d at *
    rw [ex, ey, Int.add_mul, Int.mul_add, Int.mul_add]
    have e1 : a * 4294967296 * (c * 4294967296) = a * c * 18446744073709551616 := by
      rw [show (18446744073709551616 : Int) = 4294967296 * 4294967296 by decide]; ac_rfl
    have e2 : a * 4294967296 * d = a * d * 4294967296 := by ac_rfl
    have e3 : b * (c * 4294967296) = b * c * 4294967296 := by ac_rfl
    omega
  have p1 := mul_bd ha hc
  have p2 := mul_bd ha hd
  have p3 := mul_bd hb hc
  have p4 := mul_bd hb hd
  have hx2 : (x % 4294967296) % 18446744073709551616 = x % 4294967296 := by omega
  have hy2 : (y % 4294967296) % 18446744073709551616 = y % 4294967296 := by omega
  simp only [wrap_u, hx2, hy2]
  rw [exy]
  generalize x / 4294967296 * (y / 4294967296) = P at *
  generalize x / 4294967296 * (y % 4294967296) = Q at *
  generalize x % 4294967296 * (y / 4294967296) = R at *
  generalize x % 4294967296 * (y % 4294967296) = S at *
  have hT : ((Q % 18446744073709551616 + S % 18446744073709551616 / 4294967296) % 18446744073709551616) = Q + S / 4294967296 := by omega
  have hU : inU (Q + S / 4294967296) := by unfold inU; omega
  simp only [hT, low_and hU]
  have h1 : (P % 18446744073709551616 + (Q + S / 4294967296) / 4294967296) % 18446744073709551616 = P + (Q + S / 4294967296) / 4294967296 := by omega
  have h2 : ((Q + S / 4294967296) % 4294967296 % 18446744073709551616 + R % 18446744073709551616) % 18446744073709551616 = (Q + S / 4294967296) % 4294967296 + R := by omega
  simp only [h1, h2]
  have h3 : (P + (Q + S / 4294967296) / 4294967296 + ((Q + S / 4294967296) % 4294967296 + R) / 4294967296) % 18446744073709551616 = (P * 18446744073709551616 + Q * 4294967296 + R * 4294967296 + S) / 18446744073709551616 := by omega
  rw [h3]
end Go.Proofs.Ytnfmdenclkdmbaa

namespace Go.Proofs.Ytnfmdenclkdmbaa
open Go Go.Eng

theorem F89_eq (N : Nat) {x : Int} (hx : inI x) : F89 (N + 1) x = some (.r (x.natAbs : Int)) := by
  obtain ⟨x0, x1⟩ := hx
  simp only [F89]
  by_cases h : x < 0
  · rw [decide_eq_true h]
    simp only [wrap_u]
    congr 2
    omega
  · rw [decide_eq_false h]
    simp only [wrap_u]
    congr 2
    omega
theorem natAbs_U {x : Int} (hx : inI x) : inU (x.natAbs : Int) := by obtain ⟨x0, x1⟩ := hx; unfold inU; omega
theorem w_of_mod {a b : Int} (h : a % 18446744073709551616 = b % 18446744073709551616) : w a = w b := by
  unfold w
  simp [IntKind.wrap, IntKind.bits, IntKind.signed, h]
theorem w_mod (a : Int) : w a % 18446744073709551616 = a % 18446744073709551616 := by
  obtain ⟨k, hk⟩ := wrap_mod a
  unfold w
  rw [hk]
  omega
theorem mul_signs {x y : Int} : x * y = if (decide (x < 0) == decide (y < 0)) = true then (x.natAbs : Int) * (y.natAbs : Int) else -((x.natAbs : Int) * (y.natAbs : Int)) := by
  by_cases h1 : x < 0 <;> by_cases h2 : y < 0 <;> simp only [h1, h2, decide_true, decide_false]
  · rw [if_pos (show (true == true) = true from rfl)]
    have e1 : (x.natAbs : Int) = -x := by omega
    have e2 : (y.natAbs : Int) = -y := by omega
    rw [e1, e2, Int.neg_mul_neg]
  · rw [if_neg (show ¬ (true == false) = true from by decide)]
    have e1 : (x.natAbs : Int) = -x := by omega
    have e2 : (y.natAbs : Int) = y := by omega
    rw [e1, e2, Int.neg_mul, Int.neg_neg]
  · rw [if_neg (show ¬ (false == true) = true from by decide)]
    have e1 : (x.natAbs : Int) = x := by omega
    have e2 : (y.natAbs : Int) = -y := by omega
    rw [e1, e2, Int.mul_neg, Int.neg_neg]
  · rw [if_pos (show (false == false) = true from rfl)]
    have e1 : (x.natAbs : Int) = x := by omega
    have e2 : (y.natAbs : Int) = y := by omega
    rw [e1, e2]
theorem F46_eq (N : Nat) {x y : Int} (hx : inI x) (hy : inI y) : F46 (N + 2) x y = some (.r (w (x * y)) (inIb (x * y))) := by
  simp only [F46, F89_eq _ hx, F89_eq _ hy, F88_eq _ (natAbs_U hx) (natAbs_U hy)]
  rw [mul_signs (x := x) (y := y)]
  have hP : 0 ≤ (x.natAbs : Int) * (y.natAbs : Int) := Int.mul_nonneg (by omega) (by omega)
  generalize (x.natAbs : Int) * (y.natAbs : Int) = P at *
  cases hs : (decide (x < 0) == decide (y < 0)) with
  | true =>
    simp only [Bool.not_true, if_true]
    have e1 : w (P % 18446744073709551616) = w P := w_of_mod (by omega)
    unfold w at e1
    by_cases hz : P / 18446744073709551616 = 0
    · simp only [beq_t hz, e1]
      have : decide (P % 18446744073709551616 < 9223372036854775808) = inIb P := by
        apply bool_eq; rw [inIb_iff, decide_eq_true_eq]; unfold inI; omega
      rw [this]; rfl
    · simp only [beq_f hz, e1]
      have : false = inIb P := by
        apply bool_eq; rw [inIb_iff]; unfold inI; simp; omega
      rw [← this]; rfl
  | false =>
    simp only [Bool.not_false, Bool.false_eq_true, if_false]
    have e1 : w (0 - w (P % 18446744073709551616)) = w (-P) := by
      apply w_of_mod
      have := w_mod (P % 18446744073709551616)
      omega
    unfold w at e1
    by_cases hz : P / 18446744073709551616 = 0
    · simp only [beq_t hz, e1]
      have : decide (P % 18446744073709551616 ≤ 9223372036854775808) = inIb (-P) := by
        apply bool_eq; rw [inIb_iff, decide_eq_true_eq]; unfold inI; omega
      rw [this]; rfl
    · simp only [beq_f hz, e1]
      have : false = inIb (-P) := by
        apply bool_eq; rw [inIb_iff]; unfold inI; simp; omega
      rw [← this]; rfl

/-- The reference's test of a product. -/
theorem mul_test {x y : Int} (hx : inI x) (hy : inI y) (h0 : x ≠ 0) (h1 : ¬ (x = -1 ∧ y = -9223372036854775808)) (h2 : ¬ (y = -1 ∧ x = -9223372036854775808)) : (w (Int.tdiv (w (x * y)) x) == y) = inIb (x * y) := by
  apply bool_eq
  rw [inIb_iff, beq_iff_eq]
  constructor
  · intro h
    have hv : inI (w (x * y)) := wrap_in _
    obtain ⟨k, hk⟩ := wrap_mod (x * y)
    have hk : w (x * y) = x * y + k * 18446744073709551616 := hk
    by_cases hs : w (x * y) = -9223372036854775808 ∧ x = -1
    · exfalso
      obtain ⟨e1, e2⟩ := hs
      subst e2
      rw [e1, tdiv_min] at h
      have : y = -9223372036854775808 := by rw [← h]; decide
      exact h1 ⟨rfl, this⟩
    · have hq : w (Int.tdiv (w (x * y)) x) = Int.tdiv (w (x * y)) x := wrap_id (tdiv_in hv hs)
      rw [hq] at h
      have hm := Int.mul_tdiv_add_tmod (w (x * y)) x
      rw [h] at hm
      have hr : (Int.tmod (w (x * y)) x).natAbs = (w (x * y)).natAbs % x.natAbs := Int.natAbs_tmod _ _
      have hlt : (w (x * y)).natAbs % x.natAbs < x.natAbs := Nat.mod_lt _ (by omega)
      obtain ⟨x0, x1⟩ := hx
      have hk0 : k = 0 := by omega
      subst hk0
      rw [show w (x * y) = x * y by omega] at hv
      exact hv
  · intro h
    have e : w (x * y) = x * y := wrap_id h
    rw [e, Int.mul_comm, Int.mul_tdiv_cancel _ h0]
    exact wrap_id hy
theorem F93_eq (N : Nat) {op x y : Int} (ho : op = 1 ∨ op = 2 ∨ op = 3 ∨ op = 4) (hx : inI x) (hy : inI y) (h4 : op = 4 → y ≠ 0) : F93 (N + 1) op x y = some (.r (exS op x y).1 (exS op x y).2) := by
  simp only [F93, exS]
  by_cases h1 : op = 1
  · simp only [beq_t h1, if_pos h1]
    have key : (inIb (x + y)) = if (decide (x < 0) == decide (y < 0)) = true then (decide (w (x + y) < 0) == decide (x < 0)) else true := by
      obtain ⟨x0, x1⟩ := hx
      obtain ⟨y0, y1⟩ := hy
      apply bool_eq
      rw [inIb_iff]
      rcases wrap_cases (x := x + y) (by omega) with ⟨h1, h2⟩ | ⟨h1, h2⟩ | ⟨h1, h2⟩ <;> rw [h2] <;> unfold inI at * <;> by_cases hx : x < 0 <;> by_cases hy : y < 0 <;> simp [hx, hy] <;> omega
    rw [key]
    cases (decide (x < 0) == decide (y < 0)) <;> rfl
  by_cases h2 : op = 2
  · simp only [beq_f h1, if_neg h1, beq_t h2, if_pos h2]
    have key : (inIb (x - y)) = if (decide (x < 0) == decide (y < 0)) = true then true else (decide (w (x - y) < 0) == decide (x < 0)) := by
      obtain ⟨x0, x1⟩ := hx
      obtain ⟨y0, y1⟩ := hy
      apply bool_eq
      rw [inIb_iff]
      rcases wrap_cases (x := x - y) (by omega) with ⟨h1, h2⟩ | ⟨h1, h2⟩ | ⟨h1, h2⟩ <;> rw [h2] <;> unfold inI at * <;> by_cases hx : x < 0 <;> by_cases hy : y < 0 <;> simp [hx, hy] <;> omega
    rw [key]
    cases (decide (x < 0) == decide (y < 0)) <;> rfl
  by_cases h3 : op = 3
  · simp only [beq_f h1, if_neg h1, beq_f h2, if_neg h2, beq_t h3, if_pos h3]
    by_cases hx0 : x = 0
    · subst hx0
      simp only [beq_self_eq_true, Int.zero_mul]
      rfl
    · simp only [beq_f hx0, Bool.not_false, tst]
      by_cases g1 : x = -1 ∧ y = -9223372036854775808
      · obtain ⟨rfl, rfl⟩ := g1
        kernel_rfl
      · by_cases g2 : y = -1 ∧ x = -9223372036854775808
        · obtain ⟨rfl, rfl⟩ := g2
          kernel_rfl
        · have key := mul_test hx hy hx0 g1 g2
          unfold w at key
          simp only [key]
          by_cases hx1 : x = -1
          · have hy' : y ≠ -9223372036854775808 := fun e => g1 ⟨hx1, e⟩
            simp only [beq_t hx1, beq_f hy', Bool.not_false]
            have hx' : x ≠ -9223372036854775808 := by omega
            simp only [beq_f hx', Bool.not_false]
            cases (y == -1) <;> rfl
          · simp only [beq_f hx1]
            by_cases hy1 : y = -1
            · have hx' : x ≠ -9223372036854775808 := fun e => g2 ⟨hy1, e⟩
              simp only [beq_t hy1, beq_f hx', Bool.not_false]
              rfl
            · simp only [beq_f hy1]
              rfl
  · have h4' : op = 4 := by omega
    have hy0 := h4 h4'
    simp only [beq_f h1, if_neg h1, beq_f h2, if_neg h2, beq_f h3, if_neg h3]
    by_cases hy1 : y = -1
    · subst hy1
      have q := quot_in (y := -1) hx
      rw [tdiv_neg1] at q
      simp only [beq_self_eq_true, tdiv_neg1, q, Int.zero_sub, w, bne, Bool.and_true]
    · simp only [beq_f hy1, beq_f hy0, Bool.not_false, tst, quot_in hx, Bool.and_false, w]
end Go.Proofs.Ytnfmdenclkdmbaa

namespace Go.Proofs.Ytnfmdenclkdmbaa
open Go Go.Eng

def inner (f : Int → Int → Int × Bool) (x : Int) : List Int → Int × Int → Option (Int × Int)
  | [], o => some o
  | y :: m, o => match (f x y).2 with | true => inner f x m (joinS o.1 o.2 (f x y).1 (f x y).1) | false => none
def outer (f : Int → Int → Int × Bool) (m : List Int) : List Int → Int × Int → Option (Int × Int)
  | [], o => some o
  | x :: l, o => match inner f x m o with | none => none | some o' => outer f m l o'
def cornS (f : Int → Int → Int × Bool) (l m : List Int) : Int × Int := match outer f m l (1, 0) with | some o => o | none => (-9223372036854775808, 9223372036854775807)

theorem L43a14950_eq (N : Nat) (f : Int → Int → Int × Bool) (x : Int) (m : List Int) (hm : m.length ≤ 10) (hf : ∀ y ∈ m, F44 (N + 7) x y = some (.r (f x y).1 (f x y).2)) : ∀ (k i n : Nat) (p q a b : Int), i + k = m.length → k < n →
    ∃ a' b', L43a14950 (N + 7) n x (rowsI m) (m.length : Int) (i : Int) p q a b = match inner f x (m.drop i) (a, b) with | some o => some (.x2 p q o.1 o.2) | none => some (.ret (-9223372036854775808) 9223372036854775807 a' b')
  | 0, i, n + 1, p, q, a, b, h, _ => by
    simp only [L43a14950]
    rw [dge (by omega), List.drop_eq_nil_of_le (by omega)]
    exact ⟨0, 0, rfl⟩
  | k + 1, i, n + 1, p, q, a, b, h, hn => by
    have hi' : i < m.length := by omega
    rw [List.drop_eq_getElem_cons hi']
    simp only [L43a14950, inner]
    rw [dlt hi', dz, rowsI_len, dlt hi', rowsI_get m hi', wrap_succ (by omega), hf _ (List.getElem_mem hi')]
    simp only [Bool.and_self, tst]
    cases hok : (f x m[i]).2 with
    | false => exact ⟨a, b, rfl⟩
    | true =>
      have e64 : F64 (N + 7) (f x m[i]).1 [] = some (.r (f x m[i]).1 (f x m[i]).1) := F64_eq (N + 1) _ [] (by simp)
      simp only [Bool.not_true, e64, F25_eq]
      exact L43a14950_eq N f x m hm hf k (i + 1) n p q _ _ (by omega) (by omega)
theorem L43a58_eq (N : Nat) (f : Int → Int → Int × Bool) (l m : List Int) (hl : l.length ≤ 5) (hm : m.length ≤ 5) (hf : ∀ x ∈ l, ∀ y ∈ m, F44 (N + 7) x y = some (.r (f x y).1 (f x y).2)) : ∀ (k i n : Nat) (p q a b : Int), i + k = l.length → k < n →
    ∃ a' b', L43a58 (N + 7) n (rowsI m) (rowsI l) (l.length : Int) (i : Int) p q a b = match outer f m (l.drop i) (a, b) with | some o => some (.x0 p q o.1 o.2) | none => some (.ret (-9223372036854775808) 9223372036854775807 a' b')
  | 0, i, n + 1, p, q, a, b, h, _ => by
    simp only [L43a58]
    rw [dge (by omega), List.drop_eq_nil_of_le (by omega)]
    exact ⟨0, 0, rfl⟩
  | k + 1, i, n + 1, p, q, a, b, h, hn => by
    have hi' : i < l.length := by omega
    rw [List.drop_eq_getElem_cons hi']
    simp only [L43a58, outer]
    rw [dlt hi', dz, rowsI_len, rowsI_len, dlt hi', rowsI_get l hi', wrap_succ (by omega)]
    simp only [Bool.and_self, tst]
    obtain ⟨a1, b1, he⟩ := L43a14950_eq N f l[i] m (by omega) (hf _ (List.getElem_mem hi')) m.length 0 (N + 7) p q a b (by omega) (by omega)
    have he : L43a14950 (N + 7) (N + 7) l[i] (rowsI m) (m.length : Int) 0 p q a b = _ := he
    rw [he, List.drop_zero]
    cases inner f l[i] m (a, b) with
    | none => exact ⟨a1, b1, rfl⟩
    | some o => exact L43a58_eq N f l m hl hm hf k (i + 1) n p q _ _ (by omega) (by omega)
theorem F43_eq (N : Nat) (f : Int → Int → Int × Bool) (l m : List Int) (hl : l.length ≤ 5) (hm : m.length ≤ 5) (hf : ∀ x ∈ l, ∀ y ∈ m, F44 (N + 7) x y = some (.r (f x y).1 (f x y).2)) : F43 (N + 8) (rowsI l) (rowsI m) = some (.r (cornS f l m).1 (cornS f l m).2) := by
  obtain ⟨a1, b1, he⟩ := L43a58_eq N f l m hl hm hf l.length 0 (N + 7) 0 0 1 0 (by omega) (by omega)
  have he : L43a58 (N + 7) (N + 7) (rowsI m) (rowsI l) (l.length : Int) 0 0 0 1 0 = _ := he
  simp only [F43, F42, rowsI_len, he, List.drop_zero, cornS]
  cases outer f m l (1, 0) <;> rfl

theorem L43v1a14950_eq (N : Nat) (f : Int → Int → Int × Bool) (x : Int) (m : List Int) (hm : m.length ≤ 10) (hf : ∀ y ∈ m, F45 (N + 7) x y = some (.r (f x y).1 (f x y).2)) : ∀ (k i n : Nat) (p q a b : Int), i + k = m.length → k < n →
    ∃ a' b', L43v1a14950 (N + 7) n x (rowsI m) (m.length : Int) (i : Int) p q a b = match inner f x (m.drop i) (a, b) with | some o => some (.x2 p q o.1 o.2) | none => some (.ret (-9223372036854775808) 9223372036854775807 a' b')
  | 0, i, n + 1, p, q, a, b, h, _ => by
    simp only [L43v1a14950]
    rw [dge (by omega), List.drop_eq_nil_of_le (by omega)]
    exact ⟨0, 0, rfl⟩
  | k + 1, i, n + 1, p, q, a, b, h, hn => by
    have hi' : i < m.length := by omega
    rw [List.drop_eq_getElem_cons hi']
    simp only [L43v1a14950, inner]
    rw [dlt hi', dz, rowsI_len, dlt hi', rowsI_get m hi', wrap_succ (by omega), hf _ (List.getElem_mem hi')]
    simp only [Bool.and_self, tst]
    cases hok : (f x m[i]).2 with
    | false => exact ⟨a, b, rfl⟩
    | true =>
      have e64 : F64 (N + 7) (f x m[i]).1 [] = some (.r (f x m[i]).1 (f x m[i]).1) := F64_eq (N + 1) _ [] (by simp)
      simp only [Bool.not_true, e64, F25_eq]
      exact L43v1a14950_eq N f x m hm hf k (i + 1) n p q _ _ (by omega) (by omega)
theorem L43v1a58_eq (N : Nat) (f : Int → Int → Int × Bool) (l m : List Int) (hl : l.length ≤ 5) (hm : m.length ≤ 5) (hf : ∀ x ∈ l, ∀ y ∈ m, F45 (N + 7) x y = some (.r (f x y).1 (f x y).2)) : ∀ (k i n : Nat) (p q a b : Int), i + k = l.length → k < n →
    ∃ a' b', L43v1a58 (N + 7) n (rowsI m) (rowsI l) (l.length : Int) (i : Int) p q a b = match outer f m (l.drop i) (a, b) with | some o => some (.x0 p q o.1 o.2) | none => some (.ret (-9223372036854775808) 9223372036854775807 a' b')
  | 0, i, n + 1, p, q, a, b, h, _ => by
    simp only [L43v1a58]
    rw [dge (by omega), List.drop_eq_nil_of_le (by omega)]
    exact ⟨0, 0, rfl⟩
  | k + 1, i, n + 1, p, q, a, b, h, hn => by
    have hi' : i < l.length := by omega
    rw [List.drop_eq_getElem_cons hi']
    simp only [L43v1a58, outer]
    rw [dlt hi', dz, rowsI_len, rowsI_len, dlt hi', rowsI_get l hi', wrap_succ (by omega)]
    simp only [Bool.and_self, tst]
    obtain ⟨a1, b1, he⟩ := L43v1a14950_eq N f l[i] m (by omega) (hf _ (List.getElem_mem hi')) m.length 0 (N + 7) p q a b (by omega) (by omega)
    have he : L43v1a14950 (N + 7) (N + 7) l[i] (rowsI m) (m.length : Int) 0 p q a b = _ := he
    rw [he, List.drop_zero]
    cases inner f l[i] m (a, b) with
    | none => exact ⟨a1, b1, rfl⟩
    | some o => exact L43v1a58_eq N f l m hl hm hf k (i + 1) n p q _ _ (by omega) (by omega)
theorem F43v1_eq (N : Nat) (f : Int → Int → Int × Bool) (l m : List Int) (hl : l.length ≤ 5) (hm : m.length ≤ 5) (hf : ∀ x ∈ l, ∀ y ∈ m, F45 (N + 7) x y = some (.r (f x y).1 (f x y).2)) : F43v1 (N + 8) (rowsI l) (rowsI m) = some (.r (cornS f l m).1 (cornS f l m).2) := by
  obtain ⟨a1, b1, he⟩ := L43v1a58_eq N f l m hl hm hf l.length 0 (N + 7) 0 0 1 0 (by omega) (by omega)
  have he : L43v1a58 (N + 7) (N + 7) (rowsI m) (rowsI l) (l.length : Int) 0 0 0 1 0 = _ := he
  simp only [F43v1, F42, rowsI_len, he, List.drop_zero, cornS]
  cases outer f m l (1, 0) <;> rfl

theorem L43v2a14950_eq (N : Nat) (f : Int → Int → Int × Bool) (x : Int) (m : List Int) (hm : m.length ≤ 10) (hf : ∀ y ∈ m, F46 (N + 7) x y = some (.r (f x y).1 (f x y).2)) : ∀ (k i n : Nat) (p q a b : Int), i + k = m.length → k < n →
    ∃ a' b', L43v2a14950 (N + 7) n x (rowsI m) (m.length : Int) (i : Int) p q a b = match inner f x (m.drop i) (a, b) with | some o => some (.x2 p q o.1 o.2) | none => some (.ret (-9223372036854775808) 9223372036854775807 a' b')
  | 0, i, n + 1, p, q, a, b, h, _ => by
    simp only [L43v2a14950]
    rw [dge (by omega), List.drop_eq_nil_of_le (by omega)]
    exact ⟨0, 0, rfl⟩
  | k + 1, i, n + 1, p, q, a, b, h, hn => by
    have hi' : i < m.length := by omega
    rw [List.drop_eq_getElem_cons hi']
    simp only [L43v2a14950, inner]
    rw [dlt hi', dz, rowsI_len, dlt hi', rowsI_get m hi', wrap_succ (by omega), hf _ (List.getElem_mem hi')]
    simp only [Bool.and_self, tst]
    cases hok : (f x m[i]).2 with
    | false => exact ⟨a, b, rfl⟩
    | true =>
      have e64 : F64 (N + 7) (f x m[i]).1 [] = some (.r (f x m[i]).1 (f x m[i]).1) := F64_eq (N + 1) _ [] (by simp)
      simp only [Bool.not_true, e64, F25_eq]
      exact L43v2a14950_eq N f x m hm hf k (i + 1) n p q _ _ (by omega) (by omega)
theorem L43v2a58_eq (N : Nat) (f : Int → Int → Int × Bool) (l m : List Int) (hl : l.length ≤ 5) (hm : m.length ≤ 5) (hf : ∀ x ∈ l, ∀ y ∈ m, F46 (N + 7) x y = some (.r (f x y).1 (f x y).2)) : ∀ (k i n : Nat) (p q a b : Int), i + k = l.length → k < n →
    ∃ a' b', L43v2a58 (N + 7) n (rowsI m) (rowsI l) (l.length : Int) (i : Int) p q a b = match outer f m (l.drop i) (a, b) with | some o => some (.x0 p q o.1 o.2) | none => some (.ret (-9223372036854775808) 9223372036854775807 a' b')
  | 0, i, n + 1, p, q, a, b, h, _ => by
    simp only [L43v2a58]
    rw [dge (by omega), List.drop_eq_nil_of_le (by omega)]
    exact ⟨0, 0, rfl⟩
  | k + 1, i, n + 1, p, q, a, b, h, hn => by
    have hi' : i < l.length := by omega
    rw [List.drop_eq_getElem_cons hi']
    simp only [L43v2a58, outer]
    rw [dlt hi', dz, rowsI_len, rowsI_len, dlt hi', rowsI_get l hi', wrap_succ (by omega)]
    simp only [Bool.and_self, tst]
    obtain ⟨a1, b1, he⟩ := L43v2a14950_eq N f l[i] m (by omega) (hf _ (List.getElem_mem hi')) m.length 0 (N + 7) p q a b (by omega) (by omega)
    have he : L43v2a14950 (N + 7) (N + 7) l[i] (rowsI m) (m.length : Int) 0 p q a b = _ := he
    rw [he, List.drop_zero]
    cases inner f l[i] m (a, b) with
    | none => exact ⟨a1, b1, rfl⟩
    | some o => exact L43v2a58_eq N f l m hl hm hf k (i + 1) n p q _ _ (by omega) (by omega)
theorem F43v2_eq (N : Nat) (f : Int → Int → Int × Bool) (l m : List Int) (hl : l.length ≤ 5) (hm : m.length ≤ 5) (hf : ∀ x ∈ l, ∀ y ∈ m, F46 (N + 7) x y = some (.r (f x y).1 (f x y).2)) : F43v2 (N + 8) (rowsI l) (rowsI m) = some (.r (cornS f l m).1 (cornS f l m).2) := by
  obtain ⟨a1, b1, he⟩ := L43v2a58_eq N f l m hl hm hf l.length 0 (N + 7) 0 0 1 0 (by omega) (by omega)
  have he : L43v2a58 (N + 7) (N + 7) (rowsI m) (rowsI l) (l.length : Int) 0 0 0 1 0 = _ := he
  simp only [F43v2, F42, rowsI_len, he, List.drop_zero, cornS]
  cases outer f m l (1, 0) <;> rfl

theorem L43v3a14950_eq (N : Nat) (f : Int → Int → Int × Bool) (x : Int) (m : List Int) (hm : m.length ≤ 10) (hf : ∀ y ∈ m, F47 (N + 7) x y = some (.r (f x y).1 (f x y).2)) : ∀ (k i n : Nat) (p q a b : Int), i + k = m.length → k < n →
    ∃ a' b', L43v3a14950 (N + 7) n x (rowsI m) (m.length : Int) (i : Int) p q a b = match inner f x (m.drop i) (a, b) with | some o => some (.x2 p q o.1 o.2) | none => some (.ret (-9223372036854775808) 9223372036854775807 a' b')
  | 0, i, n + 1, p, q, a, b, h, _ => by
    simp only [L43v3a14950]
    rw [dge (by omega), List.drop_eq_nil_of_le (by omega)]
    exact ⟨0, 0, rfl⟩
  | k + 1, i, n + 1, p, q, a, b, h, hn => by
    have hi' : i < m.length := by omega
    rw [List.drop_eq_getElem_cons hi']
    simp only [L43v3a14950, inner]
    rw [dlt hi', dz, rowsI_len, dlt hi', rowsI_get m hi', wrap_succ (by omega), hf _ (List.getElem_mem hi')]
    simp only [Bool.and_self, tst]
    cases hok : (f x m[i]).2 with
    | false => exact ⟨a, b, rfl⟩
    | true =>
      have e64 : F64 (N + 7) (f x m[i]).1 [] = some (.r (f x m[i]).1 (f x m[i]).1) := F64_eq (N + 1) _ [] (by simp)
      simp only [Bool.not_true, e64, F25_eq]
      exact L43v3a14950_eq N f x m hm hf k (i + 1) n p q _ _ (by omega) (by omega)
theorem L43v3a58_eq (N : Nat) (f : Int → Int → Int × Bool) (l m : List Int) (hl : l.length ≤ 5) (hm : m.length ≤ 5) (hf : ∀ x ∈ l, ∀ y ∈ m, F47 (N + 7) x y = some (.r (f x y).1 (f x y).2)) : ∀ (k i n : Nat) (p q a b : Int), i + k = l.length → k < n →
    ∃ a' b', L43v3a58 (N + 7) n (rowsI m) (rowsI l) (l.length : Int) (i : Int) p q a b = match outer f m (l.drop i) (a, b) with | some o => some (.x0 p q o.1 o.2) | none => some (.ret (-9223372036854775808) 9223372036854775807 a' b')
  | 0, i, n + 1, p, q, a, b, h, _ => by
    simp only [L43v3a58]
    rw [dge (by omega), List.drop_eq_nil_of_le (by omega)]
    exact ⟨0, 0, rfl⟩
  | k + 1, i, n + 1, p, q, a, b, h, hn => by
    have hi' : i < l.length := by omega
    rw [List.drop_eq_getElem_cons hi']
    simp only [L43v3a58, outer]
    rw [dlt hi', dz, rowsI_len, rowsI_len, dlt hi', rowsI_get l hi', wrap_succ (by omega)]
    simp only [Bool.and_self, tst]
    obtain ⟨a1, b1, he⟩ := L43v3a14950_eq N f l[i] m (by omega) (hf _ (List.getElem_mem hi')) m.length 0 (N + 7) p q a b (by omega) (by omega)
    have he : L43v3a14950 (N + 7) (N + 7) l[i] (rowsI m) (m.length : Int) 0 p q a b = _ := he
    rw [he, List.drop_zero]
    cases inner f l[i] m (a, b) with
    | none => exact ⟨a1, b1, rfl⟩
    | some o => exact L43v3a58_eq N f l m hl hm hf k (i + 1) n p q _ _ (by omega) (by omega)
theorem F43v3_eq (N : Nat) (f : Int → Int → Int × Bool) (l m : List Int) (hl : l.length ≤ 5) (hm : m.length ≤ 5) (hf : ∀ x ∈ l, ∀ y ∈ m, F47 (N + 7) x y = some (.r (f x y).1 (f x y).2)) : F43v3 (N + 8) (rowsI l) (rowsI m) = some (.r (cornS f l m).1 (cornS f l m).2) := by
  obtain ⟨a1, b1, he⟩ := L43v3a58_eq N f l m hl hm hf l.length 0 (N + 7) 0 0 1 0 (by omega) (by omega)
  have he : L43v3a58 (N + 7) (N + 7) (rowsI m) (rowsI l) (l.length : Int) 0 0 0 1 0 = _ := he
  simp only [F43v3, F42, rowsI_len, he, List.drop_zero, cornS]
  cases outer f m l (1, 0) <;> rfl

theorem L43v4a14950_eq (N : Nat) (op : Int) (f : Int → Int → Int × Bool) (x : Int) (m : List Int) (hm : m.length ≤ 10) (hf : ∀ y ∈ m, F92 (N + 7) x y op = some (.r (f x y).1 (f x y).2 op)) : ∀ (k i n : Nat) (p q a b : Int), i + k = m.length → k < n →
    ∃ a' b', L43v4a14950 (N + 7) n x (rowsI m) (m.length : Int) (i : Int) op p q a b = match inner f x (m.drop i) (a, b) with | some o => some (.x2 op p q o.1 o.2) | none => some (.ret op (-9223372036854775808) 9223372036854775807 a' b')
  | 0, i, n + 1, p, q, a, b, h, _ => by
    simp only [L43v4a14950]
    rw [dge (by omega), List.drop_eq_nil_of_le (by omega)]
    exact ⟨0, 0, rfl⟩
  | k + 1, i, n + 1, p, q, a, b, h, hn => by
    have hi' : i < m.length := by omega
    rw [List.drop_eq_getElem_cons hi']
    simp only [L43v4a14950, inner]
    rw [dlt hi', dz, rowsI_len, dlt hi', rowsI_get m hi', wrap_succ (by omega), hf _ (List.getElem_mem hi')]
    simp only [Bool.and_self, tst]
    cases hok : (f x m[i]).2 with
    | false => exact ⟨a, b, rfl⟩
    | true =>
      have e64 : F64 (N + 7) (f x m[i]).1 [] = some (.r (f x m[i]).1 (f x m[i]).1) := F64_eq (N + 1) _ [] (by simp)
      simp only [Bool.not_true, e64, F25_eq]
      exact L43v4a14950_eq N op f x m hm hf k (i + 1) n p q _ _ (by omega) (by omega)
theorem L43v4a58_eq (N : Nat) (op : Int) (f : Int → Int → Int × Bool) (l m : List Int) (hl : l.length ≤ 5) (hm : m.length ≤ 5) (hf : ∀ x ∈ l, ∀ y ∈ m, F92 (N + 7) x y op = some (.r (f x y).1 (f x y).2 op)) : ∀ (k i n : Nat) (p q a b : Int), i + k = l.length → k < n →
    ∃ a' b', L43v4a58 (N + 7) n (rowsI m) (rowsI l) (l.length : Int) (i : Int) op p q a b = match outer f m (l.drop i) (a, b) with | some o => some (.x0 op p q o.1 o.2) | none => some (.ret op (-9223372036854775808) 9223372036854775807 a' b')
  | 0, i, n + 1, p, q, a, b, h, _ => by
    simp only [L43v4a58]
    rw [dge (by omega), List.drop_eq_nil_of_le (by omega)]
    exact ⟨0, 0, rfl⟩
  | k + 1, i, n + 1, p, q, a, b, h, hn => by
    have hi' : i < l.length := by omega
    rw [List.drop_eq_getElem_cons hi']
    simp only [L43v4a58, outer]
    rw [dlt hi', dz, rowsI_len, rowsI_len, dlt hi', rowsI_get l hi', wrap_succ (by omega)]
    simp only [Bool.and_self, tst]
    obtain ⟨a1, b1, he⟩ := L43v4a14950_eq N op f l[i] m (by omega) (hf _ (List.getElem_mem hi')) m.length 0 (N + 7) p q a b (by omega) (by omega)
    have he : L43v4a14950 (N + 7) (N + 7) l[i] (rowsI m) (m.length : Int) 0 op p q a b = _ := he
    rw [he, List.drop_zero]
    cases inner f l[i] m (a, b) with
    | none => exact ⟨a1, b1, rfl⟩
    | some o => exact L43v4a58_eq N op f l m hl hm hf k (i + 1) n p q _ _ (by omega) (by omega)
theorem F43v4_eq (N : Nat) (op : Int) (f : Int → Int → Int × Bool) (l m : List Int) (hl : l.length ≤ 5) (hm : m.length ≤ 5) (hf : ∀ x ∈ l, ∀ y ∈ m, F92 (N + 7) x y op = some (.r (f x y).1 (f x y).2 op)) : F43v4 (N + 8) (rowsI l) (rowsI m) op = some (.r (cornS f l m).1 (cornS f l m).2 op) := by
  obtain ⟨a1, b1, he⟩ := L43v4a58_eq N op f l m hl hm hf l.length 0 (N + 7) 0 0 1 0 (by omega) (by omega)
  have he : L43v4a58 (N + 7) (N + 7) (rowsI m) (rowsI l) (l.length : Int) 0 op 0 0 1 0 = _ := he
  simp only [F43v4, F42, rowsI_len, he, List.drop_zero, cornS]
  cases outer f m l (1, 0) <;> rfl

theorem L56a3730_eq (N : Nat) (op : Int) (f : Int → Int → Int × Bool) (l m : List Int) (hl : l.length ≤ 10) (hm : m.length ≤ 10) (j : Nat) (hj : j < l.length) (hf : ∀ y ∈ m, F93 (N + 7) op l[j] y = some (.r (f l[j] y).1 (f l[j] y).2)) : ∀ (k i n : Nat) (p q a b : Int), i + k = m.length → k < n →
    ∃ a' b', L56a3730 (N + 7) n op (rowsI l) (rowsI m) (j : Int) (i : Int) p q a b = match inner f l[j] (m.drop i) (a, b) with | some o => some (.x2 p q o.1 o.2) | none => some (.ret (-9223372036854775808) 9223372036854775807 a' b')
  | 0, i, n + 1, p, q, a, b, h, _ => by
    simp only [L56a3730]
    rw [rowsI_len, dge (by omega), List.drop_eq_nil_of_le (by omega)]
    exact ⟨0, 0, rfl⟩
  | k + 1, i, n + 1, p, q, a, b, h, hn => by
    have hi' : i < m.length := by omega
    rw [List.drop_eq_getElem_cons hi']
    simp only [L56a3730, inner]
    rw [rowsI_len, rowsI_len, dlt hi', dz, dz, dlt hj, rowsI_get l hj, rowsI_get m hi', wrap_succ (by omega), hf _ (List.getElem_mem hi')]
    simp only [Bool.and_self, tst]
    cases hok : (f l[j] m[i]).2 with
    | false => exact ⟨a, b, rfl⟩
    | true =>
      simp only [Bool.not_true, F29_eq]
      exact L56a3730_eq N op f l m hl hm j hj hf k (i + 1) n p q _ _ (by omega) (by omega)
theorem L56a58_eq (N : Nat) (op : Int) (f : Int → Int → Int × Bool) (l m : List Int) (hl : l.length ≤ 5) (hm : m.length ≤ 5) (hf : ∀ x ∈ l, ∀ y ∈ m, F93 (N + 7) op x y = some (.r (f x y).1 (f x y).2)) : ∀ (k i n : Nat) (p q a b : Int), i + k = l.length → k < n →
    ∃ a' b', L56a58 (N + 7) n op (rowsI l) (rowsI m) (i : Int) p q a b = match outer f m (l.drop i) (a, b) with | some o => some (.x0 p q o.1 o.2) | none => some (.ret (-9223372036854775808) 9223372036854775807 a' b')
  | 0, i, n + 1, p, q, a, b, h, _ => by
    simp only [L56a58]
    rw [rowsI_len, dge (by omega), List.drop_eq_nil_of_le (by omega)]
    exact ⟨0, 0, rfl⟩
  | k + 1, i, n + 1, p, q, a, b, h, hn => by
    have hi' : i < l.length := by omega
    rw [List.drop_eq_getElem_cons hi']
    simp only [L56a58, outer]
    rw [rowsI_len, dlt hi', wrap_succ (by omega)]
    obtain ⟨a1, b1, he⟩ := L56a3730_eq N op f l m (by omega) (by omega) i hi' (hf _ (List.getElem_mem hi')) m.length 0 (N + 7) p q a b (by omega) (by omega)
    have he : L56a3730 (N + 7) (N + 7) op (rowsI l) (rowsI m) (i : Int) 0 p q a b = _ := he
    simp only [he, List.drop_zero]
    cases inner f l[i] m (a, b) with
    | none => exact ⟨a1, b1, rfl⟩
    | some o => exact L56a58_eq N op f l m hl hm hf k (i + 1) n p q _ _ (by omega) (by omega)
theorem F56_eq (N : Nat) (op : Int) (f : Int → Int → Int × Bool) (l m : List Int) (hl : l.length ≤ 5) (hm : m.length ≤ 5) (hf : ∀ x ∈ l, ∀ y ∈ m, F93 (N + 7) op x y = some (.r (f x y).1 (f x y).2)) : F56 (N + 8) op (rowsI l) (rowsI m) = some (.r (cornS f l m).1 (cornS f l m).2) := by
  obtain ⟨a1, b1, he⟩ := L56a58_eq N op f l m hl hm hf l.length 0 (N + 7) 0 0 1 0 (by omega) (by omega)
  have he : L56a58 (N + 7) (N + 7) op (rowsI l) (rowsI m) 0 0 0 1 0 = _ := he
  simp only [F56, F55, he, List.drop_zero, cornS]
  cases outer f m l (1, 0) <;> rfl

/-! ### Divisors -/
def divS (a b : Int) : List Int := [a, -1, 1, b].filter fun y => !(y == 0) && hasS a b y
theorem rowsI_app (l : List Int) (v : Int) : rowsI l ++ [[.int .i64 v]] = rowsI (l ++ [v]) := by simp [rowsI]
theorem L48_eq (N : Nat) (a b : Int) (m : List Int) (hm : m.length ≤ 10) : ∀ (k i n : Nat) (r : List Int), i + k = m.length → r.length ≤ i → k < n →
    L48a26 (N + 1) n (m.length : Int) (i : Int) a b (rowsI m) (rowsI r) = some (.x0 a b (rowsI m) (rowsI (r ++ (m.drop i).filter fun y => !(y == 0) && hasS a b y)))
  | 0, i, n + 1, r, h, _, _ => by
    simp only [L48a26]
    rw [dge (by omega), List.drop_eq_nil_of_le (by omega)]
    simp
  | k + 1, i, n + 1, r, h, hr, hn => by
    have hi' : i < m.length := by omega
    rw [List.drop_eq_getElem_cons hi', List.filter_cons]
    simp only [L48a26]
    rw [dlt hi', dz, rowsI_len, dlt hi', rowsI_get m hi', wrap_succ (by omega), Int.toNat_natCast, decide_eq_true hi', F23_eq]
    simp only [Bool.and_self, tst, bne]
    cases h0 : (m[i] == 0) with
    | true =>
      simp only [Bool.not_true, Bool.false_and]
      exact L48_eq N a b m hm k (i + 1) n r (by omega) (by omega) (by omega)
    | false =>
      simp only [Bool.not_false, Bool.true_and]
      cases h1 : hasS a b m[i] with
      | true =>
        simp only
        rw [rowsI_len, decide_eq_true (show (r.length + 1) * 8 ≤ 140737488355328 by omega)]
        simp only [rowsI_app, if_true]
        have := L48_eq N a b m hm k (i + 1) n (r ++ [m[i]]) (by omega) (by simp; omega) (by omega)
        rw [this, List.append_assoc]
        rfl
      | false =>
        simp only [Bool.false_eq_true, if_false]
        exact L48_eq N a b m hm k (i + 1) n r (by omega) (by omega) (by omega)
theorem F48_eq (N : Nat) (a b : Int) : F48 (N + 6) a b = some (.r (rowsI (divS a b))) := by
  have := L48_eq (N + 4) a b [a, -1, 1, b] (by simp) 4 0 (N + 5) [] (by simp) (by simp) (by omega)
  have : L48a26 (N + 5) (N + 5) 4 0 a b [[.int .i64 a], [.int .i64 (-1)], [.int .i64 1], [.int .i64 b]] [] = _ := this
  simp only [F48, this, List.drop_zero, List.nil_append]
  rfl
theorem L57_eq (N : Nat) (a b : Int) (m : List Int) (hm : m.length ≤ 10) : ∀ (k i n : Nat) (r : List Int), i + k = m.length → r.length ≤ i → k < n →
    L57a122 (N + 1) n (i : Int) a b (rowsI m) (rowsI r) = some (.x0 a b (rowsI m) (rowsI (r ++ (m.drop i).filter fun y => !(y == 0) && hasS a b y)))
  | 0, i, n + 1, r, h, _, _ => by
    simp only [L57a122]
    rw [rowsI_len, dge (by omega), List.drop_eq_nil_of_le (by omega)]
    simp
  | k + 1, i, n + 1, r, h, hr, hn => by
    have hi' : i < m.length := by omega
    rw [List.drop_eq_getElem_cons hi', List.filter_cons]
    simp only [L57a122]
    rw [rowsI_len, dlt hi', dz, rowsI_get m hi', wrap_succ (by omega), Int.toNat_natCast, decide_eq_true hi', F27_eq]
    simp only [Bool.and_self, tst, bne]
    cases h0 : (m[i] == 0) with
    | true =>
      simp only [Bool.not_true, Bool.false_and]
      exact L57_eq N a b m hm k (i + 1) n r (by omega) (by omega) (by omega)
    | false =>
      simp only [Bool.not_false, Bool.true_and]
      cases h1 : hasS a b m[i] with
      | true =>
        simp only
        rw [rowsI_len, decide_eq_true (show (r.length + 1) * 8 ≤ 140737488355328 by omega)]
        simp only [rowsI_app, if_true]
        have := L57_eq N a b m hm k (i + 1) n (r ++ [m[i]]) (by omega) (by simp; omega) (by omega)
        rw [this, List.append_assoc]
        rfl
      | false =>
        simp only [Bool.false_eq_true, if_false]
        exact L57_eq N a b m hm k (i + 1) n r (by omega) (by omega) (by omega)
theorem F57_eq (N : Nat) (a b : Int) : F57 (N + 6) a b = some (.r (rowsI (divS a b))) := by
  have := L57_eq (N + 4) a b [a, -1, 1, b] (by simp) 4 0 (N + 5) [] (by simp) (by simp) (by omega)
  have : L57a122 (N + 5) (N + 5) 0 a b [[.int .i64 a], [.int .i64 (-1)], [.int .i64 1], [.int .i64 b]] [] = _ := this
  simp only [F57, this, List.drop_zero, List.nil_append]
  rfl
theorem divS_len (a b : Int) : (divS a b).length ≤ 5 := Nat.le_trans (List.length_filter_le _ _) (by simp)
theorem divS_mem {a b y : Int} (h : y ∈ divS a b) : y ≠ 0 ∧ a ≤ y ∧ y ≤ b := by
  unfold divS at h
  rw [List.mem_filter] at h
  obtain ⟨_, h⟩ := h
  simp only [hasS, Bool.and_eq_true, Bool.not_eq_true', beq_eq_false_iff_ne, decide_eq_true_eq] at h
  exact ⟨h.1, h.2.1, h.2.2⟩
end Go.Proofs.Ytnfmdenclkdmbaa

namespace Go.Proofs.Ytnfmdenclkdmbaa
open Go Go.Eng

def inB (v : Int) : Bool := decide (-2147483648 ≤ v) && decide (v ≤ 2147483647)
theorem inB_iff {v : Int} : inB v = true ↔ -2147483648 ≤ v ∧ v ≤ 2147483647 := by simp [inB]
theorem inB_I {v : Int} (h : inB v = true) : inI v := by rw [inB_iff] at h; unfold inI; omega
theorem F14_eq (N : Nat) (v : Int) : F14 (N + 1) v = some (.r (inB v)) := by
  have h : (v == IntKind.wrap .i64 (IntKind.wrap .i32 v)) = inB v := by
    have h32 : inI (IntKind.wrap .i32 v) := by
      simp [IntKind.wrap, IntKind.bits, IntKind.signed]
      unfold inI
      split <;> omega
    rw [wrap_id h32]
    by_cases h : inB v = true
    · rw [h]
      rw [inB_iff] at h
      have : IntKind.wrap .i32 v = v := by
        simp [IntKind.wrap, IntKind.bits, IntKind.signed]
        split <;> omega
      rw [this, beq_self_eq_true]
    · have h' : inB v = false := by simpa using h
      rw [h']
      rw [inB_iff] at h
      apply beq_f
      simp [IntKind.wrap, IntKind.bits, IntKind.signed]
      split <;> omega
  show some (R14.r (v == IntKind.wrap .i64 (IntKind.wrap .i32 v))) = _
  rw [h]
theorem F15_eq (N : Nat) (v : Int) : F15 (N + 1) v = some (.r (inB v)) := by
  simp only [F15, inB]
  cases decide (-2147483648 ≤ v) <;> rfl
def unS (op : Int) : Bool := decide (op = 16 ∨ op = 17 ∨ op = 18)
def lgS (op : Int) : Bool := decide (op = 13 ∨ op = 14 ∨ op = 15 ∨ op = 18)
theorem F33_eq (N : Nat) (op : Int) : F33 (N + 1) op = some (.r (unS op)) := by
  simp only [F33]
  by_cases h : 16 ≤ op
  · simp only [h, decide_true]
    have : decide (op ≤ 18) = unS op := by unfold unS; rw [decide_eq_decide]; omega
    rw [this]
  · simp only [h, decide_false]
    have : unS op = false := by unfold unS; rw [decide_eq_false_iff_not]; omega
    rw [this]
theorem F34_eq (N : Nat) (op : Int) : F34 (N + 1) op = some (.r (unS op)) := by
  simp only [F34, unS]
  by_cases h1 : op = 16
  · simp [h1]
  · by_cases h2 : op = 17
    · simp [h2]
    · simp only [beq_f h1, beq_f h2, h1, h2, false_or]
      by_cases h3 : op = 18
      · simp [h3]
      · simp only [beq_f h3, h3, decide_false]
theorem F35_eq (N : Nat) (op : Int) : F35 (N + 1) op = some (.r (lgS op)) := by
  simp only [F35, lgS]
  by_cases h1 : op = 13
  · simp [h1]
  · by_cases h2 : op = 14
    · simp [h2]
    · by_cases h4 : op = 15
      · simp [h4]
      · simp only [beq_f h1, beq_f h2, beq_f h4, h1, h2, h4, false_or]
        by_cases h3 : op = 18
        · simp [h3]
        · simp only [beq_f h3, h3, decide_false]
theorem J12a14_eq (N : Nat) (op : Int) : J12a14 N op = some (.nx (lgS op)) := by
  simp only [J12a14, lgS]
  by_cases h : 13 ≤ op ∧ op ≤ 15
  · obtain ⟨h1, h2⟩ := h
    simp only [h1, h2, decide_true]
    have : decide (op = 13 ∨ op = 14 ∨ op = 15 ∨ op = 18) = true := decide_eq_true (by omega)
    rw [this]
  · have e : decide (op = 13 ∨ op = 14 ∨ op = 15 ∨ op = 18) = decide (op = 18) := by
      rw [decide_eq_decide]; omega
    rw [e]
    have hb : (op == 18) = decide (op = 18) := by
      by_cases h3 : op = 18
      · simp [h3]
      · simp only [beq_f h3, h3, decide_false]
    by_cases h1 : 13 ≤ op
    · have h2 : ¬ op ≤ 15 := by omega
      simp only [h1, h2, decide_true, decide_false, hb]
    · simp only [h1, decide_false, hb]
/-- Checked values. -/
def chS (op a b : Int) : Int × Bool :=
  if inB a = true ∧ inB b = true ∧ ¬(lgS op = true ∧ ¬((0 ≤ a ∧ a ≤ 1) ∧ (0 ≤ b ∧ b ≤ 1))) then (if (apS op a b).2 = true ∧ inB (apS op a b).1 = true then ((apS op a b).1, true) else (0, false)) else (0, false)
def apply (op a b : Int) : Int × Bool := chS op a (if unS op = true then 0 else b)

theorem F12_eq (N : Nat) {op a b : Int} (hb : inI b) : F12 (N + 5) op a b = some (.r (apply op a b).1 (apply op a b).2) := by
  have hJ : J12a6 (N + 4) op b = some (.nx (if unS op = true then 0 else b)) := by
    simp only [J12a6, F33_eq]
    cases unS op <;> rfl
  have hb' : inI (if unS op = true then 0 else b) := by split; (unfold inI; omega); exact hb
  simp only [F12, hJ, J12a14_eq, F17_eq N hb', apply]
  generalize (if unS op = true then 0 else b) = c at *
  simp only [J12a30, F14_eq, chS]
  cases ha : inB a with
  | false => simp
  | true =>
    cases hc : inB c with
    | false => simp
    | true =>
      cases hl : lgS op with
      | false =>
        simp
        cases (apS op a c).2 <;> cases inB (apS op a c).1 <;> rfl
      | true =>
        simp only [mask_or (inB_I ha) (inB_I hc), Bool.not_true]
        by_cases h : (0 ≤ a ∧ a ≤ 1) ∧ (0 ≤ c ∧ c ≤ 1)
        · have e : (!(decide (0 ≤ a ∧ a ≤ 1) && decide (0 ≤ c ∧ c ≤ 1))) = false := by simp [h.1, h.2]
          simp only [e, h, not_true, and_false, not_false_eq_true, and_self, if_true, true_and]
          cases (apS op a c).2 <;> cases inB (apS op a c).1 <;> rfl
        · have e : (!(decide (0 ≤ a ∧ a ≤ 1) && decide (0 ≤ c ∧ c ≤ 1))) = true := by
            rw [Bool.not_eq_true', Bool.eq_false_iff]
            intro hc; simp only [Bool.and_eq_true, decide_eq_true_eq] at hc; exact h hc
          simp only [e, h, not_true, not_false_eq_true, and_self, and_false, if_false]
theorem F13_eq (N : Nat) {op a b : Int} (ha : inI a) : F13 (N + 5) op a b = some (.r (apply op a b).1 (apply op a b).2) := by
  have hJ : J13a6 (N + 4) op b = some (.nx (if unS op = true then 0 else b)) := by
    simp only [J13a6, F34_eq]
    cases unS op <;> rfl
  simp only [F13, hJ, F18_eq (N + 2) ha, apply]
  generalize (if unS op = true then 0 else b) = c at *
  simp only [J13a14, F15_eq, F35_eq, chS]
  cases ha : inB a with
  | false => simp
  | true =>
    cases hc : inB c with
    | false => simp
    | true =>
      cases hl : lgS op with
      | false =>
        simp
        cases (apS op a c).2 <;> cases inB (apS op a c).1 <;> rfl
      | true =>
        simp only [Bool.not_true]
        by_cases h1 : a < 0
        · have h : ¬ ((0 ≤ a ∧ a ≤ 1) ∧ (0 ≤ c ∧ c ≤ 1)) := by omega
          simp only [h1, decide_true, h, not_false_eq_true, and_self, not_true, and_false, if_false]
        · by_cases h2 : 1 < a
          · have h : ¬ ((0 ≤ a ∧ a ≤ 1) ∧ (0 ≤ c ∧ c ≤ 1)) := by omega
            simp only [h1, h2, decide_true, decide_false, h, not_false_eq_true, and_self, not_true, and_false, if_false]
          · by_cases h3 : c < 0
            · have h : ¬ ((0 ≤ a ∧ a ≤ 1) ∧ (0 ≤ c ∧ c ≤ 1)) := by omega
              simp only [h1, h2, h3, decide_true, decide_false, h, not_false_eq_true, and_self, not_true, and_false, if_false]
            · by_cases h4 : 1 < c
              · have h : ¬ ((0 ≤ a ∧ a ≤ 1) ∧ (0 ≤ c ∧ c ≤ 1)) := by omega
                simp only [h1, h2, h3, h4, decide_true, decide_false, h, not_false_eq_true, and_self, not_true, and_false, if_false]
              · have h : ((0 ≤ a ∧ a ≤ 1) ∧ (0 ≤ c ∧ c ≤ 1)) := by omega
                simp only [h1, h2, h3, h4, decide_false, h, not_true, and_false, not_false_eq_true, and_self, if_true, true_and]
                cases (apS op a c).2 <;> cases inB (apS op a c).1 <;> rfl

/-- NumApply. -/
theorem numApply_true {op a b : Int} (_ : 0 ≤ op ∧ op ≤ 255) (ha : inI a) (hb : inI b) : F3 41 op a b = some (.r true) := by
  have e1 : F12 40 op a b = _ := F12_eq 35 hb
  have e2 : F13 40 op a b = _ := F13_eq 35 ha
  have e3 : F14 40 a = _ := F14_eq 39 a
  have e4 : F15 40 a = _ := F15_eq 39 a
  show F3 (40 + 1) op a b = _
  simp only [F3, e1, e2, e3, e4, beq_self_eq_true, head_true]

theorem un_apS {op a b : Int} (h : unS op = true) : apS op a 0 = apS op a b := by
  unfold unS at h
  rw [decide_eq_true_eq] at h
  rcases h with h | h | h <;> simp [apS, h]
/-- NumAgrees. -/
theorem numAgrees_true {op a b : Int} (_ : 0 ≤ op ∧ op ≤ 255) (_ : inI a) (hb : inI b) : F6 41 op a b = some (.r true) := by
  have e1 : F12 40 op a b = _ := F12_eq 35 hb
  have e2 : F17 40 op a b = _ := F17_eq 36 hb
  have e3 : ∀ v, F14 40 v = _ := fun v => F14_eq 39 v
  have j1 : J6a62 40 op = some (.nx (lgS op)) := by
    simp only [J6a62, lgS]
    by_cases h1 : op = 13
    · simp [h1]
    · by_cases h2 : op = 14
      · simp [h2]
      · by_cases h4 : op = 15
        · simp [h4]
        · simp only [beq_f h1, beq_f h2, beq_f h4, h1, h2, h4, false_or]
          by_cases h3 : op = 18
          · simp [h3]
          · simp only [beq_f h3, h3, decide_false]
  have j2 : J6a126 40 op = some (.nx (unS op)) := by
    simp only [J6a126, unS]
    by_cases h1 : op = 16
    · simp [h1]
    · by_cases h2 : op = 17
      · simp [h2]
      · simp only [beq_f h1, beq_f h2, h1, h2, false_or]
        by_cases h3 : op = 18
        · simp [h3]
        · simp only [beq_f h3, h3, decide_false]
  show F6 (40 + 1) op a b = _
  simp only [F6, e1, e2, e3, j1, j2, head_true]
  have hu : apS op a (if unS op = true then 0 else b) = apS op a b := by
    by_cases h : unS op = true
    · rw [if_pos h]; exact un_apS h
    · rw [if_neg h]
  have hap : apply op a b = if inB a = true ∧ inB (if unS op = true then 0 else b) = true ∧ ¬(lgS op = true ∧ ¬((0 ≤ a ∧ a ≤ 1) ∧ (0 ≤ (if unS op = true then 0 else b) ∧ (if unS op = true then 0 else b) ≤ 1))) then (if (apS op a b).2 = true ∧ inB (apS op a b).1 = true then ((apS op a b).1, true) else (0, false)) else (0, false) := by
    unfold apply chS
    rw [hu]
  rw [hap]
  by_cases hg : inB a = true ∧ inB (if unS op = true then 0 else b) = true ∧ ¬(lgS op = true ∧ ¬((0 ≤ a ∧ a ≤ 1) ∧ (0 ≤ (if unS op = true then 0 else b) ∧ (if unS op = true then 0 else b) ≤ 1)))
  · rw [if_pos hg]
    by_cases hk : (apS op a b).2 = true ∧ inB (apS op a b).1 = true
    · rw [if_pos hk]
      simp only [hk.1, hk.2, beq_self_eq_true, hg.1]
    · rw [if_neg hk]
      simp only [beq_self_eq_true]
      cases h2 : (apS op a b).2 with
      | false => rfl
      | true =>
        cases h3 : inB (apS op a b).1 with
        | false => rfl
        | true => exact absurd ⟨h2, h3⟩ hk
  · rw [if_neg hg]
    simp only [beq_self_eq_true]
    cases h2 : (apS op a b).2 with
    | false => rfl
    | true =>
      cases h3 : inB (apS op a b).1 with
      | false => rfl
      | true =>
        cases h4 : inB a with
        | false => rfl
        | true =>
          cases h5 : unS op with
          | true =>
            cases h6 : lgS op with
            | true => rfl
            | false => exact absurd ⟨h4, by rw [if_pos h5]; rfl, by rw [h6]; simp⟩ hg
          | false =>
            cases h7 : inB b with
            | false => rfl
            | true =>
              cases h6 : lgS op with
              | true => rfl
              | false => exact absurd ⟨h4, by rw [h5]; simpa using h7, by rw [h6]; simp⟩ hg
end Go.Proofs.Ytnfmdenclkdmbaa

namespace Go.Proofs.Ytnfmdenclkdmbaa
open Go Go.Eng

def mgS (c d : Int) : Int := max (c.natAbs : Int) (d.natAbs : Int) - 1
def restS (a b c d : Int) : Int × Int := (min 0 (max a (-(mgS c d))), max 0 (min b (mgS c d)))
def resS (a b c d : Int) : Int × Int :=
  (if c < 0 then (if b ≤ 0 ∧ d < 0 then max (c + 1) a else c + 1) else 0, if 0 < d then (if 0 ≤ a ∧ 0 < c then min (d - 1) b else d - 1) else 0)
def relS (op a b c d : Int) : Int × Int :=
  if op = 7 then (tr !(decide (a < d ∨ c < b)), tr (decide (max a c ≤ min b d))) else
  if op = 8 then (tr !(decide (max a c ≤ min b d)), tr (decide (a < d ∨ c < b))) else
  if op = 9 then (tr !(decide (c ≤ b)), tr (decide (a < d))) else
  if op = 10 then (tr !(decide (c < b)), tr (decide (a ≤ d))) else
  if op = 11 then (tr !(decide (a ≤ d)), tr (decide (c < b))) else
  (tr !(decide (a < d)), tr (decide (c ≤ b)))
def lgcS (op a b c d : Int) : Int × Int :=
  if (0 ≤ a ∧ b ≤ 1) ∧ (0 ≤ c ∧ d ≤ 1) then cornS (apS op) [a, b] [c, d] else (-9223372036854775808, 9223372036854775807)
def absS (a b : Int) : Int × Int :=
  if a = -9223372036854775808 then (-9223372036854775808, 9223372036854775807) else
  if a ≤ 0 ∧ 0 ≤ b then (0, max (-a) b) else (min (a.natAbs : Int) (b.natAbs : Int), max (a.natAbs : Int) (b.natAbs : Int))

theorem F49_eq (N : Nat) {a b c d : Int} (hc : inI c) (hd : inI d) (h0 : ¬ (c = 0 ∧ d = 0)) : F49 (N + 2) a b c d = some (.r (restS a b c d).1 (restS a b c d).2) := by
  simp only [F49, F89_eq _ hc, F89_eq _ hd, imin_eq, imax_eq, restS, wrap_u]
  have e1 : (max (c.natAbs : Int) (d.natAbs : Int) - 1) % 18446744073709551616 = mgS c d := by
    obtain ⟨c0, c1⟩ := hc; obtain ⟨d0, d1⟩ := hd; unfold mgS; omega
  have e2 : inI (mgS c d) := by
    obtain ⟨c0, c1⟩ := hc; obtain ⟨d0, d1⟩ := hd; unfold mgS inI; omega
  have e3 : inI (0 - mgS c d) := by
    obtain ⟨c0, c1⟩ := hc; obtain ⟨d0, d1⟩ := hd; unfold mgS inI; omega
  rw [e1, wrap_id e2, wrap_id e3, Int.zero_sub]
theorem F58_eq (N : Nat) {a b c d : Int} (hc : inI c) (hd : inI d) (hcd : c ≤ d) (h0 : ¬ (c = 0 ∧ d = 0)) : F58 (N + 1) a b c d = some (.r (restS a b c d).1 (restS a b c d).2) := by
  have hJ : J58a14 N c c d = some (.nx (-(mgS c d) - 1) c d) := by
    obtain ⟨c0, c1⟩ := hc
    obtain ⟨d0, d1⟩ := hd
    simp only [J58a14, J58a28]
    by_cases h1 : 0 ≤ d
    · have hw : IntKind.wrap .i64 (0 - d) = -d := by rw [wrap_id (by unfold inI; omega)]; omega
      simp only [hw, h1, decide_true]
      by_cases h2 : -d < c
      · simp only [h2, decide_true, mgS]
        congr 2; omega
      · by_cases h3 : 0 < c
        · omega
        · simp only [h2, h3, decide_false, mgS]
          congr 2; omega
    · have h3 : ¬ 0 < c := by omega
      simp only [h1, h3, decide_false, mgS]
      congr 2; omega
  have e2 : inI (-(mgS c d) - 1 + 1) := by
    obtain ⟨c0, c1⟩ := hc; obtain ⟨d0, d1⟩ := hd; unfold mgS inI; omega
  have e3 : inI (0 - (-(mgS c d) - 1 + 1)) := by
    obtain ⟨c0, c1⟩ := hc; obtain ⟨d0, d1⟩ := hd; unfold mgS inI; omega
  simp only [F58, hJ, imin_eq, imax_eq, restS, wrap_id e2, wrap_id e3]
  congr 2 <;> omega
theorem F50_eq (N : Nat) {a b c d : Int} (hc : inI c) (hd : inI d) : F50 (N + 1) a b c d = some (.r (resS a b c d).1 (resS a b c d).2) := by
  obtain ⟨c0, c1⟩ := hc
  obtain ⟨d0, d1⟩ := hd
  have hJ : J50a14 N a b c d 0 0 = some (.nx a b c d 0 (if 0 < d then (if 0 ≤ a ∧ 0 < c then min (d - 1) b else d - 1) else 0)) := by
    simp only [J50a14, imin_eq]
    by_cases h1 : 0 < d
    · have hw : IntKind.wrap .i64 (d - 1) = d - 1 := wrap_id (by unfold inI; omega)
      by_cases h2 : 0 ≤ a <;> by_cases h3 : 0 < c <;> simp only [h1, h2, h3, hw, decide_true, decide_false, and_self, and_true, and_false, if_true, if_false]
    · simp only [h1, decide_false, if_false]
  simp only [F50, hJ, resS, imax_eq]
  by_cases h1 : c < 0
  · have hw : IntKind.wrap .i64 (c + 1) = c + 1 := wrap_id (by unfold inI; omega)
    by_cases h2 : b ≤ 0 <;> by_cases h3 : d < 0 <;> simp only [h1, h2, h3, hw, decide_true, decide_false, and_self, and_true, and_false, if_true, if_false]
  · simp only [h1, decide_false, if_false]
theorem F59_eq (N : Nat) {a b c d : Int} (hc : inI c) (hd : inI d) (hcd : c ≤ d) : F59 (N + 1) a b c d = some (.r (resS a b c d).1 (resS a b c d).2) := by
  obtain ⟨c0, c1⟩ := hc
  obtain ⟨d0, d1⟩ := hd
  have hw1 : 0 < d → IntKind.wrap .i64 (d - 1) = d - 1 := fun h => wrap_id (by unfold inI; omega)
  have hw2 : c < 0 → IntKind.wrap .i64 (c + 1) = c + 1 := fun h => wrap_id (by unfold inI; omega)
  have e1 : (1 ≤ d) = (0 < d) := propext (by omega)
  have e2 : (c ≤ -1) = (c < 0) := propext (by omega)
  have e3 : (1 ≤ c) = (0 < c) := propext (by omega)
  have e4 : (d ≤ -1) = (d < 0) := propext (by omega)
  simp only [F59, J59a14, J59a30, J59a62, resS, imin_eq, imax_eq]
  by_cases h1 : 0 < d <;> by_cases h2 : c < 0 <;> by_cases h3 : 0 ≤ a <;> by_cases h4 : 0 < c <;> by_cases h5 : b ≤ 0 <;> by_cases h6 : d < 0 <;>
    first
    | (exfalso; omega)
    | (have g1 := fun h => hw1 h
       have g2 := fun h => hw2 h
       have k1 : decide (1 ≤ d) = decide (0 < d) := by rw [decide_eq_decide]; omega
       have k2 : decide (c ≤ -1) = decide (c < 0) := by rw [decide_eq_decide]; omega
       have k3 : decide (1 ≤ c) = decide (0 < c) := by rw [decide_eq_decide]; omega
       have k4 : decide (d ≤ -1) = decide (d < 0) := by rw [decide_eq_decide]; omega
       simp only [k1, k2, k3, k4, h1, h2, h3, h4, h5, h6, hw1, hw2, decide_true, decide_false, and_self, and_true, and_false, true_and, false_and, if_true, if_false])
theorem F90_eq (N : Nat) (x y : Bool) : F90 (N + 4) [[.bool x], [.bool y]] = some (.r (x || y)) := by
  cases x <;> cases y <;> rfl
theorem dor {p q r : Prop} [Decidable p] [Decidable q] [Decidable r] (h : r ↔ p ∨ q) : (decide p || decide q) = decide r := by
  apply bool_eq; simp [h]
theorem F51_eq (N : Nat) {op a b c d : Int} (hab : a ≤ b) (hcd : c ≤ d) (ho : 7 ≤ op ∧ op ≤ 12) : F51 (N + 5) op a b c d = some (.r (relS op a b c d).1 (relS op a b c d).2) := by
  simp only [F51, J51a62, F90_eq, imin_eq, imax_eq, relS]
  have s1 : (decide (a < d) || decide (c < b)) = decide (a < d ∨ c < b) := dor Iff.rfl
  have s2 : (decide (max a c ≤ min b d) || decide (c < b)) = decide (c ≤ b) := dor (by omega)
  have s3 : (decide (a < d) || decide (max a c ≤ min b d)) = decide (a ≤ d) := dor (by omega)
  simp only [s1, s2, s3]
  by_cases h7 : op = 7
  · simp only [beq_t h7, if_pos h7, F91_eq]
  by_cases h8 : op = 8
  · simp only [beq_f h7, if_neg h7, beq_t h8, if_pos h8, F91_eq]
  by_cases h9 : op = 9
  · simp only [beq_f h7, if_neg h7, beq_f h8, if_neg h8, beq_t h9, if_pos h9, F91_eq]
  by_cases h10 : op = 10
  · simp only [beq_f h7, if_neg h7, beq_f h8, if_neg h8, beq_f h9, if_neg h9, beq_t h10, if_pos h10, F91_eq]
  by_cases h11 : op = 11
  · simp only [beq_f h7, if_neg h7, beq_f h8, if_neg h8, beq_f h9, if_neg h9, beq_f h10, if_neg h10, beq_t h11, if_pos h11, F91_eq]
  simp only [beq_f h7, if_neg h7, beq_f h8, if_neg h8, beq_f h9, if_neg h9, beq_f h10, if_neg h10, beq_f h11, if_neg h11, F91_eq]
def canS' (op a b c d : Int) : Bool :=
  if op = 7 then decide (max a c ≤ min b d) else if op = 8 then decide (a < d ∨ c < b) else if op = 9 then decide (a < d) else if op = 10 then decide (a ≤ d) else if op = 11 then decide (c < b) else decide (c ≤ b)
theorem F60_eq (N : Nat) {op a b c d : Int} (hab : a ≤ b) (hcd : c ≤ d) : F60 (N + 4) op a b c d = some (.r (canS' op a b c d)) := by
  simp only [F60, F31_eq, F54_eq, canS']
  by_cases h7 : op = 7
  · simp only [beq_t h7, if_pos h7, meetS]
    by_cases h : min b d < max a c
    · have : ¬ max a c ≤ min b d := by omega
      simp only [h, this, if_true, decide_false]
      rfl
    · have h2 : max a c ≤ min b d := by omega
      simp only [h, h2, if_false, decide_true, decide_false, Bool.not_false]
  by_cases h8 : op = 8
  · simp only [beq_f h7, if_neg h7, beq_t h8, if_pos h8, bne]
    by_cases g1 : a = b
    · simp only [beq_t g1, Bool.not_true]
      by_cases g2 : c = d
      · simp only [beq_t g2, Bool.not_true]
        have : (!(a == c)) = decide (a < d ∨ c < b) := by
          apply bool_eq; simp; omega
        rw [this]
      · simp only [beq_f g2, Bool.not_false]
        rw [decide_eq_true (show a < d ∨ c < b by omega)]
    · simp only [beq_f g1, Bool.not_false]
      rw [decide_eq_true (show a < d ∨ c < b by omega)]
  by_cases h9 : op = 9
  · simp only [beq_f h7, if_neg h7, beq_f h8, if_neg h8, beq_t h9, if_pos h9]
  by_cases h10 : op = 10
  · simp only [beq_f h7, if_neg h7, beq_f h8, if_neg h8, beq_f h9, if_neg h9, beq_t h10, if_pos h10]
  by_cases h11 : op = 11
  · simp only [beq_f h7, if_neg h7, beq_f h8, if_neg h8, beq_f h9, if_neg h9, beq_f h10, if_neg h10, beq_t h11, if_pos h11]
  simp only [beq_f h7, if_neg h7, beq_f h8, if_neg h8, beq_f h9, if_neg h9, beq_f h10, if_neg h10, beq_f h11, if_neg h11]
def ctrS (op : Int) : Int := if op = 7 then 8 else if op = 8 then 7 else if op = 9 then 12 else if op = 10 then 11 else if op = 11 then 10 else 9
theorem F61_eq (N : Nat) (op : Int) : F61 (N + 1) op = some (.r (ctrS op)) := by
  simp only [F61, ctrS]
  by_cases h7 : op = 7
  · simp only [beq_t h7, if_pos h7]
  by_cases h8 : op = 8
  · simp only [beq_f h7, if_neg h7, beq_t h8, if_pos h8]
  by_cases h9 : op = 9
  · simp only [beq_f h7, if_neg h7, beq_f h8, if_neg h8, beq_t h9, if_pos h9]
  by_cases h10 : op = 10
  · simp only [beq_f h7, if_neg h7, beq_f h8, if_neg h8, beq_f h9, if_neg h9, beq_t h10, if_pos h10]
  by_cases h11 : op = 11
  · simp only [beq_f h7, if_neg h7, beq_f h8, if_neg h8, beq_f h9, if_neg h9, beq_f h10, if_neg h10, beq_t h11, if_pos h11]
  simp only [beq_f h7, if_neg h7, beq_f h8, if_neg h8, beq_f h9, if_neg h9, beq_f h10, if_neg h10, beq_f h11, if_neg h11]
theorem rel_can {op a b c d : Int} (ho : 7 ≤ op ∧ op ≤ 12) : (tr (!(canS' (ctrS op) a b c d)), tr (canS' op a b c d)) = relS op a b c d := by
  have : op = 7 ∨ op = 8 ∨ op = 9 ∨ op = 10 ∨ op = 11 ∨ op = 12 := by omega
  rcases this with rfl | rfl | rfl | rfl | rfl | rfl <;> rfl
end Go.Proofs.Ytnfmdenclkdmbaa
