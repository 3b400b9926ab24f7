/-
  The functions of the code as typed functions, and that the code runs so. Printed by gen2.py.
  The functions of the code as typed functions, and that the code runs so. Printed by gen2.py.
  The functions of the code as typed functions, and that the code runs so. Printed by gen2.py.
  The functions of the code as typed functions, and that the code runs so. Printed by gen2.py.
  The functions of the code as typed functions, and that the code runs so. Printed by gen2.py.
  The functions of the code as typed functions, and that the code runs so. Printed by gen2.py.
  The functions of the code as typed functions, and that the code runs so. Printed by gen2.py.
  The functions of the code as typed functions, and that the code runs so. Printed by gen2.py.
  The functions of the code as typed functions, and that the code runs so. Printed by gen2.py.
  The functions of the code as typed functions, and that the code runs so. Printed by gen2.py.
  The functions of the code as typed functions, and that the code runs so. Printed by gen2.py.
  The functions of the code as typed functions, and that the code runs so. Printed by gen2.py.
  Plain laws of chapter 01: numbers.
  Plain laws of chapter 01: the machine's values, in both texts.
  Plain laws of chapter 01: intervals, in both texts; NumIvals.
  Plain laws of chapter 01: join, meet and widening (NumJoins).
  What is proved: ceilinglaw01.NumJoins returns true for every input, and leaves its arguments as they were. No condition.
-/
import Derived.Test.YtnfmdenclkdmbaaJo3
import Derived.KernelRfl
import Derived.Test.YtnfmdenclkdmbaaJo4
import Derived.Test.YtnfmdenclkdmbaaRows
import Derived.WalkKit
import Derived.ProofKit
import Derived.OpenShut
set_option linter.all false
set_option linter.deprecated false
namespace Go.Proofs.Ytnfmdenclkdmbaa
open Go Go.Eng
set_option maxRecDepth 100000

/-! ### F55: ceiling/ceilingref01.None -/
inductive R55 where
  | r (x0c0 : Int) (x0c1 : Int)
abbrev TF55 := Option R55
def sgF55 : LSh := ⟨[], []⟩
def FFF55 (Fx : TF55) (s : St) : Option R55 := Fx 
def valF55 (o : R55) : AV := match o with | .r x0c0 x0c1 => .agg [.int .i64 x0c0, .int .i64 x0c1]
def memF55 (o : R55) : List Blk := match o with | .r x0c0 x0c1 => []
def elF55 {R : Type} (o : R55) (k : AV → List Blk → Option R) : Option R := match o with | .r x0c0 x0c1 => k (.agg [.int .i64 x0c0, .int .i64 x0c1]) []
def RecOkF55 (Fx : TF55) : Prop := ∀ lk M o, FFF55 Fx (canS sgF55 lk M) = some o → FCalls CX 55 0 (argsE 0 (canS sgF55 lk M).env) (canS sgF55 lk M).mem (valF55 o) (memF55 o)
noncomputable def csF55 (N : Nat) (R : Type) : List (CE R) := []
theorem hcsF55 (N : Nat) (R : Type) : AllE (CeOk CX) (csF55 N R) := trivial
noncomputable def T55ur1 (N : Nat) (R : Type) : LTab R := mkTab ⟨2, 3⟩ (csF55 N R) (noY) [] [] []
theorem okT55ur1 (N : Nat) (R : Type) : (T55ur1 N R).Ok CX code55 := mkTab_ok (hcsF55 N R) (noY_ok) (trivial) (trivial) (trivial)
def rsF55 : List ResultVar := [.cell 0 29]
def F55 : Nat → TF55
  | 0 => none
  | N + 1 => 
    some (.r 1 0)
def xRF55 : XSh R55 := ⟨[], ⟨[(0, .agg [.cell (.int .i64), .cell (.int .i64)])], []⟩, fun _ => [], fun s => .r (((Eng.look s.env 0).cells.getD 0 .top).toI) (((Eng.look s.env 0).cells.getD 1 .top).toI)⟩
theorem fsF55 : ∀ (N : Nat) (lk : Nat → AV) (M : List Blk), FFF55 (F55 (N + 1)) (canS sgF55 lk M) = evfn CX (T55ur1 N R55) code55 rsF55 (argsE 0 (canS sgF55 lk M).env) (canS sgF55 lk M).mem (goR CX 0 (fun _ => some xRF55)) := by intro N lk M; kernel_rfl
theorem soundF55 : ∀ N, RecOkF55 (F55 N)
  | 0, lk, M, o, h => by cases h
  | N + 1, lk, M, o, h => fn_sound hX (okT55ur1 N R55) Try.func55 hb55 rfl en55 (by kernel_rfl) (ys := fun _ => some xRF55) (fun st y h => by injection h with h; subst h; exact fun lk M => ⟨rfl, rfl⟩) ((fsF55 N lk M).symm.trans h)
def cvce55n0 : List Cv := []
def selce55n0 : St → List Nat := fun _ => []
noncomputable def ce55n0 (Fx : TF55) (R : Type) (test : List AV → List Blk → Bool) : CE R := ⟨55, test, fun args M => some (selce55n0 ⟨argEnv 0 args, M, [], .unk⟩), fun args M k => tst (Nat.beq args.length 0) (callFn CX 0 cvce55n0 sgF55 selce55n0 (FFF55 Fx) elF55 args M k)⟩
theorem okce55n0 (Fx : TF55) (h : RecOkF55 Fx) (R : Type) (test : List AV → List Blk → Bool) : CeOk CX (ce55n0 Fx R test) := ce_ok hX (fun o k => by cases o; rfl) h en55 (fun args M ids h => by injection h with h; exact ⟨rfl, h.symm⟩)
end Go.Proofs.Ytnfmdenclkdmbaa

namespace Go.Proofs.Ytnfmdenclkdmbaa
open Go Go.Eng
set_option maxRecDepth 100000

/-! ### F63: ceiling/ceilingref01.Full -/
inductive R63 where
  | r (x0c0 : Int) (x0c1 : Int)
abbrev TF63 := Option R63
def sgF63 : LSh := ⟨[], []⟩
def FFF63 (Fx : TF63) (s : St) : Option R63 := Fx 
def valF63 (o : R63) : AV := match o with | .r x0c0 x0c1 => .agg [.int .i64 x0c0, .int .i64 x0c1]
def memF63 (o : R63) : List Blk := match o with | .r x0c0 x0c1 => []
def elF63 {R : Type} (o : R63) (k : AV → List Blk → Option R) : Option R := match o with | .r x0c0 x0c1 => k (.agg [.int .i64 x0c0, .int .i64 x0c1]) []
def RecOkF63 (Fx : TF63) : Prop := ∀ lk M o, FFF63 Fx (canS sgF63 lk M) = some o → FCalls CX 63 0 (argsE 0 (canS sgF63 lk M).env) (canS sgF63 lk M).mem (valF63 o) (memF63 o)
noncomputable def csF63 (N : Nat) (R : Type) : List (CE R) := []
theorem hcsF63 (N : Nat) (R : Type) : AllE (CeOk CX) (csF63 N R) := trivial
noncomputable def T63ur1 (N : Nat) (R : Type) : LTab R := mkTab ⟨2, 3⟩ (csF63 N R) (noY) [] [] []
theorem okT63ur1 (N : Nat) (R : Type) : (T63ur1 N R).Ok CX code63 := mkTab_ok (hcsF63 N R) (noY_ok) (trivial) (trivial) (trivial)
def rsF63 : List ResultVar := [.cell 0 29]
def F63 : Nat → TF63
  | 0 => none
  | N + 1 => 
    some (.r ((-9223372036854775808)) 9223372036854775807)
def xRF63 : XSh R63 := ⟨[], ⟨[(0, .agg [.cell (.int .i64), .cell (.int .i64)])], []⟩, fun _ => [], fun s => .r (((Eng.look s.env 0).cells.getD 0 .top).toI) (((Eng.look s.env 0).cells.getD 1 .top).toI)⟩
theorem fsF63 : ∀ (N : Nat) (lk : Nat → AV) (M : List Blk), FFF63 (F63 (N + 1)) (canS sgF63 lk M) = evfn CX (T63ur1 N R63) code63 rsF63 (argsE 0 (canS sgF63 lk M).env) (canS sgF63 lk M).mem (goR CX 0 (fun _ => some xRF63)) := by intro N lk M; kernel_rfl
theorem soundF63 : ∀ N, RecOkF63 (F63 N)
  | 0, lk, M, o, h => by cases h
  | N + 1, lk, M, o, h => fn_sound hX (okT63ur1 N R63) Try.func63 hb63 rfl en63 (by kernel_rfl) (ys := fun _ => some xRF63) (fun st y h => by injection h with h; subst h; exact fun lk M => ⟨rfl, rfl⟩) ((fsF63 N lk M).symm.trans h)
def cvce63n0 : List Cv := []
def selce63n0 : St → List Nat := fun _ => []
noncomputable def ce63n0 (Fx : TF63) (R : Type) (test : List AV → List Blk → Bool) : CE R := ⟨63, test, fun args M => some (selce63n0 ⟨argEnv 0 args, M, [], .unk⟩), fun args M k => tst (Nat.beq args.length 0) (callFn CX 0 cvce63n0 sgF63 selce63n0 (FFF63 Fx) elF63 args M k)⟩
theorem okce63n0 (Fx : TF63) (h : RecOkF63 Fx) (R : Type) (test : List AV → List Blk → Bool) : CeOk CX (ce63n0 Fx R test) := ce_ok hX (fun o k => by cases o; rfl) h en63 (fun args M ids h => by injection h with h; exact ⟨rfl, h.symm⟩)
end Go.Proofs.Ytnfmdenclkdmbaa

namespace Go.Proofs.Ytnfmdenclkdmbaa
open Go Go.Eng
set_option maxRecDepth 100000

/-! ### F66: ceiling/ceilingref01.canon -/
inductive R66 where
  | r (x0c0 : Int) (x0c1 : Int)
abbrev TF66 := Int → Int → Option R66
def sgF66 : LSh := ⟨[(0, .agg [.cell (.int .i64), .cell (.int .i64)])], []⟩
def FFF66 (Fx : TF66) (s : St) : Option R66 := Fx (((Eng.look s.env 0).cells.getD 0 .top).toI) (((Eng.look s.env 0).cells.getD 1 .top).toI)
def valF66 (o : R66) : AV := match o with | .r x0c0 x0c1 => .agg [.int .i64 x0c0, .int .i64 x0c1]
def memF66 (o : R66) : List Blk := match o with | .r x0c0 x0c1 => []
def elF66 {R : Type} (o : R66) (k : AV → List Blk → Option R) : Option R := match o with | .r x0c0 x0c1 => k (.agg [.int .i64 x0c0, .int .i64 x0c1]) []
def RecOkF66 (Fx : TF66) : Prop := ∀ lk M o, FFF66 Fx (canS sgF66 lk M) = some o → FCalls CX 66 0 (argsE 1 (canS sgF66 lk M).env) (canS sgF66 lk M).mem (valF66 o) (memF66 o)
noncomputable def csF66 (N : Nat) (R : Type) : List (CE R) := [ce54n0 (F54 N) R (fun _ _ => true), ce55n0 (F55 N) R (fun _ _ => true)]
theorem hcsF66 (N : Nat) (R : Type) : AllE (CeOk CX) (csF66 N R) := ⟨okce54n0 (F54 N) (soundF54 N) R (fun _ _ => true), okce55n0 (F55 N) (soundF55 N) R (fun _ _ => true), trivial⟩
noncomputable def T66ur1 (N : Nat) (R : Type) : LTab R := mkTab ⟨7, 127⟩ (csF66 N R) (noY) [] [] []
theorem okT66ur1 (N : Nat) (R : Type) : (T66ur1 N R).Ok CX code66 := mkTab_ok (hcsF66 N R) (noY_ok) (trivial) (trivial) (trivial)
def rsF66 : List ResultVar := [.cell 2 29]
def F66 : Nat → TF66
  | 0 => fun _ _ => none
  | N + 1 => fun x0c0 x0c1 =>
    match F54 N x0c0 x0c1 with
    | none => none
    | some (.r rx0v1) =>
      match rx0v1 with
      | true =>
        match F55 N  with
        | none => none
        | some (.r rx0c0v2 rx0c1v2) =>
          some (.r rx0c0v2 rx0c1v2)
      | false =>
        some (.r x0c0 x0c1)
def xRF66 : XSh R66 := ⟨[], ⟨[(0, .agg [.cell (.int .i64), .cell (.int .i64)])], []⟩, fun _ => [], fun s => .r (((Eng.look s.env 0).cells.getD 0 .top).toI) (((Eng.look s.env 0).cells.getD 1 .top).toI)⟩
theorem fsF66 : ∀ (N : Nat) (lk : Nat → AV) (M : List Blk), FFF66 (F66 (N + 1)) (canS sgF66 lk M) = evfn CX (T66ur1 N R66) code66 rsF66 (argsE 1 (canS sgF66 lk M).env) (canS sgF66 lk M).mem (goR CX 0 (fun _ => some xRF66)) := by intro N lk M; kernel_rfl
theorem soundF66 : ∀ N, RecOkF66 (F66 N)
  | 0, lk, M, o, h => by cases h
  | N + 1, lk, M, o, h => fn_sound hX (okT66ur1 N R66) Try.func66 hb66 rfl en66 (by kernel_rfl) (ys := fun _ => some xRF66) (fun st y h => by injection h with h; subst h; exact fun lk M => ⟨rfl, rfl⟩) ((fsF66 N lk M).symm.trans h)
def cvce66n0 : List Cv := []
def selce66n0 : St → List Nat := fun _ => []
noncomputable def ce66n0 (Fx : TF66) (R : Type) (test : List AV → List Blk → Bool) : CE R := ⟨66, test, fun args M => some (selce66n0 ⟨argEnv 0 args, M, [], .unk⟩), fun args M k => tst (Nat.beq args.length 1) (callFn CX 0 cvce66n0 sgF66 selce66n0 (FFF66 Fx) elF66 args M k)⟩
theorem okce66n0 (Fx : TF66) (h : RecOkF66 Fx) (R : Type) (test : List AV → List Blk → Bool) : CeOk CX (ce66n0 Fx R test) := ce_ok hX (fun o k => by cases o; rfl) h en66 (fun args M ids h => by injection h with h; exact ⟨rfl, h.symm⟩)
end Go.Proofs.Ytnfmdenclkdmbaa

namespace Go.Proofs.Ytnfmdenclkdmbaa
open Go Go.Eng
set_option maxRecDepth 100000

/-! ### F29: ceiling/ceilingref01.Join -/
inductive R29 where
  | r (x0c0 : Int) (x0c1 : Int)
abbrev TF29 := Int → Int → Int → Int → Option R29
def sgF29 : LSh := ⟨[(0, .agg [.cell (.int .i64), .cell (.int .i64)]), (1, .agg [.cell (.int .i64), .cell (.int .i64)])], []⟩
def FFF29 (Fx : TF29) (s : St) : Option R29 := Fx (((Eng.look s.env 0).cells.getD 0 .top).toI) (((Eng.look s.env 0).cells.getD 1 .top).toI) (((Eng.look s.env 1).cells.getD 0 .top).toI) (((Eng.look s.env 1).cells.getD 1 .top).toI)
def valF29 (o : R29) : AV := match o with | .r x0c0 x0c1 => .agg [.int .i64 x0c0, .int .i64 x0c1]
def memF29 (o : R29) : List Blk := match o with | .r x0c0 x0c1 => []
def elF29 {R : Type} (o : R29) (k : AV → List Blk → Option R) : Option R := match o with | .r x0c0 x0c1 => k (.agg [.int .i64 x0c0, .int .i64 x0c1]) []
def RecOkF29 (Fx : TF29) : Prop := ∀ lk M o, FFF29 Fx (canS sgF29 lk M) = some o → FCalls CX 29 0 (argsE 2 (canS sgF29 lk M).env) (canS sgF29 lk M).mem (valF29 o) (memF29 o)
noncomputable def csF29 (N : Nat) (R : Type) : List (CE R) := [ce54n0 (F54 N) R (fun _ _ => true), ce66n0 (F66 N) R (fun _ _ => true)]
theorem hcsF29 (N : Nat) (R : Type) : AllE (CeOk CX) (csF29 N R) := ⟨okce54n0 (F54 N) (soundF54 N) R (fun _ _ => true), okce66n0 (F66 N) (soundF66 N) R (fun _ _ => true), trivial⟩
noncomputable def T29ur1 (N : Nat) (R : Type) : LTab R := mkTab ⟨23, 8388607⟩ (csF29 N R) (noY) [] [] []
theorem okT29ur1 (N : Nat) (R : Type) : (T29ur1 N R).Ok CX code29 := mkTab_ok (hcsF29 N R) (noY_ok) (trivial) (trivial) (trivial)
def rsF29 : List ResultVar := [.cell 4 29]
def F29 : Nat → TF29
  | 0 => fun _ _ _ _ => none
  | N + 1 => fun x0c0 x0c1 x1c0 x1c1 =>
    match F54 N x0c0 x0c1 with
    | none => none
    | some (.r rx0v1) =>
      match rx0v1 with
      | true =>
        match F66 N x1c0 x1c1 with
        | none => none
        | some (.r rx0c0v2 rx0c1v2) =>
          some (.r rx0c0v2 rx0c1v2)
      | false =>
        match F54 N x1c0 x1c1 with
        | none => none
        | some (.r rx0v3) =>
          match rx0v3 with
          | true =>
            some (.r x0c0 x0c1)
          | false =>
            some (.r (Eng.imin x0c0 x1c0) (Eng.imax x0c1 x1c1))
def xRF29 : XSh R29 := ⟨[], ⟨[(0, .agg [.cell (.int .i64), .cell (.int .i64)])], []⟩, fun _ => [], fun s => .r (((Eng.look s.env 0).cells.getD 0 .top).toI) (((Eng.look s.env 0).cells.getD 1 .top).toI)⟩
theorem fsF29 : ∀ (N : Nat) (lk : Nat → AV) (M : List Blk), FFF29 (F29 (N + 1)) (canS sgF29 lk M) = evfn CX (T29ur1 N R29) code29 rsF29 (argsE 2 (canS sgF29 lk M).env) (canS sgF29 lk M).mem (goR CX 0 (fun _ => some xRF29)) := by intro N lk M; kernel_rfl
theorem soundF29 : ∀ N, RecOkF29 (F29 N)
  | 0, lk, M, o, h => by cases h
  | N + 1, lk, M, o, h => fn_sound hX (okT29ur1 N R29) Try.func29 hb29 rfl en29 (by kernel_rfl) (ys := fun _ => some xRF29) (fun st y h => by injection h with h; subst h; exact fun lk M => ⟨rfl, rfl⟩) ((fsF29 N lk M).symm.trans h)
def cvce29n0 : List Cv := []
def selce29n0 : St → List Nat := fun _ => []
noncomputable def ce29n0 (Fx : TF29) (R : Type) (test : List AV → List Blk → Bool) : CE R := ⟨29, test, fun args M => some (selce29n0 ⟨argEnv 0 args, M, [], .unk⟩), fun args M k => tst (Nat.beq args.length 2) (callFn CX 0 cvce29n0 sgF29 selce29n0 (FFF29 Fx) elF29 args M k)⟩
theorem okce29n0 (Fx : TF29) (h : RecOkF29 Fx) (R : Type) (test : List AV → List Blk → Bool) : CeOk CX (ce29n0 Fx R test) := ce_ok hX (fun o k => by cases o; rfl) h en29 (fun args M ids h => by injection h with h; exact ⟨rfl, h.symm⟩)
end Go.Proofs.Ytnfmdenclkdmbaa

namespace Go.Proofs.Ytnfmdenclkdmbaa
open Go Go.Eng
set_option maxRecDepth 100000

/-! ### F27: ceiling/ceilingref01.Has -/
inductive R27 where
  | r (x0 : Bool)
abbrev TF27 := Int → Int → Int → Option R27
def sgF27 : LSh := ⟨[(0, .agg [.cell (.int .i64), .cell (.int .i64)]), (1, .one (.cell (.int .i64)))], []⟩
def FFF27 (Fx : TF27) (s : St) : Option R27 := Fx (((Eng.look s.env 0).cells.getD 0 .top).toI) (((Eng.look s.env 0).cells.getD 1 .top).toI) ((Eng.look s.env 1).toI)
def valF27 (o : R27) : AV := match o with | .r x0 => .bool x0
def memF27 (o : R27) : List Blk := match o with | .r x0 => []
def elF27 {R : Type} (o : R27) (k : AV → List Blk → Option R) : Option R := match o with | .r x0 => k (.bool x0) []
def RecOkF27 (Fx : TF27) : Prop := ∀ lk M o, FFF27 Fx (canS sgF27 lk M) = some o → FCalls CX 27 0 (argsE 2 (canS sgF27 lk M).env) (canS sgF27 lk M).mem (valF27 o) (memF27 o)
noncomputable def csF27 (N : Nat) (R : Type) : List (CE R) := []
theorem hcsF27 (N : Nat) (R : Type) : AllE (CeOk CX) (csF27 N R) := trivial
noncomputable def T27ur1 (N : Nat) (R : Type) : LTab R := mkTab ⟨15, 32767⟩ (csF27 N R) (noY) [] [] []
theorem okT27ur1 (N : Nat) (R : Type) : (T27ur1 N R).Ok CX code27 := mkTab_ok (hcsF27 N R) (noY_ok) (trivial) (trivial) (trivial)
def rsF27 : List ResultVar := [.tmp 4]
def F27 : Nat → TF27
  | 0 => fun _ _ _ => none
  | N + 1 => fun x0c0 x0c1 x1 =>
    match decide (x0c0 ≤ x1) with
    | true =>
      some (.r (decide (x1 ≤ x0c1)))
    | false =>
      some (.r false)
def xRF27 : XSh R27 := ⟨[], ⟨[(0, .one (.cell (.bool)))], []⟩, fun _ => [], fun s => .r ((Eng.look s.env 0).toB)⟩
theorem fsF27 : ∀ (N : Nat) (lk : Nat → AV) (M : List Blk), FFF27 (F27 (N + 1)) (canS sgF27 lk M) = evfn CX (T27ur1 N R27) code27 rsF27 (argsE 2 (canS sgF27 lk M).env) (canS sgF27 lk M).mem (goR CX 0 (fun _ => some xRF27)) := by intro N lk M; kernel_rfl
theorem soundF27 : ∀ N, RecOkF27 (F27 N)
  | 0, lk, M, o, h => by cases h
  | N + 1, lk, M, o, h => fn_sound hX (okT27ur1 N R27) Try.func27 hb27 rfl en27 (by kernel_rfl) (ys := fun _ => some xRF27) (fun st y h => by injection h with h; subst h; exact fun lk M => ⟨rfl, rfl⟩) ((fsF27 N lk M).symm.trans h)
def cvce27n0 : List Cv := []
def selce27n0 : St → List Nat := fun _ => []
noncomputable def ce27n0 (Fx : TF27) (R : Type) (test : List AV → List Blk → Bool) : CE R := ⟨27, test, fun args M => some (selce27n0 ⟨argEnv 0 args, M, [], .unk⟩), fun args M k => tst (Nat.beq args.length 2) (callFn CX 0 cvce27n0 sgF27 selce27n0 (FFF27 Fx) elF27 args M k)⟩
theorem okce27n0 (Fx : TF27) (h : RecOkF27 Fx) (R : Type) (test : List AV → List Blk → Bool) : CeOk CX (ce27n0 Fx R test) := ce_ok hX (fun o k => by cases o; rfl) h en27 (fun args M ids h => by injection h with h; exact ⟨rfl, h.symm⟩)
end Go.Proofs.Ytnfmdenclkdmbaa

namespace Go.Proofs.Ytnfmdenclkdmbaa
open Go Go.Eng
set_option maxRecDepth 100000

/-! ### F31: ceiling/ceilingref01.Meet -/
inductive R31 where
  | r (x0c0 : Int) (x0c1 : Int)
abbrev TF31 := Int → Int → Int → Int → Option R31
def sgF31 : LSh := ⟨[(0, .agg [.cell (.int .i64), .cell (.int .i64)]), (1, .agg [.cell (.int .i64), .cell (.int .i64)])], []⟩
def FFF31 (Fx : TF31) (s : St) : Option R31 := Fx (((Eng.look s.env 0).cells.getD 0 .top).toI) (((Eng.look s.env 0).cells.getD 1 .top).toI) (((Eng.look s.env 1).cells.getD 0 .top).toI) (((Eng.look s.env 1).cells.getD 1 .top).toI)
def valF31 (o : R31) : AV := match o with | .r x0c0 x0c1 => .agg [.int .i64 x0c0, .int .i64 x0c1]
def memF31 (o : R31) : List Blk := match o with | .r x0c0 x0c1 => []
def elF31 {R : Type} (o : R31) (k : AV → List Blk → Option R) : Option R := match o with | .r x0c0 x0c1 => k (.agg [.int .i64 x0c0, .int .i64 x0c1]) []
def RecOkF31 (Fx : TF31) : Prop := ∀ lk M o, FFF31 Fx (canS sgF31 lk M) = some o → FCalls CX 31 0 (argsE 2 (canS sgF31 lk M).env) (canS sgF31 lk M).mem (valF31 o) (memF31 o)
noncomputable def csF31 (N : Nat) (R : Type) : List (CE R) := [ce66n0 (F66 N) R (fun _ _ => true)]
theorem hcsF31 (N : Nat) (R : Type) : AllE (CeOk CX) (csF31 N R) := ⟨okce66n0 (F66 N) (soundF66 N) R (fun _ _ => true), trivial⟩
noncomputable def T31ur1 (N : Nat) (R : Type) : LTab R := mkTab ⟨17, 131071⟩ (csF31 N R) (noY) [] [] []
theorem okT31ur1 (N : Nat) (R : Type) : (T31ur1 N R).Ok CX code31 := mkTab_ok (hcsF31 N R) (noY_ok) (trivial) (trivial) (trivial)
def rsF31 : List ResultVar := [.cell 4 29]
def F31 : Nat → TF31
  | 0 => fun _ _ _ _ => none
  | N + 1 => fun x0c0 x0c1 x1c0 x1c1 =>
    match F66 N (Eng.imax x0c0 x1c0) (Eng.imin x0c1 x1c1) with
    | none => none
    | some (.r rx0c0v1 rx0c1v1) =>
      some (.r rx0c0v1 rx0c1v1)
def xRF31 : XSh R31 := ⟨[], ⟨[(0, .agg [.cell (.int .i64), .cell (.int .i64)])], []⟩, fun _ => [], fun s => .r (((Eng.look s.env 0).cells.getD 0 .top).toI) (((Eng.look s.env 0).cells.getD 1 .top).toI)⟩
theorem fsF31 : ∀ (N : Nat) (lk : Nat → AV) (M : List Blk), FFF31 (F31 (N + 1)) (canS sgF31 lk M) = evfn CX (T31ur1 N R31) code31 rsF31 (argsE 2 (canS sgF31 lk M).env) (canS sgF31 lk M).mem (goR CX 0 (fun _ => some xRF31)) := by intro N lk M; kernel_rfl
theorem soundF31 : ∀ N, RecOkF31 (F31 N)
  | 0, lk, M, o, h => by cases h
  | N + 1, lk, M, o, h => fn_sound hX (okT31ur1 N R31) Try.func31 hb31 rfl en31 (by kernel_rfl) (ys := fun _ => some xRF31) (fun st y h => by injection h with h; subst h; exact fun lk M => ⟨rfl, rfl⟩) ((fsF31 N lk M).symm.trans h)
def cvce31n0 : List Cv := []
def selce31n0 : St → List Nat := fun _ => []
noncomputable def ce31n0 (Fx : TF31) (R : Type) (test : List AV → List Blk → Bool) : CE R := ⟨31, test, fun args M => some (selce31n0 ⟨argEnv 0 args, M, [], .unk⟩), fun args M k => tst (Nat.beq args.length 2) (callFn CX 0 cvce31n0 sgF31 selce31n0 (FFF31 Fx) elF31 args M k)⟩
theorem okce31n0 (Fx : TF31) (h : RecOkF31 Fx) (R : Type) (test : List AV → List Blk → Bool) : CeOk CX (ce31n0 Fx R test) := ce_ok hX (fun o k => by cases o; rfl) h en31 (fun args M ids h => by injection h with h; exact ⟨rfl, h.symm⟩)
end Go.Proofs.Ytnfmdenclkdmbaa

namespace Go.Proofs.Ytnfmdenclkdmbaa
open Go Go.Eng
set_option maxRecDepth 100000

/-! ### F6: ceiling/ceilinglaw01.NumAgrees -/
inductive R6 where
  | r (x0 : Bool)
abbrev TF6 := Int → Int → Int → Option R6
def sgF6 : LSh := ⟨[(0, .one (.cell (.int .u8))), (1, .one (.cell (.int .i64))), (2, .one (.cell (.int .i64)))], []⟩
def FFF6 (Fx : TF6) (s : St) : Option R6 := Fx ((Eng.look s.env 0).toI) ((Eng.look s.env 1).toI) ((Eng.look s.env 2).toI)
def valF6 (o : R6) : AV := match o with | .r x0 => .bool x0
def memF6 (o : R6) : List Blk := match o with | .r x0 => []
def elF6 {R : Type} (o : R6) (k : AV → List Blk → Option R) : Option R := match o with | .r x0 => k (.bool x0) []
def RecOkF6 (Fx : TF6) : Prop := ∀ lk M o, FFF6 Fx (canS sgF6 lk M) = some o → FCalls CX 6 0 (argsE 3 (canS sgF6 lk M).env) (canS sgF6 lk M).mem (valF6 o) (memF6 o)
noncomputable def csF6 (N : Nat) (R : Type) : List (CE R) := [ce12n0 (F12 N) R (fun _ _ => true), ce14n0 (F14 N) R (fun _ _ => true), ce16n0 (F16 N) R (fun _ _ => true), ce17n0 (F17 N) R (fun _ _ => true)]
theorem hcsF6 (N : Nat) (R : Type) : AllE (CeOk CX) (csF6 N R) := ⟨okce12n0 (F12 N) (soundF12 N) R (fun _ _ => true), okce14n0 (F14 N) (soundF14 N) R (fun _ _ => true), okce16n0 (F16 N) (soundF16 N) R (fun _ _ => true), okce17n0 (F17 N) (soundF17 N) R (fun _ _ => true), trivial⟩
inductive OJ6a62 where
  | nx (x11 : Bool)
def J6a62 (N : Nat) : Int → Option OJ6a62 := fun x0 =>
    match x0 == (13 : Int) with
    | true =>
      some (.nx true)
    | false =>
      match x0 == (14 : Int) with
      | true =>
        some (.nx true)
      | false =>
        match x0 == (15 : Int) with
        | true =>
          some (.nx true)
        | false =>
          some (.nx (x0 == (18 : Int)))
def LFJ6a62 (N : Nat) (s : St) : Option OJ6a62 := J6a62 N ((Eng.look s.env 0).toI)
def sgJ6a62 : LSh := ⟨[(0, .one (.cell (.int .u8)))], []⟩
def ceJ6a62 : List Cv := []
def seJ6a62 : St → List Nat := fun _ => []
def xJ6a62wnx : XSh OJ6a62 := ⟨[], ⟨[(11, .one (.cell (.bool)))], []⟩, fun _ => [], fun s => .nx ((Eng.look s.env 11).toB)⟩
def xsJ6a62 : Ex → St → Option (XSh OJ6a62) := fun e st => match e with
  | .normal => some xJ6a62wnx
  | _ => none
def exJ6a62 (o : OJ6a62) : Ex := match o with | .nx x11 => .normal
def stJ6a62 (o : OJ6a62) : St := match o with | .nx x11 => ⟨[(11, .bool x11)], [], [], .unk⟩
def elJ6a62 {R : Type} (o : OJ6a62) (k : Ex → St → Option R) : Option R := match o with | .nx x11 => k .normal ⟨[(11, .bool x11)], [], [], .unk⟩
theorem heJ6a62 {R : Type} (o : OJ6a62) (k : Ex → St → Option R) : elJ6a62 o k = k (exJ6a62 o) (stJ6a62 o) := by cases o <;> rfl
theorem hxJ6a62 : ∀ e st x, xsJ6a62 e st = some x → outOk x e exJ6a62 stJ6a62 := by
  intro e st x h
  unfold xsJ6a62 at h
  repeat' split at h
  all_goals first
    | (injection h with h; subst h; exact fun lk M => ⟨rfl, rfl⟩)
    | cases h
noncomputable def T6uc62 (N : Nat) (R : Type) : LTab R := mkTab ⟨100, 576425567931336704⟩ (csF6 N R) (noY) [] [] []
theorem okT6uc62 (N : Nat) (R : Type) : (T6uc62 N R).Ok CX code6 := mkTab_ok (hcsF6 N R) (noY_ok) (trivial) (trivial) (trivial)
noncomputable def bdJ6a62 : Code := (codeAt code6 [false, true, true, true, true]).getD .skip
theorem hsJ6a62 (N : Nat) : ∀ (lk : Nat → AV) (M : List Blk), LFJ6a62 N (canS sgJ6a62 lk M) = evk CX (T6uc62 N OJ6a62) bdJ6a62 62 (canS sgJ6a62 lk M) (kontX CX 0 xsJ6a62) := by intro lk M; kernel_rfl
inductive OJ6a126 where
  | nx (x12 : Bool)
def J6a126 (N : Nat) : Int → Option OJ6a126 := fun x0 =>
    match x0 == (16 : Int) with
    | true =>
      some (.nx true)
    | false =>
      match x0 == (17 : Int) with
      | true =>
        some (.nx true)
      | false =>
        some (.nx (x0 == (18 : Int)))
def LFJ6a126 (N : Nat) (s : St) : Option OJ6a126 := J6a126 N ((Eng.look s.env 0).toI)
def sgJ6a126 : LSh := ⟨[(0, .one (.cell (.int .u8)))], []⟩
def ceJ6a126 : List Cv := []
def seJ6a126 : St → List Nat := fun _ => []
def xJ6a126wnx : XSh OJ6a126 := ⟨[], ⟨[(12, .one (.cell (.bool)))], []⟩, fun _ => [], fun s => .nx ((Eng.look s.env 12).toB)⟩
def xsJ6a126 : Ex → St → Option (XSh OJ6a126) := fun e st => match e with
  | .normal => some xJ6a126wnx
  | _ => none
def exJ6a126 (o : OJ6a126) : Ex := match o with | .nx x12 => .normal
def stJ6a126 (o : OJ6a126) : St := match o with | .nx x12 => ⟨[(12, .bool x12)], [], [], .unk⟩
def elJ6a126 {R : Type} (o : OJ6a126) (k : Ex → St → Option R) : Option R := match o with | .nx x12 => k .normal ⟨[(12, .bool x12)], [], [], .unk⟩
theorem heJ6a126 {R : Type} (o : OJ6a126) (k : Ex → St → Option R) : elJ6a126 o k = k (exJ6a126 o) (stJ6a126 o) := by cases o <;> rfl
theorem hxJ6a126 : ∀ e st x, xsJ6a126 e st = some x → outOk x e exJ6a126 stJ6a126 := by
  intro e st x h
  unfold xsJ6a126 at h
  repeat' split at h
  all_goals first
    | (injection h with h; subst h; exact fun lk M => ⟨rfl, rfl⟩)
    | cases h
noncomputable def T6uc126 (N : Nat) (R : Type) : LTab R := mkTab ⟨100, 589719349606402232320⟩ (csF6 N R) (noY) [] [] []
theorem okT6uc126 (N : Nat) (R : Type) : (T6uc126 N R).Ok CX code6 := mkTab_ok (hcsF6 N R) (noY_ok) (trivial) (trivial) (trivial)
noncomputable def bdJ6a126 : Code := (codeAt code6 [false, true, true, true, true, true]).getD .skip
theorem hsJ6a126 (N : Nat) : ∀ (lk : Nat → AV) (M : List Blk), LFJ6a126 N (canS sgJ6a126 lk M) = evk CX (T6uc126 N OJ6a126) bdJ6a126 126 (canS sgJ6a126 lk M) (kontX CX 0 xsJ6a126) := by intro lk M; kernel_rfl
noncomputable def T6ur1 (N : Nat) (R : Type) : LTab R := mkTab ⟨100, 1267650600228229401496703205375⟩ (csF6 N R) (noY) [] [] [(62, fun st k => callLoop CX 0 576425567931336704 ceJ6a62 sgJ6a62 seJ6a62 ⟨100, 1267650600228229401496703205375⟩ (LFJ6a62 N) elJ6a62 st k), (126, fun st k => callLoop CX 0 589719349606402232320 ceJ6a126 sgJ6a126 seJ6a126 ⟨100, 1267650600228229401496703205375⟩ (LFJ6a126 N) elJ6a126 st k)]
theorem okT6ur1 (N : Nat) (R : Type) : (T6ur1 N R).Ok CX code6 := mkTab_ok (hcsF6 N R) (noY_ok) (trivial) (trivial) (⟨cut_ok hX (path := [false, true, true, true, true]) (by kernel_rfl) (by rfl) (okT6uc62 N OJ6a62) (hsJ6a62 N) hxJ6a62 rfl heJ6a62, cut_ok hX (path := [false, true, true, true, true, true]) (by kernel_rfl) (by rfl) (okT6uc126 N OJ6a126) (hsJ6a126 N) hxJ6a126 rfl heJ6a126, trivial⟩)
def rsF6 : List ResultVar := [.tmp 6]
def F6 : Nat → TF6
  | 0 => fun _ _ _ => none
  | N + 1 => fun x0 x1 x2 =>
    match F12 N x0 x1 x2 with
    | none => none
    | some (.r rx0v1 rx1v1) =>
      match F17 N x0 x1 x2 with
      | none => none
      | some (.r rx0v2 rx1v2) =>
        match rx1v1 with
        | true =>
          match rx1v2 with
          | true =>
            match rx0v1 == rx0v2 with
            | true =>
              match F14 N rx0v1 with
              | none => none
              | some (.r rx0v3) =>
                match rx0v3 with
                | true =>
                  match F14 N x1 with
                  | none => none
                  | some (.r rx0v4) =>
                    match rx0v4 with
                    | true =>
                      match F16 N  with
                      | none => none
                      | some (.r rx0v5) =>
                        some (.r rx0v5)
                    | false =>
                      some (.r false)
                | false =>
                  some (.r false)
            | false =>
              some (.r false)
          | false =>
            some (.r false)
        | false =>
          match J6a62 N x0 with
          | none => none
          | some (.nx x11v6) =>
            match J6a126 N x0 with
            | none => none
            | some (.nx x12v7) =>
              match rx0v1 == (0 : Int) with
              | true =>
                match !rx1v2 with
                | true =>
                  match F16 N  with
                  | none => none
                  | some (.r rx0v8) =>
                    some (.r rx0v8)
                | false =>
                  match F14 N rx0v2 with
                  | none => none
                  | some (.r rx0v9) =>
                    match !rx0v9 with
                    | true =>
                      match F16 N  with
                      | none => none
                      | some (.r rx0v10) =>
                        some (.r rx0v10)
                    | false =>
                      match F14 N x1 with
                      | none => none
                      | some (.r rx0v11) =>
                        match !rx0v11 with
                        | true =>
                          match F16 N  with
                          | none => none
                          | some (.r rx0v12) =>
                            some (.r rx0v12)
                        | false =>
                          match !x12v7 with
                          | true =>
                            match F14 N x2 with
                            | none => none
                            | some (.r rx0v13) =>
                              match !rx0v13 with
                              | true =>
                                match F16 N  with
                                | none => none
                                | some (.r rx0v14) =>
                                  some (.r rx0v14)
                              | false =>
                                match x11v6 with
                                | true =>
                                  match F16 N  with
                                  | none => none
                                  | some (.r rx0v15) =>
                                    some (.r rx0v15)
                                | false =>
                                  some (.r false)
                          | false =>
                            match x11v6 with
                            | true =>
                              match F16 N  with
                              | none => none
                              | some (.r rx0v16) =>
                                some (.r rx0v16)
                            | false =>
                              some (.r false)
              | false =>
                some (.r false)
def xRF6 : XSh R6 := ⟨[], ⟨[(0, .one (.cell (.bool)))], []⟩, fun _ => [], fun s => .r ((Eng.look s.env 0).toB)⟩
theorem fsF6 : ∀ (N : Nat) (lk : Nat → AV) (M : List Blk), FFF6 (F6 (N + 1)) (canS sgF6 lk M) = evfn CX (T6ur1 N R6) code6 rsF6 (argsE 3 (canS sgF6 lk M).env) (canS sgF6 lk M).mem (goR CX 0 (fun _ => some xRF6)) := by intro N lk M; kernel_rfl
theorem soundF6 : ∀ N, RecOkF6 (F6 N)
  | 0, lk, M, o, h => by cases h
  | N + 1, lk, M, o, h => fn_sound hX (okT6ur1 N R6) Try.func6 hb6 rfl en6 (by kernel_rfl) (ys := fun _ => some xRF6) (fun st y h => by injection h with h; subst h; exact fun lk M => ⟨rfl, rfl⟩) ((fsF6 N lk M).symm.trans h)
end Go.Proofs.Ytnfmdenclkdmbaa

namespace Go.Proofs.Ytnfmdenclkdmbaa
open Go Go.Eng
set_option maxRecDepth 100000

/-! ### F28: ceiling/ceilingref01.Lies -/
inductive R28 where
  | r (x0 : Bool)
abbrev TF28 := Int → Int → Int → Int → Option R28
def sgF28 : LSh := ⟨[(0, .agg [.cell (.int .i64), .cell (.int .i64)]), (1, .agg [.cell (.int .i64), .cell (.int .i64)])], []⟩
def FFF28 (Fx : TF28) (s : St) : Option R28 := Fx (((Eng.look s.env 0).cells.getD 0 .top).toI) (((Eng.look s.env 0).cells.getD 1 .top).toI) (((Eng.look s.env 1).cells.getD 0 .top).toI) (((Eng.look s.env 1).cells.getD 1 .top).toI)
def valF28 (o : R28) : AV := match o with | .r x0 => .bool x0
def memF28 (o : R28) : List Blk := match o with | .r x0 => []
def elF28 {R : Type} (o : R28) (k : AV → List Blk → Option R) : Option R := match o with | .r x0 => k (.bool x0) []
def RecOkF28 (Fx : TF28) : Prop := ∀ lk M o, FFF28 Fx (canS sgF28 lk M) = some o → FCalls CX 28 0 (argsE 2 (canS sgF28 lk M).env) (canS sgF28 lk M).mem (valF28 o) (memF28 o)
noncomputable def csF28 (N : Nat) (R : Type) : List (CE R) := [ce54n0 (F54 N) R (fun _ _ => true)]
theorem hcsF28 (N : Nat) (R : Type) : AllE (CeOk CX) (csF28 N R) := ⟨okce54n0 (F54 N) (soundF54 N) R (fun _ _ => true), trivial⟩
noncomputable def T28ur1 (N : Nat) (R : Type) : LTab R := mkTab ⟨21, 2097151⟩ (csF28 N R) (noY) [] [] []
theorem okT28ur1 (N : Nat) (R : Type) : (T28ur1 N R).Ok CX code28 := mkTab_ok (hcsF28 N R) (noY_ok) (trivial) (trivial) (trivial)
def rsF28 : List ResultVar := [.tmp 4]
def F28 : Nat → TF28
  | 0 => fun _ _ _ _ => none
  | N + 1 => fun x0c0 x0c1 x1c0 x1c1 =>
    match F54 N x0c0 x0c1 with
    | none => none
    | some (.r rx0v1) =>
      match rx0v1 with
      | true =>
        some (.r true)
      | false =>
        match decide (x1c0 ≤ x0c0) with
        | true =>
          some (.r (decide (x0c1 ≤ x1c1)))
        | false =>
          some (.r false)
def xRF28 : XSh R28 := ⟨[], ⟨[(0, .one (.cell (.bool)))], []⟩, fun _ => [], fun s => .r ((Eng.look s.env 0).toB)⟩
theorem fsF28 : ∀ (N : Nat) (lk : Nat → AV) (M : List Blk), FFF28 (F28 (N + 1)) (canS sgF28 lk M) = evfn CX (T28ur1 N R28) code28 rsF28 (argsE 2 (canS sgF28 lk M).env) (canS sgF28 lk M).mem (goR CX 0 (fun _ => some xRF28)) := by intro N lk M; kernel_rfl
theorem soundF28 : ∀ N, RecOkF28 (F28 N)
  | 0, lk, M, o, h => by cases h
  | N + 1, lk, M, o, h => fn_sound hX (okT28ur1 N R28) Try.func28 hb28 rfl en28 (by kernel_rfl) (ys := fun _ => some xRF28) (fun st y h => by injection h with h; subst h; exact fun lk M => ⟨rfl, rfl⟩) ((fsF28 N lk M).symm.trans h)
def cvce28n0 : List Cv := []
def selce28n0 : St → List Nat := fun _ => []
noncomputable def ce28n0 (Fx : TF28) (R : Type) (test : List AV → List Blk → Bool) : CE R := ⟨28, test, fun args M => some (selce28n0 ⟨argEnv 0 args, M, [], .unk⟩), fun args M k => tst (Nat.beq args.length 2) (callFn CX 0 cvce28n0 sgF28 selce28n0 (FFF28 Fx) elF28 args M k)⟩
theorem okce28n0 (Fx : TF28) (h : RecOkF28 Fx) (R : Type) (test : List AV → List Blk → Bool) : CeOk CX (ce28n0 Fx R test) := ce_ok hX (fun o k => by cases o; rfl) h en28 (fun args M ids h => by injection h with h; exact ⟨rfl, h.symm⟩)
end Go.Proofs.Ytnfmdenclkdmbaa

namespace Go.Proofs.Ytnfmdenclkdmbaa
open Go Go.Eng
set_option maxRecDepth 100000

/-! ### F30: ceiling/num.Meet -/
inductive R30 where
  | r (x0c0 : Int) (x0c1 : Int)
abbrev TF30 := Int → Int → Int → Int → Option R30
def sgF30 : LSh := ⟨[(0, .agg [.cell (.int .i64), .cell (.int .i64)]), (1, .agg [.cell (.int .i64), .cell (.int .i64)])], []⟩
def FFF30 (Fx : TF30) (s : St) : Option R30 := Fx (((Eng.look s.env 0).cells.getD 0 .top).toI) (((Eng.look s.env 0).cells.getD 1 .top).toI) (((Eng.look s.env 1).cells.getD 0 .top).toI) (((Eng.look s.env 1).cells.getD 1 .top).toI)
def valF30 (o : R30) : AV := match o with | .r x0c0 x0c1 => .agg [.int .i64 x0c0, .int .i64 x0c1]
def memF30 (o : R30) : List Blk := match o with | .r x0c0 x0c1 => []
def elF30 {R : Type} (o : R30) (k : AV → List Blk → Option R) : Option R := match o with | .r x0c0 x0c1 => k (.agg [.int .i64 x0c0, .int .i64 x0c1]) []
def RecOkF30 (Fx : TF30) : Prop := ∀ lk M o, FFF30 Fx (canS sgF30 lk M) = some o → FCalls CX 30 0 (argsE 2 (canS sgF30 lk M).env) (canS sgF30 lk M).mem (valF30 o) (memF30 o)
noncomputable def csF30 (N : Nat) (R : Type) : List (CE R) := [ce41n0 (F41 N) R (fun _ _ => true), ce42n0 (F42 N) R (fun _ _ => true)]
theorem hcsF30 (N : Nat) (R : Type) : AllE (CeOk CX) (csF30 N R) := ⟨okce41n0 (F41 N) (soundF41 N) R (fun _ _ => true), okce42n0 (F42 N) (soundF42 N) R (fun _ _ => true), trivial⟩
noncomputable def T30ur1 (N : Nat) (R : Type) : LTab R := mkTab ⟨22, 4194303⟩ (csF30 N R) (noY) [] [] []
theorem okT30ur1 (N : Nat) (R : Type) : (T30ur1 N R).Ok CX code30 := mkTab_ok (hcsF30 N R) (noY_ok) (trivial) (trivial) (trivial)
def rsF30 : List ResultVar := [.cell 4 29]
def F30 : Nat → TF30
  | 0 => fun _ _ _ _ => none
  | N + 1 => fun x0c0 x0c1 x1c0 x1c1 =>
    match F41 N (Eng.imax x0c0 x1c0) (Eng.imin x0c1 x1c1) with
    | none => none
    | some (.r rx0v1) =>
      match !rx0v1 with
      | true =>
        some (.r (Eng.imax x0c0 x1c0) (Eng.imin x0c1 x1c1))
      | false =>
        match F42 N  with
        | none => none
        | some (.r rx0c0v2 rx0c1v2) =>
          some (.r rx0c0v2 rx0c1v2)
def xRF30 : XSh R30 := ⟨[], ⟨[(0, .agg [.cell (.int .i64), .cell (.int .i64)])], []⟩, fun _ => [], fun s => .r (((Eng.look s.env 0).cells.getD 0 .top).toI) (((Eng.look s.env 0).cells.getD 1 .top).toI)⟩
theorem fsF30 : ∀ (N : Nat) (lk : Nat → AV) (M : List Blk), FFF30 (F30 (N + 1)) (canS sgF30 lk M) = evfn CX (T30ur1 N R30) code30 rsF30 (argsE 2 (canS sgF30 lk M).env) (canS sgF30 lk M).mem (goR CX 0 (fun _ => some xRF30)) := by intro N lk M; kernel_rfl
theorem soundF30 : ∀ N, RecOkF30 (F30 N)
  | 0, lk, M, o, h => by cases h
  | N + 1, lk, M, o, h => fn_sound hX (okT30ur1 N R30) Try.func30 hb30 rfl en30 (by kernel_rfl) (ys := fun _ => some xRF30) (fun st y h => by injection h with h; subst h; exact fun lk M => ⟨rfl, rfl⟩) ((fsF30 N lk M).symm.trans h)
def cvce30n0 : List Cv := []
def selce30n0 : St → List Nat := fun _ => []
noncomputable def ce30n0 (Fx : TF30) (R : Type) (test : List AV → List Blk → Bool) : CE R := ⟨30, test, fun args M => some (selce30n0 ⟨argEnv 0 args, M, [], .unk⟩), fun args M k => tst (Nat.beq args.length 2) (callFn CX 0 cvce30n0 sgF30 selce30n0 (FFF30 Fx) elF30 args M k)⟩
theorem okce30n0 (Fx : TF30) (h : RecOkF30 Fx) (R : Type) (test : List AV → List Blk → Bool) : CeOk CX (ce30n0 Fx R test) := ce_ok hX (fun o k => by cases o; rfl) h en30 (fun args M ids h => by injection h with h; exact ⟨rfl, h.symm⟩)
end Go.Proofs.Ytnfmdenclkdmbaa

namespace Go.Proofs.Ytnfmdenclkdmbaa
open Go Go.Eng
set_option maxRecDepth 100000

/-! ### F32: ceiling/ceilingref01.Widen -/
inductive R32 where
  | r (x0c0 : Int) (x0c1 : Int)
abbrev TF32 := Int → Int → Int → Int → Int → Int → Option R32
def sgF32 : LSh := ⟨[(0, .agg [.cell (.int .i64), .cell (.int .i64)]), (1, .agg [.cell (.int .i64), .cell (.int .i64)]), (2, .agg [.cell (.int .i64), .cell (.int .i64)])], []⟩
def FFF32 (Fx : TF32) (s : St) : Option R32 := Fx (((Eng.look s.env 0).cells.getD 0 .top).toI) (((Eng.look s.env 0).cells.getD 1 .top).toI) (((Eng.look s.env 1).cells.getD 0 .top).toI) (((Eng.look s.env 1).cells.getD 1 .top).toI) (((Eng.look s.env 2).cells.getD 0 .top).toI) (((Eng.look s.env 2).cells.getD 1 .top).toI)
def valF32 (o : R32) : AV := match o with | .r x0c0 x0c1 => .agg [.int .i64 x0c0, .int .i64 x0c1]
def memF32 (o : R32) : List Blk := match o with | .r x0c0 x0c1 => []
def elF32 {R : Type} (o : R32) (k : AV → List Blk → Option R) : Option R := match o with | .r x0c0 x0c1 => k (.agg [.int .i64 x0c0, .int .i64 x0c1]) []
def RecOkF32 (Fx : TF32) : Prop := ∀ lk M o, FFF32 Fx (canS sgF32 lk M) = some o → FCalls CX 32 0 (argsE 3 (canS sgF32 lk M).env) (canS sgF32 lk M).mem (valF32 o) (memF32 o)
noncomputable def csF32 (N : Nat) (R : Type) : List (CE R) := [ce29n0 (F29 N) R (fun _ _ => true), ce54n0 (F54 N) R (fun _ _ => true), ce63n0 (F63 N) R (fun _ _ => true)]
theorem hcsF32 (N : Nat) (R : Type) : AllE (CeOk CX) (csF32 N R) := ⟨okce29n0 (F29 N) (soundF29 N) R (fun _ _ => true), okce54n0 (F54 N) (soundF54 N) R (fun _ _ => true), okce63n0 (F63 N) (soundF63 N) R (fun _ _ => true), trivial⟩
inductive OJ32a6 where
  | nx (b0c0 : Int) (b0c1 : Int) (b1c0 : Int) (b1c1 : Int) (b2c0 : Int) (b2c1 : Int)
  | ret (b0c0 : Int) (b0c1 : Int) (b1c0 : Int) (b1c1 : Int) (b2c0 : Int) (b2c1 : Int)
def J32a6 (N : Nat) : Int → Int → Int → Int → Int → Int → Option OJ32a6 := fun b0c0 b0c1 b1c0 b1c1 b2c0 b2c1 =>
    match F54 N b0c0 b0c1 with
    | none => none
    | some (.r rx0v1) =>
      match rx0v1 with
      | true =>
        match F29 N b0c0 b0c1 b1c0 b1c1 with
        | none => none
        | some (.r rx0c0v2 rx0c1v2) =>
          some (.ret b0c0 b0c1 b1c0 b1c1 rx0c0v2 rx0c1v2)
      | false =>
        match F54 N b1c0 b1c1 with
        | none => none
        | some (.r rx0v3) =>
          match rx0v3 with
          | true =>
            match F29 N b0c0 b0c1 b1c0 b1c1 with
            | none => none
            | some (.r rx0c0v4 rx0c1v4) =>
              some (.ret b0c0 b0c1 b1c0 b1c1 rx0c0v4 rx0c1v4)
          | false =>
            some (.nx b0c0 b0c1 b1c0 b1c1 b2c0 b2c1)
def LFJ32a6 (N : Nat) (s : St) : Option OJ32a6 := J32a6 N (((s.mem.getD 0 .dead).cells.getD 0 .top).toI) (((s.mem.getD 0 .dead).cells.getD 1 .top).toI) (((s.mem.getD 1 .dead).cells.getD 0 .top).toI) (((s.mem.getD 1 .dead).cells.getD 1 .top).toI) (((s.mem.getD 2 .dead).cells.getD 0 .top).toI) (((s.mem.getD 2 .dead).cells.getD 1 .top).toI)
def sgJ32a6 : LSh := ⟨[(3, .one (.ptr 0 0 0)), (4, .one (.ptr 1 0 0)), (6, .one (.ptr 2 0 0))], [.var [.int .i64, .int .i64] [.cell (.int .i64), .cell (.int .i64)], .var [.int .i64, .int .i64] [.cell (.int .i64), .cell (.int .i64)], .var [.int .i64, .int .i64] [.cell (.int .i64), .cell (.int .i64)]]⟩
def ceJ32a6 : List Cv := []
def seJ32a6 : St → List Nat := fun st => [(Eng.look st.env 3).id, (Eng.look st.env 4).id, (Eng.look st.env 6).id]
def xJ32a6wnx : XSh OJ32a6 := ⟨[], ⟨[], [.var [.int .i64, .int .i64] [.cell (.int .i64), .cell (.int .i64)], .var [.int .i64, .int .i64] [.cell (.int .i64), .cell (.int .i64)], .var [.int .i64, .int .i64] [.cell (.int .i64), .cell (.int .i64)]]⟩, fun st => [0, 1, 2], fun s => .nx (((s.mem.getD 0 .dead).cells.getD 0 .top).toI) (((s.mem.getD 0 .dead).cells.getD 1 .top).toI) (((s.mem.getD 1 .dead).cells.getD 0 .top).toI) (((s.mem.getD 1 .dead).cells.getD 1 .top).toI) (((s.mem.getD 2 .dead).cells.getD 0 .top).toI) (((s.mem.getD 2 .dead).cells.getD 1 .top).toI)⟩
def xJ32a6wret : XSh OJ32a6 := ⟨[], ⟨[], [.var [.int .i64, .int .i64] [.cell (.int .i64), .cell (.int .i64)], .var [.int .i64, .int .i64] [.cell (.int .i64), .cell (.int .i64)], .var [.int .i64, .int .i64] [.cell (.int .i64), .cell (.int .i64)]]⟩, fun st => [0, 1, 2], fun s => .ret (((s.mem.getD 0 .dead).cells.getD 0 .top).toI) (((s.mem.getD 0 .dead).cells.getD 1 .top).toI) (((s.mem.getD 1 .dead).cells.getD 0 .top).toI) (((s.mem.getD 1 .dead).cells.getD 1 .top).toI) (((s.mem.getD 2 .dead).cells.getD 0 .top).toI) (((s.mem.getD 2 .dead).cells.getD 1 .top).toI)⟩
def xsJ32a6 : Ex → St → Option (XSh OJ32a6) := fun e st => match e with
  | .normal => some xJ32a6wnx
  | .ret => some xJ32a6wret
  | _ => none
def exJ32a6 (o : OJ32a6) : Ex := match o with | .nx b0c0 b0c1 b1c0 b1c1 b2c0 b2c1 => .normal | .ret b0c0 b0c1 b1c0 b1c1 b2c0 b2c1 => .ret
def stJ32a6 (o : OJ32a6) : St := match o with | .nx b0c0 b0c1 b1c0 b1c1 b2c0 b2c1 => ⟨[], [.var [.int .i64, .int .i64] [.int .i64 b0c0, .int .i64 b0c1], .var [.int .i64, .int .i64] [.int .i64 b1c0, .int .i64 b1c1], .var [.int .i64, .int .i64] [.int .i64 b2c0, .int .i64 b2c1]], [], .unk⟩ | .ret b0c0 b0c1 b1c0 b1c1 b2c0 b2c1 => ⟨[], [.var [.int .i64, .int .i64] [.int .i64 b0c0, .int .i64 b0c1], .var [.int .i64, .int .i64] [.int .i64 b1c0, .int .i64 b1c1], .var [.int .i64, .int .i64] [.int .i64 b2c0, .int .i64 b2c1]], [], .unk⟩
def elJ32a6 {R : Type} (o : OJ32a6) (k : Ex → St → Option R) : Option R := match o with | .nx b0c0 b0c1 b1c0 b1c1 b2c0 b2c1 => k .normal ⟨[], [.var [.int .i64, .int .i64] [.int .i64 b0c0, .int .i64 b0c1], .var [.int .i64, .int .i64] [.int .i64 b1c0, .int .i64 b1c1], .var [.int .i64, .int .i64] [.int .i64 b2c0, .int .i64 b2c1]], [], .unk⟩ | .ret b0c0 b0c1 b1c0 b1c1 b2c0 b2c1 => k .ret ⟨[], [.var [.int .i64, .int .i64] [.int .i64 b0c0, .int .i64 b0c1], .var [.int .i64, .int .i64] [.int .i64 b1c0, .int .i64 b1c1], .var [.int .i64, .int .i64] [.int .i64 b2c0, .int .i64 b2c1]], [], .unk⟩
theorem heJ32a6 {R : Type} (o : OJ32a6) (k : Ex → St → Option R) : elJ32a6 o k = k (exJ32a6 o) (stJ32a6 o) := by cases o <;> rfl
theorem hxJ32a6 : ∀ e st x, xsJ32a6 e st = some x → outOk x e exJ32a6 stJ32a6 := by
  intro e st x h
  unfold xsJ32a6 at h
  repeat' split at h
  all_goals first
    | (injection h with h; subst h; exact fun lk M => ⟨rfl, rfl⟩)
    | cases h
noncomputable def T32uc6 (N : Nat) (R : Type) : LTab R := mkTab ⟨51, 130816⟩ (csF32 N R) (noY) [] [] []
theorem okT32uc6 (N : Nat) (R : Type) : (T32uc6 N R).Ok CX code32 := mkTab_ok (hcsF32 N R) (noY_ok) (trivial) (trivial) (trivial)
noncomputable def bdJ32a6 : Code := (codeAt code32 [false, true]).getD .skip
theorem hsJ32a6 (N : Nat) : ∀ (lk : Nat → AV) (M : List Blk), LFJ32a6 N (canS sgJ32a6 lk M) = evk CX (T32uc6 N OJ32a6) bdJ32a6 6 (canS sgJ32a6 lk M) (kontX CX 3 xsJ32a6) := by intro lk M; kernel_rfl
inductive OJ32a30 where
  | nx (b0c0 : Int) (b0c1 : Int) (b1c0 : Int) (b1c1 : Int) (b2c0 : Int) (b2c1 : Int) (b3c0 : Int) (b3c1 : Int)
def J32a30 (N : Nat) : Int → Int → Int → Int → Int → Int → Int → Int → Option OJ32a30 := fun b0c0 b0c1 b1c0 b1c1 b2c0 b2c1 b3c0 b3c1 =>
    match decide (b0c0 ≤ b1c0) with
    | true =>
      some (.nx b0c0 b0c1 b1c0 b1c1 b2c0 b2c1 b0c0 b3c1)
    | false =>
      match decide (b2c0 ≤ b1c0) with
      | true =>
        some (.nx b0c0 b0c1 b1c0 b1c1 b2c0 b2c1 b2c0 b3c1)
      | false =>
        some (.nx b0c0 b0c1 b1c0 b1c1 b2c0 b2c1 b3c0 b3c1)
def LFJ32a30 (N : Nat) (s : St) : Option OJ32a30 := J32a30 N (((s.mem.getD 0 .dead).cells.getD 0 .top).toI) (((s.mem.getD 0 .dead).cells.getD 1 .top).toI) (((s.mem.getD 1 .dead).cells.getD 0 .top).toI) (((s.mem.getD 1 .dead).cells.getD 1 .top).toI) (((s.mem.getD 2 .dead).cells.getD 0 .top).toI) (((s.mem.getD 2 .dead).cells.getD 1 .top).toI) (((s.mem.getD 3 .dead).cells.getD 0 .top).toI) (((s.mem.getD 3 .dead).cells.getD 1 .top).toI)
def sgJ32a30 : LSh := ⟨[(3, .one (.ptr 0 0 0)), (4, .one (.ptr 1 0 0)), (5, .one (.ptr 2 0 0)), (7, .one (.ptr 3 0 0))], [.var [.int .i64, .int .i64] [.cell (.int .i64), .cell (.int .i64)], .var [.int .i64, .int .i64] [.cell (.int .i64), .cell (.int .i64)], .var [.int .i64, .int .i64] [.cell (.int .i64), .cell (.int .i64)], .var [.int .i64, .int .i64] [.cell (.int .i64), .cell (.int .i64)]]⟩
def ceJ32a30 : List Cv := []
def seJ32a30 : St → List Nat := fun st => [(Eng.look st.env 3).id, (Eng.look st.env 4).id, (Eng.look st.env 5).id, (Eng.look st.env 7).id]
def xJ32a30wnx : XSh OJ32a30 := ⟨[], ⟨[], [.var [.int .i64, .int .i64] [.cell (.int .i64), .cell (.int .i64)], .var [.int .i64, .int .i64] [.cell (.int .i64), .cell (.int .i64)], .var [.int .i64, .int .i64] [.cell (.int .i64), .cell (.int .i64)], .var [.int .i64, .int .i64] [.cell (.int .i64), .cell (.int .i64)]]⟩, fun st => [0, 1, 2, 3], fun s => .nx (((s.mem.getD 0 .dead).cells.getD 0 .top).toI) (((s.mem.getD 0 .dead).cells.getD 1 .top).toI) (((s.mem.getD 1 .dead).cells.getD 0 .top).toI) (((s.mem.getD 1 .dead).cells.getD 1 .top).toI) (((s.mem.getD 2 .dead).cells.getD 0 .top).toI) (((s.mem.getD 2 .dead).cells.getD 1 .top).toI) (((s.mem.getD 3 .dead).cells.getD 0 .top).toI) (((s.mem.getD 3 .dead).cells.getD 1 .top).toI)⟩
def xsJ32a30 : Ex → St → Option (XSh OJ32a30) := fun e st => match e with
  | .normal => some xJ32a30wnx
  | _ => none
def exJ32a30 (o : OJ32a30) : Ex := match o with | .nx b0c0 b0c1 b1c0 b1c1 b2c0 b2c1 b3c0 b3c1 => .normal
def stJ32a30 (o : OJ32a30) : St := match o with | .nx b0c0 b0c1 b1c0 b1c1 b2c0 b2c1 b3c0 b3c1 => ⟨[], [.var [.int .i64, .int .i64] [.int .i64 b0c0, .int .i64 b0c1], .var [.int .i64, .int .i64] [.int .i64 b1c0, .int .i64 b1c1], .var [.int .i64, .int .i64] [.int .i64 b2c0, .int .i64 b2c1], .var [.int .i64, .int .i64] [.int .i64 b3c0, .int .i64 b3c1]], [], .unk⟩
def elJ32a30 {R : Type} (o : OJ32a30) (k : Ex → St → Option R) : Option R := match o with | .nx b0c0 b0c1 b1c0 b1c1 b2c0 b2c1 b3c0 b3c1 => k .normal ⟨[], [.var [.int .i64, .int .i64] [.int .i64 b0c0, .int .i64 b0c1], .var [.int .i64, .int .i64] [.int .i64 b1c0, .int .i64 b1c1], .var [.int .i64, .int .i64] [.int .i64 b2c0, .int .i64 b2c1], .var [.int .i64, .int .i64] [.int .i64 b3c0, .int .i64 b3c1]], [], .unk⟩
theorem heJ32a30 {R : Type} (o : OJ32a30) (k : Ex → St → Option R) : elJ32a30 o k = k (exJ32a30 o) (stJ32a30 o) := by cases o <;> rfl
theorem hxJ32a30 : ∀ e st x, xsJ32a30 e st = some x → outOk x e exJ32a30 stJ32a30 := by
  intro e st x h
  unfold xsJ32a30 at h
  repeat' split at h
  all_goals first
    | (injection h with h; subst h; exact fun lk M => ⟨rfl, rfl⟩)
    | cases h
noncomputable def T32uc30 (N : Nat) (R : Type) : LTab R := mkTab ⟨51, 17179607040⟩ (csF32 N R) (noY) [] [] []
theorem okT32uc30 (N : Nat) (R : Type) : (T32uc30 N R).Ok CX code32 := mkTab_ok (hcsF32 N R) (noY_ok) (trivial) (trivial) (trivial)
noncomputable def bdJ32a30 : Code := (codeAt code32 [false, true, true, true]).getD .skip
theorem hsJ32a30 (N : Nat) : ∀ (lk : Nat → AV) (M : List Blk), LFJ32a30 N (canS sgJ32a30 lk M) = evk CX (T32uc30 N OJ32a30) bdJ32a30 30 (canS sgJ32a30 lk M) (kontX CX 4 xsJ32a30) := by intro lk M; kernel_rfl
noncomputable def T32ur1 (N : Nat) (R : Type) : LTab R := mkTab ⟨51, 2251799813685247⟩ (csF32 N R) (noY) [] [] [(6, fun st k => callLoop CX 3 130816 ceJ32a6 sgJ32a6 seJ32a6 ⟨51, 2251799813685247⟩ (LFJ32a6 N) elJ32a6 st k), (30, fun st k => callLoop CX 4 17179607040 ceJ32a30 sgJ32a30 seJ32a30 ⟨51, 2251799813685247⟩ (LFJ32a30 N) elJ32a30 st k)]
theorem okT32ur1 (N : Nat) (R : Type) : (T32ur1 N R).Ok CX code32 := mkTab_ok (hcsF32 N R) (noY_ok) (trivial) (trivial) (⟨cut_ok hX (path := [false, true]) (by kernel_rfl) (by rfl) (okT32uc6 N OJ32a6) (hsJ32a6 N) hxJ32a6 rfl heJ32a6, cut_ok hX (path := [false, true, true, true]) (by kernel_rfl) (by rfl) (okT32uc30 N OJ32a30) (hsJ32a30 N) hxJ32a30 rfl heJ32a30, trivial⟩)
def rsF32 : List ResultVar := [.cell 6 29]
def F32 : Nat → TF32
  | 0 => fun _ _ _ _ _ _ => none
  | N + 1 => fun x0c0 x0c1 x1c0 x1c1 x2c0 x2c1 =>
    match J32a6 N x0c0 x0c1 x1c0 x1c1 0 0 with
    | none => none
    | some (.nx b0c0v5 b0c1v5 b1c0v5 b1c1v5 b2c0v5 b2c1v5) =>
      match F63 N  with
      | none => none
      | some (.r rx0c0v6 rx0c1v6) =>
        match J32a30 N b0c0v5 b0c1v5 b1c0v5 b1c1v5 x2c0 x2c1 rx0c0v6 rx0c1v6 with
        | none => none
        | some (.nx b0c0v7 b0c1v7 b1c0v7 b1c1v7 b2c0v7 b2c1v7 b3c0v7 b3c1v7) =>
          match decide (b1c1v7 ≤ b0c1v7) with
          | true =>
            some (.r b3c0v7 b0c1v7)
          | false =>
            match decide (b1c1v7 ≤ b2c1v7) with
            | true =>
              some (.r b3c0v7 b2c1v7)
            | false =>
              some (.r b3c0v7 b3c1v7)
    | some (.ret b0c0v8 b0c1v8 b1c0v8 b1c1v8 b2c0v8 b2c1v8) =>
      some (.r b2c0v8 b2c1v8)
def xRF32 : XSh R32 := ⟨[], ⟨[(0, .agg [.cell (.int .i64), .cell (.int .i64)])], []⟩, fun _ => [], fun s => .r (((Eng.look s.env 0).cells.getD 0 .top).toI) (((Eng.look s.env 0).cells.getD 1 .top).toI)⟩
theorem fsF32 : ∀ (N : Nat) (lk : Nat → AV) (M : List Blk), FFF32 (F32 (N + 1)) (canS sgF32 lk M) = evfn CX (T32ur1 N R32) code32 rsF32 (argsE 3 (canS sgF32 lk M).env) (canS sgF32 lk M).mem (goR CX 0 (fun _ => some xRF32)) := by intro N lk M; kernel_rfl
theorem soundF32 : ∀ N, RecOkF32 (F32 N)
  | 0, lk, M, o, h => by cases h
  | N + 1, lk, M, o, h => fn_sound hX (okT32ur1 N R32) Try.func32 hb32 rfl en32 (by kernel_rfl) (ys := fun _ => some xRF32) (fun st y h => by injection h with h; subst h; exact fun lk M => ⟨rfl, rfl⟩) ((fsF32 N lk M).symm.trans h)
def cvce32n0 : List Cv := []
def selce32n0 : St → List Nat := fun _ => []
noncomputable def ce32n0 (Fx : TF32) (R : Type) (test : List AV → List Blk → Bool) : CE R := ⟨32, test, fun args M => some (selce32n0 ⟨argEnv 0 args, M, [], .unk⟩), fun args M k => tst (Nat.beq args.length 3) (callFn CX 0 cvce32n0 sgF32 selce32n0 (FFF32 Fx) elF32 args M k)⟩
theorem okce32n0 (Fx : TF32) (h : RecOkF32 Fx) (R : Type) (test : List AV → List Blk → Bool) : CeOk CX (ce32n0 Fx R test) := ce_ok hX (fun o k => by cases o; rfl) h en32 (fun args M ids h => by injection h with h; exact ⟨rfl, h.symm⟩)
end Go.Proofs.Ytnfmdenclkdmbaa

namespace Go.Proofs.Ytnfmdenclkdmbaa
open Go Go.Eng
set_option maxRecDepth 100000

/-! ### F10: ceiling/ceilinglaw01.NumIvals -/
inductive R10 where
  | r (x0 : Bool)
abbrev TF10 := Int → Int → Int → Int → Int → Int → Int → Option R10
def sgF10 : LSh := ⟨[(0, .agg [.cell (.int .i64), .cell (.int .i64)]), (1, .agg [.cell (.int .i64), .cell (.int .i64)]), (2, .agg [.cell (.int .i64), .cell (.int .i64)]), (3, .one (.cell (.int .i64)))], []⟩
def FFF10 (Fx : TF10) (s : St) : Option R10 := Fx (((Eng.look s.env 0).cells.getD 0 .top).toI) (((Eng.look s.env 0).cells.getD 1 .top).toI) (((Eng.look s.env 1).cells.getD 0 .top).toI) (((Eng.look s.env 1).cells.getD 1 .top).toI) (((Eng.look s.env 2).cells.getD 0 .top).toI) (((Eng.look s.env 2).cells.getD 1 .top).toI) ((Eng.look s.env 3).toI)
def valF10 (o : R10) : AV := match o with | .r x0 => .bool x0
def memF10 (o : R10) : List Blk := match o with | .r x0 => []
def elF10 {R : Type} (o : R10) (k : AV → List Blk → Option R) : Option R := match o with | .r x0 => k (.bool x0) []
def RecOkF10 (Fx : TF10) : Prop := ∀ lk M o, FFF10 Fx (canS sgF10 lk M) = some o → FCalls CX 10 0 (argsE 4 (canS sgF10 lk M).env) (canS sgF10 lk M).mem (valF10 o) (memF10 o)
noncomputable def csF10 (N : Nat) (R : Type) : List (CE R) := [ce16n0 (F16 N) R (fun _ _ => true), ce23n0 (F23 N) R (fun _ _ => true), ce24n0 (F24 N) R (fun _ _ => true), ce25n0 (F25 N) R (fun _ _ => true), ce26n0 (F26 N) R (fun _ _ => true), ce27n0 (F27 N) R (fun _ _ => true), ce28n0 (F28 N) R (fun _ _ => true), ce29n0 (F29 N) R (fun _ _ => true), ce30n0 (F30 N) R (fun _ _ => true), ce31n0 (F31 N) R (fun _ _ => true), ce32n0 (F32 N) R (fun _ _ => true)]
theorem hcsF10 (N : Nat) (R : Type) : AllE (CeOk CX) (csF10 N R) := ⟨okce16n0 (F16 N) (soundF16 N) R (fun _ _ => true), okce23n0 (F23 N) (soundF23 N) R (fun _ _ => true), okce24n0 (F24 N) (soundF24 N) R (fun _ _ => true), okce25n0 (F25 N) (soundF25 N) R (fun _ _ => true), okce26n0 (F26 N) (soundF26 N) R (fun _ _ => true), okce27n0 (F27 N) (soundF27 N) R (fun _ _ => true), okce28n0 (F28 N) (soundF28 N) R (fun _ _ => true), okce29n0 (F29 N) (soundF29 N) R (fun _ _ => true), okce30n0 (F30 N) (soundF30 N) R (fun _ _ => true), okce31n0 (F31 N) (soundF31 N) R (fun _ _ => true), okce32n0 (F32 N) (soundF32 N) R (fun _ _ => true), trivial⟩
noncomputable def T10ur1 (N : Nat) (R : Type) : LTab R := mkTab ⟨57, 144115188075855871⟩ (csF10 N R) (noY) [] [] []
theorem okT10ur1 (N : Nat) (R : Type) : (T10ur1 N R).Ok CX code10 := mkTab_ok (hcsF10 N R) (noY_ok) (trivial) (trivial) (trivial)
def rsF10 : List ResultVar := [.tmp 8]
def F10 : Nat → TF10
  | 0 => fun _ _ _ _ _ _ _ => none
  | N + 1 => fun x0c0 x0c1 x1c0 x1c1 x2c0 x2c1 x3 =>
    match F23 N x0c0 x0c1 x3 with
    | none => none
    | some (.r rx0v1) =>
      match F27 N x0c0 x0c1 x3 with
      | none => none
      | some (.r rx0v2) =>
        match rx0v1 == rx0v2 with
        | true =>
          match F24 N x0c0 x0c1 x1c0 x1c1 with
          | none => none
          | some (.r rx0v3) =>
            match F28 N x0c0 x0c1 x1c0 x1c1 with
            | none => none
            | some (.r rx0v4) =>
              match rx0v3 == rx0v4 with
              | true =>
                match F25 N x0c0 x0c1 x1c0 x1c1 with
                | none => none
                | some (.r rx0c0v5 rx0c1v5) =>
                  match F29 N x0c0 x0c1 x1c0 x1c1 with
                  | none => none
                  | some (.r rx0c0v6 rx0c1v6) =>
                    match ((rx0c0v5 == rx0c0v6) && ((rx0c1v5 == rx0c1v6) && true)) with
                    | true =>
                      match F30 N x0c0 x0c1 x1c0 x1c1 with
                      | none => none
                      | some (.r rx0c0v7 rx0c1v7) =>
                        match F31 N x0c0 x0c1 x1c0 x1c1 with
                        | none => none
                        | some (.r rx0c0v8 rx0c1v8) =>
                          match ((rx0c0v7 == rx0c0v8) && ((rx0c1v7 == rx0c1v8) && true)) with
                          | true =>
                            match F26 N x0c0 x0c1 x1c0 x1c1 x2c0 x2c1 with
                            | none => none
                            | some (.r rx0c0v9 rx0c1v9) =>
                              match F32 N x0c0 x0c1 x1c0 x1c1 x2c0 x2c1 with
                              | none => none
                              | some (.r rx0c0v10 rx0c1v10) =>
                                match ((rx0c0v9 == rx0c0v10) && ((rx0c1v9 == rx0c1v10) && true)) with
                                | true =>
                                  match F16 N  with
                                  | none => none
                                  | some (.r rx0v11) =>
                                    some (.r rx0v11)
                                | false =>
                                  some (.r false)
                          | false =>
                            some (.r false)
                    | false =>
                      some (.r false)
              | false =>
                some (.r false)
        | false =>
          some (.r false)
def xRF10 : XSh R10 := ⟨[], ⟨[(0, .one (.cell (.bool)))], []⟩, fun _ => [], fun s => .r ((Eng.look s.env 0).toB)⟩
theorem fsF10 : ∀ (N : Nat) (lk : Nat → AV) (M : List Blk), FFF10 (F10 (N + 1)) (canS sgF10 lk M) = evfn CX (T10ur1 N R10) code10 rsF10 (argsE 4 (canS sgF10 lk M).env) (canS sgF10 lk M).mem (goR CX 0 (fun _ => some xRF10)) := by intro N lk M; kernel_rfl
theorem soundF10 : ∀ N, RecOkF10 (F10 N)
  | 0, lk, M, o, h => by cases h
  | N + 1, lk, M, o, h => fn_sound hX (okT10ur1 N R10) Try.func10 hb10 rfl en10 (by kernel_rfl) (ys := fun _ => some xRF10) (fun st y h => by injection h with h; subst h; exact fun lk M => ⟨rfl, rfl⟩) ((fsF10 N lk M).symm.trans h)
end Go.Proofs.Ytnfmdenclkdmbaa

namespace Go.Proofs.Ytnfmdenclkdmbaa
open Go Go.Eng
set_option maxRecDepth 100000

/-! ### F11: ceiling/ceilinglaw01.NumJoins -/
inductive R11 where
  | r (x0 : Bool)
abbrev TF11 := Int → Int → Int → Int → Int → Int → Int → Option R11
def sgF11 : LSh := ⟨[(0, .agg [.cell (.int .i64), .cell (.int .i64)]), (1, .agg [.cell (.int .i64), .cell (.int .i64)]), (2, .agg [.cell (.int .i64), .cell (.int .i64)]), (3, .one (.cell (.int .i64)))], []⟩
def FFF11 (Fx : TF11) (s : St) : Option R11 := Fx (((Eng.look s.env 0).cells.getD 0 .top).toI) (((Eng.look s.env 0).cells.getD 1 .top).toI) (((Eng.look s.env 1).cells.getD 0 .top).toI) (((Eng.look s.env 1).cells.getD 1 .top).toI) (((Eng.look s.env 2).cells.getD 0 .top).toI) (((Eng.look s.env 2).cells.getD 1 .top).toI) ((Eng.look s.env 3).toI)
def valF11 (o : R11) : AV := match o with | .r x0 => .bool x0
def memF11 (o : R11) : List Blk := match o with | .r x0 => []
def elF11 {R : Type} (o : R11) (k : AV → List Blk → Option R) : Option R := match o with | .r x0 => k (.bool x0) []
def RecOkF11 (Fx : TF11) : Prop := ∀ lk M o, FFF11 Fx (canS sgF11 lk M) = some o → FCalls CX 11 0 (argsE 4 (canS sgF11 lk M).env) (canS sgF11 lk M).mem (valF11 o) (memF11 o)
noncomputable def csF11 (N : Nat) (R : Type) : List (CE R) := [ce16n0 (F16 N) R (fun _ _ => true), ce23n0 (F23 N) R (fun _ _ => true), ce24n0 (F24 N) R (fun _ _ => true), ce25n0 (F25 N) R (fun _ _ => true), ce26n0 (F26 N) R (fun _ _ => true), ce30n0 (F30 N) R (fun _ _ => true)]
theorem hcsF11 (N : Nat) (R : Type) : AllE (CeOk CX) (csF11 N R) := ⟨okce16n0 (F16 N) (soundF16 N) R (fun _ _ => true), okce23n0 (F23 N) (soundF23 N) R (fun _ _ => true), okce24n0 (F24 N) (soundF24 N) R (fun _ _ => true), okce25n0 (F25 N) (soundF25 N) R (fun _ _ => true), okce26n0 (F26 N) (soundF26 N) R (fun _ _ => true), okce30n0 (F30 N) (soundF30 N) R (fun _ _ => true), trivial⟩
inductive OJ11a14 where
  | nx (b0c0 : Int) (b0c1 : Int) (b1c0 : Int) (b1c1 : Int) (b2c0 : Int) (b2c1 : Int) (b3c0 : Int) (b3c1 : Int) (b4c0 : Int) (b4c1 : Int)
  | ret (x8 : Bool) (b0c0 : Int) (b0c1 : Int) (b1c0 : Int) (b1c1 : Int) (b2c0 : Int) (b2c1 : Int) (b3c0 : Int) (b3c1 : Int) (b4c0 : Int) (b4c1 : Int)
def J11a14 (N : Nat) : Int → Int → Int → Int → Int → Int → Int → Int → Int → Int → Option OJ11a14 := fun b0c0 b0c1 b1c0 b1c1 b2c0 b2c1 b3c0 b3c1 b4c0 b4c1 =>
    match F24 N b0c0 b0c1 b2c0 b2c1 with
    | none => none
    | some (.r rx0v4) =>
      match !rx0v4 with
      | true =>
        some (.ret false b0c0 b0c1 b1c0 b1c1 b2c0 b2c1 b3c0 b3c1 b4c0 b4c1)
      | false =>
        match F24 N b1c0 b1c1 b2c0 b2c1 with
        | none => none
        | some (.r rx0v5) =>
          match !rx0v5 with
          | true =>
            some (.ret false b0c0 b0c1 b1c0 b1c1 b2c0 b2c1 b3c0 b3c1 b4c0 b4c1)
          | false =>
            match F24 N b3c0 b3c1 b0c0 b0c1 with
            | none => none
            | some (.r rx0v6) =>
              match !rx0v6 with
              | true =>
                some (.ret false b0c0 b0c1 b1c0 b1c1 b2c0 b2c1 b3c0 b3c1 b4c0 b4c1)
              | false =>
                match F24 N b3c0 b3c1 b1c0 b1c1 with
                | none => none
                | some (.r rx0v7) =>
                  match !rx0v7 with
                  | true =>
                    some (.ret false b0c0 b0c1 b1c0 b1c1 b2c0 b2c1 b3c0 b3c1 b4c0 b4c1)
                  | false =>
                    match F24 N b2c0 b2c1 b4c0 b4c1 with
                    | none => none
                    | some (.r rx0v8) =>
                      match !rx0v8 with
                      | true =>
                        some (.ret false b0c0 b0c1 b1c0 b1c1 b2c0 b2c1 b3c0 b3c1 b4c0 b4c1)
                      | false =>
                        match F25 N b1c0 b1c1 b0c0 b0c1 with
                        | none => none
                        | some (.r rx0c0v9 rx0c1v9) =>
                          match !((b2c0 == rx0c0v9) && ((b2c1 == rx0c1v9) && true)) with
                          | true =>
                            some (.ret false b0c0 b0c1 b1c0 b1c1 b2c0 b2c1 b3c0 b3c1 b4c0 b4c1)
                          | false =>
                            match F30 N b1c0 b1c1 b0c0 b0c1 with
                            | none => none
                            | some (.r rx0c0v10 rx0c1v10) =>
                              match !((b3c0 == rx0c0v10) && ((b3c1 == rx0c1v10) && true)) with
                              | true =>
                                some (.ret false b0c0 b0c1 b1c0 b1c1 b2c0 b2c1 b3c0 b3c1 b4c0 b4c1)
                              | false =>
                                some (.nx b0c0 b0c1 b1c0 b1c1 b2c0 b2c1 b3c0 b3c1 b4c0 b4c1)
def LFJ11a14 (N : Nat) (s : St) : Option OJ11a14 := J11a14 N (((s.mem.getD 0 .dead).cells.getD 0 .top).toI) (((s.mem.getD 0 .dead).cells.getD 1 .top).toI) (((s.mem.getD 1 .dead).cells.getD 0 .top).toI) (((s.mem.getD 1 .dead).cells.getD 1 .top).toI) (((s.mem.getD 2 .dead).cells.getD 0 .top).toI) (((s.mem.getD 2 .dead).cells.getD 1 .top).toI) (((s.mem.getD 3 .dead).cells.getD 0 .top).toI) (((s.mem.getD 3 .dead).cells.getD 1 .top).toI) (((s.mem.getD 4 .dead).cells.getD 0 .top).toI) (((s.mem.getD 4 .dead).cells.getD 1 .top).toI)
def sgJ11a14 : LSh := ⟨[(4, .one (.ptr 0 0 0)), (5, .one (.ptr 1 0 0)), (9, .one (.ptr 2 0 0)), (10, .one (.ptr 3 0 0)), (11, .one (.ptr 4 0 0))], [.var [.int .i64, .int .i64] [.cell (.int .i64), .cell (.int .i64)], .var [.int .i64, .int .i64] [.cell (.int .i64), .cell (.int .i64)], .var [.int .i64, .int .i64] [.cell (.int .i64), .cell (.int .i64)], .var [.int .i64, .int .i64] [.cell (.int .i64), .cell (.int .i64)], .var [.int .i64, .int .i64] [.cell (.int .i64), .cell (.int .i64)]]⟩
def ceJ11a14 : List Cv := []
def seJ11a14 : St → List Nat := fun st => [(Eng.look st.env 4).id, (Eng.look st.env 5).id, (Eng.look st.env 9).id, (Eng.look st.env 10).id, (Eng.look st.env 11).id]
def xJ11a14wnx : XSh OJ11a14 := ⟨[], ⟨[], [.var [.int .i64, .int .i64] [.cell (.int .i64), .cell (.int .i64)], .var [.int .i64, .int .i64] [.cell (.int .i64), .cell (.int .i64)], .var [.int .i64, .int .i64] [.cell (.int .i64), .cell (.int .i64)], .var [.int .i64, .int .i64] [.cell (.int .i64), .cell (.int .i64)], .var [.int .i64, .int .i64] [.cell (.int .i64), .cell (.int .i64)]]⟩, fun st => [0, 1, 2, 3, 4], fun s => .nx (((s.mem.getD 0 .dead).cells.getD 0 .top).toI) (((s.mem.getD 0 .dead).cells.getD 1 .top).toI) (((s.mem.getD 1 .dead).cells.getD 0 .top).toI) (((s.mem.getD 1 .dead).cells.getD 1 .top).toI) (((s.mem.getD 2 .dead).cells.getD 0 .top).toI) (((s.mem.getD 2 .dead).cells.getD 1 .top).toI) (((s.mem.getD 3 .dead).cells.getD 0 .top).toI) (((s.mem.getD 3 .dead).cells.getD 1 .top).toI) (((s.mem.getD 4 .dead).cells.getD 0 .top).toI) (((s.mem.getD 4 .dead).cells.getD 1 .top).toI)⟩
def xJ11a14wret : XSh OJ11a14 := ⟨[], ⟨[(8, .one (.cell (.bool)))], [.var [.int .i64, .int .i64] [.cell (.int .i64), .cell (.int .i64)], .var [.int .i64, .int .i64] [.cell (.int .i64), .cell (.int .i64)], .var [.int .i64, .int .i64] [.cell (.int .i64), .cell (.int .i64)], .var [.int .i64, .int .i64] [.cell (.int .i64), .cell (.int .i64)], .var [.int .i64, .int .i64] [.cell (.int .i64), .cell (.int .i64)]]⟩, fun st => [0, 1, 2, 3, 4], fun s => .ret ((Eng.look s.env 8).toB) (((s.mem.getD 0 .dead).cells.getD 0 .top).toI) (((s.mem.getD 0 .dead).cells.getD 1 .top).toI) (((s.mem.getD 1 .dead).cells.getD 0 .top).toI) (((s.mem.getD 1 .dead).cells.getD 1 .top).toI) (((s.mem.getD 2 .dead).cells.getD 0 .top).toI) (((s.mem.getD 2 .dead).cells.getD 1 .top).toI) (((s.mem.getD 3 .dead).cells.getD 0 .top).toI) (((s.mem.getD 3 .dead).cells.getD 1 .top).toI) (((s.mem.getD 4 .dead).cells.getD 0 .top).toI) (((s.mem.getD 4 .dead).cells.getD 1 .top).toI)⟩
def xsJ11a14 : Ex → St → Option (XSh OJ11a14) := fun e st => match e with
  | .normal => some xJ11a14wnx
  | .ret => some xJ11a14wret
  | _ => none
def exJ11a14 (o : OJ11a14) : Ex := match o with | .nx b0c0 b0c1 b1c0 b1c1 b2c0 b2c1 b3c0 b3c1 b4c0 b4c1 => .normal | .ret x8 b0c0 b0c1 b1c0 b1c1 b2c0 b2c1 b3c0 b3c1 b4c0 b4c1 => .ret
def stJ11a14 (o : OJ11a14) : St := match o with | .nx b0c0 b0c1 b1c0 b1c1 b2c0 b2c1 b3c0 b3c1 b4c0 b4c1 => ⟨[], [.var [.int .i64, .int .i64] [.int .i64 b0c0, .int .i64 b0c1], .var [.int .i64, .int .i64] [.int .i64 b1c0, .int .i64 b1c1], .var [.int .i64, .int .i64] [.int .i64 b2c0, .int .i64 b2c1], .var [.int .i64, .int .i64] [.int .i64 b3c0, .int .i64 b3c1], .var [.int .i64, .int .i64] [.int .i64 b4c0, .int .i64 b4c1]], [], .unk⟩ | .ret x8 b0c0 b0c1 b1c0 b1c1 b2c0 b2c1 b3c0 b3c1 b4c0 b4c1 => ⟨[(8, .bool x8)], [.var [.int .i64, .int .i64] [.int .i64 b0c0, .int .i64 b0c1], .var [.int .i64, .int .i64] [.int .i64 b1c0, .int .i64 b1c1], .var [.int .i64, .int .i64] [.int .i64 b2c0, .int .i64 b2c1], .var [.int .i64, .int .i64] [.int .i64 b3c0, .int .i64 b3c1], .var [.int .i64, .int .i64] [.int .i64 b4c0, .int .i64 b4c1]], [], .unk⟩
def elJ11a14 {R : Type} (o : OJ11a14) (k : Ex → St → Option R) : Option R := match o with | .nx b0c0 b0c1 b1c0 b1c1 b2c0 b2c1 b3c0 b3c1 b4c0 b4c1 => k .normal ⟨[], [.var [.int .i64, .int .i64] [.int .i64 b0c0, .int .i64 b0c1], .var [.int .i64, .int .i64] [.int .i64 b1c0, .int .i64 b1c1], .var [.int .i64, .int .i64] [.int .i64 b2c0, .int .i64 b2c1], .var [.int .i64, .int .i64] [.int .i64 b3c0, .int .i64 b3c1], .var [.int .i64, .int .i64] [.int .i64 b4c0, .int .i64 b4c1]], [], .unk⟩ | .ret x8 b0c0 b0c1 b1c0 b1c1 b2c0 b2c1 b3c0 b3c1 b4c0 b4c1 => k .ret ⟨[(8, .bool x8)], [.var [.int .i64, .int .i64] [.int .i64 b0c0, .int .i64 b0c1], .var [.int .i64, .int .i64] [.int .i64 b1c0, .int .i64 b1c1], .var [.int .i64, .int .i64] [.int .i64 b2c0, .int .i64 b2c1], .var [.int .i64, .int .i64] [.int .i64 b3c0, .int .i64 b3c1], .var [.int .i64, .int .i64] [.int .i64 b4c0, .int .i64 b4c1]], [], .unk⟩
theorem heJ11a14 {R : Type} (o : OJ11a14) (k : Ex → St → Option R) : elJ11a14 o k = k (exJ11a14 o) (stJ11a14 o) := by cases o <;> rfl
theorem hxJ11a14 : ∀ e st x, xsJ11a14 e st = some x → outOk x e exJ11a14 stJ11a14 := by
  intro e st x h
  unfold xsJ11a14 at h
  repeat' split at h
  all_goals first
    | (injection h with h; subst h; exact fun lk M => ⟨rfl, rfl⟩)
    | cases h
noncomputable def T11uc14 (N : Nat) (R : Type) : LTab R := mkTab ⟨96, 18446744073705357568⟩ (csF11 N R) (noY) [] [] []
theorem okT11uc14 (N : Nat) (R : Type) : (T11uc14 N R).Ok CX code11 := mkTab_ok (hcsF11 N R) (noY_ok) (trivial) (trivial) (trivial)
noncomputable def bdJ11a14 : Code := (codeAt code11 [false, true, true]).getD .skip
theorem hsJ11a14 (N : Nat) : ∀ (lk : Nat → AV) (M : List Blk), LFJ11a14 N (canS sgJ11a14 lk M) = evk CX (T11uc14 N OJ11a14) bdJ11a14 14 (canS sgJ11a14 lk M) (kontX CX 5 xsJ11a14) := by intro lk M; kernel_rfl
noncomputable def T11ur1 (N : Nat) (R : Type) : LTab R := mkTab ⟨96, 79228162514264337593543950335⟩ (csF11 N R) (noY) [] [] [(14, fun st k => callLoop CX 5 18446744073705357568 ceJ11a14 sgJ11a14 seJ11a14 ⟨96, 79228162514264337593543950335⟩ (LFJ11a14 N) elJ11a14 st k)]
theorem okT11ur1 (N : Nat) (R : Type) : (T11ur1 N R).Ok CX code11 := mkTab_ok (hcsF11 N R) (noY_ok) (trivial) (trivial) (⟨cut_ok hX (path := [false, true, true]) (by kernel_rfl) (by rfl) (okT11uc14 N OJ11a14) (hsJ11a14 N) hxJ11a14 rfl heJ11a14, trivial⟩)
def rsF11 : List ResultVar := [.tmp 8]
def F11 : Nat → TF11
  | 0 => fun _ _ _ _ _ _ _ => none
  | N + 1 => fun x0c0 x0c1 x1c0 x1c1 x2c0 x2c1 x3 =>
    match F25 N x0c0 x0c1 x1c0 x1c1 with
    | none => none
    | some (.r rx0c0v1 rx0c1v1) =>
      match F30 N x0c0 x0c1 x1c0 x1c1 with
      | none => none
      | some (.r rx0c0v2 rx0c1v2) =>
        match F26 N x0c0 x0c1 x1c0 x1c1 x2c0 x2c1 with
        | none => none
        | some (.r rx0c0v3 rx0c1v3) =>
          match J11a14 N x0c0 x0c1 x1c0 x1c1 rx0c0v1 rx0c1v1 rx0c0v2 rx0c1v2 rx0c0v3 rx0c1v3 with
          | none => none
          | some (.nx b0c0v11 b0c1v11 b1c0v11 b1c1v11 b2c0v11 b2c1v11 b3c0v11 b3c1v11 b4c0v11 b4c1v11) =>
            match F23 N b3c0v11 b3c1v11 x3 with
            | none => none
            | some (.r rx0v12) =>
              match F23 N b0c0v11 b0c1v11 x3 with
              | none => none
              | some (.r rx0v13) =>
                match rx0v13 with
                | true =>
                  match F23 N b1c0v11 b1c1v11 x3 with
                  | none => none
                  | some (.r rx0v14) =>
                    match rx0v12 == rx0v14 with
                    | true =>
                      match F23 N b0c0v11 b0c1v11 x3 with
                      | none => none
                      | some (.r rx0v15) =>
                        match !rx0v15 with
                        | true =>
                          match F23 N b1c0v11 b1c1v11 x3 with
                          | none => none
                          | some (.r rx0v16) =>
                            match !rx0v16 with
                            | true =>
                              match F16 N  with
                              | none => none
                              | some (.r rx0v17) =>
                                some (.r rx0v17)
                            | false =>
                              match F23 N b2c0v11 b2c1v11 x3 with
                              | none => none
                              | some (.r rx0v18) =>
                                match rx0v18 with
                                | true =>
                                  match F16 N  with
                                  | none => none
                                  | some (.r rx0v19) =>
                                    some (.r rx0v19)
                                | false =>
                                  some (.r false)
                        | false =>
                          match F23 N b2c0v11 b2c1v11 x3 with
                          | none => none
                          | some (.r rx0v20) =>
                            match rx0v20 with
                            | true =>
                              match F16 N  with
                              | none => none
                              | some (.r rx0v21) =>
                                some (.r rx0v21)
                            | false =>
                              some (.r false)
                    | false =>
                      some (.r false)
                | false =>
                  match rx0v12 == false with
                  | true =>
                    match F23 N b0c0v11 b0c1v11 x3 with
                    | none => none
                    | some (.r rx0v22) =>
                      match !rx0v22 with
                      | true =>
                        match F23 N b1c0v11 b1c1v11 x3 with
                        | none => none
                        | some (.r rx0v23) =>
                          match !rx0v23 with
                          | true =>
                            match F16 N  with
                            | none => none
                            | some (.r rx0v24) =>
                              some (.r rx0v24)
                          | false =>
                            match F23 N b2c0v11 b2c1v11 x3 with
                            | none => none
                            | some (.r rx0v25) =>
                              match rx0v25 with
                              | true =>
                                match F16 N  with
                                | none => none
                                | some (.r rx0v26) =>
                                  some (.r rx0v26)
                              | false =>
                                some (.r false)
                      | false =>
                        match F23 N b2c0v11 b2c1v11 x3 with
                        | none => none
                        | some (.r rx0v27) =>
                          match rx0v27 with
                          | true =>
                            match F16 N  with
                            | none => none
                            | some (.r rx0v28) =>
                              some (.r rx0v28)
                          | false =>
                            some (.r false)
                  | false =>
                    some (.r false)
          | some (.ret x8v29 b0c0v29 b0c1v29 b1c0v29 b1c1v29 b2c0v29 b2c1v29 b3c0v29 b3c1v29 b4c0v29 b4c1v29) =>
            some (.r x8v29)
def xRF11 : XSh R11 := ⟨[], ⟨[(0, .one (.cell (.bool)))], []⟩, fun _ => [], fun s => .r ((Eng.look s.env 0).toB)⟩
theorem fsF11 : ∀ (N : Nat) (lk : Nat → AV) (M : List Blk), FFF11 (F11 (N + 1)) (canS sgF11 lk M) = evfn CX (T11ur1 N R11) code11 rsF11 (argsE 4 (canS sgF11 lk M).env) (canS sgF11 lk M).mem (goR CX 0 (fun _ => some xRF11)) := by intro N lk M; kernel_rfl
theorem soundF11 : ∀ N, RecOkF11 (F11 N)
  | 0, lk, M, o, h => by cases h
  | N + 1, lk, M, o, h => fn_sound hX (okT11ur1 N R11) Try.func11 hb11 rfl en11 (by kernel_rfl) (ys := fun _ => some xRF11) (fun st y h => by injection h with h; subst h; exact fun lk M => ⟨rfl, rfl⟩) ((fsF11 N lk M).symm.trans h)
end Go.Proofs.Ytnfmdenclkdmbaa

namespace Go.Proofs.Ytnfmdenclkdmbaa
open Go Go.Eng

def inI (x : Int) : Prop := -9223372036854775808 ≤ x ∧ x ≤ 9223372036854775807
theorem wrap_id {n : Int} (h : inI n) : IntKind.wrap .i64 n = n := by
  obtain ⟨h0, h1⟩ := h
  simp [IntKind.wrap, IntKind.bits, IntKind.signed]
  split <;> omega
theorem wrap_in (n : Int) : inI (IntKind.wrap .i64 n) := by
  simp [IntKind.wrap, IntKind.bits, IntKind.signed]
  unfold inI
  split <;> omega
theorem wrap_mod (n : Int) : ∃ k : Int, IntKind.wrap .i64 n = n + k * 18446744073709551616 := by
  simp [IntKind.wrap, IntKind.bits, IntKind.signed]
  split
  · exact ⟨-(n / 18446744073709551616) - 1, by omega⟩
  · exact ⟨-(n / 18446744073709551616), by omega⟩
theorem wrapBV (v : BitVec 64) : IntKind.wrap .i64 (v.toNat : Int) = v.toInt := by
  have := v.isLt
  rw [BitVec.toInt_eq_toNat_cond]
  simp [IntKind.wrap, IntKind.bits, IntKind.signed]
  split <;> split <;> omega
theorem toInt_ofInt {x : Int} (h : inI x) : (BitVec.ofInt 64 x).toInt = x := by
  obtain ⟨h0, h1⟩ := h
  rw [BitVec.toInt_ofInt, Int.bmod_def]
  split <;> omega
theorem msb_ofInt {x : Int} (h : inI x) : (BitVec.ofInt 64 x).msb = decide (x < 0) := by
  rw [BitVec.msb_eq_toInt, toInt_ofInt h]
theorem nonneg_toInt (v : BitVec 64) : decide (0 ≤ v.toInt) = !v.msb := by
  rw [BitVec.msb_eq_toInt]
  by_cases h : v.toInt < 0
  · simp [h]
  · have : 0 ≤ v.toInt := by omega
    simp [this]
theorem xor_sign {x y : Int} (hx : inI x) (hy : inI y) : decide (0 ≤ IntKind.wrap .i64 ((BitVec.ofInt 64 x ^^^ BitVec.ofInt 64 y).toNat : Int)) = (decide (x < 0) == decide (y < 0)) := by
  rw [wrapBV, nonneg_toInt, BitVec.msb_xor, msb_ofInt hx, msb_ofInt hy]
  cases decide (x < 0) <;> cases decide (y < 0) <;> rfl
theorem toNat_ofInt (x : Int) : ((BitVec.ofInt 64 x).toNat : Int) = x % 18446744073709551616 := by
  have h : (BitVec.ofInt 64 x).toNat = (x % 18446744073709551616).toNat := by rw [BitVec.toNat_ofInt]; rfl
  have : (0 : Int) ≤ x % 18446744073709551616 := Int.emod_nonneg _ (by decide)
  rw [h]
  omega
theorem bits2 {v : BitVec 64} (h : ∀ i, 1 ≤ i → v.getLsbD i = false) : v.toNat < 2 :=
  Nat.lt_pow_two_of_testBit (n := 1) v.toNat (fun i hi => by have := h i hi; rwa [← BitVec.testBit_toNat] at this)
theorem mask_or {a b : Int} (ha : inI a) (hb : inI b) : ((IntKind.wrap .i64 ((BitVec.ofInt 64 (IntKind.wrap .i64 ((BitVec.ofInt 64 a ||| BitVec.ofInt 64 b).toNat : Int)) &&& ~~~ BitVec.ofInt 64 (1 : Int)).toNat : Int)) != (0 : Int)) = !(decide (0 ≤ a ∧ a ≤ 1) && decide (0 ≤ b ∧ b ≤ 1)) := by
  rw [wrapBV, wrapBV, BitVec.ofInt_toInt]
  by_cases h : (0 ≤ a ∧ a ≤ 1) ∧ (0 ≤ b ∧ b ≤ 1)
  · obtain ⟨⟨h1, h2⟩, h3, h4⟩ := h
    have ea : a = 0 ∨ a = 1 := by omega
    have eb : b = 0 ∨ b = 1 := by omega
    rcases ea with rfl | rfl <;> rcases eb with rfl | rfl <;> decide
  · have hr : (decide (0 ≤ a ∧ a ≤ 1) && decide (0 ≤ b ∧ b ≤ 1)) = false := by
      rw [Bool.eq_false_iff]
      intro hc
      simp only [Bool.and_eq_true, decide_eq_true_eq] at hc
      exact h hc
    rw [hr]
    simp only [Bool.not_false, bne_iff_ne, ne_eq]
    intro hz
    apply h
    have hz' : (BitVec.ofInt 64 a ||| BitVec.ofInt 64 b) &&& ~~~BitVec.ofInt 64 1 = 0#64 := BitVec.eq_of_toInt_eq (by rw [hz]; rfl)
    have hbit : ∀ i, 1 ≤ i → (BitVec.ofInt 64 a).getLsbD i = false ∧ (BitVec.ofInt 64 b).getLsbD i = false := by
      intro i hi
      by_cases hlt : i < 64
      · have := congrArg (fun v => BitVec.getLsbD v i) hz'
        have h1 : (BitVec.ofInt 64 1).getLsbD i = false := by
          rw [show BitVec.ofInt 64 1 = 1#64 by rfl, BitVec.getLsbD_one]
          simp; omega
        simp only [BitVec.getLsbD_and, BitVec.getLsbD_or, BitVec.getLsbD_not, h1, hlt, decide_true, Bool.not_false, Bool.and_true, BitVec.getLsbD_zero, Bool.or_eq_false_iff] at this
        exact this
      · exact ⟨BitVec.getLsbD_of_ge _ _ (by omega), BitVec.getLsbD_of_ge _ _ (by omega)⟩
    have na := bits2 fun i hi => (hbit i hi).1
    have nb := bits2 fun i hi => (hbit i hi).2
    have ea := toNat_ofInt a
    have eb := toNat_ofInt b
    obtain ⟨a0, a1⟩ := ha
    obtain ⟨b0, b1⟩ := hb
    generalize (BitVec.ofInt 64 a).toNat = ma at *
    generalize (BitVec.ofInt 64 b).toNat = mb at *
    omega

/-- The document's examples. -/
theorem head_true : F16 40 = some (.r true) := by kernel_rfl
end Go.Proofs.Ytnfmdenclkdmbaa

namespace Go.Proofs.Ytnfmdenclkdmbaa
open Go Go.Eng

def w (x : Int) : Int := IntKind.wrap .i64 x
def tr (b : Bool) : Int := if b then 1 else 0
def modS (a b : Int) : Int := if Int.tmod a b = 0 then 0 else if (decide (Int.tmod a b < 0) == decide (b < 0)) then Int.tmod a b else w (Int.tmod a b + b)
def bw (f : BitVec 64 → BitVec 64 → BitVec 64) (a b : Int) : Int := w ((f (BitVec.ofInt 64 a) (BitVec.ofInt 64 b)).toNat : Int)
def divQ (b v : Int) : Int × Bool := if b = 0 then (0, false) else (v, true)
def apS (op a b : Int) : Int × Bool :=
  if op = 1 then (w (a + b), true) else
  if op = 2 then (w (a - b), true) else
  if op = 3 then (w (a * b), true) else
  if op = 4 then divQ b (w (Int.tdiv a b)) else
  if op = 5 then divQ b (Int.tmod a b) else
  if op = 6 then divQ b (modS a b) else
  if op = 7 then (tr (a == b), true) else
  if op = 8 then (tr (a != b), true) else
  if op = 9 then (tr (decide (a < b)), true) else
  if op = 10 then (tr (decide (a ≤ b)), true) else
  if op = 11 then (tr (decide (b < a)), true) else
  if op = 12 then (tr (decide (b ≤ a)), true) else
  if op = 13 then (bw (· &&& ·) a b, true) else
  if op = 14 then (bw (· ||| ·) a b, true) else
  if op = 15 then (bw (· ^^^ ·) a b, true) else
  if op = 16 then (w (0 - a), true) else
  if op = 17 then (imax a (w (0 - a)), true) else
  if op = 18 then (w (1 - a), true) else
  (0, false)

theorem tmod_in {a b : Int} (hb : inI b) (h0 : b ≠ 0) : inI (Int.tmod a b) := by
  have h : (Int.tmod a b).natAbs = a.natAbs % b.natAbs := Int.natAbs_tmod a b
  have h1 : a.natAbs % b.natAbs < b.natAbs := Nat.mod_lt _ (by omega)
  obtain ⟨b0, b1⟩ := hb
  unfold inI
  omega
theorem beq_f {x k : Int} (h : x ≠ k) : (x == k) = false := by simpa using h
theorem beq_t {x k : Int} (h : x = k) : (x == k) = true := by simpa using h
theorem F74_eq (N : Nat) {a b : Int} (hb : inI b) (h0 : b ≠ 0) : F74 (N + 1) a b = some (.r (modS a b)) := by
  unfold F74 modS
  simp only [beq_f h0, Bool.not_false, tst]
  by_cases h : Int.tmod a b = 0
  · rw [h]; rfl
  · simp only [beq_f h, if_neg h, xor_sign (tmod_in hb h0) hb]
    cases (decide (Int.tmod a b < 0) == decide (b < 0)) <;> rfl
theorem F39_eq (N : Nat) {a b : Int} (h0 : b ≠ 0) : F39 (N + 1) a b = some (.r (modS a b)) := by
  unfold F39 modS
  simp only [beq_f h0, Bool.not_false, tst, bne]
  by_cases h : Int.tmod a b = 0
  · rw [h]; rfl
  · simp only [beq_f h, if_neg h, Bool.not_false]
    cases (decide (Int.tmod a b < 0) == decide (b < 0)) <;> rfl
theorem F40_eq (N : Nat) (x : Bool) : F40 (N + 1) x = some (.r (tr x)) := by cases x <;> rfl
theorem F91_eq (N : Nat) (x : Bool) : F91 (N + 1) x = some (.r (tr x)) := by cases x <;> rfl
theorem F95_eq (N : Nat) (a b : Int) : F95 (N + 2) a b = some (.r (divQ b (w (Int.tdiv a b))).1 (divQ b (w (Int.tdiv a b))).2) := by
  unfold F95 F72 divQ
  by_cases h0 : b = 0
  · simp only [beq_t h0, if_pos h0]
  · simp only [beq_f h0, Bool.not_false, tst, if_neg h0, w]
theorem F95v1_eq (N : Nat) (a b : Int) : F95v1 (N + 2) a b = some (.r (divQ b (Int.tmod a b)).1 (divQ b (Int.tmod a b)).2) := by
  unfold F95v1 F73 divQ
  by_cases h0 : b = 0
  · simp only [beq_t h0, if_pos h0]
  · simp only [beq_f h0, Bool.not_false, tst, if_neg h0]
theorem F95v2_eq (N : Nat) {a b : Int} (hb : inI b) : F95v2 (N + 2) a b = some (.r (divQ b (modS a b)).1 (divQ b (modS a b)).2) := by
  unfold F95v2 divQ
  by_cases h0 : b = 0
  · simp only [beq_t h0, if_pos h0]
  · simp only [beq_f h0, F74_eq N hb h0, if_neg h0]
theorem F96_eq (N : Nat) (a b : Int) : F96 (N + 2) a b = some (.r (tr (a == b)) true) := by
  unfold F96 F76
  simp only [F91_eq]
theorem F96v1_eq (N : Nat) (a b : Int) : F96v1 (N + 2) a b = some (.r (tr (a != b)) true) := by
  unfold F96v1 F77
  simp only [F91_eq]
theorem F96v2_eq (N : Nat) (a b : Int) : F96v2 (N + 2) a b = some (.r (tr (decide (a < b))) true) := by
  unfold F96v2 F78
  simp only [F91_eq]
theorem F96v3_eq (N : Nat) (a b : Int) : F96v3 (N + 2) a b = some (.r (tr (decide (a ≤ b))) true) := by
  unfold F96v3 F79
  simp only [F91_eq]
theorem F96v4_eq (N : Nat) (a b : Int) : F96v4 (N + 2) a b = some (.r (tr (decide (b < a))) true) := by
  unfold F96v4 F80
  simp only [F91_eq]
theorem F96v5_eq (N : Nat) (a b : Int) : F96v5 (N + 2) a b = some (.r (tr (decide (b ≤ a))) true) := by
  unfold F96v5 F81
  simp only [F91_eq]
theorem F94v2_eq (N : Nat) (a b : Int) : F94v2 (N + 2) a b = some (.r (w (a * b)) true) := rfl
theorem F94v3_eq (N : Nat) (a b : Int) : F94v3 (N + 2) a b = some (.r (bw (· &&& ·) a b) true) := rfl
theorem F94v4_eq (N : Nat) (a b : Int) : F94v4 (N + 2) a b = some (.r (bw (· ||| ·) a b) true) := rfl
theorem F94v5_eq (N : Nat) (a b : Int) : F94v5 (N + 2) a b = some (.r (bw (· ^^^ ·) a b) true) := rfl
theorem F94v6_eq (N : Nat) (a b : Int) : F94v6 (N + 2) a b = some (.r (w (0 - a)) true) := rfl
theorem F94v7_eq (N : Nat) (a b : Int) : F94v7 (N + 2) a b = some (.r (imax a (w (0 - a))) true) := rfl
theorem F94v8_eq (N : Nat) (a b : Int) : F94v8 (N + 2) a b = some (.r (w (1 - a)) true) := rfl

theorem F17_eq (N : Nat) {op a b : Int} (hb : inI b) : F17 (N + 4) op a b = some (.r (apS op a b).1 (apS op a b).2) := by
  unfold F17
  by_cases h1 : op = 1
  · simp only [apS, beq_t h1, if_pos h1, w]
  by_cases h2 : op = 2
  · simp only [apS, beq_f h1, if_neg h1, beq_t h2, if_pos h2, w]
  by_cases h3 : op = 3
  · simp only [apS, beq_f h1, beq_f h2, if_neg h1, if_neg h2, beq_t h3, if_pos h3, F67, F67v1, F67v2, F67v3, F67v4, F67v5, F67v6, F67v7, F67v8, F71, F71v1, F71v2, F75, F75v1, F75v2, F75v3, F75v4, F75v5, F94v2_eq]
  by_cases h4 : op = 4
  · simp only [apS, beq_f h1, beq_f h2, beq_f h3, if_neg h1, if_neg h2, if_neg h3, beq_t h4, if_pos h4, F67, F67v1, F67v2, F67v3, F67v4, F67v5, F67v6, F67v7, F67v8, F71, F71v1, F71v2, F75, F75v1, F75v2, F75v3, F75v4, F75v5, F95_eq]
  by_cases h5 : op = 5
  · simp only [apS, beq_f h1, beq_f h2, beq_f h3, beq_f h4, if_neg h1, if_neg h2, if_neg h3, if_neg h4, beq_t h5, if_pos h5, F67, F67v1, F67v2, F67v3, F67v4, F67v5, F67v6, F67v7, F67v8, F71, F71v1, F71v2, F75, F75v1, F75v2, F75v3, F75v4, F75v5, F95v1_eq]
  by_cases h6 : op = 6
  · simp only [apS, beq_f h1, beq_f h2, beq_f h3, beq_f h4, beq_f h5, if_neg h1, if_neg h2, if_neg h3, if_neg h4, if_neg h5, beq_t h6, if_pos h6, F67, F67v1, F67v2, F67v3, F67v4, F67v5, F67v6, F67v7, F67v8, F71, F71v1, F71v2, F75, F75v1, F75v2, F75v3, F75v4, F75v5, F95v2_eq _ hb]
  by_cases h7 : op = 7
  · simp only [apS, beq_f h1, beq_f h2, beq_f h3, beq_f h4, beq_f h5, beq_f h6, if_neg h1, if_neg h2, if_neg h3, if_neg h4, if_neg h5, if_neg h6, beq_t h7, if_pos h7, F67, F67v1, F67v2, F67v3, F67v4, F67v5, F67v6, F67v7, F67v8, F71, F71v1, F71v2, F75, F75v1, F75v2, F75v3, F75v4, F75v5, F96_eq]
  by_cases h8 : op = 8
  · simp only [apS, beq_f h1, beq_f h2, beq_f h3, beq_f h4, beq_f h5, beq_f h6, beq_f h7, if_neg h1, if_neg h2, if_neg h3, if_neg h4, if_neg h5, if_neg h6, if_neg h7, beq_t h8, if_pos h8, F67, F67v1, F67v2, F67v3, F67v4, F67v5, F67v6, F67v7, F67v8, F71, F71v1, F71v2, F75, F75v1, F75v2, F75v3, F75v4, F75v5, F96v1_eq]
  by_cases h9 : op = 9
  · simp only [apS, beq_f h1, beq_f h2, beq_f h3, beq_f h4, beq_f h5, beq_f h6, beq_f h7, beq_f h8, if_neg h1, if_neg h2, if_neg h3, if_neg h4, if_neg h5, if_neg h6, if_neg h7, if_neg h8, beq_t h9, if_pos h9, F67, F67v1, F67v2, F67v3, F67v4, F67v5, F67v6, F67v7, F67v8, F71, F71v1, F71v2, F75, F75v1, F75v2, F75v3, F75v4, F75v5, F96v2_eq]
  by_cases h10 : op = 10
  · simp only [apS, beq_f h1, beq_f h2, beq_f h3, beq_f h4, beq_f h5, beq_f h6, beq_f h7, beq_f h8, beq_f h9, if_neg h1, if_neg h2, if_neg h3, if_neg h4, if_neg h5, if_neg h6, if_neg h7, if_neg h8, if_neg h9, beq_t h10, if_pos h10, F67, F67v1, F67v2, F67v3, F67v4, F67v5, F67v6, F67v7, F67v8, F71, F71v1, F71v2, F75, F75v1, F75v2, F75v3, F75v4, F75v5, F96v3_eq]
  by_cases h11 : op = 11
  · simp only [apS, beq_f h1, beq_f h2, beq_f h3, beq_f h4, beq_f h5, beq_f h6, beq_f h7, beq_f h8, beq_f h9, beq_f h10, if_neg h1, if_neg h2, if_neg h3, if_neg h4, if_neg h5, if_neg h6, if_neg h7, if_neg h8, if_neg h9, if_neg h10, beq_t h11, if_pos h11, F67, F67v1, F67v2, F67v3, F67v4, F67v5, F67v6, F67v7, F67v8, F71, F71v1, F71v2, F75, F75v1, F75v2, F75v3, F75v4, F75v5, F96v4_eq]
  by_cases h12 : op = 12
  · simp only [apS, beq_f h1, beq_f h2, beq_f h3, beq_f h4, beq_f h5, beq_f h6, beq_f h7, beq_f h8, beq_f h9, beq_f h10, beq_f h11, if_neg h1, if_neg h2, if_neg h3, if_neg h4, if_neg h5, if_neg h6, if_neg h7, if_neg h8, if_neg h9, if_neg h10, if_neg h11, beq_t h12, if_pos h12, F67, F67v1, F67v2, F67v3, F67v4, F67v5, F67v6, F67v7, F67v8, F71, F71v1, F71v2, F75, F75v1, F75v2, F75v3, F75v4, F75v5, F96v5_eq]
  by_cases h13 : op = 13
  · simp only [apS, beq_f h1, beq_f h2, beq_f h3, beq_f h4, beq_f h5, beq_f h6, beq_f h7, beq_f h8, beq_f h9, beq_f h10, beq_f h11, beq_f h12, if_neg h1, if_neg h2, if_neg h3, if_neg h4, if_neg h5, if_neg h6, if_neg h7, if_neg h8, if_neg h9, if_neg h10, if_neg h11, if_neg h12, beq_t h13, if_pos h13, F67, F67v1, F67v2, F67v3, F67v4, F67v5, F67v6, F67v7, F67v8, F71, F71v1, F71v2, F75, F75v1, F75v2, F75v3, F75v4, F75v5, F94v3_eq]
  by_cases h14 : op = 14
  · simp only [apS, beq_f h1, beq_f h2, beq_f h3, beq_f h4, beq_f h5, beq_f h6, beq_f h7, beq_f h8, beq_f h9, beq_f h10, beq_f h11, beq_f h12, beq_f h13, if_neg h1, if_neg h2, if_neg h3, if_neg h4, if_neg h5, if_neg h6, if_neg h7, if_neg h8, if_neg h9, if_neg h10, if_neg h11, if_neg h12, if_neg h13, beq_t h14, if_pos h14, F67, F67v1, F67v2, F67v3, F67v4, F67v5, F67v6, F67v7, F67v8, F71, F71v1, F71v2, F75, F75v1, F75v2, F75v3, F75v4, F75v5, F94v4_eq]
  by_cases h15 : op = 15
  · simp only [apS, beq_f h1, beq_f h2, beq_f h3, beq_f h4, beq_f h5, beq_f h6, beq_f h7, beq_f h8, beq_f h9, beq_f h10, beq_f h11, beq_f h12, beq_f h13, beq_f h14, if_neg h1, if_neg h2, if_neg h3, if_neg h4, if_neg h5, if_neg h6, if_neg h7, if_neg h8, if_neg h9, if_neg h10, if_neg h11, if_neg h12, if_neg h13, if_neg h14, beq_t h15, if_pos h15, F67, F67v1, F67v2, F67v3, F67v4, F67v5, F67v6, F67v7, F67v8, F71, F71v1, F71v2, F75, F75v1, F75v2, F75v3, F75v4, F75v5, F94v5_eq]
  by_cases h16 : op = 16
  · simp only [apS, beq_f h1, beq_f h2, beq_f h3, beq_f h4, beq_f h5, beq_f h6, beq_f h7, beq_f h8, beq_f h9, beq_f h10, beq_f h11, beq_f h12, beq_f h13, beq_f h14, beq_f h15, if_neg h1, if_neg h2, if_neg h3, if_neg h4, if_neg h5, if_neg h6, if_neg h7, if_neg h8, if_neg h9, if_neg h10, if_neg h11, if_neg h12, if_neg h13, if_neg h14, if_neg h15, beq_t h16, if_pos h16, F67, F67v1, F67v2, F67v3, F67v4, F67v5, F67v6, F67v7, F67v8, F71, F71v1, F71v2, F75, F75v1, F75v2, F75v3, F75v4, F75v5, F94v6_eq]
  by_cases h17 : op = 17
  · simp only [apS, beq_f h1, beq_f h2, beq_f h3, beq_f h4, beq_f h5, beq_f h6, beq_f h7, beq_f h8, beq_f h9, beq_f h10, beq_f h11, beq_f h12, beq_f h13, beq_f h14, beq_f h15, beq_f h16, if_neg h1, if_neg h2, if_neg h3, if_neg h4, if_neg h5, if_neg h6, if_neg h7, if_neg h8, if_neg h9, if_neg h10, if_neg h11, if_neg h12, if_neg h13, if_neg h14, if_neg h15, if_neg h16, beq_t h17, if_pos h17, F67, F67v1, F67v2, F67v3, F67v4, F67v5, F67v6, F67v7, F67v8, F71, F71v1, F71v2, F75, F75v1, F75v2, F75v3, F75v4, F75v5, F94v7_eq]
  by_cases h18 : op = 18
  · simp only [apS, beq_f h1, beq_f h2, beq_f h3, beq_f h4, beq_f h5, beq_f h6, beq_f h7, beq_f h8, beq_f h9, beq_f h10, beq_f h11, beq_f h12, beq_f h13, beq_f h14, beq_f h15, beq_f h16, beq_f h17, if_neg h1, if_neg h2, if_neg h3, if_neg h4, if_neg h5, if_neg h6, if_neg h7, if_neg h8, if_neg h9, if_neg h10, if_neg h11, if_neg h12, if_neg h13, if_neg h14, if_neg h15, if_neg h16, if_neg h17, beq_t h18, if_pos h18, F67, F67v1, F67v2, F67v3, F67v4, F67v5, F67v6, F67v7, F67v8, F71, F71v1, F71v2, F75, F75v1, F75v2, F75v3, F75v4, F75v5, F94v8_eq]
  simp only [apS, beq_f h1, beq_f h2, beq_f h3, beq_f h4, beq_f h5, beq_f h6, beq_f h7, beq_f h8, beq_f h9, beq_f h10, beq_f h11, beq_f h12, beq_f h13, beq_f h14, beq_f h15, beq_f h16, beq_f h17, beq_f h18, if_neg h1, if_neg h2, if_neg h3, if_neg h4, if_neg h5, if_neg h6, if_neg h7, if_neg h8, if_neg h9, if_neg h10, if_neg h11, if_neg h12, if_neg h13, if_neg h14, if_neg h15, if_neg h16, if_neg h17, if_neg h18, F67, F67v1, F67v2, F67v3, F67v4, F67v5, F67v6, F67v7, F67v8, F71, F71v1, F71v2, F75, F75v1, F75v2, F75v3, F75v4, F75v5]

theorem tdiv_neg1 (a : Int) : Int.tdiv a (-1) = -a := by rw [Int.tdiv_neg, Int.tdiv_one]
theorem tmod_neg1 (a : Int) : Int.tmod a (-1) = 0 := by rw [Int.tmod_neg, Int.tmod_one]
theorem abs_eq {a : Int} (ha : inI a) : (if a < 0 then w (0 - a) else a) = imax a (w (0 - a)) := by
  obtain ⟨a0, a1⟩ := ha
  by_cases hm : a = -9223372036854775808
  · subst hm; decide
  · unfold w imax
    rw [wrap_id (by unfold inI; omega)]
    split <;> split <;> omega
theorem J18_eq (N : Nat) (op : Int) : J18a3454 N op = some (.nx (decide (op = 4 ∨ op = 5 ∨ op = 6))) := by
  unfold J18a3454
  by_cases h4 : op = 4
  · simp [h4]
  by_cases h5 : op = 5
  · simp [h5]
  by_cases h6 : op = 6
  · simp [h6]
  simp only [beq_f h4, beq_f h5, beq_f h6, h4, h5, h6, or_self, decide_false]
theorem F18_div (N : Nat) {op a b : Int} (ho : op = 4 ∨ op = 5 ∨ op = 6) : F18 (N + 2) op a b = some (.r (apS op a b).1 (apS op a b).2) := by
  have h1 : op ≠ 1 := by omega
  have h2 : op ≠ 2 := by omega
  have h3 : op ≠ 3 := by omega
  unfold F18
  simp only [beq_f h1, beq_f h2, beq_f h3, J18_eq, ho, decide_true, apS, if_neg h1, if_neg h2, if_neg h3, divQ]
  by_cases h0 : b = 0
  · simp only [beq_t h0, if_pos h0]
    rcases ho with rfl | rfl | rfl <;> simp
  · simp only [beq_f h0, if_neg h0]
    by_cases hm : b = -1
    · subst hm
      simp only [beq_self_eq_true]
      rcases ho with h | h | h
      · simp only [beq_t h, if_pos h, tdiv_neg1, w, Int.zero_sub]
      · have h4 : op ≠ 4 := by omega
        simp only [beq_f h4, if_neg h4, if_pos h, tmod_neg1]
      · have h4 : op ≠ 4 := by omega
        have h5 : op ≠ 5 := by omega
        simp only [beq_f h4, if_neg h4, if_neg h5, if_pos h, tmod_neg1, modS, if_true]
    · simp only [beq_f hm, tst, F39_eq _ h0, Bool.not_false]
      rcases ho with h | h | h
      · simp only [beq_t h, if_pos h, w]
      · have h4 : op ≠ 4 := by omega
        simp only [beq_f h4, if_neg h4, beq_t h, if_pos h]
      · have h4 : op ≠ 4 := by omega
        have h5 : op ≠ 5 := by omega
        simp only [beq_f h4, if_neg h4, beq_f h5, if_neg h5, if_pos h]
theorem F18_eq (N : Nat) {op a b : Int} (ha : inI a) : F18 (N + 2) op a b = some (.r (apS op a b).1 (apS op a b).2) := by
  by_cases h456 : op = 4 ∨ op = 5 ∨ op = 6
  · exact F18_div N h456
  have h4 : op ≠ 4 := fun e => h456 (.inl e)
  have h5 : op ≠ 5 := fun e => h456 (.inr (.inl e))
  have h6 : op ≠ 6 := fun e => h456 (.inr (.inr e))
  unfold F18
  simp only [J18_eq, decide_eq_false h456]
  by_cases h1 : op = 1
  · simp only [apS, beq_t h1, if_pos h1, F40_eq, bw, w]
  by_cases h2 : op = 2
  · simp only [apS, beq_f h1, if_neg h1, beq_t h2, if_pos h2, F40_eq, bw, w]
  by_cases h3 : op = 3
  · simp only [apS, beq_f h1, beq_f h2, if_neg h1, if_neg h2, beq_t h3, if_pos h3, F40_eq, bw, w]
  by_cases h7 : op = 7
  · simp only [apS, beq_f h1, beq_f h2, beq_f h3, if_neg h1, if_neg h2, if_neg h3, if_neg h4, if_neg h5, if_neg h6, beq_t h7, if_pos h7, F40_eq, bw, w]
  by_cases h8 : op = 8
  · simp only [apS, beq_f h1, beq_f h2, beq_f h3, beq_f h7, if_neg h1, if_neg h2, if_neg h3, if_neg h4, if_neg h5, if_neg h6, if_neg h7, beq_t h8, if_pos h8, F40_eq, bw, w]
  by_cases h9 : op = 9
  · simp only [apS, beq_f h1, beq_f h2, beq_f h3, beq_f h7, beq_f h8, if_neg h1, if_neg h2, if_neg h3, if_neg h4, if_neg h5, if_neg h6, if_neg h7, if_neg h8, beq_t h9, if_pos h9, F40_eq, bw, w]
  by_cases h10 : op = 10
  · simp only [apS, beq_f h1, beq_f h2, beq_f h3, beq_f h7, beq_f h8, beq_f h9, if_neg h1, if_neg h2, if_neg h3, if_neg h4, if_neg h5, if_neg h6, if_neg h7, if_neg h8, if_neg h9, beq_t h10, if_pos h10, F40_eq, bw, w]
  by_cases h11 : op = 11
  · simp only [apS, beq_f h1, beq_f h2, beq_f h3, beq_f h7, beq_f h8, beq_f h9, beq_f h10, if_neg h1, if_neg h2, if_neg h3, if_neg h4, if_neg h5, if_neg h6, if_neg h7, if_neg h8, if_neg h9, if_neg h10, beq_t h11, if_pos h11, F40_eq, bw, w]
  by_cases h12 : op = 12
  · simp only [apS, beq_f h1, beq_f h2, beq_f h3, beq_f h7, beq_f h8, beq_f h9, beq_f h10, beq_f h11, if_neg h1, if_neg h2, if_neg h3, if_neg h4, if_neg h5, if_neg h6, if_neg h7, if_neg h8, if_neg h9, if_neg h10, if_neg h11, beq_t h12, if_pos h12, F40_eq, bw, w]
  by_cases h13 : op = 13
  · simp only [apS, beq_f h1, beq_f h2, beq_f h3, beq_f h7, beq_f h8, beq_f h9, beq_f h10, beq_f h11, beq_f h12, if_neg h1, if_neg h2, if_neg h3, if_neg h4, if_neg h5, if_neg h6, if_neg h7, if_neg h8, if_neg h9, if_neg h10, if_neg h11, if_neg h12, beq_t h13, if_pos h13, F40_eq, bw, w]
  by_cases h14 : op = 14
  · simp only [apS, beq_f h1, beq_f h2, beq_f h3, beq_f h7, beq_f h8, beq_f h9, beq_f h10, beq_f h11, beq_f h12, beq_f h13, if_neg h1, if_neg h2, if_neg h3, if_neg h4, if_neg h5, if_neg h6, if_neg h7, if_neg h8, if_neg h9, if_neg h10, if_neg h11, if_neg h12, if_neg h13, beq_t h14, if_pos h14, F40_eq, bw, w]
  by_cases h15 : op = 15
  · simp only [apS, beq_f h1, beq_f h2, beq_f h3, beq_f h7, beq_f h8, beq_f h9, beq_f h10, beq_f h11, beq_f h12, beq_f h13, beq_f h14, if_neg h1, if_neg h2, if_neg h3, if_neg h4, if_neg h5, if_neg h6, if_neg h7, if_neg h8, if_neg h9, if_neg h10, if_neg h11, if_neg h12, if_neg h13, if_neg h14, beq_t h15, if_pos h15, F40_eq, bw, w]
  by_cases h16 : op = 16
  · simp only [apS, beq_f h1, beq_f h2, beq_f h3, beq_f h7, beq_f h8, beq_f h9, beq_f h10, beq_f h11, beq_f h12, beq_f h13, beq_f h14, beq_f h15, if_neg h1, if_neg h2, if_neg h3, if_neg h4, if_neg h5, if_neg h6, if_neg h7, if_neg h8, if_neg h9, if_neg h10, if_neg h11, if_neg h12, if_neg h13, if_neg h14, if_neg h15, beq_t h16, if_pos h16, F40_eq, bw, w]
  by_cases h17 : op = 17
  · simp only [apS, beq_f h1, beq_f h2, beq_f h3, beq_f h7, beq_f h8, beq_f h9, beq_f h10, beq_f h11, beq_f h12, beq_f h13, beq_f h14, beq_f h15, beq_f h16, if_neg h1, if_neg h2, if_neg h3, if_neg h4, if_neg h5, if_neg h6, if_neg h7, if_neg h8, if_neg h9, if_neg h10, if_neg h11, if_neg h12, if_neg h13, if_neg h14, if_neg h15, if_neg h16, beq_t h17, if_pos h17, F40_eq, bw, w]
    have := abs_eq ha
    unfold w at this
    rw [← this]
    by_cases hn : a < 0
    · simp only [decide_eq_true hn, if_pos hn]
    · simp only [decide_eq_false hn, if_neg hn]
  by_cases h18 : op = 18
  · simp only [apS, beq_f h1, beq_f h2, beq_f h3, beq_f h7, beq_f h8, beq_f h9, beq_f h10, beq_f h11, beq_f h12, beq_f h13, beq_f h14, beq_f h15, beq_f h16, beq_f h17, if_neg h1, if_neg h2, if_neg h3, if_neg h4, if_neg h5, if_neg h6, if_neg h7, if_neg h8, if_neg h9, if_neg h10, if_neg h11, if_neg h12, if_neg h13, if_neg h14, if_neg h15, if_neg h16, if_neg h17, beq_t h18, if_pos h18, F40_eq, bw, w]
  simp only [apS, beq_f h1, beq_f h2, beq_f h3, beq_f h7, beq_f h8, beq_f h9, beq_f h10, beq_f h11, beq_f h12, beq_f h13, beq_f h14, beq_f h15, beq_f h16, beq_f h17, beq_f h18, if_neg h1, if_neg h2, if_neg h3, if_neg h4, if_neg h5, if_neg h6, if_neg h7, if_neg h8, if_neg h9, if_neg h10, if_neg h11, if_neg h12, if_neg h13, if_neg h14, if_neg h15, if_neg h16, if_neg h17, if_neg h18]

/-- NumWrap. -/
theorem wrap_true {op a b : Int} (ha : inI a) (hb : inI b) : F4 41 op a b = some (.r true) := by
  have e1 : F17 40 op a b = _ := F17_eq 36 hb
  have e2 : F18 40 op a b = _ := F18_eq 38 ha
  show F4 (40 + 1) op a b = _
  unfold F4
  simp only [e1, e2, beq_self_eq_true, head_true]

end Go.Proofs.Ytnfmdenclkdmbaa

namespace Go.Proofs.Ytnfmdenclkdmbaa
open Go Go.Eng

theorem imin_eq (x y : Int) : imin x y = min x y := by unfold imin; omega
theorem imax_eq (x y : Int) : imax x y = max x y := by unfold imax; omega
def rowsI (l : List Int) : List Row := l.map fun v => [.int .i64 v]
theorem rowsI_len (l : List Int) : (rowsI l).length = l.length := by simp [rowsI]
theorem rowsI_get (l : List Int) {i : Nat} (h : i < l.length) : ((((rowsI l).getD ((i : Int).toNat) [])).getD 0 .top).toI = l[i] := by
  simp [rowsI, List.getD_eq_getElem?_getD, h, AV.toI]
theorem wrap_succ {i : Nat} (h : i ≤ 1000000) : IntKind.wrap .i64 ((i : Int) + 1) = ((i + 1 : Nat) : Int) := by
  rw [wrap_id (by unfold inI; omega)]; omega
theorem dlt {i n : Nat} (h : i < n) : decide ((i : Int) < (n : Int)) = true := decide_eq_true (by omega)
theorem dge {i n : Nat} (h : n ≤ i) : decide ((i : Int) < (n : Int)) = false := decide_eq_false (by omega)
theorem dz (i : Nat) : decide ((0 : Int) ≤ (i : Int)) = true := decide_eq_true (by omega)
theorem match_dec {α : Sort _} (p : Prop) [Decidable p] (f g : α) : (match decide p with | true => f | false => g) = if p then f else g := by
  by_cases h : p <;> simp [h]

theorem L64_eq (N : Nat) (l : List Int) (hl : l.length ≤ 1000) : ∀ (k i n : Nat) (lo hi : Int), i + k = l.length → k < n →
    L64a58 N n (rowsI l) (l.length : Int) (i : Int) lo hi = some (.x0 ((l.drop i).foldl min lo) ((l.drop i).foldl max hi))
  | 0, i, n + 1, lo, hi, h, _ => by
    unfold L64a58
    rw [dge (by omega), List.drop_eq_nil_of_le (by omega)]
    rfl
  | k + 1, i, n + 1, lo, hi, h, hn => by
    unfold L64a58
    have hi' : i < l.length := by omega
    rw [dlt hi', dz, rowsI_len, dlt hi', rowsI_get l hi', wrap_succ (by omega)]
    simp only [Bool.and_self, tst]
    rw [L64_eq N l hl k (i + 1) n _ _ (by omega) (by omega), List.drop_eq_getElem_cons hi', List.foldl_cons, List.foldl_cons, imin_eq, imax_eq]
theorem F64_eq (N : Nat) (a : Int) (l : List Int) (hl : l.length ≤ 4) : F64 (N + 6) a (rowsI l) = some (.r (l.foldl min a) (l.foldl max a)) := by
  simp only [F64]
  have := L64_eq (N + 5) l (by omega) l.length 0 (N + 5) a a (by omega) (by omega)
  rw [rowsI_len]
  simp only [List.drop_zero] at this
  rw [show ((0 : Nat) : Int) = 0 from rfl] at this
  simp only [this]

def joinS (a b c d : Int) : Int × Int := if b < a then (if d < c then (1, 0) else (c, d)) else if d < c then (a, b) else (min a c, max b d)
def meetS (a b c d : Int) : Int × Int := if min b d < max a c then (1, 0) else (max a c, min b d)
def widS (a b c d e f : Int) : Int × Int :=
  if b < a ∨ d < c then joinS a b c d else
    (if a ≤ c then a else if e ≤ c then e else -9223372036854775808, if d ≤ b then b else if d ≤ f then f else 9223372036854775807)
def hasS (a b v : Int) : Bool := decide (a ≤ v) && decide (v ≤ b)
def liesS (a b c d : Int) : Bool := decide (b < a) || (decide (c ≤ a) && decide (b ≤ d))

theorem F41_eq (N : Nat) (a b : Int) : F41 (N + 1) a b = some (.r (decide (b < a))) := rfl
theorem F54_eq (N : Nat) (a b : Int) : F54 (N + 1) a b = some (.r (decide (b < a))) := rfl
theorem F23_eq (N : Nat) (a b v : Int) : F23 (N + 1) a b v = some (.r (hasS a b v)) := by
  simp only [F23, hasS]
  cases decide (a ≤ v) <;> rfl
theorem F27_eq (N : Nat) (a b v : Int) : F27 (N + 1) a b v = some (.r (hasS a b v)) := by
  simp only [F27, hasS]
  cases decide (a ≤ v) <;> rfl
theorem F24_eq (N : Nat) (a b c d : Int) : F24 (N + 2) a b c d = some (.r (liesS a b c d)) := by
  unfold F24 liesS
  simp only [F41_eq]
  cases decide (b < a) <;> cases decide (c ≤ a) <;> rfl
theorem F28_eq (N : Nat) (a b c d : Int) : F28 (N + 2) a b c d = some (.r (liesS a b c d)) := by
  unfold F28 liesS
  simp only [F54_eq]
  cases decide (b < a) <;> cases decide (c ≤ a) <;> rfl
theorem F25_eq (N : Nat) (a b c d : Int) : F25 (N + 7) a b c d = some (.r (joinS a b c d).1 (joinS a b c d).2) := by
  have h : F64 (N + 6) a [[.int .i64 b], [.int .i64 c], [.int .i64 d]] = some (.r (min (min (min a b) c) d) (max (max (max a b) c) d)) := F64_eq N a [b, c, d] (by simp)
  unfold F25 joinS
  simp only [F41_eq, h, F42]
  by_cases h1 : b < a
  · simp only [h1, decide_true, if_true]
    by_cases h2 : d < c
    · simp only [h2, decide_true, if_true]
    · simp only [h2, decide_false, if_false]
  · simp only [h1, decide_false, if_false]
    by_cases h2 : d < c
    · simp only [h2, decide_true, if_true]
    · simp only [h2, decide_false, if_false]
      rw [show min (min (min a b) c) d = min a c by omega, show max (max (max a b) c) d = max b d by omega]
theorem F66_eq (N : Nat) (a b : Int) : F66 (N + 2) a b = some (.r (if b < a then (1, 0) else (a, b)).1 (if b < a then ((1 : Int), (0 : Int)) else (a, b)).2) := by
  unfold F66
  simp only [F54_eq, F55]
  by_cases h1 : b < a
  · simp only [h1, decide_true, if_true]
  · simp only [h1, decide_false, if_false]
theorem F29_eq (N : Nat) (a b c d : Int) : F29 (N + 3) a b c d = some (.r (joinS a b c d).1 (joinS a b c d).2) := by
  unfold F29 joinS
  simp only [F54_eq, F66_eq, imin_eq, imax_eq]
  by_cases h1 : b < a
  · simp only [h1, decide_true, if_true]
  · simp only [h1, decide_false, if_false]
    by_cases h2 : d < c
    · simp only [h2, decide_true, if_true]
    · simp only [h2, decide_false, if_false]
theorem F30_eq (N : Nat) (a b c d : Int) : F30 (N + 2) a b c d = some (.r (meetS a b c d).1 (meetS a b c d).2) := by
  unfold F30 meetS
  simp only [F41_eq, F42, imin_eq, imax_eq]
  by_cases h1 : min b d < max a c
  · simp only [h1, decide_true, if_true, Bool.not_true]
  · simp only [h1, decide_false, if_false, Bool.not_false]
theorem F31_eq (N : Nat) (a b c d : Int) : F31 (N + 3) a b c d = some (.r (meetS a b c d).1 (meetS a b c d).2) := by
  unfold F31 meetS
  simp only [F66_eq, imin_eq, imax_eq]
theorem F26_eq (N : Nat) (a b c d e f : Int) : F26 (N + 8) a b c d e f = some (.r (widS a b c d e f).1 (widS a b c d e f).2) := by
  unfold F26 J26a6 J26a30 widS
  simp only [F41_eq, F25_eq, F65]
  by_cases h1 : b < a
  · simp only [h1, decide_true, true_or, if_true]
  · by_cases h2 : d < c
    · simp only [h1, h2, decide_true, decide_false, or_true, if_true]
    · simp only [h1, h2, decide_false, or_self, if_false]
      by_cases h3 : a ≤ c <;> by_cases h4 : e ≤ c <;> by_cases h5 : d ≤ b <;> by_cases h6 : d ≤ f <;> simp only [h3, h4, h5, h6, decide_true, decide_false, if_true, if_false]
theorem F32_eq (N : Nat) (a b c d e f : Int) : F32 (N + 8) a b c d e f = some (.r (widS a b c d e f).1 (widS a b c d e f).2) := by
  unfold F32 J32a6 J32a30 widS
  simp only [F54_eq, F29_eq, F63]
  by_cases h1 : b < a
  · simp only [h1, decide_true, true_or, if_true]
  · by_cases h2 : d < c
    · simp only [h1, h2, decide_true, decide_false, or_true, if_true]
    · simp only [h1, h2, decide_false, or_self, if_false]
      by_cases h3 : a ≤ c <;> by_cases h4 : e ≤ c <;> by_cases h5 : d ≤ b <;> by_cases h6 : d ≤ f <;> simp only [h3, h4, h5, h6, decide_true, decide_false, if_true, if_false]

/-- NumIvals. -/
theorem numIvals_true {a b c d e f v : Int} (_ : inI a) (_ : inI b) (_ : inI c) (_ : inI d) (_ : inI e) (_ : inI f) (_ : inI v) : F10 41 a b c d e f v = some (.r true) := by
  have e1 : F23 40 a b v = _ := F23_eq 39 a b v
  have e2 : F27 40 a b v = _ := F27_eq 39 a b v
  have e3 : F24 40 a b c d = _ := F24_eq 38 a b c d
  have e4 : F28 40 a b c d = _ := F28_eq 38 a b c d
  have e5 : F25 40 a b c d = _ := F25_eq 33 a b c d
  have e6 : F29 40 a b c d = _ := F29_eq 37 a b c d
  have e7 : F30 40 a b c d = _ := F30_eq 38 a b c d
  have e8 : F31 40 a b c d = _ := F31_eq 37 a b c d
  have e9 : F26 40 a b c d e f = _ := F26_eq 32 a b c d e f
  have e10 : F32 40 a b c d e f = _ := F32_eq 32 a b c d e f
  show F10 (40 + 1) a b c d e f v = _
  unfold F10
  simp only [e1, e2, e3, e4, e5, e6, e7, e8, e9, e10, beq_self_eq_true, Bool.and_self, head_true]
end Go.Proofs.Ytnfmdenclkdmbaa

namespace Go.Proofs.Ytnfmdenclkdmbaa
open Go Go.Eng

theorem lies_iff {a b c d : Int} : liesS a b c d = true ↔ b < a ∨ (c ≤ a ∧ b ≤ d) := by
  unfold liesS; simp
theorem has_iff {a b v : Int} : hasS a b v = true ↔ a ≤ v ∧ v ≤ b := by
  unfold hasS; simp
theorem join_l (a b c d : Int) : liesS a b (joinS a b c d).1 (joinS a b c d).2 = true := by
  rw [lies_iff]; unfold joinS
  split
  · exact .inl (by assumption)
  · split <;> simp only <;> omega
theorem join_r (a b c d : Int) : liesS c d (joinS a b c d).1 (joinS a b c d).2 = true := by
  rw [lies_iff]; unfold joinS
  split
  · split <;> simp only <;> omega
  · split <;> simp only <;> omega
theorem meet_l (a b c d : Int) : liesS (meetS a b c d).1 (meetS a b c d).2 a b = true := by
  rw [lies_iff]; unfold meetS
  split <;> simp only <;> omega
theorem meet_r (a b c d : Int) : liesS (meetS a b c d).1 (meetS a b c d).2 c d = true := by
  rw [lies_iff]; unfold meetS
  split <;> simp only <;> omega
theorem join_wid {a b c d : Int} (e f : Int) (hc : inI c) (hd : inI d) : liesS (joinS a b c d).1 (joinS a b c d).2 (widS a b c d e f).1 (widS a b c d e f).2 = true := by
  obtain ⟨c0, c1⟩ := hc
  obtain ⟨d0, d1⟩ := hd
  rw [lies_iff]
  unfold widS
  by_cases h : b < a ∨ d < c
  · rw [if_pos h]
    exact .inr ⟨Int.le_refl _, Int.le_refl _⟩
  · rw [if_neg h]
    unfold joinS
    rw [if_neg (by omega), if_neg (by omega)]
    right
    simp only
    constructor
    · repeat' split
      all_goals omega
    · repeat' split
      all_goals omega
theorem join_comm (a b c d : Int) : joinS c d a b = joinS a b c d := by
  unfold joinS
  by_cases h1 : b < a <;> by_cases h2 : d < c <;> simp only [h1, h2, if_true, if_false]
  rw [Int.min_comm, Int.max_comm]
theorem meet_comm (a b c d : Int) : meetS c d a b = meetS a b c d := by
  unfold meetS
  rw [Int.min_comm d b, Int.max_comm c a]
theorem has_meet (a b c d v : Int) : hasS (meetS a b c d).1 (meetS a b c d).2 v = (hasS a b v && hasS c d v) := by
  have h : hasS (meetS a b c d).1 (meetS a b c d).2 v = true ↔ (hasS a b v && hasS c d v) = true := by
    rw [Bool.and_eq_true, has_iff, has_iff, has_iff]
    unfold meetS
    split <;> simp only <;> omega
  cases h1 : hasS (meetS a b c d).1 (meetS a b c d).2 v <;> cases h2 : (hasS a b v && hasS c d v) <;> simp [h1, h2] at h ⊢
theorem has_join {a b c d v : Int} (h : hasS a b v = true ∨ hasS c d v = true) : hasS (joinS a b c d).1 (joinS a b c d).2 v = true := by
  rw [has_iff, has_iff] at h
  rw [has_iff]
  unfold joinS
  split
  · split <;> simp only <;> omega
  · split <;> simp only <;> omega

/-- NumJoins. -/
theorem numJoins_true {a b c d e f v : Int} (_ : inI a) (_ : inI b) (hc : inI c) (hd : inI d) (_ : inI e) (_ : inI f) (_ : inI v) : F11 41 a b c d e f v = some (.r true) := by
  have e1 : ∀ p q r s, F25 40 p q r s = _ := fun p q r s => F25_eq 33 p q r s
  have e2 : ∀ p q r s, F30 40 p q r s = _ := fun p q r s => F30_eq 38 p q r s
  have e3 : F26 40 a b c d e f = _ := F26_eq 32 a b c d e f
  have e4 : ∀ p q r s, F24 40 p q r s = _ := fun p q r s => F24_eq 38 p q r s
  have e5 : ∀ p q x, F23 40 p q x = _ := fun p q x => F23_eq 39 p q x
  have hj : J11a14 40 a b c d (joinS a b c d).1 (joinS a b c d).2 (meetS a b c d).1 (meetS a b c d).2 (widS a b c d e f).1 (widS a b c d e f).2 = some (.nx a b c d (joinS a b c d).1 (joinS a b c d).2 (meetS a b c d).1 (meetS a b c d).2 (widS a b c d e f).1 (widS a b c d e f).2) := by
    simp only [J11a14, e4, join_l, join_r, meet_l, meet_r, join_wid e f hc hd, e1, e2, join_comm a b c d, meet_comm a b c d, beq_self_eq_true, Bool.and_self, Bool.not_true]
  show F11 (40 + 1) a b c d e f v = _
  simp only [F11, e1, e2, e3, hj, e5, has_meet, head_true]
  cases h1 : hasS a b v with
  | true =>
    have := has_join (a := a) (b := b) (c := c) (d := d) (.inl h1)
    cases h2 : hasS c d v <;> simp only [this, Bool.and_true, Bool.and_false, Bool.true_and, beq_self_eq_true, Bool.not_true]
  | false =>
    cases h2 : hasS c d v with
    | true =>
      have := has_join (a := a) (b := b) (c := c) (d := d) (.inr h2)
      simp only [this, Bool.false_and, beq_self_eq_true, Bool.not_true, Bool.not_false]
    | false => simp only [Bool.false_and, beq_self_eq_true, Bool.not_false]
end Go.Proofs.Ytnfmdenclkdmbaa

namespace Go.Proofs.Ytnfmdenclkdmbaa
open Go Go.Eng Go.ChangeShapes Go.WideShapes Go.ChangeAt Go.RowKit

theorem own : ownKnob Try.prog.godebug = none := by kernel_rfl
theorem laidOut : laidOutB Try.prog = true := by kernel_rfl

theorem wf_i64 {v : Int} (h : (Lit.int .i64 v).wf = true) : inI v := by
  simp only [Lit.wf, IntKind.min, IntKind.max, IntKind.signed, IntKind.bits, Bool.and_eq_true, decide_eq_true_eq, if_true] at h
  unfold inI; omega
theorem wf_u8 {v : Int} (h : (Lit.int .u8 v).wf = true) : 0 ≤ v ∧ v ≤ 255 := by
  simp only [Lit.wf, IntKind.min, IntKind.max, IntKind.signed, IntKind.bits, Bool.and_eq_true, decide_eq_true_eq, Bool.false_eq_true, if_false] at h
  omega
theorem wf_i8 {v : Int} (h : (Lit.int .i8 v).wf = true) : -128 ≤ v ∧ v ≤ 127 := by
  simp only [Lit.wf, IntKind.min, IntKind.max, IntKind.signed, IntKind.bits, Bool.and_eq_true, decide_eq_true_eq, if_true] at h
  omega
theorem int_of_arg {k : IntKind} {t : TypeId} {x : AV} (ha : (CX.ti t).u.agg = false) (hk : (CX.ti t).ks = [.int k]) (h : ArgAV CX t x) : ∃ v, x = .int k v ∧ (Lit.int k v).wf = true := by
  rcases h with ⟨h1, _⟩ | ⟨_, h2, h3⟩
  · rw [ha] at h1; cases h1
  · rw [hk] at h2
    simp only [koks, Bool.and_true] at h2
    cases x <;> simp only [kok, Bool.false_eq_true] at h2
    have e := eq_of_beq h2
    subst e
    cases h3 with
    | int _ _ h => exact ⟨_, rfl, h⟩
theorem ival_row {row : Row} (h2 : koks [.int .i64, .int .i64] row = true) (h3 : WfL CX.K row) : ∃ lo hi, row = [.int .i64 lo, .int .i64 hi] ∧ inI lo ∧ inI hi := by
  match row, h2, h3 with
  | [], h2, _ => simp [koks] at h2
  | [_], h2, _ => simp [koks] at h2
  | a :: b :: c :: r, h2, _ => simp [koks] at h2
  | [a, b], h2, h3 =>
    simp only [koks, Bool.and_eq_true] at h2
    obtain ⟨k1, k2, _⟩ := h2
    cases a <;> simp only [kok, Bool.false_eq_true] at k1
    cases b <;> simp only [kok, Bool.false_eq_true] at k2
    have e1 := eq_of_beq k1
    have e2 := eq_of_beq k2
    subst e1 e2
    have ha := h3 _ (List.mem_cons_self)
    have hb := h3 _ (List.mem_cons_of_mem _ (List.mem_cons_self))
    cases ha with
    | int _ _ ha => cases hb with
      | int _ _ hb => exact ⟨_, _, rfl, wf_i64 ha, wf_i64 hb⟩
theorem ival_of_arg {x : AV} (ha : (CX.ti 29).u.agg = true) (hk : (CX.ti 29).ks = [.int .i64, .int .i64]) (h : ArgAV CX 29 x) : ∃ lo hi, x = .agg [.int .i64 lo, .int .i64 hi] ∧ inI lo ∧ inI hi := by
  rcases h with ⟨_, row, rfl, h2, h3⟩ | ⟨h1, _⟩
  · rw [hk] at h2
    obtain ⟨lo, hi, rfl, h4, h5⟩ := ival_row h2 h3
    exact ⟨lo, hi, rfl, h4, h5⟩
  · rw [ha] at h1; cases h1
theorem ivals_of_arg {x : AV} (ha : (CX.ti 38).u.agg = false) (hk : (CX.ti 38).ks = [.slice 29]) (hk2 : CX.K 29 = [.int .i64, .int .i64]) (h : ArgAV CX 38 x) : ∃ T, x = .list 29 T ∧ T.length ≤ maxLen ∧ ∀ row ∈ T, ∃ lo hi, row = [.int .i64 lo, .int .i64 hi] ∧ inI lo ∧ inI hi := by
  rcases h with ⟨h1, _⟩ | ⟨_, h2, h3⟩
  · rw [ha] at h1; cases h1
  · rw [hk] at h2
    simp only [koks, Bool.and_true] at h2
    cases x <;> simp only [kok, Bool.false_eq_true] at h2
    have e := eq_of_beq h2
    subst e
    cases h3 with
    | list _ _ hl hk' h => exact ⟨_, rfl, hl, fun row hr => ival_row (by rw [← hk2]; exact hk' row hr) (fun x hx => h row hr x hx)⟩

theorem law11 (xs : List AV) (h : ArgsAV CX [29, 29, 29, 2] xs) : ∃ m M', FCalls CX 11 m xs [] (.bool true) M' := by
  match xs, h with
  | [x0, x1, x2, x3], ⟨hx0, hx1, hx2, hx3, _⟩ =>
    obtain ⟨l0, u0, rfl, p0, q0⟩ := ival_of_arg (by kernel_rfl) (by kernel_rfl) hx0
    obtain ⟨l1, u1, rfl, p1, q1⟩ := ival_of_arg (by kernel_rfl) (by kernel_rfl) hx1
    obtain ⟨l2, u2, rfl, p2, q2⟩ := ival_of_arg (by kernel_rfl) (by kernel_rfl) hx2
    obtain ⟨v3, rfl, p3⟩ := int_of_arg (k := .i64) (by kernel_rfl) (by kernel_rfl) hx3
    exact ⟨_, _, soundF11 41 (fun i => match i with | 0 => .agg [.int .i64 l0, .int .i64 u0] | 1 => .agg [.int .i64 l1, .int .i64 u1] | 2 => .agg [.int .i64 l2, .int .i64 u2] | _ => .int .i64 v3) [] (.r true) (numJoins_true p0 q0 p1 q1 p2 q2 (wf_i64 p3))⟩

set_option maxRecDepth 100000 in
theorem lifted11 (os : Os) (started : os.Started) (H : Type) (enc : TypeId × Value → H) :
    ReturnsInHanded {} Try.checked os 11 .any (Rows.numJoinsSpec.pre6 enc Try.prog Try.f11 Rows.numJoinsRow.domain false) (Rows.numJoinsSpec.post enc Try.prog Try.f11 false true false false) := by
  refine returnsInHanded_of_change (C := Try.checked) own started (by kernel_rfl) Try.func11
    (ChangeSpec.witness6 (enc := enc) (C := Try.checked) false { blocks := #[], args := #[.agg #[.int .i64 0, .int .i64 0], .agg #[.int .i64 0, .int .i64 0], .agg #[.int .i64 0, .int .i64 0], .int .i64 0], vars := [] } 8 (by kernel_rfl) (by kernel_rfl) (by kernel_rfl) (by kernel_rfl)) ?_
  intro W base args ds gs before hval hW _ _
  exact law_contract (X := CX) hX (fun _ => rfl) laidOut (ts := [29, 29, 29, 2]) (tb := 4) (n := 8) (by kernel_rfl) (by kernel_rfl) Try.underlying4 (by kernel_rfl) (by kernel_rfl) rfl
    (fun ds hds => by match ds, hds with | [d0, d1, d2, d3], _ => rfl) law11 W base args ds gs before hval hW

theorem numJoins_holds : Rows.NumJoinsSaid :=
  OpenClaim.holds_of_wide 11 Try.f11 rfl rfl rfl rfl rfl rfl rfl ⟨rfl, rfl, rfl, rfl, rfl⟩ rfl rfl rfl rfl rfl (by kernel_rfl) Try.func11 (by kernel_rfl)
    (of_decide_eq_true (by kernel_rfl)) (by unfold Func.isWrapper; first | (rw [if_pos (by decide +kernel)]; kernel_rfl) | (rw [if_neg (by decide +kernel)]; exact ⟨rfl, rfl⟩))
    (fun os started H enc _ => lifted11 os started H enc)

#print axioms numJoins_holds
end Go.Proofs.Ytnfmdenclkdmbaa
