/-
  The functions of the code as typed functions, and that the code runs so. Printed by gen2.py.
  The functions of the code as typed functions, and that the code runs so. Printed by gen2.py.
  The functions of the code as typed functions, and that the code runs so. Printed by gen2.py.
  The functions of the code as typed functions, and that the code runs so. Printed by gen2.py.
  The functions of the code as typed functions, and that the code runs so. Printed by gen2.py.
  The functions of the code as typed functions, and that the code runs so. Printed by gen2.py.
  The functions of the code as typed functions, and that the code runs so. Printed by gen2.py.
  The functions of the code as typed functions, and that the code runs so. Printed by gen2.py.
  The functions of the code as typed functions, and that the code runs so. Printed by gen2.py.
  The functions of the code as typed functions, and that the code runs so. Printed by gen2.py.
  The functions of the code as typed functions, and that the code runs so. Printed by gen2.py.
  The functions of the code as typed functions, and that the code runs so. Printed by gen2.py.
  The functions of the code as typed functions, and that the code runs so. Printed by gen2.py.
  The functions of the code as typed functions, and that the code runs so. Printed by gen2.py.
  The functions of the code as typed functions, and that the code runs so. Printed by gen2.py.
  The functions of the code as typed functions, and that the code runs so. Printed by gen2.py.
  The functions of the code as typed functions, and that the code runs so. Printed by gen2.py.
  The functions of the code as typed functions, and that the code runs so. Printed by gen2.py.
  The functions of the code as typed functions, and that the code runs so. Printed by gen2.py.
  The functions of the code as typed functions, and that the code runs so. Printed by gen2.py.
  The functions of the code as typed functions, and that the code runs so. Printed by gen2.py.
  The functions of the code as typed functions, and that the code runs so. Printed by gen2.py.
  The functions of the code as typed functions, and that the code runs so. Printed by gen2.py.
  The functions of the code as typed functions, and that the code runs so. Printed by gen2.py.
  The functions of the code as typed functions, and that the code runs so. Printed by gen2.py.
  The functions of the code as typed functions, and that the code runs so. Printed by gen2.py.
  The functions of the code as typed functions, and that the code runs so. Printed by gen2.py.
  The functions of the code as typed functions, and that the code runs so. Printed by gen2.py.
  The functions of the code as typed functions, and that the code runs so. Printed by gen2.py.
  The functions of the code as typed functions, and that the code runs so. Printed by gen2.py.
  The functions of the code as typed functions, and that the code runs so. Printed by gen2.py.
  The functions of the code as typed functions, and that the code runs so. Printed by gen2.py.
  The functions of the code as typed functions, and that the code runs so. Printed by gen2.py.
  The functions of the code as typed functions, and that the code runs so. Printed by gen2.py.
  The functions of the code as typed functions, and that the code runs so. Printed by gen2.py.
  The functions of the code as typed functions, and that the code runs so. Printed by gen2.py.
  The functions of the code as typed functions, and that the code runs so. Printed by gen2.py.
  The functions of the code as typed functions, and that the code runs so. Printed by gen2.py.
  The functions of the code as typed functions, and that the code runs so. Printed by gen2.py.
  The functions of the code as typed functions, and that the code runs so. Printed by gen2.py.
  The functions of the code as typed functions, and that the code runs so. Printed by gen2.py.
  The functions of the code as typed functions, and that the code runs so. Printed by gen2.py.
-/
import Derived.Test.YtnfmdenclkdmbaaJo3
import Derived.KernelRfl
set_option linter.all false
set_option linter.deprecated false
namespace Go.Proofs.Ytnfmdenclkdmbaa
open Go Go.Eng
set_option maxRecDepth 100000

/-! ### F34: ceiling/ceilingref01.Unary -/
inductive R34 where
  | r (x0 : Bool)
abbrev TF34 := Int → Option R34
def sgF34 : LSh := ⟨[(0, .one (.cell (.int .u8)))], []⟩
def FFF34 (Fx : TF34) (s : St) : Option R34 := Fx ((Eng.look s.env 0).toI)
def valF34 (o : R34) : AV := match o with | .r x0 => .bool x0
def memF34 (o : R34) : List Blk := match o with | .r x0 => []
def elF34 {R : Type} (o : R34) (k : AV → List Blk → Option R) : Option R := match o with | .r x0 => k (.bool x0) []
def RecOkF34 (Fx : TF34) : Prop := ∀ lk M o, FFF34 Fx (canS sgF34 lk M) = some o → FCalls CX 34 0 (argsE 1 (canS sgF34 lk M).env) (canS sgF34 lk M).mem (valF34 o) (memF34 o)
noncomputable def csF34 (N : Nat) (R : Type) : List (CE R) := []
theorem hcsF34 (N : Nat) (R : Type) : AllE (CeOk CX) (csF34 N R) := trivial
noncomputable def T34ur1 (N : Nat) (R : Type) : LTab R := mkTab ⟨13, 8191⟩ (csF34 N R) (noY) [] [] []
theorem okT34ur1 (N : Nat) (R : Type) : (T34ur1 N R).Ok CX code34 := mkTab_ok (hcsF34 N R) (noY_ok) (trivial) (trivial) (trivial)
def rsF34 : List ResultVar := [.tmp 2]
def F34 : Nat → TF34
  | 0 => fun _ => none
  | N + 1 => fun x0 =>
    match x0 == (16 : Int) with
    | true =>
      some (.r true)
    | false =>
      match x0 == (17 : Int) with
      | true =>
        some (.r true)
      | false =>
        some (.r (x0 == (18 : Int)))
def xRF34 : XSh R34 := ⟨[], ⟨[(0, .one (.cell (.bool)))], []⟩, fun _ => [], fun s => .r ((Eng.look s.env 0).toB)⟩
theorem fsF34 : ∀ (N : Nat) (lk : Nat → AV) (M : List Blk), FFF34 (F34 (N + 1)) (canS sgF34 lk M) = evfn CX (T34ur1 N R34) code34 rsF34 (argsE 1 (canS sgF34 lk M).env) (canS sgF34 lk M).mem (goR CX 0 (fun _ => some xRF34)) := by intro N lk M; kernel_rfl
theorem soundF34 : ∀ N, RecOkF34 (F34 N)
  | 0, lk, M, o, h => by cases h
  | N + 1, lk, M, o, h => fn_sound hX (okT34ur1 N R34) Try.func34 hb34 rfl en34 (by kernel_rfl) (ys := fun _ => some xRF34) (fun st y h => by injection h with h; subst h; exact fun lk M => ⟨rfl, rfl⟩) ((fsF34 N lk M).symm.trans h)
def cvce34n0 : List Cv := []
def selce34n0 : St → List Nat := fun _ => []
noncomputable def ce34n0 (Fx : TF34) (R : Type) (test : List AV → List Blk → Bool) : CE R := ⟨34, test, fun args M => some (selce34n0 ⟨argEnv 0 args, M, [], .unk⟩), fun args M k => tst (Nat.beq args.length 1) (callFn CX 0 cvce34n0 sgF34 selce34n0 (FFF34 Fx) elF34 args M k)⟩
theorem okce34n0 (Fx : TF34) (h : RecOkF34 Fx) (R : Type) (test : List AV → List Blk → Bool) : CeOk CX (ce34n0 Fx R test) := ce_ok hX (fun o k => by cases o; rfl) h en34 (fun args M ids h => by injection h with h; exact ⟨rfl, h.symm⟩)
end Go.Proofs.Ytnfmdenclkdmbaa

namespace Go.Proofs.Ytnfmdenclkdmbaa
open Go Go.Eng
set_option maxRecDepth 100000

/-! ### F15: ceiling/ceilingref01.In -/
inductive R15 where
  | r (x0 : Bool)
abbrev TF15 := Int → Option R15
def sgF15 : LSh := ⟨[(0, .one (.cell (.int .i64)))], []⟩
def FFF15 (Fx : TF15) (s : St) : Option R15 := Fx ((Eng.look s.env 0).toI)
def valF15 (o : R15) : AV := match o with | .r x0 => .bool x0
def memF15 (o : R15) : List Blk := match o with | .r x0 => []
def elF15 {R : Type} (o : R15) (k : AV → List Blk → Option R) : Option R := match o with | .r x0 => k (.bool x0) []
def RecOkF15 (Fx : TF15) : Prop := ∀ lk M o, FFF15 Fx (canS sgF15 lk M) = some o → FCalls CX 15 0 (argsE 1 (canS sgF15 lk M).env) (canS sgF15 lk M).mem (valF15 o) (memF15 o)
noncomputable def csF15 (N : Nat) (R : Type) : List (CE R) := []
theorem hcsF15 (N : Nat) (R : Type) : AllE (CeOk CX) (csF15 N R) := trivial
noncomputable def T15ur1 (N : Nat) (R : Type) : LTab R := mkTab ⟨9, 511⟩ (csF15 N R) (noY) [] [] []
theorem okT15ur1 (N : Nat) (R : Type) : (T15ur1 N R).Ok CX code15 := mkTab_ok (hcsF15 N R) (noY_ok) (trivial) (trivial) (trivial)
def rsF15 : List ResultVar := [.tmp 2]
def F15 : Nat → TF15
  | 0 => fun _ => none
  | N + 1 => fun x0 =>
    match decide ((-2147483648 : Int) ≤ x0) with
    | true =>
      some (.r (decide (x0 ≤ (2147483647 : Int))))
    | false =>
      some (.r false)
def xRF15 : XSh R15 := ⟨[], ⟨[(0, .one (.cell (.bool)))], []⟩, fun _ => [], fun s => .r ((Eng.look s.env 0).toB)⟩
theorem fsF15 : ∀ (N : Nat) (lk : Nat → AV) (M : List Blk), FFF15 (F15 (N + 1)) (canS sgF15 lk M) = evfn CX (T15ur1 N R15) code15 rsF15 (argsE 1 (canS sgF15 lk M).env) (canS sgF15 lk M).mem (goR CX 0 (fun _ => some xRF15)) := by intro N lk M; kernel_rfl
theorem soundF15 : ∀ N, RecOkF15 (F15 N)
  | 0, lk, M, o, h => by cases h
  | N + 1, lk, M, o, h => fn_sound hX (okT15ur1 N R15) Try.func15 hb15 rfl en15 (by kernel_rfl) (ys := fun _ => some xRF15) (fun st y h => by injection h with h; subst h; exact fun lk M => ⟨rfl, rfl⟩) ((fsF15 N lk M).symm.trans h)
def cvce15n0 : List Cv := []
def selce15n0 : St → List Nat := fun _ => []
noncomputable def ce15n0 (Fx : TF15) (R : Type) (test : List AV → List Blk → Bool) : CE R := ⟨15, test, fun args M => some (selce15n0 ⟨argEnv 0 args, M, [], .unk⟩), fun args M k => tst (Nat.beq args.length 1) (callFn CX 0 cvce15n0 sgF15 selce15n0 (FFF15 Fx) elF15 args M k)⟩
theorem okce15n0 (Fx : TF15) (h : RecOkF15 Fx) (R : Type) (test : List AV → List Blk → Bool) : CeOk CX (ce15n0 Fx R test) := ce_ok hX (fun o k => by cases o; rfl) h en15 (fun args M ids h => by injection h with h; exact ⟨rfl, h.symm⟩)
end Go.Proofs.Ytnfmdenclkdmbaa

namespace Go.Proofs.Ytnfmdenclkdmbaa
open Go Go.Eng
set_option maxRecDepth 100000

/-! ### F35: ceiling/ceilingref01.logical -/
inductive R35 where
  | r (x0 : Bool)
abbrev TF35 := Int → Option R35
def sgF35 : LSh := ⟨[(0, .one (.cell (.int .u8)))], []⟩
def FFF35 (Fx : TF35) (s : St) : Option R35 := Fx ((Eng.look s.env 0).toI)
def valF35 (o : R35) : AV := match o with | .r x0 => .bool x0
def memF35 (o : R35) : List Blk := match o with | .r x0 => []
def elF35 {R : Type} (o : R35) (k : AV → List Blk → Option R) : Option R := match o with | .r x0 => k (.bool x0) []
def RecOkF35 (Fx : TF35) : Prop := ∀ lk M o, FFF35 Fx (canS sgF35 lk M) = some o → FCalls CX 35 0 (argsE 1 (canS sgF35 lk M).env) (canS sgF35 lk M).mem (valF35 o) (memF35 o)
noncomputable def csF35 (N : Nat) (R : Type) : List (CE R) := []
theorem hcsF35 (N : Nat) (R : Type) : AllE (CeOk CX) (csF35 N R) := trivial
noncomputable def T35ur1 (N : Nat) (R : Type) : LTab R := mkTab ⟨17, 131071⟩ (csF35 N R) (noY) [] [] []
theorem okT35ur1 (N : Nat) (R : Type) : (T35ur1 N R).Ok CX code35 := mkTab_ok (hcsF35 N R) (noY_ok) (trivial) (trivial) (trivial)
def rsF35 : List ResultVar := [.tmp 2]
def F35 : Nat → TF35
  | 0 => fun _ => none
  | N + 1 => fun x0 =>
    match x0 == (13 : Int) with
    | true =>
      some (.r true)
    | false =>
      match x0 == (14 : Int) with
      | true =>
        some (.r true)
      | false =>
        match x0 == (15 : Int) with
        | true =>
          some (.r true)
        | false =>
          some (.r (x0 == (18 : Int)))
def xRF35 : XSh R35 := ⟨[], ⟨[(0, .one (.cell (.bool)))], []⟩, fun _ => [], fun s => .r ((Eng.look s.env 0).toB)⟩
theorem fsF35 : ∀ (N : Nat) (lk : Nat → AV) (M : List Blk), FFF35 (F35 (N + 1)) (canS sgF35 lk M) = evfn CX (T35ur1 N R35) code35 rsF35 (argsE 1 (canS sgF35 lk M).env) (canS sgF35 lk M).mem (goR CX 0 (fun _ => some xRF35)) := by intro N lk M; kernel_rfl
theorem soundF35 : ∀ N, RecOkF35 (F35 N)
  | 0, lk, M, o, h => by cases h
  | N + 1, lk, M, o, h => fn_sound hX (okT35ur1 N R35) Try.func35 hb35 rfl en35 (by kernel_rfl) (ys := fun _ => some xRF35) (fun st y h => by injection h with h; subst h; exact fun lk M => ⟨rfl, rfl⟩) ((fsF35 N lk M).symm.trans h)
def cvce35n0 : List Cv := []
def selce35n0 : St → List Nat := fun _ => []
noncomputable def ce35n0 (Fx : TF35) (R : Type) (test : List AV → List Blk → Bool) : CE R := ⟨35, test, fun args M => some (selce35n0 ⟨argEnv 0 args, M, [], .unk⟩), fun args M k => tst (Nat.beq args.length 1) (callFn CX 0 cvce35n0 sgF35 selce35n0 (FFF35 Fx) elF35 args M k)⟩
theorem okce35n0 (Fx : TF35) (h : RecOkF35 Fx) (R : Type) (test : List AV → List Blk → Bool) : CeOk CX (ce35n0 Fx R test) := ce_ok hX (fun o k => by cases o; rfl) h en35 (fun args M ids h => by injection h with h; exact ⟨rfl, h.symm⟩)
end Go.Proofs.Ytnfmdenclkdmbaa

namespace Go.Proofs.Ytnfmdenclkdmbaa
open Go Go.Eng
set_option maxRecDepth 100000

/-! ### F39: ceiling/ceilingref01.modulus -/
inductive R39 where
  | r (x0 : Int)
abbrev TF39 := Int → Int → Option R39
def sgF39 : LSh := ⟨[(0, .one (.cell (.int .i64))), (1, .one (.cell (.int .i64)))], []⟩
def FFF39 (Fx : TF39) (s : St) : Option R39 := Fx ((Eng.look s.env 0).toI) ((Eng.look s.env 1).toI)
def valF39 (o : R39) : AV := match o with | .r x0 => .int .i64 x0
def memF39 (o : R39) : List Blk := match o with | .r x0 => []
def elF39 {R : Type} (o : R39) (k : AV → List Blk → Option R) : Option R := match o with | .r x0 => k (.int .i64 x0) []
def RecOkF39 (Fx : TF39) : Prop := ∀ lk M o, FFF39 Fx (canS sgF39 lk M) = some o → FCalls CX 39 0 (argsE 2 (canS sgF39 lk M).env) (canS sgF39 lk M).mem (valF39 o) (memF39 o)
noncomputable def csF39 (N : Nat) (R : Type) : List (CE R) := []
theorem hcsF39 (N : Nat) (R : Type) : AllE (CeOk CX) (csF39 N R) := trivial
noncomputable def T39ur1 (N : Nat) (R : Type) : LTab R := mkTab ⟨22, 4194303⟩ (csF39 N R) (noY) [] [] []
theorem okT39ur1 (N : Nat) (R : Type) : (T39ur1 N R).Ok CX code39 := mkTab_ok (hcsF39 N R) (noY_ok) (trivial) (trivial) (trivial)
def rsF39 : List ResultVar := [.tmp 4]
def F39 : Nat → TF39
  | 0 => fun _ _ => none
  | N + 1 => fun x0 x1 =>
    tst (!(x1 == 0)) <|
    match (Int.tmod x0 x1) != (0 : Int) with
    | true =>
      match !((decide ((Int.tmod x0 x1) < (0 : Int))) == (decide (x1 < (0 : Int)))) with
      | true =>
        some (.r (IntKind.wrap .i64 ((Int.tmod x0 x1) + x1)))
      | false =>
        some (.r (Int.tmod x0 x1))
    | false =>
      some (.r (Int.tmod x0 x1))
def xRF39 : XSh R39 := ⟨[], ⟨[(0, .one (.cell (.int .i64)))], []⟩, fun _ => [], fun s => .r ((Eng.look s.env 0).toI)⟩
theorem fsF39 : ∀ (N : Nat) (lk : Nat → AV) (M : List Blk), FFF39 (F39 (N + 1)) (canS sgF39 lk M) = evfn CX (T39ur1 N R39) code39 rsF39 (argsE 2 (canS sgF39 lk M).env) (canS sgF39 lk M).mem (goR CX 0 (fun _ => some xRF39)) := by intro N lk M; kernel_rfl
theorem soundF39 : ∀ N, RecOkF39 (F39 N)
  | 0, lk, M, o, h => by cases h
  | N + 1, lk, M, o, h => fn_sound hX (okT39ur1 N R39) Try.func39 hb39 rfl en39 (by kernel_rfl) (ys := fun _ => some xRF39) (fun st y h => by injection h with h; subst h; exact fun lk M => ⟨rfl, rfl⟩) ((fsF39 N lk M).symm.trans h)
def cvce39n0 : List Cv := []
def selce39n0 : St → List Nat := fun _ => []
noncomputable def ce39n0 (Fx : TF39) (R : Type) (test : List AV → List Blk → Bool) : CE R := ⟨39, test, fun args M => some (selce39n0 ⟨argEnv 0 args, M, [], .unk⟩), fun args M k => tst (Nat.beq args.length 2) (callFn CX 0 cvce39n0 sgF39 selce39n0 (FFF39 Fx) elF39 args M k)⟩
theorem okce39n0 (Fx : TF39) (h : RecOkF39 Fx) (R : Type) (test : List AV → List Blk → Bool) : CeOk CX (ce39n0 Fx R test) := ce_ok hX (fun o k => by cases o; rfl) h en39 (fun args M ids h => by injection h with h; exact ⟨rfl, h.symm⟩)
end Go.Proofs.Ytnfmdenclkdmbaa

namespace Go.Proofs.Ytnfmdenclkdmbaa
open Go Go.Eng
set_option maxRecDepth 100000

/-! ### F40: ceiling/ceilingref01.truth -/
inductive R40 where
  | r (x0 : Int)
abbrev TF40 := Bool → Option R40
def sgF40 : LSh := ⟨[(0, .one (.cell (.bool)))], []⟩
def FFF40 (Fx : TF40) (s : St) : Option R40 := Fx ((Eng.look s.env 0).toB)
def valF40 (o : R40) : AV := match o with | .r x0 => .int .i64 x0
def memF40 (o : R40) : List Blk := match o with | .r x0 => []
def elF40 {R : Type} (o : R40) (k : AV → List Blk → Option R) : Option R := match o with | .r x0 => k (.int .i64 x0) []
def RecOkF40 (Fx : TF40) : Prop := ∀ lk M o, FFF40 Fx (canS sgF40 lk M) = some o → FCalls CX 40 0 (argsE 1 (canS sgF40 lk M).env) (canS sgF40 lk M).mem (valF40 o) (memF40 o)
noncomputable def csF40 (N : Nat) (R : Type) : List (CE R) := []
theorem hcsF40 (N : Nat) (R : Type) : AllE (CeOk CX) (csF40 N R) := trivial
noncomputable def T40ur1 (N : Nat) (R : Type) : LTab R := mkTab ⟨4, 15⟩ (csF40 N R) (noY) [] [] []
theorem okT40ur1 (N : Nat) (R : Type) : (T40ur1 N R).Ok CX code40 := mkTab_ok (hcsF40 N R) (noY_ok) (trivial) (trivial) (trivial)
def rsF40 : List ResultVar := [.tmp 2]
def F40 : Nat → TF40
  | 0 => fun _ => none
  | N + 1 => fun x0 =>
    match x0 with
    | true =>
      some (.r 1)
    | false =>
      some (.r 0)
def xRF40 : XSh R40 := ⟨[], ⟨[(0, .one (.cell (.int .i64)))], []⟩, fun _ => [], fun s => .r ((Eng.look s.env 0).toI)⟩
theorem fsF40 : ∀ (N : Nat) (lk : Nat → AV) (M : List Blk), FFF40 (F40 (N + 1)) (canS sgF40 lk M) = evfn CX (T40ur1 N R40) code40 rsF40 (argsE 1 (canS sgF40 lk M).env) (canS sgF40 lk M).mem (goR CX 0 (fun _ => some xRF40)) := by intro N lk M; kernel_rfl
theorem soundF40 : ∀ N, RecOkF40 (F40 N)
  | 0, lk, M, o, h => by cases h
  | N + 1, lk, M, o, h => fn_sound hX (okT40ur1 N R40) Try.func40 hb40 rfl en40 (by kernel_rfl) (ys := fun _ => some xRF40) (fun st y h => by injection h with h; subst h; exact fun lk M => ⟨rfl, rfl⟩) ((fsF40 N lk M).symm.trans h)
def cvce40n0 : List Cv := []
def selce40n0 : St → List Nat := fun _ => []
noncomputable def ce40n0 (Fx : TF40) (R : Type) (test : List AV → List Blk → Bool) : CE R := ⟨40, test, fun args M => some (selce40n0 ⟨argEnv 0 args, M, [], .unk⟩), fun args M k => tst (Nat.beq args.length 1) (callFn CX 0 cvce40n0 sgF40 selce40n0 (FFF40 Fx) elF40 args M k)⟩
theorem okce40n0 (Fx : TF40) (h : RecOkF40 Fx) (R : Type) (test : List AV → List Blk → Bool) : CeOk CX (ce40n0 Fx R test) := ce_ok hX (fun o k => by cases o; rfl) h en40 (fun args M ids h => by injection h with h; exact ⟨rfl, h.symm⟩)
end Go.Proofs.Ytnfmdenclkdmbaa

namespace Go.Proofs.Ytnfmdenclkdmbaa
open Go Go.Eng
set_option maxRecDepth 100000

/-! ### F18: ceiling/ceilingref01.Wrap -/
inductive R18 where
  | r (x0 : Int) (x1 : Bool)
abbrev TF18 := Int → Int → Int → Option R18
def sgF18 : LSh := ⟨[(0, .one (.cell (.int .u8))), (1, .one (.cell (.int .i64))), (2, .one (.cell (.int .i64)))], []⟩
def FFF18 (Fx : TF18) (s : St) : Option R18 := Fx ((Eng.look s.env 0).toI) ((Eng.look s.env 1).toI) ((Eng.look s.env 2).toI)
def valF18 (o : R18) : AV := match o with | .r x0 x1 => .tup [.int .i64 x0, .bool x1]
def memF18 (o : R18) : List Blk := match o with | .r x0 x1 => []
def elF18 {R : Type} (o : R18) (k : AV → List Blk → Option R) : Option R := match o with | .r x0 x1 => k (.tup [.int .i64 x0, .bool x1]) []
def RecOkF18 (Fx : TF18) : Prop := ∀ lk M o, FFF18 Fx (canS sgF18 lk M) = some o → FCalls CX 18 0 (argsE 3 (canS sgF18 lk M).env) (canS sgF18 lk M).mem (valF18 o) (memF18 o)
noncomputable def csF18 (N : Nat) (R : Type) : List (CE R) := [ce39n0 (F39 N) R (fun _ _ => true), ce40n0 (F40 N) R (fun _ _ => true)]
theorem hcsF18 (N : Nat) (R : Type) : AllE (CeOk CX) (csF18 N R) := ⟨okce39n0 (F39 N) (soundF39 N) R (fun _ _ => true), okce40n0 (F40 N) (soundF40 N) R (fun _ _ => true), trivial⟩
inductive OJ18a3454 where
  | nx (x24 : Bool)
def J18a3454 (N : Nat) : Int → Option OJ18a3454 := fun x8 =>
    match x8 == (4 : Int) with
    | true =>
      some (.nx true)
    | false =>
      match x8 == (5 : Int) with
      | true =>
        some (.nx true)
      | false =>
        some (.nx (x8 == (6 : Int)))
def LFJ18a3454 (N : Nat) (s : St) : Option OJ18a3454 := J18a3454 N ((Eng.look s.env 8).toI)
def sgJ18a3454 : LSh := ⟨[(8, .one (.cell (.int .u8)))], []⟩
def ceJ18a3454 : List Cv := []
def seJ18a3454 : St → List Nat := fun _ => []
def xJ18a3454wnx : XSh OJ18a3454 := ⟨[], ⟨[(24, .one (.cell (.bool)))], []⟩, fun _ => [], fun s => .nx ((Eng.look s.env 24).toB)⟩
def xsJ18a3454 : Ex → St → Option (XSh OJ18a3454) := fun e st => match e with
  | .normal => some xJ18a3454wnx
  | _ => none
def exJ18a3454 (o : OJ18a3454) : Ex := match o with | .nx x24 => .normal
def stJ18a3454 (o : OJ18a3454) : St := match o with | .nx x24 => ⟨[(24, .bool x24)], [], [], .unk⟩
def elJ18a3454 {R : Type} (o : OJ18a3454) (k : Ex → St → Option R) : Option R := match o with | .nx x24 => k .normal ⟨[(24, .bool x24)], [], [], .unk⟩
theorem heJ18a3454 {R : Type} (o : OJ18a3454) (k : Ex → St → Option R) : elJ18a3454 o k = k (exJ18a3454 o) (stJ18a3454 o) := by cases o <;> rfl
theorem hxJ18a3454 : ∀ e st x, xsJ18a3454 e st = some x → outOk x e exJ18a3454 stJ18a3454 := by
  intro e st x h
  unfold xsJ18a3454 at h
  repeat' split at h
  all_goals first
    | (injection h with h; subst h; exact fun lk M => ⟨rfl, rfl⟩)
    | cases h
noncomputable def T18uc3454 (N : Nat) (R : Type) : LTab R := mkTab ⟨119, 251658240⟩ (csF18 N R) (noY) [] [] []
theorem okT18uc3454 (N : Nat) (R : Type) : (T18uc3454 N R).Ok CX code18 := mkTab_ok (hcsF18 N R) (noY_ok) (trivial) (trivial) (trivial)
noncomputable def bdJ18a3454 : Code := (codeAt code18 [false, true, true, true, true, true, true, false, true, false, true]).getD .skip
theorem hsJ18a3454 (N : Nat) : ∀ (lk : Nat → AV) (M : List Blk), LFJ18a3454 N (canS sgJ18a3454 lk M) = evk CX (T18uc3454 N OJ18a3454) bdJ18a3454 3454 (canS sgJ18a3454 lk M) (kontX CX 0 xsJ18a3454) := by intro lk M; kernel_rfl
noncomputable def T18ur1 (N : Nat) (R : Type) : LTab R := mkTab ⟨119, 664613997892457936451903530140172287⟩ (csF18 N R) (noY) [] [] [(3454, fun st k => callLoop CX 0 251658240 ceJ18a3454 sgJ18a3454 seJ18a3454 ⟨119, 664613997892457936451903530140172287⟩ (LFJ18a3454 N) elJ18a3454 st k)]
theorem okT18ur1 (N : Nat) (R : Type) : (T18ur1 N R).Ok CX code18 := mkTab_ok (hcsF18 N R) (noY_ok) (trivial) (trivial) (⟨cut_ok hX (path := [false, true, true, true, true, true, true, false, true, false, true]) (by kernel_rfl) (by rfl) (okT18uc3454 N OJ18a3454) (hsJ18a3454 N) hxJ18a3454 rfl heJ18a3454, trivial⟩)
def rsF18 : List ResultVar := [.tmp 6, .tmp 7]
def F18 : Nat → TF18
  | 0 => fun _ _ _ => none
  | N + 1 => fun x0 x1 x2 =>
    match x0 == (1 : Int) with
    | true =>
      some (.r (IntKind.wrap .i64 (x1 + x2)) true)
    | false =>
      match x0 == (2 : Int) with
      | true =>
        some (.r (IntKind.wrap .i64 (x1 - x2)) true)
      | false =>
        match x0 == (3 : Int) with
        | true =>
          some (.r (IntKind.wrap .i64 (x1 * x2)) true)
        | false =>
          match J18a3454 N x0 with
          | none => none
          | some (.nx x24v1) =>
            match x24v1 with
            | true =>
              match x2 == (0 : Int) with
              | true =>
                some (.r 0 false)
              | false =>
                match x2 == (-1 : Int) with
                | true =>
                  match x0 == (4 : Int) with
                  | true =>
                    some (.r (IntKind.wrap .i64 (0 - x1)) true)
                  | false =>
                    match x2 == (-1 : Int) with
                    | true =>
                      some (.r 0 true)
                    | false =>
                      match x0 == (4 : Int) with
                      | true =>
                        tst (!(x2 == 0)) <|
                        some (.r (IntKind.wrap .i64 (Int.tdiv x1 x2)) true)
                      | false =>
                        match x0 == (5 : Int) with
                        | true =>
                          tst (!(x2 == 0)) <|
                          some (.r (Int.tmod x1 x2) true)
                        | false =>
                          match F39 N x1 x2 with
                          | none => none
                          | some (.r rx0v2) =>
                            some (.r rx0v2 true)
                | false =>
                  match x2 == (-1 : Int) with
                  | true =>
                    some (.r 0 true)
                  | false =>
                    match x0 == (4 : Int) with
                    | true =>
                      tst (!(x2 == 0)) <|
                      some (.r (IntKind.wrap .i64 (Int.tdiv x1 x2)) true)
                    | false =>
                      match x0 == (5 : Int) with
                      | true =>
                        tst (!(x2 == 0)) <|
                        some (.r (Int.tmod x1 x2) true)
                      | false =>
                        match F39 N x1 x2 with
                        | none => none
                        | some (.r rx0v3) =>
                          some (.r rx0v3 true)
            | false =>
              match x0 == (7 : Int) with
              | true =>
                match F40 N (x1 == x2) with
                | none => none
                | some (.r rx0v4) =>
                  some (.r rx0v4 true)
              | false =>
                match x0 == (8 : Int) with
                | true =>
                  match F40 N (x1 != x2) with
                  | none => none
                  | some (.r rx0v5) =>
                    some (.r rx0v5 true)
                | false =>
                  match x0 == (9 : Int) with
                  | true =>
                    match F40 N (decide (x1 < x2)) with
                    | none => none
                    | some (.r rx0v6) =>
                      some (.r rx0v6 true)
                  | false =>
                    match x0 == (10 : Int) with
                    | true =>
                      match F40 N (decide (x1 ≤ x2)) with
                      | none => none
                      | some (.r rx0v7) =>
                        some (.r rx0v7 true)
                    | false =>
                      match x0 == (11 : Int) with
                      | true =>
                        match F40 N (decide (x2 < x1)) with
                        | none => none
                        | some (.r rx0v8) =>
                          some (.r rx0v8 true)
                      | false =>
                        match x0 == (12 : Int) with
                        | true =>
                          match F40 N (decide (x2 ≤ x1)) with
                          | none => none
                          | some (.r rx0v9) =>
                            some (.r rx0v9 true)
                        | false =>
                          match x0 == (13 : Int) with
                          | true =>
                            some (.r (IntKind.wrap .i64 ((BitVec.ofInt 64 x1 &&& BitVec.ofInt 64 x2).toNat : Int)) true)
                          | false =>
                            match x0 == (14 : Int) with
                            | true =>
                              some (.r (IntKind.wrap .i64 ((BitVec.ofInt 64 x1 ||| BitVec.ofInt 64 x2).toNat : Int)) true)
                            | false =>
                              match x0 == (15 : Int) with
                              | true =>
                                some (.r (IntKind.wrap .i64 ((BitVec.ofInt 64 x1 ^^^ BitVec.ofInt 64 x2).toNat : Int)) true)
                              | false =>
                                match x0 == (16 : Int) with
                                | true =>
                                  some (.r (IntKind.wrap .i64 (0 - x1)) true)
                                | false =>
                                  match x0 == (17 : Int) with
                                  | true =>
                                    match decide (x1 < (0 : Int)) with
                                    | true =>
                                      some (.r (IntKind.wrap .i64 (0 - x1)) true)
                                    | false =>
                                      some (.r x1 true)
                                  | false =>
                                    match x0 == (18 : Int) with
                                    | true =>
                                      some (.r (IntKind.wrap .i64 ((1 : Int) - x1)) true)
                                    | false =>
                                      some (.r 0 false)
def xRF18 : XSh R18 := ⟨[], ⟨[(0, .one (.cell (.int .i64))), (1, .one (.cell (.bool)))], []⟩, fun _ => [], fun s => .r ((Eng.look s.env 0).toI) ((Eng.look s.env 1).toB)⟩
theorem fsF18 : ∀ (N : Nat) (lk : Nat → AV) (M : List Blk), FFF18 (F18 (N + 1)) (canS sgF18 lk M) = evfn CX (T18ur1 N R18) code18 rsF18 (argsE 3 (canS sgF18 lk M).env) (canS sgF18 lk M).mem (goRt CX 0 2 (fun _ => some xRF18)) := by intro N lk M; kernel_rfl
theorem soundF18 : ∀ N, RecOkF18 (F18 N)
  | 0, lk, M, o, h => by cases h
  | N + 1, lk, M, o, h => fn_soundt hX (okT18ur1 N R18) Try.func18 hb18 rfl en18 (by kernel_rfl) (ys := fun _ => some xRF18) (fun st y h => by injection h with h; subst h; exact fun lk M => ⟨rfl, rfl⟩) ((fsF18 N lk M).symm.trans h)
def cvce18n0 : List Cv := []
def selce18n0 : St → List Nat := fun _ => []
noncomputable def ce18n0 (Fx : TF18) (R : Type) (test : List AV → List Blk → Bool) : CE R := ⟨18, test, fun args M => some (selce18n0 ⟨argEnv 0 args, M, [], .unk⟩), fun args M k => tst (Nat.beq args.length 3) (callFn CX 0 cvce18n0 sgF18 selce18n0 (FFF18 Fx) elF18 args M k)⟩
theorem okce18n0 (Fx : TF18) (h : RecOkF18 Fx) (R : Type) (test : List AV → List Blk → Bool) : CeOk CX (ce18n0 Fx R test) := ce_ok hX (fun o k => by cases o; rfl) h en18 (fun args M ids h => by injection h with h; exact ⟨rfl, h.symm⟩)
end Go.Proofs.Ytnfmdenclkdmbaa

namespace Go.Proofs.Ytnfmdenclkdmbaa
open Go Go.Eng
set_option maxRecDepth 100000

/-! ### F13: ceiling/ceilingref01.Apply -/
inductive R13 where
  | r (x0 : Int) (x1 : Bool)
abbrev TF13 := Int → Int → Int → Option R13
def sgF13 : LSh := ⟨[(0, .one (.cell (.int .u8))), (1, .one (.cell (.int .i64))), (2, .one (.cell (.int .i64)))], []⟩
def FFF13 (Fx : TF13) (s : St) : Option R13 := Fx ((Eng.look s.env 0).toI) ((Eng.look s.env 1).toI) ((Eng.look s.env 2).toI)
def valF13 (o : R13) : AV := match o with | .r x0 x1 => .tup [.int .i64 x0, .bool x1]
def memF13 (o : R13) : List Blk := match o with | .r x0 x1 => []
def elF13 {R : Type} (o : R13) (k : AV → List Blk → Option R) : Option R := match o with | .r x0 x1 => k (.tup [.int .i64 x0, .bool x1]) []
def RecOkF13 (Fx : TF13) : Prop := ∀ lk M o, FFF13 Fx (canS sgF13 lk M) = some o → FCalls CX 13 0 (argsE 3 (canS sgF13 lk M).env) (canS sgF13 lk M).mem (valF13 o) (memF13 o)
noncomputable def csF13 (N : Nat) (R : Type) : List (CE R) := [ce15n0 (F15 N) R (fun _ _ => true), ce18n0 (F18 N) R (fun _ _ => true), ce34n0 (F34 N) R (fun _ _ => true), ce35n0 (F35 N) R (fun _ _ => true)]
theorem hcsF13 (N : Nat) (R : Type) : AllE (CeOk CX) (csF13 N R) := ⟨okce15n0 (F15 N) (soundF15 N) R (fun _ _ => true), okce18n0 (F18 N) (soundF18 N) R (fun _ _ => true), okce34n0 (F34 N) (soundF34 N) R (fun _ _ => true), okce35n0 (F35 N) (soundF35 N) R (fun _ _ => true), trivial⟩
inductive OJ13a6 where
  | nx (x2 : Int)
def J13a6 (N : Nat) : Int → Int → Option OJ13a6 := fun x0 x2 =>
    match F34 N x0 with
    | none => none
    | some (.r rx0v1) =>
      match rx0v1 with
      | true =>
        some (.nx 0)
      | false =>
        some (.nx x2)
def LFJ13a6 (N : Nat) (s : St) : Option OJ13a6 := J13a6 N ((Eng.look s.env 0).toI) ((Eng.look s.env 2).toI)
def sgJ13a6 : LSh := ⟨[(0, .one (.cell (.int .u8))), (2, .one (.cell (.int .i64)))], []⟩
def ceJ13a6 : List Cv := []
def seJ13a6 : St → List Nat := fun _ => []
def xJ13a6wnx : XSh OJ13a6 := ⟨[], ⟨[(2, .one (.cell (.int .i64)))], []⟩, fun _ => [], fun s => .nx ((Eng.look s.env 2).toI)⟩
def xsJ13a6 : Ex → St → Option (XSh OJ13a6) := fun e st => match e with
  | .normal => some xJ13a6wnx
  | _ => none
def exJ13a6 (o : OJ13a6) : Ex := match o with | .nx x2 => .normal
def stJ13a6 (o : OJ13a6) : St := match o with | .nx x2 => ⟨[(2, .int .i64 x2)], [], [], .unk⟩
def elJ13a6 {R : Type} (o : OJ13a6) (k : Ex → St → Option R) : Option R := match o with | .nx x2 => k .normal ⟨[(2, .int .i64 x2)], [], [], .unk⟩
theorem heJ13a6 {R : Type} (o : OJ13a6) (k : Ex → St → Option R) : elJ13a6 o k = k (exJ13a6 o) (stJ13a6 o) := by cases o <;> rfl
theorem hxJ13a6 : ∀ e st x, xsJ13a6 e st = some x → outOk x e exJ13a6 stJ13a6 := by
  intro e st x h
  unfold xsJ13a6 at h
  repeat' split at h
  all_goals first
    | (injection h with h; subst h; exact fun lk M => ⟨rfl, rfl⟩)
    | cases h
noncomputable def T13uc6 (N : Nat) (R : Type) : LTab R := mkTab ⟨55, 3076⟩ (csF13 N R) (noY) [] [] []
theorem okT13uc6 (N : Nat) (R : Type) : (T13uc6 N R).Ok CX code13 := mkTab_ok (hcsF13 N R) (noY_ok) (trivial) (trivial) (trivial)
noncomputable def bdJ13a6 : Code := (codeAt code13 [false, true]).getD .skip
theorem hsJ13a6 (N : Nat) : ∀ (lk : Nat → AV) (M : List Blk), LFJ13a6 N (canS sgJ13a6 lk M) = evk CX (T13uc6 N OJ13a6) bdJ13a6 6 (canS sgJ13a6 lk M) (kontX CX 0 xsJ13a6) := by intro lk M; kernel_rfl
inductive OJ13a14 where
  | nx
  | ret (x6 : Int) (x7 : Bool)
def J13a14 (N : Nat) : Int → Int → Int → Option OJ13a14 := fun x0 x1 x2 =>
    match F15 N x1 with
    | none => none
    | some (.r rx0v3) =>
      match !rx0v3 with
      | true =>
        some (.ret 0 false)
      | false =>
        match F15 N x2 with
        | none => none
        | some (.r rx0v4) =>
          match !rx0v4 with
          | true =>
            some (.ret 0 false)
          | false =>
            match F35 N x0 with
            | none => none
            | some (.r rx0v5) =>
              match rx0v5 with
              | true =>
                match decide (x1 < (0 : Int)) with
                | true =>
                  some (.ret 0 false)
                | false =>
                  match decide ((1 : Int) < x1) with
                  | true =>
                    some (.ret 0 false)
                  | false =>
                    match decide (x2 < (0 : Int)) with
                    | true =>
                      some (.ret 0 false)
                    | false =>
                      match decide ((1 : Int) < x2) with
                      | true =>
                        some (.ret 0 false)
                      | false =>
                        some .nx
              | false =>
                some .nx
def LFJ13a14 (N : Nat) (s : St) : Option OJ13a14 := J13a14 N ((Eng.look s.env 0).toI) ((Eng.look s.env 1).toI) ((Eng.look s.env 2).toI)
def sgJ13a14 : LSh := ⟨[(0, .one (.cell (.int .u8))), (1, .one (.cell (.int .i64))), (2, .one (.cell (.int .i64)))], []⟩
def ceJ13a14 : List Cv := []
def seJ13a14 : St → List Nat := fun _ => []
def xJ13a14wnx : XSh OJ13a14 := ⟨[], ⟨[], []⟩, fun _ => [], fun s => .nx ⟩
def xJ13a14wret : XSh OJ13a14 := ⟨[], ⟨[(6, .one (.cell (.int .i64))), (7, .one (.cell (.bool)))], []⟩, fun _ => [], fun s => .ret ((Eng.look s.env 6).toI) ((Eng.look s.env 7).toB)⟩
def xsJ13a14 : Ex → St → Option (XSh OJ13a14) := fun e st => match e with
  | .normal => some xJ13a14wnx
  | .ret => some xJ13a14wret
  | _ => none
def exJ13a14 (o : OJ13a14) : Ex := match o with | .nx => .normal | .ret x6 x7 => .ret
def stJ13a14 (o : OJ13a14) : St := match o with | .nx => ⟨[], [], [], .unk⟩ | .ret x6 x7 => ⟨[(6, .int .i64 x6), (7, .bool x7)], [], [], .unk⟩
def elJ13a14 {R : Type} (o : OJ13a14) (k : Ex → St → Option R) : Option R := match o with | .nx => k .normal ⟨[], [], [], .unk⟩ | .ret x6 x7 => k .ret ⟨[(6, .int .i64 x6), (7, .bool x7)], [], [], .unk⟩
theorem heJ13a14 {R : Type} (o : OJ13a14) (k : Ex → St → Option R) : elJ13a14 o k = k (exJ13a14 o) (stJ13a14 o) := by cases o <;> rfl
theorem hxJ13a14 : ∀ e st x, xsJ13a14 e st = some x → outOk x e exJ13a14 stJ13a14 := by
  intro e st x h
  unfold xsJ13a14 at h
  repeat' split at h
  all_goals first
    | (injection h with h; subst h; exact fun lk M => ⟨rfl, rfl⟩)
    | cases h
noncomputable def T13uc14 (N : Nat) (R : Type) : LTab R := mkTab ⟨55, 1099511623872⟩ (csF13 N R) (noY) [] [] []
theorem okT13uc14 (N : Nat) (R : Type) : (T13uc14 N R).Ok CX code13 := mkTab_ok (hcsF13 N R) (noY_ok) (trivial) (trivial) (trivial)
noncomputable def bdJ13a14 : Code := (codeAt code13 [false, true, true]).getD .skip
theorem hsJ13a14 (N : Nat) : ∀ (lk : Nat → AV) (M : List Blk), LFJ13a14 N (canS sgJ13a14 lk M) = evk CX (T13uc14 N OJ13a14) bdJ13a14 14 (canS sgJ13a14 lk M) (kontX CX 0 xsJ13a14) := by intro lk M; kernel_rfl
noncomputable def T13ur1 (N : Nat) (R : Type) : LTab R := mkTab ⟨55, 36028797018963967⟩ (csF13 N R) (noY) [] [] [(6, fun st k => callLoop CX 0 3076 ceJ13a6 sgJ13a6 seJ13a6 ⟨55, 36028797018963967⟩ (LFJ13a6 N) elJ13a6 st k), (14, fun st k => callLoop CX 0 1099511623872 ceJ13a14 sgJ13a14 seJ13a14 ⟨55, 36028797018963967⟩ (LFJ13a14 N) elJ13a14 st k)]
theorem okT13ur1 (N : Nat) (R : Type) : (T13ur1 N R).Ok CX code13 := mkTab_ok (hcsF13 N R) (noY_ok) (trivial) (trivial) (⟨cut_ok hX (path := [false, true]) (by kernel_rfl) (by rfl) (okT13uc6 N OJ13a6) (hsJ13a6 N) hxJ13a6 rfl heJ13a6, cut_ok hX (path := [false, true, true]) (by kernel_rfl) (by rfl) (okT13uc14 N OJ13a14) (hsJ13a14 N) hxJ13a14 rfl heJ13a14, trivial⟩)
def rsF13 : List ResultVar := [.tmp 6, .tmp 7]
def F13 : Nat → TF13
  | 0 => fun _ _ _ => none
  | N + 1 => fun x0 x1 x2 =>
    match J13a6 N x0 x2 with
    | none => none
    | some (.nx x2v2) =>
      match J13a14 N x0 x1 x2v2 with
      | none => none
      | some (.nx) =>
        match F18 N x0 x1 x2v2 with
        | none => none
        | some (.r rx0v7 rx1v7) =>
          match !rx1v7 with
          | true =>
            some (.r 0 false)
          | false =>
            match F15 N rx0v7 with
            | none => none
            | some (.r rx0v8) =>
              match !rx0v8 with
              | true =>
                some (.r 0 false)
              | false =>
                some (.r rx0v7 true)
      | some (.ret x6v9 x7v9) =>
        some (.r x6v9 x7v9)
def xRF13 : XSh R13 := ⟨[], ⟨[(0, .one (.cell (.int .i64))), (1, .one (.cell (.bool)))], []⟩, fun _ => [], fun s => .r ((Eng.look s.env 0).toI) ((Eng.look s.env 1).toB)⟩
theorem fsF13 : ∀ (N : Nat) (lk : Nat → AV) (M : List Blk), FFF13 (F13 (N + 1)) (canS sgF13 lk M) = evfn CX (T13ur1 N R13) code13 rsF13 (argsE 3 (canS sgF13 lk M).env) (canS sgF13 lk M).mem (goRt CX 0 2 (fun _ => some xRF13)) := by intro N lk M; kernel_rfl
theorem soundF13 : ∀ N, RecOkF13 (F13 N)
  | 0, lk, M, o, h => by cases h
  | N + 1, lk, M, o, h => fn_soundt hX (okT13ur1 N R13) Try.func13 hb13 rfl en13 (by kernel_rfl) (ys := fun _ => some xRF13) (fun st y h => by injection h with h; subst h; exact fun lk M => ⟨rfl, rfl⟩) ((fsF13 N lk M).symm.trans h)
def cvce13n0 : List Cv := []
def selce13n0 : St → List Nat := fun _ => []
noncomputable def ce13n0 (Fx : TF13) (R : Type) (test : List AV → List Blk → Bool) : CE R := ⟨13, test, fun args M => some (selce13n0 ⟨argEnv 0 args, M, [], .unk⟩), fun args M k => tst (Nat.beq args.length 3) (callFn CX 0 cvce13n0 sgF13 selce13n0 (FFF13 Fx) elF13 args M k)⟩
theorem okce13n0 (Fx : TF13) (h : RecOkF13 Fx) (R : Type) (test : List AV → List Blk → Bool) : CeOk CX (ce13n0 Fx R test) := ce_ok hX (fun o k => by cases o; rfl) h en13 (fun args M ids h => by injection h with h; exact ⟨rfl, h.symm⟩)
end Go.Proofs.Ytnfmdenclkdmbaa

namespace Go.Proofs.Ytnfmdenclkdmbaa
open Go Go.Eng
set_option maxRecDepth 100000

/-! ### F36: ceiling/ceilinglaw01.is -/
inductive R36 where
  | r (x0 : Bool)
abbrev TF36 := Int → Int → Int → Int → Option R36
def sgF36 : LSh := ⟨[(0, .one (.cell (.int .u8))), (1, .one (.cell (.int .i64))), (2, .one (.cell (.int .i64))), (3, .one (.cell (.int .i64)))], []⟩
def FFF36 (Fx : TF36) (s : St) : Option R36 := Fx ((Eng.look s.env 0).toI) ((Eng.look s.env 1).toI) ((Eng.look s.env 2).toI) ((Eng.look s.env 3).toI)
def valF36 (o : R36) : AV := match o with | .r x0 => .bool x0
def memF36 (o : R36) : List Blk := match o with | .r x0 => []
def elF36 {R : Type} (o : R36) (k : AV → List Blk → Option R) : Option R := match o with | .r x0 => k (.bool x0) []
def RecOkF36 (Fx : TF36) : Prop := ∀ lk M o, FFF36 Fx (canS sgF36 lk M) = some o → FCalls CX 36 0 (argsE 4 (canS sgF36 lk M).env) (canS sgF36 lk M).mem (valF36 o) (memF36 o)
noncomputable def csF36 (N : Nat) (R : Type) : List (CE R) := [ce12n0 (F12 N) R (fun _ _ => true)]
theorem hcsF36 (N : Nat) (R : Type) : AllE (CeOk CX) (csF36 N R) := ⟨okce12n0 (F12 N) (soundF12 N) R (fun _ _ => true), trivial⟩
noncomputable def T36ur1 (N : Nat) (R : Type) : LTab R := mkTab ⟨24, 16777215⟩ (csF36 N R) (noY) [] [] []
theorem okT36ur1 (N : Nat) (R : Type) : (T36ur1 N R).Ok CX code36 := mkTab_ok (hcsF36 N R) (noY_ok) (trivial) (trivial) (trivial)
def rsF36 : List ResultVar := [.tmp 8]
def F36 : Nat → TF36
  | 0 => fun _ _ _ _ => none
  | N + 1 => fun x0 x1 x2 x3 =>
    match F12 N x0 x1 x2 with
    | none => none
    | some (.r rx0v1 rx1v1) =>
      match rx0v1 == x3 with
      | true =>
        some (.r rx1v1)
      | false =>
        some (.r false)
def xRF36 : XSh R36 := ⟨[], ⟨[(0, .one (.cell (.bool)))], []⟩, fun _ => [], fun s => .r ((Eng.look s.env 0).toB)⟩
theorem fsF36 : ∀ (N : Nat) (lk : Nat → AV) (M : List Blk), FFF36 (F36 (N + 1)) (canS sgF36 lk M) = evfn CX (T36ur1 N R36) code36 rsF36 (argsE 4 (canS sgF36 lk M).env) (canS sgF36 lk M).mem (goR CX 0 (fun _ => some xRF36)) := by intro N lk M; kernel_rfl
theorem soundF36 : ∀ N, RecOkF36 (F36 N)
  | 0, lk, M, o, h => by cases h
  | N + 1, lk, M, o, h => fn_sound hX (okT36ur1 N R36) Try.func36 hb36 rfl en36 (by kernel_rfl) (ys := fun _ => some xRF36) (fun st y h => by injection h with h; subst h; exact fun lk M => ⟨rfl, rfl⟩) ((fsF36 N lk M).symm.trans h)
def cvce36n0 : List Cv := []
def selce36n0 : St → List Nat := fun _ => []
noncomputable def ce36n0 (Fx : TF36) (R : Type) (test : List AV → List Blk → Bool) : CE R := ⟨36, test, fun args M => some (selce36n0 ⟨argEnv 0 args, M, [], .unk⟩), fun args M k => tst (Nat.beq args.length 4) (callFn CX 0 cvce36n0 sgF36 selce36n0 (FFF36 Fx) elF36 args M k)⟩
theorem okce36n0 (Fx : TF36) (h : RecOkF36 Fx) (R : Type) (test : List AV → List Blk → Bool) : CeOk CX (ce36n0 Fx R test) := ce_ok hX (fun o k => by cases o; rfl) h en36 (fun args M ids h => by injection h with h; exact ⟨rfl, h.symm⟩)
end Go.Proofs.Ytnfmdenclkdmbaa

namespace Go.Proofs.Ytnfmdenclkdmbaa
open Go Go.Eng
set_option maxRecDepth 100000

/-! ### F37: ceiling/ceilinglaw01.none -/
inductive R37 where
  | r (x0 : Bool)
abbrev TF37 := Int → Int → Int → Option R37
def sgF37 : LSh := ⟨[(0, .one (.cell (.int .u8))), (1, .one (.cell (.int .i64))), (2, .one (.cell (.int .i64)))], []⟩
def FFF37 (Fx : TF37) (s : St) : Option R37 := Fx ((Eng.look s.env 0).toI) ((Eng.look s.env 1).toI) ((Eng.look s.env 2).toI)
def valF37 (o : R37) : AV := match o with | .r x0 => .bool x0
def memF37 (o : R37) : List Blk := match o with | .r x0 => []
def elF37 {R : Type} (o : R37) (k : AV → List Blk → Option R) : Option R := match o with | .r x0 => k (.bool x0) []
def RecOkF37 (Fx : TF37) : Prop := ∀ lk M o, FFF37 Fx (canS sgF37 lk M) = some o → FCalls CX 37 0 (argsE 3 (canS sgF37 lk M).env) (canS sgF37 lk M).mem (valF37 o) (memF37 o)
noncomputable def csF37 (N : Nat) (R : Type) : List (CE R) := [ce12n0 (F12 N) R (fun _ _ => true)]
theorem hcsF37 (N : Nat) (R : Type) : AllE (CeOk CX) (csF37 N R) := ⟨okce12n0 (F12 N) (soundF12 N) R (fun _ _ => true), trivial⟩
noncomputable def T37ur1 (N : Nat) (R : Type) : LTab R := mkTab ⟨22, 4194303⟩ (csF37 N R) (noY) [] [] []
theorem okT37ur1 (N : Nat) (R : Type) : (T37ur1 N R).Ok CX code37 := mkTab_ok (hcsF37 N R) (noY_ok) (trivial) (trivial) (trivial)
def rsF37 : List ResultVar := [.tmp 6]
def F37 : Nat → TF37
  | 0 => fun _ _ _ => none
  | N + 1 => fun x0 x1 x2 =>
    match F12 N x0 x1 x2 with
    | none => none
    | some (.r rx0v1 rx1v1) =>
      match rx0v1 == (0 : Int) with
      | true =>
        some (.r (!rx1v1))
      | false =>
        some (.r false)
def xRF37 : XSh R37 := ⟨[], ⟨[(0, .one (.cell (.bool)))], []⟩, fun _ => [], fun s => .r ((Eng.look s.env 0).toB)⟩
theorem fsF37 : ∀ (N : Nat) (lk : Nat → AV) (M : List Blk), FFF37 (F37 (N + 1)) (canS sgF37 lk M) = evfn CX (T37ur1 N R37) code37 rsF37 (argsE 3 (canS sgF37 lk M).env) (canS sgF37 lk M).mem (goR CX 0 (fun _ => some xRF37)) := by intro N lk M; kernel_rfl
theorem soundF37 : ∀ N, RecOkF37 (F37 N)
  | 0, lk, M, o, h => by cases h
  | N + 1, lk, M, o, h => fn_sound hX (okT37ur1 N R37) Try.func37 hb37 rfl en37 (by kernel_rfl) (ys := fun _ => some xRF37) (fun st y h => by injection h with h; subst h; exact fun lk M => ⟨rfl, rfl⟩) ((fsF37 N lk M).symm.trans h)
def cvce37n0 : List Cv := []
def selce37n0 : St → List Nat := fun _ => []
noncomputable def ce37n0 (Fx : TF37) (R : Type) (test : List AV → List Blk → Bool) : CE R := ⟨37, test, fun args M => some (selce37n0 ⟨argEnv 0 args, M, [], .unk⟩), fun args M k => tst (Nat.beq args.length 3) (callFn CX 0 cvce37n0 sgF37 selce37n0 (FFF37 Fx) elF37 args M k)⟩
theorem okce37n0 (Fx : TF37) (h : RecOkF37 Fx) (R : Type) (test : List AV → List Blk → Bool) : CeOk CX (ce37n0 Fx R test) := ce_ok hX (fun o k => by cases o; rfl) h en37 (fun args M ids h => by injection h with h; exact ⟨rfl, h.symm⟩)
end Go.Proofs.Ytnfmdenclkdmbaa

namespace Go.Proofs.Ytnfmdenclkdmbaa
open Go Go.Eng
set_option maxRecDepth 100000

/-! ### F22: ceiling/ceilinglaw01.ival -/
inductive R22 where
  | r (x0c0 : Int) (x0c1 : Int)
abbrev TF22 := Int → Int → Option R22
def sgF22 : LSh := ⟨[(0, .one (.cell (.int .i64))), (1, .one (.cell (.int .i64)))], []⟩
def FFF22 (Fx : TF22) (s : St) : Option R22 := Fx ((Eng.look s.env 0).toI) ((Eng.look s.env 1).toI)
def valF22 (o : R22) : AV := match o with | .r x0c0 x0c1 => .agg [.int .i64 x0c0, .int .i64 x0c1]
def memF22 (o : R22) : List Blk := match o with | .r x0c0 x0c1 => []
def elF22 {R : Type} (o : R22) (k : AV → List Blk → Option R) : Option R := match o with | .r x0c0 x0c1 => k (.agg [.int .i64 x0c0, .int .i64 x0c1]) []
def RecOkF22 (Fx : TF22) : Prop := ∀ lk M o, FFF22 Fx (canS sgF22 lk M) = some o → FCalls CX 22 0 (argsE 2 (canS sgF22 lk M).env) (canS sgF22 lk M).mem (valF22 o) (memF22 o)
noncomputable def csF22 (N : Nat) (R : Type) : List (CE R) := []
theorem hcsF22 (N : Nat) (R : Type) : AllE (CeOk CX) (csF22 N R) := trivial
noncomputable def T22ur1 (N : Nat) (R : Type) : LTab R := mkTab ⟨8, 255⟩ (csF22 N R) (noY) [] [] []
theorem okT22ur1 (N : Nat) (R : Type) : (T22ur1 N R).Ok CX code22 := mkTab_ok (hcsF22 N R) (noY_ok) (trivial) (trivial) (trivial)
def rsF22 : List ResultVar := [.cell 4 29]
def F22 : Nat → TF22
  | 0 => fun _ _ => none
  | N + 1 => fun x0 x1 =>
    some (.r x0 x1)
def xRF22 : XSh R22 := ⟨[], ⟨[(0, .agg [.cell (.int .i64), .cell (.int .i64)])], []⟩, fun _ => [], fun s => .r (((Eng.look s.env 0).cells.getD 0 .top).toI) (((Eng.look s.env 0).cells.getD 1 .top).toI)⟩
theorem fsF22 : ∀ (N : Nat) (lk : Nat → AV) (M : List Blk), FFF22 (F22 (N + 1)) (canS sgF22 lk M) = evfn CX (T22ur1 N R22) code22 rsF22 (argsE 2 (canS sgF22 lk M).env) (canS sgF22 lk M).mem (goR CX 0 (fun _ => some xRF22)) := by intro N lk M; kernel_rfl
theorem soundF22 : ∀ N, RecOkF22 (F22 N)
  | 0, lk, M, o, h => by cases h
  | N + 1, lk, M, o, h => fn_sound hX (okT22ur1 N R22) Try.func22 hb22 rfl en22 (by kernel_rfl) (ys := fun _ => some xRF22) (fun st y h => by injection h with h; subst h; exact fun lk M => ⟨rfl, rfl⟩) ((fsF22 N lk M).symm.trans h)
def cvce22n0 : List Cv := []
def selce22n0 : St → List Nat := fun _ => []
noncomputable def ce22n0 (Fx : TF22) (R : Type) (test : List AV → List Blk → Bool) : CE R := ⟨22, test, fun args M => some (selce22n0 ⟨argEnv 0 args, M, [], .unk⟩), fun args M k => tst (Nat.beq args.length 2) (callFn CX 0 cvce22n0 sgF22 selce22n0 (FFF22 Fx) elF22 args M k)⟩
theorem okce22n0 (Fx : TF22) (h : RecOkF22 Fx) (R : Type) (test : List AV → List Blk → Bool) : CeOk CX (ce22n0 Fx R test) := ce_ok hX (fun o k => by cases o; rfl) h en22 (fun args M ids h => by injection h with h; exact ⟨rfl, h.symm⟩)
end Go.Proofs.Ytnfmdenclkdmbaa

namespace Go.Proofs.Ytnfmdenclkdmbaa
open Go Go.Eng
set_option maxRecDepth 100000

/-! ### F41: ceiling/num.empty -/
inductive R41 where
  | r (x0 : Bool)
abbrev TF41 := Int → Int → Option R41
def sgF41 : LSh := ⟨[(0, .agg [.cell (.int .i64), .cell (.int .i64)])], []⟩
def FFF41 (Fx : TF41) (s : St) : Option R41 := Fx (((Eng.look s.env 0).cells.getD 0 .top).toI) (((Eng.look s.env 0).cells.getD 1 .top).toI)
def valF41 (o : R41) : AV := match o with | .r x0 => .bool x0
def memF41 (o : R41) : List Blk := match o with | .r x0 => []
def elF41 {R : Type} (o : R41) (k : AV → List Blk → Option R) : Option R := match o with | .r x0 => k (.bool x0) []
def RecOkF41 (Fx : TF41) : Prop := ∀ lk M o, FFF41 Fx (canS sgF41 lk M) = some o → FCalls CX 41 0 (argsE 1 (canS sgF41 lk M).env) (canS sgF41 lk M).mem (valF41 o) (memF41 o)
noncomputable def csF41 (N : Nat) (R : Type) : List (CE R) := []
theorem hcsF41 (N : Nat) (R : Type) : AllE (CeOk CX) (csF41 N R) := trivial
noncomputable def T41ur1 (N : Nat) (R : Type) : LTab R := mkTab ⟨8, 255⟩ (csF41 N R) (noY) [] [] []
theorem okT41ur1 (N : Nat) (R : Type) : (T41ur1 N R).Ok CX code41 := mkTab_ok (hcsF41 N R) (noY_ok) (trivial) (trivial) (trivial)
def rsF41 : List ResultVar := [.tmp 2]
def F41 : Nat → TF41
  | 0 => fun _ _ => none
  | N + 1 => fun x0c0 x0c1 =>
    some (.r (decide (x0c1 < x0c0)))
def xRF41 : XSh R41 := ⟨[], ⟨[(0, .one (.cell (.bool)))], []⟩, fun _ => [], fun s => .r ((Eng.look s.env 0).toB)⟩
theorem fsF41 : ∀ (N : Nat) (lk : Nat → AV) (M : List Blk), FFF41 (F41 (N + 1)) (canS sgF41 lk M) = evfn CX (T41ur1 N R41) code41 rsF41 (argsE 1 (canS sgF41 lk M).env) (canS sgF41 lk M).mem (goR CX 0 (fun _ => some xRF41)) := by intro N lk M; kernel_rfl
theorem soundF41 : ∀ N, RecOkF41 (F41 N)
  | 0, lk, M, o, h => by cases h
  | N + 1, lk, M, o, h => fn_sound hX (okT41ur1 N R41) Try.func41 hb41 rfl en41 (by kernel_rfl) (ys := fun _ => some xRF41) (fun st y h => by injection h with h; subst h; exact fun lk M => ⟨rfl, rfl⟩) ((fsF41 N lk M).symm.trans h)
def cvce41n0 : List Cv := []
def selce41n0 : St → List Nat := fun _ => []
noncomputable def ce41n0 (Fx : TF41) (R : Type) (test : List AV → List Blk → Bool) : CE R := ⟨41, test, fun args M => some (selce41n0 ⟨argEnv 0 args, M, [], .unk⟩), fun args M k => tst (Nat.beq args.length 1) (callFn CX 0 cvce41n0 sgF41 selce41n0 (FFF41 Fx) elF41 args M k)⟩
theorem okce41n0 (Fx : TF41) (h : RecOkF41 Fx) (R : Type) (test : List AV → List Blk → Bool) : CeOk CX (ce41n0 Fx R test) := ce_ok hX (fun o k => by cases o; rfl) h en41 (fun args M ids h => by injection h with h; exact ⟨rfl, h.symm⟩)
end Go.Proofs.Ytnfmdenclkdmbaa

namespace Go.Proofs.Ytnfmdenclkdmbaa
open Go Go.Eng
set_option maxRecDepth 100000

/-! ### F42: ceiling/num.none -/
inductive R42 where
  | r (x0c0 : Int) (x0c1 : Int)
abbrev TF42 := Option R42
def sgF42 : LSh := ⟨[], []⟩
def FFF42 (Fx : TF42) (s : St) : Option R42 := Fx 
def valF42 (o : R42) : AV := match o with | .r x0c0 x0c1 => .agg [.int .i64 x0c0, .int .i64 x0c1]
def memF42 (o : R42) : List Blk := match o with | .r x0c0 x0c1 => []
def elF42 {R : Type} (o : R42) (k : AV → List Blk → Option R) : Option R := match o with | .r x0c0 x0c1 => k (.agg [.int .i64 x0c0, .int .i64 x0c1]) []
def RecOkF42 (Fx : TF42) : Prop := ∀ lk M o, FFF42 Fx (canS sgF42 lk M) = some o → FCalls CX 42 0 (argsE 0 (canS sgF42 lk M).env) (canS sgF42 lk M).mem (valF42 o) (memF42 o)
noncomputable def csF42 (N : Nat) (R : Type) : List (CE R) := []
theorem hcsF42 (N : Nat) (R : Type) : AllE (CeOk CX) (csF42 N R) := trivial
noncomputable def T42ur1 (N : Nat) (R : Type) : LTab R := mkTab ⟨2, 3⟩ (csF42 N R) (noY) [] [] []
theorem okT42ur1 (N : Nat) (R : Type) : (T42ur1 N R).Ok CX code42 := mkTab_ok (hcsF42 N R) (noY_ok) (trivial) (trivial) (trivial)
def rsF42 : List ResultVar := [.cell 0 29]
def F42 : Nat → TF42
  | 0 => none
  | N + 1 => 
    some (.r 1 0)
def xRF42 : XSh R42 := ⟨[], ⟨[(0, .agg [.cell (.int .i64), .cell (.int .i64)])], []⟩, fun _ => [], fun s => .r (((Eng.look s.env 0).cells.getD 0 .top).toI) (((Eng.look s.env 0).cells.getD 1 .top).toI)⟩
theorem fsF42 : ∀ (N : Nat) (lk : Nat → AV) (M : List Blk), FFF42 (F42 (N + 1)) (canS sgF42 lk M) = evfn CX (T42ur1 N R42) code42 rsF42 (argsE 0 (canS sgF42 lk M).env) (canS sgF42 lk M).mem (goR CX 0 (fun _ => some xRF42)) := by intro N lk M; kernel_rfl
theorem soundF42 : ∀ N, RecOkF42 (F42 N)
  | 0, lk, M, o, h => by cases h
  | N + 1, lk, M, o, h => fn_sound hX (okT42ur1 N R42) Try.func42 hb42 rfl en42 (by kernel_rfl) (ys := fun _ => some xRF42) (fun st y h => by injection h with h; subst h; exact fun lk M => ⟨rfl, rfl⟩) ((fsF42 N lk M).symm.trans h)
def cvce42n0 : List Cv := []
def selce42n0 : St → List Nat := fun _ => []
noncomputable def ce42n0 (Fx : TF42) (R : Type) (test : List AV → List Blk → Bool) : CE R := ⟨42, test, fun args M => some (selce42n0 ⟨argEnv 0 args, M, [], .unk⟩), fun args M k => tst (Nat.beq args.length 0) (callFn CX 0 cvce42n0 sgF42 selce42n0 (FFF42 Fx) elF42 args M k)⟩
theorem okce42n0 (Fx : TF42) (h : RecOkF42 Fx) (R : Type) (test : List AV → List Blk → Bool) : CeOk CX (ce42n0 Fx R test) := ce_ok hX (fun o k => by cases o; rfl) h en42 (fun args M ids h => by injection h with h; exact ⟨rfl, h.symm⟩)
end Go.Proofs.Ytnfmdenclkdmbaa

namespace Go.Proofs.Ytnfmdenclkdmbaa
open Go Go.Eng
set_option maxRecDepth 100000

/-! ### F44: ceiling/num.sum -/
inductive R44 where
  | r (x0 : Int) (x1 : Bool)
abbrev TF44 := Int → Int → Option R44
def sgF44 : LSh := ⟨[(0, .one (.cell (.int .i64))), (1, .one (.cell (.int .i64)))], []⟩
def FFF44 (Fx : TF44) (s : St) : Option R44 := Fx ((Eng.look s.env 0).toI) ((Eng.look s.env 1).toI)
def valF44 (o : R44) : AV := match o with | .r x0 x1 => .tup [.int .i64 x0, .bool x1]
def memF44 (o : R44) : List Blk := match o with | .r x0 x1 => []
def elF44 {R : Type} (o : R44) (k : AV → List Blk → Option R) : Option R := match o with | .r x0 x1 => k (.tup [.int .i64 x0, .bool x1]) []
def RecOkF44 (Fx : TF44) : Prop := ∀ lk M o, FFF44 Fx (canS sgF44 lk M) = some o → FCalls CX 44 0 (argsE 2 (canS sgF44 lk M).env) (canS sgF44 lk M).mem (valF44 o) (memF44 o)
noncomputable def csF44 (N : Nat) (R : Type) : List (CE R) := []
theorem hcsF44 (N : Nat) (R : Type) : AllE (CeOk CX) (csF44 N R) := trivial
noncomputable def T44ur1 (N : Nat) (R : Type) : LTab R := mkTab ⟨19, 524287⟩ (csF44 N R) (noY) [] [] []
theorem okT44ur1 (N : Nat) (R : Type) : (T44ur1 N R).Ok CX code44 := mkTab_ok (hcsF44 N R) (noY_ok) (trivial) (trivial) (trivial)
def rsF44 : List ResultVar := [.tmp 4, .tmp 5]
def F44 : Nat → TF44
  | 0 => fun _ _ => none
  | N + 1 => fun x0 x1 =>
    some (.r (IntKind.wrap .i64 (x0 + x1)) (decide ((0 : Int) ≤ (IntKind.wrap .i64 ((BitVec.ofInt 64 (IntKind.wrap .i64 ((BitVec.ofInt 64 x0 ^^^ BitVec.ofInt 64 (IntKind.wrap .i64 (x0 + x1))).toNat : Int)) &&& BitVec.ofInt 64 (IntKind.wrap .i64 ((BitVec.ofInt 64 x1 ^^^ BitVec.ofInt 64 (IntKind.wrap .i64 (x0 + x1))).toNat : Int))).toNat : Int)))))
def xRF44 : XSh R44 := ⟨[], ⟨[(0, .one (.cell (.int .i64))), (1, .one (.cell (.bool)))], []⟩, fun _ => [], fun s => .r ((Eng.look s.env 0).toI) ((Eng.look s.env 1).toB)⟩
theorem fsF44 : ∀ (N : Nat) (lk : Nat → AV) (M : List Blk), FFF44 (F44 (N + 1)) (canS sgF44 lk M) = evfn CX (T44ur1 N R44) code44 rsF44 (argsE 2 (canS sgF44 lk M).env) (canS sgF44 lk M).mem (goRt CX 0 2 (fun _ => some xRF44)) := by intro N lk M; kernel_rfl
theorem soundF44 : ∀ N, RecOkF44 (F44 N)
  | 0, lk, M, o, h => by cases h
  | N + 1, lk, M, o, h => fn_soundt hX (okT44ur1 N R44) Try.func44 hb44 rfl en44 (by kernel_rfl) (ys := fun _ => some xRF44) (fun st y h => by injection h with h; subst h; exact fun lk M => ⟨rfl, rfl⟩) ((fsF44 N lk M).symm.trans h)
def cvce44n0 : List Cv := []
def selce44n0 : St → List Nat := fun _ => []
noncomputable def ce44n0 (Fx : TF44) (R : Type) (test : List AV → List Blk → Bool) : CE R := ⟨44, test, fun args M => some (selce44n0 ⟨argEnv 0 args, M, [], .unk⟩), fun args M k => tst (Nat.beq args.length 2) (callFn CX 0 cvce44n0 sgF44 selce44n0 (FFF44 Fx) elF44 args M k)⟩
theorem okce44n0 (Fx : TF44) (h : RecOkF44 Fx) (R : Type) (test : List AV → List Blk → Bool) : CeOk CX (ce44n0 Fx R test) := ce_ok hX (fun o k => by cases o; rfl) h en44 (fun args M ids h => by injection h with h; exact ⟨rfl, h.symm⟩)
end Go.Proofs.Ytnfmdenclkdmbaa

namespace Go.Proofs.Ytnfmdenclkdmbaa
open Go Go.Eng
set_option maxRecDepth 100000

/-! ### F65: ceiling/num.full -/
inductive R65 where
  | r (x0c0 : Int) (x0c1 : Int)
abbrev TF65 := Option R65
def sgF65 : LSh := ⟨[], []⟩
def FFF65 (Fx : TF65) (s : St) : Option R65 := Fx 
def valF65 (o : R65) : AV := match o with | .r x0c0 x0c1 => .agg [.int .i64 x0c0, .int .i64 x0c1]
def memF65 (o : R65) : List Blk := match o with | .r x0c0 x0c1 => []
def elF65 {R : Type} (o : R65) (k : AV → List Blk → Option R) : Option R := match o with | .r x0c0 x0c1 => k (.agg [.int .i64 x0c0, .int .i64 x0c1]) []
def RecOkF65 (Fx : TF65) : Prop := ∀ lk M o, FFF65 Fx (canS sgF65 lk M) = some o → FCalls CX 65 0 (argsE 0 (canS sgF65 lk M).env) (canS sgF65 lk M).mem (valF65 o) (memF65 o)
noncomputable def csF65 (N : Nat) (R : Type) : List (CE R) := []
theorem hcsF65 (N : Nat) (R : Type) : AllE (CeOk CX) (csF65 N R) := trivial
noncomputable def T65ur1 (N : Nat) (R : Type) : LTab R := mkTab ⟨2, 3⟩ (csF65 N R) (noY) [] [] []
theorem okT65ur1 (N : Nat) (R : Type) : (T65ur1 N R).Ok CX code65 := mkTab_ok (hcsF65 N R) (noY_ok) (trivial) (trivial) (trivial)
def rsF65 : List ResultVar := [.cell 0 29]
def F65 : Nat → TF65
  | 0 => none
  | N + 1 => 
    some (.r ((-9223372036854775808)) 9223372036854775807)
def xRF65 : XSh R65 := ⟨[], ⟨[(0, .agg [.cell (.int .i64), .cell (.int .i64)])], []⟩, fun _ => [], fun s => .r (((Eng.look s.env 0).cells.getD 0 .top).toI) (((Eng.look s.env 0).cells.getD 1 .top).toI)⟩
theorem fsF65 : ∀ (N : Nat) (lk : Nat → AV) (M : List Blk), FFF65 (F65 (N + 1)) (canS sgF65 lk M) = evfn CX (T65ur1 N R65) code65 rsF65 (argsE 0 (canS sgF65 lk M).env) (canS sgF65 lk M).mem (goR CX 0 (fun _ => some xRF65)) := by intro N lk M; kernel_rfl
theorem soundF65 : ∀ N, RecOkF65 (F65 N)
  | 0, lk, M, o, h => by cases h
  | N + 1, lk, M, o, h => fn_sound hX (okT65ur1 N R65) Try.func65 hb65 rfl en65 (by kernel_rfl) (ys := fun _ => some xRF65) (fun st y h => by injection h with h; subst h; exact fun lk M => ⟨rfl, rfl⟩) ((fsF65 N lk M).symm.trans h)
def cvce65n0 : List Cv := []
def selce65n0 : St → List Nat := fun _ => []
noncomputable def ce65n0 (Fx : TF65) (R : Type) (test : List AV → List Blk → Bool) : CE R := ⟨65, test, fun args M => some (selce65n0 ⟨argEnv 0 args, M, [], .unk⟩), fun args M k => tst (Nat.beq args.length 0) (callFn CX 0 cvce65n0 sgF65 selce65n0 (FFF65 Fx) elF65 args M k)⟩
theorem okce65n0 (Fx : TF65) (h : RecOkF65 Fx) (R : Type) (test : List AV → List Blk → Bool) : CeOk CX (ce65n0 Fx R test) := ce_ok hX (fun o k => by cases o; rfl) h en65 (fun args M ids h => by injection h with h; exact ⟨rfl, h.symm⟩)
end Go.Proofs.Ytnfmdenclkdmbaa

namespace Go.Proofs.Ytnfmdenclkdmbaa
open Go Go.Eng
set_option maxRecDepth 100000

/-! ### F64: ceiling/num.hull -/
inductive R64 where
  | r (x0c0 : Int) (x0c1 : Int)
abbrev TF64 := Int → List Row → Option R64
def sgF64 : LSh := ⟨[(0, .one (.cell (.int .i64))), (1, .one (.cell (.slice 2)))], []⟩
def FFF64 (Fx : TF64) (s : St) : Option R64 := Fx ((Eng.look s.env 0).toI) ((Eng.look s.env 1).rows)
def valF64 (o : R64) : AV := match o with | .r x0c0 x0c1 => .agg [.int .i64 x0c0, .int .i64 x0c1]
def memF64 (o : R64) : List Blk := match o with | .r x0c0 x0c1 => []
def elF64 {R : Type} (o : R64) (k : AV → List Blk → Option R) : Option R := match o with | .r x0c0 x0c1 => k (.agg [.int .i64 x0c0, .int .i64 x0c1]) []
def RecOkF64 (Fx : TF64) : Prop := ∀ lk M o, FFF64 Fx (canS sgF64 lk M) = some o → FCalls CX 64 0 (argsE 2 (canS sgF64 lk M).env) (canS sgF64 lk M).mem (valF64 o) (memF64 o)
noncomputable def csF64 (N : Nat) (R : Type) : List (CE R) := []
theorem hcsF64 (N : Nat) (R : Type) : AllE (CeOk CX) (csF64 N R) := trivial
inductive OL64a58 where
  | x0 (b0c0 : Int) (b0c1 : Int)
def L64a58 (N : Nat) : Nat → List Row → Int → Int → Int → Int → Option OL64a58
  | 0 => fun _ _ _ _ _ => none
  | n + 1 => fun x11 x12 x13 b0c0 b0c1 =>
    match decide (x13 < x12) with
    | true =>
      tst (decide ((0 : Int) ≤ x13) && decide (x13 < ((x11.length : Int)))) <|
      L64a58 N n x11 x12 (IntKind.wrap .i64 (x13 + (1 : Int))) (Eng.imin b0c0 ((((x11.getD x13.toNat [])).getD 0 .top).toI)) (Eng.imax b0c1 ((((x11.getD x13.toNat [])).getD 0 .top).toI))
    | false =>
      some (.x0 b0c0 b0c1)
def LFL64a58 (N : Nat) (n : Nat) (s : St) : Option OL64a58 := L64a58 N n ((Eng.look s.env 11).rows) ((Eng.look s.env 12).toI) ((Eng.look s.env 13).toI) (((s.mem.getD 0 .dead).cells.getD 0 .top).toI) (((s.mem.getD 0 .dead).cells.getD 1 .top).toI)
def sgL64a58 : LSh := ⟨[(5, .one (.ptr 0 0 0)), (11, .one (.cell (.slice 2))), (12, .one (.cell (.int .i64))), (13, .one (.cell (.int .i64)))], [.var [.int .i64, .int .i64] [.cell (.int .i64), .cell (.int .i64)]]⟩
def ceL64a58 : List Cv := []
def seL64a58 : St → List Nat := fun st => [(Eng.look st.env 5).id]
def xL64a58wx0 : XSh OL64a58 := ⟨[], ⟨[], [.var [.int .i64, .int .i64] [.cell (.int .i64), .cell (.int .i64)]]⟩, fun st => [0], fun s => .x0 (((s.mem.getD 0 .dead).cells.getD 0 .top).toI) (((s.mem.getD 0 .dead).cells.getD 1 .top).toI)⟩
def xsL64a58 : Ex → St → Option (XSh OL64a58) := fun e st => match e with
  | .exit 0 => some xL64a58wx0
  | _ => none
def exL64a58 (o : OL64a58) : Ex := match o with | .x0 b0c0 b0c1 => (.exit 0)
def stL64a58 (o : OL64a58) : St := match o with | .x0 b0c0 b0c1 => ⟨[], [.var [.int .i64, .int .i64] [.int .i64 b0c0, .int .i64 b0c1]], [], .unk⟩
def elL64a58 {R : Type} (o : OL64a58) (k : Ex → St → Option R) : Option R := match o with | .x0 b0c0 b0c1 => k (.exit 0) ⟨[], [.var [.int .i64, .int .i64] [.int .i64 b0c0, .int .i64 b0c1]], [], .unk⟩
theorem heL64a58 {R : Type} (o : OL64a58) (k : Ex → St → Option R) : elL64a58 o k = k (exL64a58 o) (stL64a58 o) := by cases o <;> rfl
theorem hxL64a58 : ∀ e st x, xsL64a58 e st = some x → outOk x e exL64a58 stL64a58 := by
  intro e st x h
  unfold xsL64a58 at h
  repeat' split at h
  all_goals first
    | (injection h with h; subst h; exact fun lk M => ⟨rfl, rfl⟩)
    | cases h
noncomputable def T64ul58 (N : Nat) (R : Type) : LTab R := mkTab ⟨29, 268427392⟩ (csF64 N R) (noY) [] [] []
theorem okT64ul58 (N : Nat) (R : Type) : (T64ul58 N R).Ok CX code64 := mkTab_ok (hcsF64 N R) (noY_ok) (trivial) (trivial) (trivial)
noncomputable def bdL64a58 : Code := match codeAt code64 [false, true, false, true, true] with | some (.loop c) => c | _ => .skip
theorem hsL64a58 (N : Nat) : ∀ (n : Nat) (lk : Nat → AV) (M : List Blk), LFL64a58 N (n + 1) (canS sgL64a58 lk M) = evk CX (T64ul58 N OL64a58) bdL64a58 (2 * 58) (canS sgL64a58 lk M) (kont CX 1 [] sgL64a58 (fun st => [0]) xsL64a58 (LFL64a58 N n)) := by intro n lk M; kernel_rfl
noncomputable def T64ur1 (N : Nat) (R : Type) : LTab R := mkTab ⟨29, 536870911⟩ (csF64 N R) (noY) [(58, fun st k => callLoop CX 1 268427392 ceL64a58 sgL64a58 seL64a58 ⟨29, 536870911⟩ (LFL64a58 N N) elL64a58 st k)] [] []
theorem okT64ur1 (N : Nat) (R : Type) : (T64ur1 N R).Ok CX code64 := mkTab_ok (hcsF64 N R) (noY_ok) (⟨loop_ok hX (path := [false, true, false, true, true]) (by kernel_rfl) (by rfl) (okT64ul58 N OL64a58) (fun _ _ => rfl) (hsL64a58 N) hxL64a58 rfl heL64a58, trivial⟩) (trivial) (trivial)
def rsF64 : List ResultVar := [.cell 4 29]
def F64 : Nat → TF64
  | 0 => fun _ _ => none
  | N + 1 => fun x0 x1 =>
    match L64a58 N N x1 ((x1.length : Int)) 0 x0 x0 with
    | none => none
    | some (.x0 b0c0v1 b0c1v1) =>
      some (.r b0c0v1 b0c1v1)
def xRF64 : XSh R64 := ⟨[], ⟨[(0, .agg [.cell (.int .i64), .cell (.int .i64)])], []⟩, fun _ => [], fun s => .r (((Eng.look s.env 0).cells.getD 0 .top).toI) (((Eng.look s.env 0).cells.getD 1 .top).toI)⟩
theorem fsF64 : ∀ (N : Nat) (lk : Nat → AV) (M : List Blk), FFF64 (F64 (N + 1)) (canS sgF64 lk M) = evfn CX (T64ur1 N R64) code64 rsF64 (argsE 2 (canS sgF64 lk M).env) (canS sgF64 lk M).mem (goR CX 0 (fun _ => some xRF64)) := by intro N lk M; kernel_rfl
theorem soundF64 : ∀ N, RecOkF64 (F64 N)
  | 0, lk, M, o, h => by cases h
  | N + 1, lk, M, o, h => fn_sound hX (okT64ur1 N R64) Try.func64 hb64 rfl en64 (by kernel_rfl) (ys := fun _ => some xRF64) (fun st y h => by injection h with h; subst h; exact fun lk M => ⟨rfl, rfl⟩) ((fsF64 N lk M).symm.trans h)
def cvce64n0 : List Cv := [.frz 1 (.slice 2)]
def selce64n0 : St → List Nat := fun _ => []
noncomputable def ce64n0 (Fx : TF64) (R : Type) (test : List AV → List Blk → Bool) : CE R := ⟨64, test, fun _ M => some (List.range M.length), fun args M k => tst (Nat.beq args.length 2) (callFn CX 0 cvce64n0 sgF64 selce64n0 (FFF64 Fx) elF64 args M (fun x M' => tst (Nat.ble M.length M'.length) (k x M')))⟩
theorem okce64n0 (Fx : TF64) (h : RecOkF64 Fx) (R : Type) (test : List AV → List Blk → Bool) : CeOk CX (ce64n0 Fx R test) := ce_okc hX (fun o k => by cases o; rfl) h en64
def cvce64n1 : List Cv := [.frz 1 (.slice 2)]
def selce64n1 : St → List Nat := fun _ => []
noncomputable def ce64n10 (Fx : TF64) (R : Type) : CE R := ⟨64, fun _ _ => true, fun args M => some (selce64n1 ⟨argEnv 0 args, M, [], .unk⟩), fun args M k => tst (Nat.beq args.length 2) (callFn CX 0 [] sgF64 selce64n1 (FFF64 Fx) elF64 args M k)⟩
noncomputable def ce64n1 (Fx : TF64) (R : Type) (test : List AV → List Blk → Bool) : CE R := ⟨64, test, fun args M => (ce64n10 Fx R).wr (nilfix [(1, 2)] args) M, fun args M k => (ce64n10 Fx R).run (nilfix [(1, 2)] args) M k⟩
theorem okce64n1 (Fx : TF64) (h : RecOkF64 Fx) (R : Type) (test : List AV → List Blk → Bool) : CeOk CX (ce64n1 Fx R test) := nil_ok (e := ce64n10 Fx R) (ce_ok hX (fun o k => by cases o; rfl) h en64 (fun args M ids h => by injection h with h; exact ⟨rfl, h.symm⟩)) [(1, 2)] test
end Go.Proofs.Ytnfmdenclkdmbaa

namespace Go.Proofs.Ytnfmdenclkdmbaa
open Go Go.Eng
set_option maxRecDepth 100000

/-! ### F25: ceiling/num.Join -/
inductive R25 where
  | r (x0c0 : Int) (x0c1 : Int)
abbrev TF25 := Int → Int → Int → Int → Option R25
def sgF25 : LSh := ⟨[(0, .agg [.cell (.int .i64), .cell (.int .i64)]), (1, .agg [.cell (.int .i64), .cell (.int .i64)])], []⟩
def FFF25 (Fx : TF25) (s : St) : Option R25 := Fx (((Eng.look s.env 0).cells.getD 0 .top).toI) (((Eng.look s.env 0).cells.getD 1 .top).toI) (((Eng.look s.env 1).cells.getD 0 .top).toI) (((Eng.look s.env 1).cells.getD 1 .top).toI)
def valF25 (o : R25) : AV := match o with | .r x0c0 x0c1 => .agg [.int .i64 x0c0, .int .i64 x0c1]
def memF25 (o : R25) : List Blk := match o with | .r x0c0 x0c1 => []
def elF25 {R : Type} (o : R25) (k : AV → List Blk → Option R) : Option R := match o with | .r x0c0 x0c1 => k (.agg [.int .i64 x0c0, .int .i64 x0c1]) []
def RecOkF25 (Fx : TF25) : Prop := ∀ lk M o, FFF25 Fx (canS sgF25 lk M) = some o → FCalls CX 25 0 (argsE 2 (canS sgF25 lk M).env) (canS sgF25 lk M).mem (valF25 o) (memF25 o)
noncomputable def csF25 (N : Nat) (R : Type) : List (CE R) := [ce41n0 (F41 N) R (fun _ _ => true), ce42n0 (F42 N) R (fun _ _ => true), ce64n0 (F64 N) R (fun _ _ => true)]
theorem hcsF25 (N : Nat) (R : Type) : AllE (CeOk CX) (csF25 N R) := ⟨okce41n0 (F41 N) (soundF41 N) R (fun _ _ => true), okce42n0 (F42 N) (soundF42 N) R (fun _ _ => true), okce64n0 (F64 N) (soundF64 N) R (fun _ _ => true), trivial⟩
noncomputable def T25ur1 (N : Nat) (R : Type) : LTab R := mkTab ⟨31, 2147483647⟩ (csF25 N R) (noY) [] [] []
theorem okT25ur1 (N : Nat) (R : Type) : (T25ur1 N R).Ok CX code25 := mkTab_ok (hcsF25 N R) (noY_ok) (trivial) (trivial) (trivial)
def rsF25 : List ResultVar := [.cell 4 29]
def F25 : Nat → TF25
  | 0 => fun _ _ _ _ => none
  | N + 1 => fun x0c0 x0c1 x1c0 x1c1 =>
    match F41 N x0c0 x0c1 with
    | none => none
    | some (.r rx0v1) =>
      match rx0v1 with
      | true =>
        match F41 N x1c0 x1c1 with
        | none => none
        | some (.r rx0v2) =>
          match rx0v2 with
          | true =>
            match F42 N  with
            | none => none
            | some (.r rx0c0v3 rx0c1v3) =>
              some (.r rx0c0v3 rx0c1v3)
          | false =>
            match F41 N x0c0 x0c1 with
            | none => none
            | some (.r rx0v4) =>
              match rx0v4 with
              | true =>
                some (.r x1c0 x1c1)
              | false =>
                match F41 N x1c0 x1c1 with
                | none => none
                | some (.r rx0v5) =>
                  match rx0v5 with
                  | true =>
                    some (.r x0c0 x0c1)
                  | false =>
                    match F64 N x0c0 (([[.int .i64 x0c1], [.int .i64 x1c0], [.int .i64 x1c1]] : List Row)) with
                    | none => none
                    | some (.r rx0c0v6 rx0c1v6) =>
                      some (.r rx0c0v6 rx0c1v6)
      | false =>
        match F41 N x0c0 x0c1 with
        | none => none
        | some (.r rx0v7) =>
          match rx0v7 with
          | true =>
            some (.r x1c0 x1c1)
          | false =>
            match F41 N x1c0 x1c1 with
            | none => none
            | some (.r rx0v8) =>
              match rx0v8 with
              | true =>
                some (.r x0c0 x0c1)
              | false =>
                match F64 N x0c0 (([[.int .i64 x0c1], [.int .i64 x1c0], [.int .i64 x1c1]] : List Row)) with
                | none => none
                | some (.r rx0c0v9 rx0c1v9) =>
                  some (.r rx0c0v9 rx0c1v9)
def xRF25 : XSh R25 := ⟨[], ⟨[(0, .agg [.cell (.int .i64), .cell (.int .i64)])], []⟩, fun _ => [], fun s => .r (((Eng.look s.env 0).cells.getD 0 .top).toI) (((Eng.look s.env 0).cells.getD 1 .top).toI)⟩
theorem fsF25 : ∀ (N : Nat) (lk : Nat → AV) (M : List Blk), FFF25 (F25 (N + 1)) (canS sgF25 lk M) = evfn CX (T25ur1 N R25) code25 rsF25 (argsE 2 (canS sgF25 lk M).env) (canS sgF25 lk M).mem (goR CX 0 (fun _ => some xRF25)) := by intro N lk M; kernel_rfl
theorem soundF25 : ∀ N, RecOkF25 (F25 N)
  | 0, lk, M, o, h => by cases h
  | N + 1, lk, M, o, h => fn_sound hX (okT25ur1 N R25) Try.func25 hb25 rfl en25 (by kernel_rfl) (ys := fun _ => some xRF25) (fun st y h => by injection h with h; subst h; exact fun lk M => ⟨rfl, rfl⟩) ((fsF25 N lk M).symm.trans h)
def cvce25n0 : List Cv := []
def selce25n0 : St → List Nat := fun _ => []
noncomputable def ce25n0 (Fx : TF25) (R : Type) (test : List AV → List Blk → Bool) : CE R := ⟨25, test, fun args M => some (selce25n0 ⟨argEnv 0 args, M, [], .unk⟩), fun args M k => tst (Nat.beq args.length 2) (callFn CX 0 cvce25n0 sgF25 selce25n0 (FFF25 Fx) elF25 args M k)⟩
theorem okce25n0 (Fx : TF25) (h : RecOkF25 Fx) (R : Type) (test : List AV → List Blk → Bool) : CeOk CX (ce25n0 Fx R test) := ce_ok hX (fun o k => by cases o; rfl) h en25 (fun args M ids h => by injection h with h; exact ⟨rfl, h.symm⟩)
end Go.Proofs.Ytnfmdenclkdmbaa

namespace Go.Proofs.Ytnfmdenclkdmbaa
open Go Go.Eng
set_option maxRecDepth 100000

/-! ### F43: ceiling/num.corners -/
inductive R43 where
  | r (x0c0 : Int) (x0c1 : Int)
abbrev TF43 := List Row → List Row → Option R43
def sgF43 : LSh := ⟨[(0, .one (.fn 44)), (1, .one (.cell (.slice 2))), (2, .one (.cell (.slice 2)))], []⟩
def FFF43 (Fx : TF43) (s : St) : Option R43 := Fx ((Eng.look s.env 1).rows) ((Eng.look s.env 2).rows)
def valF43 (o : R43) : AV := match o with | .r x0c0 x0c1 => .agg [.int .i64 x0c0, .int .i64 x0c1]
def memF43 (o : R43) : List Blk := match o with | .r x0c0 x0c1 => []
def elF43 {R : Type} (o : R43) (k : AV → List Blk → Option R) : Option R := match o with | .r x0c0 x0c1 => k (.agg [.int .i64 x0c0, .int .i64 x0c1]) []
def RecOkF43 (Fx : TF43) : Prop := ∀ lk M o, FFF43 Fx (canS sgF43 lk M) = some o → FCalls CX 43 0 (argsE 3 (canS sgF43 lk M).env) (canS sgF43 lk M).mem (valF43 o) (memF43 o)
noncomputable def csF43 (N : Nat) (R : Type) : List (CE R) := [ce25n0 (F25 N) R (fun _ _ => true), ce42n0 (F42 N) R (fun _ _ => true), ce44n0 (F44 N) R (fun _ _ => true), ce64n1 (F64 N) R (fun _ _ => true), ce65n0 (F65 N) R (fun _ _ => true)]
theorem hcsF43 (N : Nat) (R : Type) : AllE (CeOk CX) (csF43 N R) := ⟨okce25n0 (F25 N) (soundF25 N) R (fun _ _ => true), okce42n0 (F42 N) (soundF42 N) R (fun _ _ => true), okce44n0 (F44 N) (soundF44 N) R (fun _ _ => true), okce64n1 (F64 N) (soundF64 N) R (fun _ _ => true), okce65n0 (F65 N) (soundF65 N) R (fun _ _ => true), trivial⟩
inductive OL43a14950 where
  | ret (b0c0 : Int) (b0c1 : Int) (b1c0 : Int) (b1c1 : Int)
  | x2 (b0c0 : Int) (b0c1 : Int) (b1c0 : Int) (b1c1 : Int)
def L43a14950 (N : Nat) : Nat → Int → List Row → Int → Int → Int → Int → Int → Int → Option OL43a14950
  | 0 => fun _ _ _ _ _ _ _ _ => none
  | n + 1 => fun x9 x21 x22 x23 b0c0 b0c1 b1c0 b1c1 =>
    match decide (x23 < x22) with
    | true =>
      tst (decide ((0 : Int) ≤ x23) && decide (x23 < ((x21.length : Int)))) <|
      match F44 N x9 ((((x21.getD x23.toNat [])).getD 0 .top).toI) with
      | none => none
      | some (.r rx0v2 rx1v2) =>
        match !rx1v2 with
        | true =>
          match F65 N  with
          | none => none
          | some (.r rx0c0v3 rx0c1v3) =>
            some (.ret rx0c0v3 rx0c1v3 b1c0 b1c1)
        | false =>
          match F64 N rx0v2 ([]) with
          | none => none
          | some (.r rx0c0v4 rx0c1v4) =>
            match F25 N b1c0 b1c1 rx0c0v4 rx0c1v4 with
            | none => none
            | some (.r rx0c0v5 rx0c1v5) =>
              L43a14950 N n x9 x21 x22 (IntKind.wrap .i64 (x23 + (1 : Int))) b0c0 b0c1 rx0c0v5 rx0c1v5
    | false =>
      some (.x2 b0c0 b0c1 b1c0 b1c1)
def LFL43a14950 (N : Nat) (n : Nat) (s : St) : Option OL43a14950 := L43a14950 N n ((Eng.look s.env 9).toI) ((Eng.look s.env 21).rows) ((Eng.look s.env 22).toI) ((Eng.look s.env 23).toI) (((s.mem.getD 0 .dead).cells.getD 0 .top).toI) (((s.mem.getD 0 .dead).cells.getD 1 .top).toI) (((s.mem.getD 1 .dead).cells.getD 0 .top).toI) (((s.mem.getD 1 .dead).cells.getD 1 .top).toI)
def sgL43a14950 : LSh := ⟨[(0, .one (.fn 44)), (6, .one (.ptr 0 0 0)), (7, .one (.ptr 1 0 0)), (9, .one (.cell (.int .i64))), (21, .one (.cell (.slice 2))), (22, .one (.cell (.int .i64))), (23, .one (.cell (.int .i64)))], [.var [.int .i64, .int .i64] [.cell (.int .i64), .cell (.int .i64)], .var [.int .i64, .int .i64] [.cell (.int .i64), .cell (.int .i64)]]⟩
def ceL43a14950 : List Cv := []
def seL43a14950 : St → List Nat := fun st => [(Eng.look st.env 6).id, (Eng.look st.env 7).id]
def xL43a14950wret : XSh OL43a14950 := ⟨[], ⟨[], [.var [.int .i64, .int .i64] [.cell (.int .i64), .cell (.int .i64)], .var [.int .i64, .int .i64] [.cell (.int .i64), .cell (.int .i64)]]⟩, fun st => [0, 1], fun s => .ret (((s.mem.getD 0 .dead).cells.getD 0 .top).toI) (((s.mem.getD 0 .dead).cells.getD 1 .top).toI) (((s.mem.getD 1 .dead).cells.getD 0 .top).toI) (((s.mem.getD 1 .dead).cells.getD 1 .top).toI)⟩
def xL43a14950wx2 : XSh OL43a14950 := ⟨[], ⟨[], [.var [.int .i64, .int .i64] [.cell (.int .i64), .cell (.int .i64)], .var [.int .i64, .int .i64] [.cell (.int .i64), .cell (.int .i64)]]⟩, fun st => [0, 1], fun s => .x2 (((s.mem.getD 0 .dead).cells.getD 0 .top).toI) (((s.mem.getD 0 .dead).cells.getD 1 .top).toI) (((s.mem.getD 1 .dead).cells.getD 0 .top).toI) (((s.mem.getD 1 .dead).cells.getD 1 .top).toI)⟩
def xsL43a14950 : Ex → St → Option (XSh OL43a14950) := fun e st => match e with
  | .ret => some xL43a14950wret
  | .exit 2 => some xL43a14950wx2
  | _ => none
def exL43a14950 (o : OL43a14950) : Ex := match o with | .ret b0c0 b0c1 b1c0 b1c1 => .ret | .x2 b0c0 b0c1 b1c0 b1c1 => (.exit 2)
def stL43a14950 (o : OL43a14950) : St := match o with | .ret b0c0 b0c1 b1c0 b1c1 => ⟨[], [.var [.int .i64, .int .i64] [.int .i64 b0c0, .int .i64 b0c1], .var [.int .i64, .int .i64] [.int .i64 b1c0, .int .i64 b1c1]], [], .unk⟩ | .x2 b0c0 b0c1 b1c0 b1c1 => ⟨[], [.var [.int .i64, .int .i64] [.int .i64 b0c0, .int .i64 b0c1], .var [.int .i64, .int .i64] [.int .i64 b1c0, .int .i64 b1c1]], [], .unk⟩
def elL43a14950 {R : Type} (o : OL43a14950) (k : Ex → St → Option R) : Option R := match o with | .ret b0c0 b0c1 b1c0 b1c1 => k .ret ⟨[], [.var [.int .i64, .int .i64] [.int .i64 b0c0, .int .i64 b0c1], .var [.int .i64, .int .i64] [.int .i64 b1c0, .int .i64 b1c1]], [], .unk⟩ | .x2 b0c0 b0c1 b1c0 b1c1 => k (.exit 2) ⟨[], [.var [.int .i64, .int .i64] [.int .i64 b0c0, .int .i64 b0c1], .var [.int .i64, .int .i64] [.int .i64 b1c0, .int .i64 b1c1]], [], .unk⟩
theorem heL43a14950 {R : Type} (o : OL43a14950) (k : Ex → St → Option R) : elL43a14950 o k = k (exL43a14950 o) (stL43a14950 o) := by cases o <;> rfl
theorem hxL43a14950 : ∀ e st x, xsL43a14950 e st = some x → outOk x e exL43a14950 stL43a14950 := by
  intro e st x h
  unfold xsL43a14950 at h
  repeat' split at h
  all_goals first
    | (injection h with h; subst h; exact fun lk M => ⟨rfl, rfl⟩)
    | cases h
noncomputable def T43ul14950 (N : Nat) (R : Type) : LTab R := mkTab ⟨44, 4398038136832⟩ (csF43 N R) (noY) [] [] []
theorem okT43ul14950 (N : Nat) (R : Type) : (T43ul14950 N R).Ok CX code43 := mkTab_ok (hcsF43 N R) (noY_ok) (trivial) (trivial) (trivial)
noncomputable def bdL43a14950 : Code := match codeAt code43 [false, true, true, false, false, true, true, false, false, true, false, true, true] with | some (.loop c) => c | _ => .skip
theorem hsL43a14950 (N : Nat) : ∀ (n : Nat) (lk : Nat → AV) (M : List Blk), LFL43a14950 N (n + 1) (canS sgL43a14950 lk M) = evk CX (T43ul14950 N OL43a14950) bdL43a14950 (2 * 14950) (canS sgL43a14950 lk M) (kont CX 2 [] sgL43a14950 (fun st => [0, 1]) xsL43a14950 (LFL43a14950 N n)) := by intro n lk M; kernel_rfl
inductive OL43a58 where
  | ret (b0c0 : Int) (b0c1 : Int) (b1c0 : Int) (b1c1 : Int)
  | x0 (b0c0 : Int) (b0c1 : Int) (b1c0 : Int) (b1c1 : Int)
def L43a58 (N : Nat) : Nat → List Row → List Row → Int → Int → Int → Int → Int → Int → Option OL43a58
  | 0 => fun _ _ _ _ _ _ _ _ => none
  | n + 1 => fun x2 x15 x16 x17 b0c0 b0c1 b1c0 b1c1 =>
    match decide (x17 < x16) with
    | true =>
      tst (decide ((0 : Int) ≤ x17) && decide (x17 < ((x15.length : Int)))) <|
      match L43a14950 N N ((((x15.getD x17.toNat [])).getD 0 .top).toI) x2 ((x2.length : Int)) 0 b0c0 b0c1 b1c0 b1c1 with
      | none => none
      | some (.ret b0c0v6 b0c1v6 b1c0v6 b1c1v6) =>
        some (.ret b0c0v6 b0c1v6 b1c0v6 b1c1v6)
      | some (.x2 b0c0v7 b0c1v7 b1c0v7 b1c1v7) =>
        L43a58 N n x2 x15 x16 (IntKind.wrap .i64 (x17 + (1 : Int))) b0c0v7 b0c1v7 b1c0v7 b1c1v7
    | false =>
      some (.x0 b0c0 b0c1 b1c0 b1c1)
def LFL43a58 (N : Nat) (n : Nat) (s : St) : Option OL43a58 := L43a58 N n ((Eng.look s.env 2).rows) ((Eng.look s.env 15).rows) ((Eng.look s.env 16).toI) ((Eng.look s.env 17).toI) (((s.mem.getD 0 .dead).cells.getD 0 .top).toI) (((s.mem.getD 0 .dead).cells.getD 1 .top).toI) (((s.mem.getD 1 .dead).cells.getD 0 .top).toI) (((s.mem.getD 1 .dead).cells.getD 1 .top).toI)
def sgL43a58 : LSh := ⟨[(0, .one (.fn 44)), (2, .one (.cell (.slice 2))), (6, .one (.ptr 0 0 0)), (7, .one (.ptr 1 0 0)), (15, .one (.cell (.slice 2))), (16, .one (.cell (.int .i64))), (17, .one (.cell (.int .i64)))], [.var [.int .i64, .int .i64] [.cell (.int .i64), .cell (.int .i64)], .var [.int .i64, .int .i64] [.cell (.int .i64), .cell (.int .i64)]]⟩
def ceL43a58 : List Cv := []
def seL43a58 : St → List Nat := fun st => [(Eng.look st.env 6).id, (Eng.look st.env 7).id]
def xL43a58wret : XSh OL43a58 := ⟨[], ⟨[], [.var [.int .i64, .int .i64] [.cell (.int .i64), .cell (.int .i64)], .var [.int .i64, .int .i64] [.cell (.int .i64), .cell (.int .i64)]]⟩, fun st => [0, 1], fun s => .ret (((s.mem.getD 0 .dead).cells.getD 0 .top).toI) (((s.mem.getD 0 .dead).cells.getD 1 .top).toI) (((s.mem.getD 1 .dead).cells.getD 0 .top).toI) (((s.mem.getD 1 .dead).cells.getD 1 .top).toI)⟩
def xL43a58wx0 : XSh OL43a58 := ⟨[], ⟨[], [.var [.int .i64, .int .i64] [.cell (.int .i64), .cell (.int .i64)], .var [.int .i64, .int .i64] [.cell (.int .i64), .cell (.int .i64)]]⟩, fun st => [0, 1], fun s => .x0 (((s.mem.getD 0 .dead).cells.getD 0 .top).toI) (((s.mem.getD 0 .dead).cells.getD 1 .top).toI) (((s.mem.getD 1 .dead).cells.getD 0 .top).toI) (((s.mem.getD 1 .dead).cells.getD 1 .top).toI)⟩
def xsL43a58 : Ex → St → Option (XSh OL43a58) := fun e st => match e with
  | .ret => some xL43a58wret
  | .exit 0 => some xL43a58wx0
  | _ => none
def exL43a58 (o : OL43a58) : Ex := match o with | .ret b0c0 b0c1 b1c0 b1c1 => .ret | .x0 b0c0 b0c1 b1c0 b1c1 => (.exit 0)
def stL43a58 (o : OL43a58) : St := match o with | .ret b0c0 b0c1 b1c0 b1c1 => ⟨[], [.var [.int .i64, .int .i64] [.int .i64 b0c0, .int .i64 b0c1], .var [.int .i64, .int .i64] [.int .i64 b1c0, .int .i64 b1c1]], [], .unk⟩ | .x0 b0c0 b0c1 b1c0 b1c1 => ⟨[], [.var [.int .i64, .int .i64] [.int .i64 b0c0, .int .i64 b0c1], .var [.int .i64, .int .i64] [.int .i64 b1c0, .int .i64 b1c1]], [], .unk⟩
def elL43a58 {R : Type} (o : OL43a58) (k : Ex → St → Option R) : Option R := match o with | .ret b0c0 b0c1 b1c0 b1c1 => k .ret ⟨[], [.var [.int .i64, .int .i64] [.int .i64 b0c0, .int .i64 b0c1], .var [.int .i64, .int .i64] [.int .i64 b1c0, .int .i64 b1c1]], [], .unk⟩ | .x0 b0c0 b0c1 b1c0 b1c1 => k (.exit 0) ⟨[], [.var [.int .i64, .int .i64] [.int .i64 b0c0, .int .i64 b0c1], .var [.int .i64, .int .i64] [.int .i64 b1c0, .int .i64 b1c1]], [], .unk⟩
theorem heL43a58 {R : Type} (o : OL43a58) (k : Ex → St → Option R) : elL43a58 o k = k (exL43a58 o) (stL43a58 o) := by cases o <;> rfl
theorem hxL43a58 : ∀ e st x, xsL43a58 e st = some x → outOk x e exL43a58 stL43a58 := by
  intro e st x h
  unfold xsL43a58 at h
  repeat' split at h
  all_goals first
    | (injection h with h; subst h; exact fun lk M => ⟨rfl, rfl⟩)
    | cases h
noncomputable def T43ul58 (N : Nat) (R : Type) : LTab R := mkTab ⟨44, 8796092905984⟩ (csF43 N R) (noY) [(14950, fun st k => callLoop CX 2 4398038136832 ceL43a14950 sgL43a14950 seL43a14950 ⟨44, 8796092905984⟩ (LFL43a14950 N N) elL43a14950 st k)] [] []
theorem okT43ul58 (N : Nat) (R : Type) : (T43ul58 N R).Ok CX code43 := mkTab_ok (hcsF43 N R) (noY_ok) (⟨loop_ok hX (path := [false, true, true, false, false, true, true, false, false, true, false, true, true]) (by kernel_rfl) (by rfl) (okT43ul14950 N OL43a14950) (fun _ _ => rfl) (hsL43a14950 N) hxL43a14950 rfl heL43a14950, trivial⟩) (trivial) (trivial)
noncomputable def bdL43a58 : Code := match codeAt code43 [false, true, false, true, true] with | some (.loop c) => c | _ => .skip
theorem hsL43a58 (N : Nat) : ∀ (n : Nat) (lk : Nat → AV) (M : List Blk), LFL43a58 N (n + 1) (canS sgL43a58 lk M) = evk CX (T43ul58 N OL43a58) bdL43a58 (2 * 58) (canS sgL43a58 lk M) (kont CX 2 [] sgL43a58 (fun st => [0, 1]) xsL43a58 (LFL43a58 N n)) := by intro n lk M; kernel_rfl
noncomputable def T43ur1 (N : Nat) (R : Type) : LTab R := mkTab ⟨44, 17592186044415⟩ (csF43 N R) (noY) [(58, fun st k => callLoop CX 2 8796092905984 ceL43a58 sgL43a58 seL43a58 ⟨44, 17592186044415⟩ (LFL43a58 N N) elL43a58 st k)] [] []
theorem okT43ur1 (N : Nat) (R : Type) : (T43ur1 N R).Ok CX code43 := mkTab_ok (hcsF43 N R) (noY_ok) (⟨loop_ok hX (path := [false, true, false, true, true]) (by kernel_rfl) (by rfl) (okT43ul58 N OL43a58) (fun _ _ => rfl) (hsL43a58 N) hxL43a58 rfl heL43a58, trivial⟩) (trivial) (trivial)
def rsF43 : List ResultVar := [.cell 6 29]
def F43 : Nat → TF43
  | 0 => fun _ _ => none
  | N + 1 => fun x1 x2 =>
    match F42 N  with
    | none => none
    | some (.r rx0c0v1 rx0c1v1) =>
      match L43a58 N N x2 x1 ((x1.length : Int)) 0 0 0 rx0c0v1 rx0c1v1 with
      | none => none
      | some (.ret b0c0v8 b0c1v8 b1c0v8 b1c1v8) =>
        some (.r b0c0v8 b0c1v8)
      | some (.x0 b0c0v9 b0c1v9 b1c0v9 b1c1v9) =>
        some (.r b1c0v9 b1c1v9)
def xRF43 : XSh R43 := ⟨[], ⟨[(0, .agg [.cell (.int .i64), .cell (.int .i64)])], []⟩, fun _ => [], fun s => .r (((Eng.look s.env 0).cells.getD 0 .top).toI) (((Eng.look s.env 0).cells.getD 1 .top).toI)⟩
theorem fsF43 : ∀ (N : Nat) (lk : Nat → AV) (M : List Blk), FFF43 (F43 (N + 1)) (canS sgF43 lk M) = evfn CX (T43ur1 N R43) code43 rsF43 (argsE 3 (canS sgF43 lk M).env) (canS sgF43 lk M).mem (goR CX 0 (fun _ => some xRF43)) := by intro N lk M; kernel_rfl
theorem soundF43 : ∀ N, RecOkF43 (F43 N)
  | 0, lk, M, o, h => by cases h
  | N + 1, lk, M, o, h => fn_sound hX (okT43ur1 N R43) Try.func43 hb43 rfl en43 (by kernel_rfl) (ys := fun _ => some xRF43) (fun st y h => by injection h with h; subst h; exact fun lk M => ⟨rfl, rfl⟩) ((fsF43 N lk M).symm.trans h)
def cvce43n0 : List Cv := []
def selce43n0 : St → List Nat := fun _ => []
noncomputable def ce43n0 (Fx : TF43) (R : Type) (test : List AV → List Blk → Bool) : CE R := ⟨43, test, fun args M => some (selce43n0 ⟨argEnv 0 args, M, [], .unk⟩), fun args M k => tst (Nat.beq args.length 3) (callFn CX 0 cvce43n0 sgF43 selce43n0 (FFF43 Fx) elF43 args M k)⟩
theorem okce43n0 (Fx : TF43) (h : RecOkF43 Fx) (R : Type) (test : List AV → List Blk → Bool) : CeOk CX (ce43n0 Fx R test) := ce_ok hX (fun o k => by cases o; rfl) h en43 (fun args M ids h => by injection h with h; exact ⟨rfl, h.symm⟩)
end Go.Proofs.Ytnfmdenclkdmbaa

namespace Go.Proofs.Ytnfmdenclkdmbaa
open Go Go.Eng
set_option maxRecDepth 100000

/-! ### F45: ceiling/num.difference -/
inductive R45 where
  | r (x0 : Int) (x1 : Bool)
abbrev TF45 := Int → Int → Option R45
def sgF45 : LSh := ⟨[(0, .one (.cell (.int .i64))), (1, .one (.cell (.int .i64)))], []⟩
def FFF45 (Fx : TF45) (s : St) : Option R45 := Fx ((Eng.look s.env 0).toI) ((Eng.look s.env 1).toI)
def valF45 (o : R45) : AV := match o with | .r x0 x1 => .tup [.int .i64 x0, .bool x1]
def memF45 (o : R45) : List Blk := match o with | .r x0 x1 => []
def elF45 {R : Type} (o : R45) (k : AV → List Blk → Option R) : Option R := match o with | .r x0 x1 => k (.tup [.int .i64 x0, .bool x1]) []
def RecOkF45 (Fx : TF45) : Prop := ∀ lk M o, FFF45 Fx (canS sgF45 lk M) = some o → FCalls CX 45 0 (argsE 2 (canS sgF45 lk M).env) (canS sgF45 lk M).mem (valF45 o) (memF45 o)
noncomputable def csF45 (N : Nat) (R : Type) : List (CE R) := []
theorem hcsF45 (N : Nat) (R : Type) : AllE (CeOk CX) (csF45 N R) := trivial
noncomputable def T45ur1 (N : Nat) (R : Type) : LTab R := mkTab ⟨19, 524287⟩ (csF45 N R) (noY) [] [] []
theorem okT45ur1 (N : Nat) (R : Type) : (T45ur1 N R).Ok CX code45 := mkTab_ok (hcsF45 N R) (noY_ok) (trivial) (trivial) (trivial)
def rsF45 : List ResultVar := [.tmp 4, .tmp 5]
def F45 : Nat → TF45
  | 0 => fun _ _ => none
  | N + 1 => fun x0 x1 =>
    some (.r (IntKind.wrap .i64 (x0 - x1)) (decide ((0 : Int) ≤ (IntKind.wrap .i64 ((BitVec.ofInt 64 (IntKind.wrap .i64 ((BitVec.ofInt 64 x0 ^^^ BitVec.ofInt 64 x1).toNat : Int)) &&& BitVec.ofInt 64 (IntKind.wrap .i64 ((BitVec.ofInt 64 x0 ^^^ BitVec.ofInt 64 (IntKind.wrap .i64 (x0 - x1))).toNat : Int))).toNat : Int)))))
def xRF45 : XSh R45 := ⟨[], ⟨[(0, .one (.cell (.int .i64))), (1, .one (.cell (.bool)))], []⟩, fun _ => [], fun s => .r ((Eng.look s.env 0).toI) ((Eng.look s.env 1).toB)⟩
theorem fsF45 : ∀ (N : Nat) (lk : Nat → AV) (M : List Blk), FFF45 (F45 (N + 1)) (canS sgF45 lk M) = evfn CX (T45ur1 N R45) code45 rsF45 (argsE 2 (canS sgF45 lk M).env) (canS sgF45 lk M).mem (goRt CX 0 2 (fun _ => some xRF45)) := by intro N lk M; kernel_rfl
theorem soundF45 : ∀ N, RecOkF45 (F45 N)
  | 0, lk, M, o, h => by cases h
  | N + 1, lk, M, o, h => fn_soundt hX (okT45ur1 N R45) Try.func45 hb45 rfl en45 (by kernel_rfl) (ys := fun _ => some xRF45) (fun st y h => by injection h with h; subst h; exact fun lk M => ⟨rfl, rfl⟩) ((fsF45 N lk M).symm.trans h)
def cvce45n0 : List Cv := []
def selce45n0 : St → List Nat := fun _ => []
noncomputable def ce45n0 (Fx : TF45) (R : Type) (test : List AV → List Blk → Bool) : CE R := ⟨45, test, fun args M => some (selce45n0 ⟨argEnv 0 args, M, [], .unk⟩), fun args M k => tst (Nat.beq args.length 2) (callFn CX 0 cvce45n0 sgF45 selce45n0 (FFF45 Fx) elF45 args M k)⟩
theorem okce45n0 (Fx : TF45) (h : RecOkF45 Fx) (R : Type) (test : List AV → List Blk → Bool) : CeOk CX (ce45n0 Fx R test) := ce_ok hX (fun o k => by cases o; rfl) h en45 (fun args M ids h => by injection h with h; exact ⟨rfl, h.symm⟩)
end Go.Proofs.Ytnfmdenclkdmbaa

namespace Go.Proofs.Ytnfmdenclkdmbaa
open Go Go.Eng
set_option maxRecDepth 100000

/-! ### F43v1: ceiling/num.corners -/
inductive R43v1 where
  | r (x0c0 : Int) (x0c1 : Int)
abbrev TF43v1 := List Row → List Row → Option R43v1
def sgF43v1 : LSh := ⟨[(0, .one (.fn 45)), (1, .one (.cell (.slice 2))), (2, .one (.cell (.slice 2)))], []⟩
def FFF43v1 (Fx : TF43v1) (s : St) : Option R43v1 := Fx ((Eng.look s.env 1).rows) ((Eng.look s.env 2).rows)
def valF43v1 (o : R43v1) : AV := match o with | .r x0c0 x0c1 => .agg [.int .i64 x0c0, .int .i64 x0c1]
def memF43v1 (o : R43v1) : List Blk := match o with | .r x0c0 x0c1 => []
def elF43v1 {R : Type} (o : R43v1) (k : AV → List Blk → Option R) : Option R := match o with | .r x0c0 x0c1 => k (.agg [.int .i64 x0c0, .int .i64 x0c1]) []
def RecOkF43v1 (Fx : TF43v1) : Prop := ∀ lk M o, FFF43v1 Fx (canS sgF43v1 lk M) = some o → FCalls CX 43 0 (argsE 3 (canS sgF43v1 lk M).env) (canS sgF43v1 lk M).mem (valF43v1 o) (memF43v1 o)
noncomputable def csF43v1 (N : Nat) (R : Type) : List (CE R) := [ce25n0 (F25 N) R (fun _ _ => true), ce42n0 (F42 N) R (fun _ _ => true), ce45n0 (F45 N) R (fun _ _ => true), ce64n1 (F64 N) R (fun _ _ => true), ce65n0 (F65 N) R (fun _ _ => true)]
theorem hcsF43v1 (N : Nat) (R : Type) : AllE (CeOk CX) (csF43v1 N R) := ⟨okce25n0 (F25 N) (soundF25 N) R (fun _ _ => true), okce42n0 (F42 N) (soundF42 N) R (fun _ _ => true), okce45n0 (F45 N) (soundF45 N) R (fun _ _ => true), okce64n1 (F64 N) (soundF64 N) R (fun _ _ => true), okce65n0 (F65 N) (soundF65 N) R (fun _ _ => true), trivial⟩
inductive OL43v1a14950 where
  | ret (b0c0 : Int) (b0c1 : Int) (b1c0 : Int) (b1c1 : Int)
  | x2 (b0c0 : Int) (b0c1 : Int) (b1c0 : Int) (b1c1 : Int)
def L43v1a14950 (N : Nat) : Nat → Int → List Row → Int → Int → Int → Int → Int → Int → Option OL43v1a14950
  | 0 => fun _ _ _ _ _ _ _ _ => none
  | n + 1 => fun x9 x21 x22 x23 b0c0 b0c1 b1c0 b1c1 =>
    match decide (x23 < x22) with
    | true =>
      tst (decide ((0 : Int) ≤ x23) && decide (x23 < ((x21.length : Int)))) <|
      match F45 N x9 ((((x21.getD x23.toNat [])).getD 0 .top).toI) with
      | none => none
      | some (.r rx0v2 rx1v2) =>
        match !rx1v2 with
        | true =>
          match F65 N  with
          | none => none
          | some (.r rx0c0v3 rx0c1v3) =>
            some (.ret rx0c0v3 rx0c1v3 b1c0 b1c1)
        | false =>
          match F64 N rx0v2 ([]) with
          | none => none
          | some (.r rx0c0v4 rx0c1v4) =>
            match F25 N b1c0 b1c1 rx0c0v4 rx0c1v4 with
            | none => none
            | some (.r rx0c0v5 rx0c1v5) =>
              L43v1a14950 N n x9 x21 x22 (IntKind.wrap .i64 (x23 + (1 : Int))) b0c0 b0c1 rx0c0v5 rx0c1v5
    | false =>
      some (.x2 b0c0 b0c1 b1c0 b1c1)
def LFL43v1a14950 (N : Nat) (n : Nat) (s : St) : Option OL43v1a14950 := L43v1a14950 N n ((Eng.look s.env 9).toI) ((Eng.look s.env 21).rows) ((Eng.look s.env 22).toI) ((Eng.look s.env 23).toI) (((s.mem.getD 0 .dead).cells.getD 0 .top).toI) (((s.mem.getD 0 .dead).cells.getD 1 .top).toI) (((s.mem.getD 1 .dead).cells.getD 0 .top).toI) (((s.mem.getD 1 .dead).cells.getD 1 .top).toI)
def sgL43v1a14950 : LSh := ⟨[(0, .one (.fn 45)), (6, .one (.ptr 0 0 0)), (7, .one (.ptr 1 0 0)), (9, .one (.cell (.int .i64))), (21, .one (.cell (.slice 2))), (22, .one (.cell (.int .i64))), (23, .one (.cell (.int .i64)))], [.var [.int .i64, .int .i64] [.cell (.int .i64), .cell (.int .i64)], .var [.int .i64, .int .i64] [.cell (.int .i64), .cell (.int .i64)]]⟩
def ceL43v1a14950 : List Cv := []
def seL43v1a14950 : St → List Nat := fun st => [(Eng.look st.env 6).id, (Eng.look st.env 7).id]
def xL43v1a14950wret : XSh OL43v1a14950 := ⟨[], ⟨[], [.var [.int .i64, .int .i64] [.cell (.int .i64), .cell (.int .i64)], .var [.int .i64, .int .i64] [.cell (.int .i64), .cell (.int .i64)]]⟩, fun st => [0, 1], fun s => .ret (((s.mem.getD 0 .dead).cells.getD 0 .top).toI) (((s.mem.getD 0 .dead).cells.getD 1 .top).toI) (((s.mem.getD 1 .dead).cells.getD 0 .top).toI) (((s.mem.getD 1 .dead).cells.getD 1 .top).toI)⟩
def xL43v1a14950wx2 : XSh OL43v1a14950 := ⟨[], ⟨[], [.var [.int .i64, .int .i64] [.cell (.int .i64), .cell (.int .i64)], .var [.int .i64, .int .i64] [.cell (.int .i64), .cell (.int .i64)]]⟩, fun st => [0, 1], fun s => .x2 (((s.mem.getD 0 .dead).cells.getD 0 .top).toI) (((s.mem.getD 0 .dead).cells.getD 1 .top).toI) (((s.mem.getD 1 .dead).cells.getD 0 .top).toI) (((s.mem.getD 1 .dead).cells.getD 1 .top).toI)⟩
def xsL43v1a14950 : Ex → St → Option (XSh OL43v1a14950) := fun e st => match e with
  | .ret => some xL43v1a14950wret
  | .exit 2 => some xL43v1a14950wx2
  | _ => none
def exL43v1a14950 (o : OL43v1a14950) : Ex := match o with | .ret b0c0 b0c1 b1c0 b1c1 => .ret | .x2 b0c0 b0c1 b1c0 b1c1 => (.exit 2)
def stL43v1a14950 (o : OL43v1a14950) : St := match o with | .ret b0c0 b0c1 b1c0 b1c1 => ⟨[], [.var [.int .i64, .int .i64] [.int .i64 b0c0, .int .i64 b0c1], .var [.int .i64, .int .i64] [.int .i64 b1c0, .int .i64 b1c1]], [], .unk⟩ | .x2 b0c0 b0c1 b1c0 b1c1 => ⟨[], [.var [.int .i64, .int .i64] [.int .i64 b0c0, .int .i64 b0c1], .var [.int .i64, .int .i64] [.int .i64 b1c0, .int .i64 b1c1]], [], .unk⟩
def elL43v1a14950 {R : Type} (o : OL43v1a14950) (k : Ex → St → Option R) : Option R := match o with | .ret b0c0 b0c1 b1c0 b1c1 => k .ret ⟨[], [.var [.int .i64, .int .i64] [.int .i64 b0c0, .int .i64 b0c1], .var [.int .i64, .int .i64] [.int .i64 b1c0, .int .i64 b1c1]], [], .unk⟩ | .x2 b0c0 b0c1 b1c0 b1c1 => k (.exit 2) ⟨[], [.var [.int .i64, .int .i64] [.int .i64 b0c0, .int .i64 b0c1], .var [.int .i64, .int .i64] [.int .i64 b1c0, .int .i64 b1c1]], [], .unk⟩
theorem heL43v1a14950 {R : Type} (o : OL43v1a14950) (k : Ex → St → Option R) : elL43v1a14950 o k = k (exL43v1a14950 o) (stL43v1a14950 o) := by cases o <;> rfl
theorem hxL43v1a14950 : ∀ e st x, xsL43v1a14950 e st = some x → outOk x e exL43v1a14950 stL43v1a14950 := by
  intro e st x h
  unfold xsL43v1a14950 at h
  repeat' split at h
  all_goals first
    | (injection h with h; subst h; exact fun lk M => ⟨rfl, rfl⟩)
    | cases h
noncomputable def T43v1ul14950 (N : Nat) (R : Type) : LTab R := mkTab ⟨44, 4398038136832⟩ (csF43v1 N R) (noY) [] [] []
theorem okT43v1ul14950 (N : Nat) (R : Type) : (T43v1ul14950 N R).Ok CX code43 := mkTab_ok (hcsF43v1 N R) (noY_ok) (trivial) (trivial) (trivial)
noncomputable def bdL43v1a14950 : Code := match codeAt code43 [false, true, true, false, false, true, true, false, false, true, false, true, true] with | some (.loop c) => c | _ => .skip
theorem hsL43v1a14950 (N : Nat) : ∀ (n : Nat) (lk : Nat → AV) (M : List Blk), LFL43v1a14950 N (n + 1) (canS sgL43v1a14950 lk M) = evk CX (T43v1ul14950 N OL43v1a14950) bdL43v1a14950 (2 * 14950) (canS sgL43v1a14950 lk M) (kont CX 2 [] sgL43v1a14950 (fun st => [0, 1]) xsL43v1a14950 (LFL43v1a14950 N n)) := by intro n lk M; kernel_rfl
inductive OL43v1a58 where
  | ret (b0c0 : Int) (b0c1 : Int) (b1c0 : Int) (b1c1 : Int)
  | x0 (b0c0 : Int) (b0c1 : Int) (b1c0 : Int) (b1c1 : Int)
def L43v1a58 (N : Nat) : Nat → List Row → List Row → Int → Int → Int → Int → Int → Int → Option OL43v1a58
  | 0 => fun _ _ _ _ _ _ _ _ => none
  | n + 1 => fun x2 x15 x16 x17 b0c0 b0c1 b1c0 b1c1 =>
    match decide (x17 < x16) with
    | true =>
      tst (decide ((0 : Int) ≤ x17) && decide (x17 < ((x15.length : Int)))) <|
      match L43v1a14950 N N ((((x15.getD x17.toNat [])).getD 0 .top).toI) x2 ((x2.length : Int)) 0 b0c0 b0c1 b1c0 b1c1 with
      | none => none
      | some (.ret b0c0v6 b0c1v6 b1c0v6 b1c1v6) =>
        some (.ret b0c0v6 b0c1v6 b1c0v6 b1c1v6)
      | some (.x2 b0c0v7 b0c1v7 b1c0v7 b1c1v7) =>
        L43v1a58 N n x2 x15 x16 (IntKind.wrap .i64 (x17 + (1 : Int))) b0c0v7 b0c1v7 b1c0v7 b1c1v7
    | false =>
      some (.x0 b0c0 b0c1 b1c0 b1c1)
def LFL43v1a58 (N : Nat) (n : Nat) (s : St) : Option OL43v1a58 := L43v1a58 N n ((Eng.look s.env 2).rows) ((Eng.look s.env 15).rows) ((Eng.look s.env 16).toI) ((Eng.look s.env 17).toI) (((s.mem.getD 0 .dead).cells.getD 0 .top).toI) (((s.mem.getD 0 .dead).cells.getD 1 .top).toI) (((s.mem.getD 1 .dead).cells.getD 0 .top).toI) (((s.mem.getD 1 .dead).cells.getD 1 .top).toI)
def sgL43v1a58 : LSh := ⟨[(0, .one (.fn 45)), (2, .one (.cell (.slice 2))), (6, .one (.ptr 0 0 0)), (7, .one (.ptr 1 0 0)), (15, .one (.cell (.slice 2))), (16, .one (.cell (.int .i64))), (17, .one (.cell (.int .i64)))], [.var [.int .i64, .int .i64] [.cell (.int .i64), .cell (.int .i64)], .var [.int .i64, .int .i64] [.cell (.int .i64), .cell (.int .i64)]]⟩
def ceL43v1a58 : List Cv := []
def seL43v1a58 : St → List Nat := fun st => [(Eng.look st.env 6).id, (Eng.look st.env 7).id]
def xL43v1a58wret : XSh OL43v1a58 := ⟨[], ⟨[], [.var [.int .i64, .int .i64] [.cell (.int .i64), .cell (.int .i64)], .var [.int .i64, .int .i64] [.cell (.int .i64), .cell (.int .i64)]]⟩, fun st => [0, 1], fun s => .ret (((s.mem.getD 0 .dead).cells.getD 0 .top).toI) (((s.mem.getD 0 .dead).cells.getD 1 .top).toI) (((s.mem.getD 1 .dead).cells.getD 0 .top).toI) (((s.mem.getD 1 .dead).cells.getD 1 .top).toI)⟩
def xL43v1a58wx0 : XSh OL43v1a58 := ⟨[], ⟨[], [.var [.int .i64, .int .i64] [.cell (.int .i64), .cell (.int .i64)], .var [.int .i64, .int .i64] [.cell (.int .i64), .cell (.int .i64)]]⟩, fun st => [0, 1], fun s => .x0 (((s.mem.getD 0 .dead).cells.getD 0 .top).toI) (((s.mem.getD 0 .dead).cells.getD 1 .top).toI) (((s.mem.getD 1 .dead).cells.getD 0 .top).toI) (((s.mem.getD 1 .dead).cells.getD 1 .top).toI)⟩
def xsL43v1a58 : Ex → St → Option (XSh OL43v1a58) := fun e st => match e with
  | .ret => some xL43v1a58wret
  | .exit 0 => some xL43v1a58wx0
  | _ => none
def exL43v1a58 (o : OL43v1a58) : Ex := match o with | .ret b0c0 b0c1 b1c0 b1c1 => .ret | .x0 b0c0 b0c1 b1c0 b1c1 => (.exit 0)
def stL43v1a58 (o : OL43v1a58) : St := match o with | .ret b0c0 b0c1 b1c0 b1c1 => ⟨[], [.var [.int .i64, .int .i64] [.int .i64 b0c0, .int .i64 b0c1], .var [.int .i64, .int .i64] [.int .i64 b1c0, .int .i64 b1c1]], [], .unk⟩ | .x0 b0c0 b0c1 b1c0 b1c1 => ⟨[], [.var [.int .i64, .int .i64] [.int .i64 b0c0, .int .i64 b0c1], .var [.int .i64, .int .i64] [.int .i64 b1c0, .int .i64 b1c1]], [], .unk⟩
def elL43v1a58 {R : Type} (o : OL43v1a58) (k : Ex → St → Option R) : Option R := match o with | .ret b0c0 b0c1 b1c0 b1c1 => k .ret ⟨[], [.var [.int .i64, .int .i64] [.int .i64 b0c0, .int .i64 b0c1], .var [.int .i64, .int .i64] [.int .i64 b1c0, .int .i64 b1c1]], [], .unk⟩ | .x0 b0c0 b0c1 b1c0 b1c1 => k (.exit 0) ⟨[], [.var [.int .i64, .int .i64] [.int .i64 b0c0, .int .i64 b0c1], .var [.int .i64, .int .i64] [.int .i64 b1c0, .int .i64 b1c1]], [], .unk⟩
theorem heL43v1a58 {R : Type} (o : OL43v1a58) (k : Ex → St → Option R) : elL43v1a58 o k = k (exL43v1a58 o) (stL43v1a58 o) := by cases o <;> rfl
theorem hxL43v1a58 : ∀ e st x, xsL43v1a58 e st = some x → outOk x e exL43v1a58 stL43v1a58 := by
  intro e st x h
  unfold xsL43v1a58 at h
  repeat' split at h
  all_goals first
    | (injection h with h; subst h; exact fun lk M => ⟨rfl, rfl⟩)
    | cases h
noncomputable def T43v1ul58 (N : Nat) (R : Type) : LTab R := mkTab ⟨44, 8796092905984⟩ (csF43v1 N R) (noY) [(14950, fun st k => callLoop CX 2 4398038136832 ceL43v1a14950 sgL43v1a14950 seL43v1a14950 ⟨44, 8796092905984⟩ (LFL43v1a14950 N N) elL43v1a14950 st k)] [] []
theorem okT43v1ul58 (N : Nat) (R : Type) : (T43v1ul58 N R).Ok CX code43 := mkTab_ok (hcsF43v1 N R) (noY_ok) (⟨loop_ok hX (path := [false, true, true, false, false, true, true, false, false, true, false, true, true]) (by kernel_rfl) (by rfl) (okT43v1ul14950 N OL43v1a14950) (fun _ _ => rfl) (hsL43v1a14950 N) hxL43v1a14950 rfl heL43v1a14950, trivial⟩) (trivial) (trivial)
noncomputable def bdL43v1a58 : Code := match codeAt code43 [false, true, false, true, true] with | some (.loop c) => c | _ => .skip
theorem hsL43v1a58 (N : Nat) : ∀ (n : Nat) (lk : Nat → AV) (M : List Blk), LFL43v1a58 N (n + 1) (canS sgL43v1a58 lk M) = evk CX (T43v1ul58 N OL43v1a58) bdL43v1a58 (2 * 58) (canS sgL43v1a58 lk M) (kont CX 2 [] sgL43v1a58 (fun st => [0, 1]) xsL43v1a58 (LFL43v1a58 N n)) := by intro n lk M; kernel_rfl
noncomputable def T43v1ur1 (N : Nat) (R : Type) : LTab R := mkTab ⟨44, 17592186044415⟩ (csF43v1 N R) (noY) [(58, fun st k => callLoop CX 2 8796092905984 ceL43v1a58 sgL43v1a58 seL43v1a58 ⟨44, 17592186044415⟩ (LFL43v1a58 N N) elL43v1a58 st k)] [] []
theorem okT43v1ur1 (N : Nat) (R : Type) : (T43v1ur1 N R).Ok CX code43 := mkTab_ok (hcsF43v1 N R) (noY_ok) (⟨loop_ok hX (path := [false, true, false, true, true]) (by kernel_rfl) (by rfl) (okT43v1ul58 N OL43v1a58) (fun _ _ => rfl) (hsL43v1a58 N) hxL43v1a58 rfl heL43v1a58, trivial⟩) (trivial) (trivial)
def rsF43v1 : List ResultVar := [.cell 6 29]
def F43v1 : Nat → TF43v1
  | 0 => fun _ _ => none
  | N + 1 => fun x1 x2 =>
    match F42 N  with
    | none => none
    | some (.r rx0c0v1 rx0c1v1) =>
      match L43v1a58 N N x2 x1 ((x1.length : Int)) 0 0 0 rx0c0v1 rx0c1v1 with
      | none => none
      | some (.ret b0c0v8 b0c1v8 b1c0v8 b1c1v8) =>
        some (.r b0c0v8 b0c1v8)
      | some (.x0 b0c0v9 b0c1v9 b1c0v9 b1c1v9) =>
        some (.r b1c0v9 b1c1v9)
def xRF43v1 : XSh R43v1 := ⟨[], ⟨[(0, .agg [.cell (.int .i64), .cell (.int .i64)])], []⟩, fun _ => [], fun s => .r (((Eng.look s.env 0).cells.getD 0 .top).toI) (((Eng.look s.env 0).cells.getD 1 .top).toI)⟩
theorem fsF43v1 : ∀ (N : Nat) (lk : Nat → AV) (M : List Blk), FFF43v1 (F43v1 (N + 1)) (canS sgF43v1 lk M) = evfn CX (T43v1ur1 N R43v1) code43 rsF43v1 (argsE 3 (canS sgF43v1 lk M).env) (canS sgF43v1 lk M).mem (goR CX 0 (fun _ => some xRF43v1)) := by intro N lk M; kernel_rfl
theorem soundF43v1 : ∀ N, RecOkF43v1 (F43v1 N)
  | 0, lk, M, o, h => by cases h
  | N + 1, lk, M, o, h => fn_sound hX (okT43v1ur1 N R43v1) Try.func43 hb43 rfl en43 (by kernel_rfl) (ys := fun _ => some xRF43v1) (fun st y h => by injection h with h; subst h; exact fun lk M => ⟨rfl, rfl⟩) ((fsF43v1 N lk M).symm.trans h)
def cvce43v1n0 : List Cv := []
def selce43v1n0 : St → List Nat := fun _ => []
noncomputable def ce43v1n0 (Fx : TF43v1) (R : Type) (test : List AV → List Blk → Bool) : CE R := ⟨43, test, fun args M => some (selce43v1n0 ⟨argEnv 0 args, M, [], .unk⟩), fun args M k => tst (Nat.beq args.length 3) (callFn CX 0 cvce43v1n0 sgF43v1 selce43v1n0 (FFF43v1 Fx) elF43v1 args M k)⟩
theorem okce43v1n0 (Fx : TF43v1) (h : RecOkF43v1 Fx) (R : Type) (test : List AV → List Blk → Bool) : CeOk CX (ce43v1n0 Fx R test) := ce_ok hX (fun o k => by cases o; rfl) h en43 (fun args M ids h => by injection h with h; exact ⟨rfl, h.symm⟩)
def cvce43v1n1 : List Cv := [.frz 1 (.slice 2)]
def selce43v1n1 : St → List Nat := fun _ => []
noncomputable def ce43v1n1 (Fx : TF43v1) (R : Type) (test : List AV → List Blk → Bool) : CE R := ⟨43, test, fun _ M => some (List.range M.length), fun args M k => tst (Nat.beq args.length 3) (callFn CX 0 cvce43v1n1 sgF43v1 selce43v1n1 (FFF43v1 Fx) elF43v1 args M (fun x M' => tst (Nat.ble M.length M'.length) (k x M')))⟩
theorem okce43v1n1 (Fx : TF43v1) (h : RecOkF43v1 Fx) (R : Type) (test : List AV → List Blk → Bool) : CeOk CX (ce43v1n1 Fx R test) := ce_okc hX (fun o k => by cases o; rfl) h en43
end Go.Proofs.Ytnfmdenclkdmbaa

namespace Go.Proofs.Ytnfmdenclkdmbaa
open Go Go.Eng
set_option maxRecDepth 100000

/-! ### F89: ceiling/num.magnitude -/
inductive R89 where
  | r (x0 : Int)
abbrev TF89 := Int → Option R89
def sgF89 : LSh := ⟨[(0, .one (.cell (.int .i64)))], []⟩
def FFF89 (Fx : TF89) (s : St) : Option R89 := Fx ((Eng.look s.env 0).toI)
def valF89 (o : R89) : AV := match o with | .r x0 => .int .u64 x0
def memF89 (o : R89) : List Blk := match o with | .r x0 => []
def elF89 {R : Type} (o : R89) (k : AV → List Blk → Option R) : Option R := match o with | .r x0 => k (.int .u64 x0) []
def RecOkF89 (Fx : TF89) : Prop := ∀ lk M o, FFF89 Fx (canS sgF89 lk M) = some o → FCalls CX 89 0 (argsE 1 (canS sgF89 lk M).env) (canS sgF89 lk M).mem (valF89 o) (memF89 o)
noncomputable def csF89 (N : Nat) (R : Type) : List (CE R) := []
theorem hcsF89 (N : Nat) (R : Type) : AllE (CeOk CX) (csF89 N R) := trivial
noncomputable def T89ur1 (N : Nat) (R : Type) : LTab R := mkTab ⟨10, 1023⟩ (csF89 N R) (noY) [] [] []
theorem okT89ur1 (N : Nat) (R : Type) : (T89ur1 N R).Ok CX code89 := mkTab_ok (hcsF89 N R) (noY_ok) (trivial) (trivial) (trivial)
def rsF89 : List ResultVar := [.tmp 2]
def F89 : Nat → TF89
  | 0 => fun _ => none
  | N + 1 => fun x0 =>
    match decide (x0 < (0 : Int)) with
    | true =>
      some (.r (IntKind.wrap .u64 (0 - (IntKind.wrap .u64 x0))))
    | false =>
      some (.r (IntKind.wrap .u64 x0))
def xRF89 : XSh R89 := ⟨[], ⟨[(0, .one (.cell (.int .u64)))], []⟩, fun _ => [], fun s => .r ((Eng.look s.env 0).toI)⟩
theorem fsF89 : ∀ (N : Nat) (lk : Nat → AV) (M : List Blk), FFF89 (F89 (N + 1)) (canS sgF89 lk M) = evfn CX (T89ur1 N R89) code89 rsF89 (argsE 1 (canS sgF89 lk M).env) (canS sgF89 lk M).mem (goR CX 0 (fun _ => some xRF89)) := by intro N lk M; kernel_rfl
theorem soundF89 : ∀ N, RecOkF89 (F89 N)
  | 0, lk, M, o, h => by cases h
  | N + 1, lk, M, o, h => fn_sound hX (okT89ur1 N R89) Try.func89 hb89 rfl en89 (by kernel_rfl) (ys := fun _ => some xRF89) (fun st y h => by injection h with h; subst h; exact fun lk M => ⟨rfl, rfl⟩) ((fsF89 N lk M).symm.trans h)
def cvce89n0 : List Cv := []
def selce89n0 : St → List Nat := fun _ => []
noncomputable def ce89n0 (Fx : TF89) (R : Type) (test : List AV → List Blk → Bool) : CE R := ⟨89, test, fun args M => some (selce89n0 ⟨argEnv 0 args, M, [], .unk⟩), fun args M k => tst (Nat.beq args.length 1) (callFn CX 0 cvce89n0 sgF89 selce89n0 (FFF89 Fx) elF89 args M k)⟩
theorem okce89n0 (Fx : TF89) (h : RecOkF89 Fx) (R : Type) (test : List AV → List Blk → Bool) : CeOk CX (ce89n0 Fx R test) := ce_ok hX (fun o k => by cases o; rfl) h en89 (fun args M ids h => by injection h with h; exact ⟨rfl, h.symm⟩)
end Go.Proofs.Ytnfmdenclkdmbaa

namespace Go.Proofs.Ytnfmdenclkdmbaa
open Go Go.Eng
set_option maxRecDepth 100000

/-! ### F88: math/bits.Mul64 -/
inductive R88 where
  | r (x0 : Int) (x1 : Int)
abbrev TF88 := Int → Int → Option R88
def sgF88 : LSh := ⟨[(0, .one (.cell (.int .u64))), (1, .one (.cell (.int .u64)))], []⟩
def FFF88 (Fx : TF88) (s : St) : Option R88 := Fx ((Eng.look s.env 0).toI) ((Eng.look s.env 1).toI)
def valF88 (o : R88) : AV := match o with | .r x0 x1 => .tup [.int .u64 x0, .int .u64 x1]
def memF88 (o : R88) : List Blk := match o with | .r x0 x1 => []
def elF88 {R : Type} (o : R88) (k : AV → List Blk → Option R) : Option R := match o with | .r x0 x1 => k (.tup [.int .u64 x0, .int .u64 x1]) []
def RecOkF88 (Fx : TF88) : Prop := ∀ lk M o, FFF88 Fx (canS sgF88 lk M) = some o → FCalls CX 88 0 (argsE 2 (canS sgF88 lk M).env) (canS sgF88 lk M).mem (valF88 o) (memF88 o)
noncomputable def csF88 (N : Nat) (R : Type) : List (CE R) := []
theorem hcsF88 (N : Nat) (R : Type) : AllE (CeOk CX) (csF88 N R) := trivial
noncomputable def T88ur1 (N : Nat) (R : Type) : LTab R := mkTab ⟨51, 2251799813685247⟩ (csF88 N R) (noY) [] [] []
theorem okT88ur1 (N : Nat) (R : Type) : (T88ur1 N R).Ok CX code88 := mkTab_ok (hcsF88 N R) (noY_ok) (trivial) (trivial) (trivial)
def rsF88 : List ResultVar := [.tmp 4, .tmp 5]
def F88 : Nat → TF88
  | 0 => fun _ _ => none
  | N + 1 => fun x0 x1 =>
    some (.r (IntKind.wrap .u64 ((IntKind.wrap .u64 ((IntKind.wrap .u64 ((Int.fdiv x0 (2 ^ 32)) * (Int.fdiv x1 (2 ^ 32)))) + (Int.fdiv (IntKind.wrap .u64 ((IntKind.wrap .u64 ((Int.fdiv x0 (2 ^ 32)) * (IntKind.wrap .u64 ((BitVec.ofInt 64 x1 &&& BitVec.ofInt 64 (4294967295 : Int)).toNat : Int)))) + (Int.fdiv (IntKind.wrap .u64 ((IntKind.wrap .u64 ((BitVec.ofInt 64 x0 &&& BitVec.ofInt 64 (4294967295 : Int)).toNat : Int)) * (IntKind.wrap .u64 ((BitVec.ofInt 64 x1 &&& BitVec.ofInt 64 (4294967295 : Int)).toNat : Int)))) (2 ^ 32)))) (2 ^ 32)))) + (Int.fdiv (IntKind.wrap .u64 ((IntKind.wrap .u64 ((BitVec.ofInt 64 (IntKind.wrap .u64 ((IntKind.wrap .u64 ((Int.fdiv x0 (2 ^ 32)) * (IntKind.wrap .u64 ((BitVec.ofInt 64 x1 &&& BitVec.ofInt 64 (4294967295 : Int)).toNat : Int)))) + (Int.fdiv (IntKind.wrap .u64 ((IntKind.wrap .u64 ((BitVec.ofInt 64 x0 &&& BitVec.ofInt 64 (4294967295 : Int)).toNat : Int)) * (IntKind.wrap .u64 ((BitVec.ofInt 64 x1 &&& BitVec.ofInt 64 (4294967295 : Int)).toNat : Int)))) (2 ^ 32)))) &&& BitVec.ofInt 64 (4294967295 : Int)).toNat : Int)) + (IntKind.wrap .u64 ((IntKind.wrap .u64 ((BitVec.ofInt 64 x0 &&& BitVec.ofInt 64 (4294967295 : Int)).toNat : Int)) * (Int.fdiv x1 (2 ^ 32)))))) (2 ^ 32)))) (IntKind.wrap .u64 (x0 * x1)))
def xRF88 : XSh R88 := ⟨[], ⟨[(0, .one (.cell (.int .u64))), (1, .one (.cell (.int .u64)))], []⟩, fun _ => [], fun s => .r ((Eng.look s.env 0).toI) ((Eng.look s.env 1).toI)⟩
theorem fsF88 : ∀ (N : Nat) (lk : Nat → AV) (M : List Blk), FFF88 (F88 (N + 1)) (canS sgF88 lk M) = evfn CX (T88ur1 N R88) code88 rsF88 (argsE 2 (canS sgF88 lk M).env) (canS sgF88 lk M).mem (goRt CX 0 2 (fun _ => some xRF88)) := by intro N lk M; kernel_rfl
theorem soundF88 : ∀ N, RecOkF88 (F88 N)
  | 0, lk, M, o, h => by cases h
  | N + 1, lk, M, o, h => fn_soundt hX (okT88ur1 N R88) Try.func88 hb88 rfl en88 (by kernel_rfl) (ys := fun _ => some xRF88) (fun st y h => by injection h with h; subst h; exact fun lk M => ⟨rfl, rfl⟩) ((fsF88 N lk M).symm.trans h)
def cvce88n0 : List Cv := []
def selce88n0 : St → List Nat := fun _ => []
noncomputable def ce88n0 (Fx : TF88) (R : Type) (test : List AV → List Blk → Bool) : CE R := ⟨88, test, fun args M => some (selce88n0 ⟨argEnv 0 args, M, [], .unk⟩), fun args M k => tst (Nat.beq args.length 2) (callFn CX 0 cvce88n0 sgF88 selce88n0 (FFF88 Fx) elF88 args M k)⟩
theorem okce88n0 (Fx : TF88) (h : RecOkF88 Fx) (R : Type) (test : List AV → List Blk → Bool) : CeOk CX (ce88n0 Fx R test) := ce_ok hX (fun o k => by cases o; rfl) h en88 (fun args M ids h => by injection h with h; exact ⟨rfl, h.symm⟩)
end Go.Proofs.Ytnfmdenclkdmbaa

namespace Go.Proofs.Ytnfmdenclkdmbaa
open Go Go.Eng
set_option maxRecDepth 100000

/-! ### F46: ceiling/num.product -/
inductive R46 where
  | r (x0 : Int) (x1 : Bool)
abbrev TF46 := Int → Int → Option R46
def sgF46 : LSh := ⟨[(0, .one (.cell (.int .i64))), (1, .one (.cell (.int .i64)))], []⟩
def FFF46 (Fx : TF46) (s : St) : Option R46 := Fx ((Eng.look s.env 0).toI) ((Eng.look s.env 1).toI)
def valF46 (o : R46) : AV := match o with | .r x0 x1 => .tup [.int .i64 x0, .bool x1]
def memF46 (o : R46) : List Blk := match o with | .r x0 x1 => []
def elF46 {R : Type} (o : R46) (k : AV → List Blk → Option R) : Option R := match o with | .r x0 x1 => k (.tup [.int .i64 x0, .bool x1]) []
def RecOkF46 (Fx : TF46) : Prop := ∀ lk M o, FFF46 Fx (canS sgF46 lk M) = some o → FCalls CX 46 0 (argsE 2 (canS sgF46 lk M).env) (canS sgF46 lk M).mem (valF46 o) (memF46 o)
noncomputable def csF46 (N : Nat) (R : Type) : List (CE R) := [ce88n0 (F88 N) R (fun _ _ => true), ce89n0 (F89 N) R (fun _ _ => true)]
theorem hcsF46 (N : Nat) (R : Type) : AllE (CeOk CX) (csF46 N R) := ⟨okce88n0 (F88 N) (soundF88 N) R (fun _ _ => true), okce89n0 (F89 N) (soundF89 N) R (fun _ _ => true), trivial⟩
noncomputable def T46ur1 (N : Nat) (R : Type) : LTab R := mkTab ⟨38, 274877906943⟩ (csF46 N R) (noY) [] [] []
theorem okT46ur1 (N : Nat) (R : Type) : (T46ur1 N R).Ok CX code46 := mkTab_ok (hcsF46 N R) (noY_ok) (trivial) (trivial) (trivial)
def rsF46 : List ResultVar := [.tmp 4, .tmp 5]
def F46 : Nat → TF46
  | 0 => fun _ _ => none
  | N + 1 => fun x0 x1 =>
    match F89 N x0 with
    | none => none
    | some (.r rx0v1) =>
      match F89 N x1 with
      | none => none
      | some (.r rx0v2) =>
        match F88 N rx0v1 rx0v2 with
        | none => none
        | some (.r rx0v3 rx1v3) =>
          match !((decide (x0 < (0 : Int))) == (decide (x1 < (0 : Int)))) with
          | true =>
            match rx0v3 == (0 : Int) with
            | true =>
              some (.r (IntKind.wrap .i64 (0 - (IntKind.wrap .i64 rx1v3))) (decide (rx1v3 ≤ (9223372036854775808 : Int))))
            | false =>
              some (.r (IntKind.wrap .i64 (0 - (IntKind.wrap .i64 rx1v3))) false)
          | false =>
            match rx0v3 == (0 : Int) with
            | true =>
              some (.r (IntKind.wrap .i64 rx1v3) (decide (rx1v3 < (9223372036854775808 : Int))))
            | false =>
              some (.r (IntKind.wrap .i64 rx1v3) false)
def xRF46 : XSh R46 := ⟨[], ⟨[(0, .one (.cell (.int .i64))), (1, .one (.cell (.bool)))], []⟩, fun _ => [], fun s => .r ((Eng.look s.env 0).toI) ((Eng.look s.env 1).toB)⟩
theorem fsF46 : ∀ (N : Nat) (lk : Nat → AV) (M : List Blk), FFF46 (F46 (N + 1)) (canS sgF46 lk M) = evfn CX (T46ur1 N R46) code46 rsF46 (argsE 2 (canS sgF46 lk M).env) (canS sgF46 lk M).mem (goRt CX 0 2 (fun _ => some xRF46)) := by intro N lk M; kernel_rfl
theorem soundF46 : ∀ N, RecOkF46 (F46 N)
  | 0, lk, M, o, h => by cases h
  | N + 1, lk, M, o, h => fn_soundt hX (okT46ur1 N R46) Try.func46 hb46 rfl en46 (by kernel_rfl) (ys := fun _ => some xRF46) (fun st y h => by injection h with h; subst h; exact fun lk M => ⟨rfl, rfl⟩) ((fsF46 N lk M).symm.trans h)
def cvce46n0 : List Cv := []
def selce46n0 : St → List Nat := fun _ => []
noncomputable def ce46n0 (Fx : TF46) (R : Type) (test : List AV → List Blk → Bool) : CE R := ⟨46, test, fun args M => some (selce46n0 ⟨argEnv 0 args, M, [], .unk⟩), fun args M k => tst (Nat.beq args.length 2) (callFn CX 0 cvce46n0 sgF46 selce46n0 (FFF46 Fx) elF46 args M k)⟩
theorem okce46n0 (Fx : TF46) (h : RecOkF46 Fx) (R : Type) (test : List AV → List Blk → Bool) : CeOk CX (ce46n0 Fx R test) := ce_ok hX (fun o k => by cases o; rfl) h en46 (fun args M ids h => by injection h with h; exact ⟨rfl, h.symm⟩)
end Go.Proofs.Ytnfmdenclkdmbaa

namespace Go.Proofs.Ytnfmdenclkdmbaa
open Go Go.Eng
set_option maxRecDepth 100000

/-! ### F43v2: ceiling/num.corners -/
inductive R43v2 where
  | r (x0c0 : Int) (x0c1 : Int)
abbrev TF43v2 := List Row → List Row → Option R43v2
def sgF43v2 : LSh := ⟨[(0, .one (.fn 46)), (1, .one (.cell (.slice 2))), (2, .one (.cell (.slice 2)))], []⟩
def FFF43v2 (Fx : TF43v2) (s : St) : Option R43v2 := Fx ((Eng.look s.env 1).rows) ((Eng.look s.env 2).rows)
def valF43v2 (o : R43v2) : AV := match o with | .r x0c0 x0c1 => .agg [.int .i64 x0c0, .int .i64 x0c1]
def memF43v2 (o : R43v2) : List Blk := match o with | .r x0c0 x0c1 => []
def elF43v2 {R : Type} (o : R43v2) (k : AV → List Blk → Option R) : Option R := match o with | .r x0c0 x0c1 => k (.agg [.int .i64 x0c0, .int .i64 x0c1]) []
def RecOkF43v2 (Fx : TF43v2) : Prop := ∀ lk M o, FFF43v2 Fx (canS sgF43v2 lk M) = some o → FCalls CX 43 0 (argsE 3 (canS sgF43v2 lk M).env) (canS sgF43v2 lk M).mem (valF43v2 o) (memF43v2 o)
noncomputable def csF43v2 (N : Nat) (R : Type) : List (CE R) := [ce25n0 (F25 N) R (fun _ _ => true), ce42n0 (F42 N) R (fun _ _ => true), ce46n0 (F46 N) R (fun _ _ => true), ce64n1 (F64 N) R (fun _ _ => true), ce65n0 (F65 N) R (fun _ _ => true)]
theorem hcsF43v2 (N : Nat) (R : Type) : AllE (CeOk CX) (csF43v2 N R) := ⟨okce25n0 (F25 N) (soundF25 N) R (fun _ _ => true), okce42n0 (F42 N) (soundF42 N) R (fun _ _ => true), okce46n0 (F46 N) (soundF46 N) R (fun _ _ => true), okce64n1 (F64 N) (soundF64 N) R (fun _ _ => true), okce65n0 (F65 N) (soundF65 N) R (fun _ _ => true), trivial⟩
inductive OL43v2a14950 where
  | ret (b0c0 : Int) (b0c1 : Int) (b1c0 : Int) (b1c1 : Int)
  | x2 (b0c0 : Int) (b0c1 : Int) (b1c0 : Int) (b1c1 : Int)
def L43v2a14950 (N : Nat) : Nat → Int → List Row → Int → Int → Int → Int → Int → Int → Option OL43v2a14950
  | 0 => fun _ _ _ _ _ _ _ _ => none
  | n + 1 => fun x9 x21 x22 x23 b0c0 b0c1 b1c0 b1c1 =>
    match decide (x23 < x22) with
    | true =>
      tst (decide ((0 : Int) ≤ x23) && decide (x23 < ((x21.length : Int)))) <|
      match F46 N x9 ((((x21.getD x23.toNat [])).getD 0 .top).toI) with
      | none => none
      | some (.r rx0v2 rx1v2) =>
        match !rx1v2 with
        | true =>
          match F65 N  with
          | none => none
          | some (.r rx0c0v3 rx0c1v3) =>
            some (.ret rx0c0v3 rx0c1v3 b1c0 b1c1)
        | false =>
          match F64 N rx0v2 ([]) with
          | none => none
          | some (.r rx0c0v4 rx0c1v4) =>
            match F25 N b1c0 b1c1 rx0c0v4 rx0c1v4 with
            | none => none
            | some (.r rx0c0v5 rx0c1v5) =>
              L43v2a14950 N n x9 x21 x22 (IntKind.wrap .i64 (x23 + (1 : Int))) b0c0 b0c1 rx0c0v5 rx0c1v5
    | false =>
      some (.x2 b0c0 b0c1 b1c0 b1c1)
def LFL43v2a14950 (N : Nat) (n : Nat) (s : St) : Option OL43v2a14950 := L43v2a14950 N n ((Eng.look s.env 9).toI) ((Eng.look s.env 21).rows) ((Eng.look s.env 22).toI) ((Eng.look s.env 23).toI) (((s.mem.getD 0 .dead).cells.getD 0 .top).toI) (((s.mem.getD 0 .dead).cells.getD 1 .top).toI) (((s.mem.getD 1 .dead).cells.getD 0 .top).toI) (((s.mem.getD 1 .dead).cells.getD 1 .top).toI)
def sgL43v2a14950 : LSh := ⟨[(0, .one (.fn 46)), (6, .one (.ptr 0 0 0)), (7, .one (.ptr 1 0 0)), (9, .one (.cell (.int .i64))), (21, .one (.cell (.slice 2))), (22, .one (.cell (.int .i64))), (23, .one (.cell (.int .i64)))], [.var [.int .i64, .int .i64] [.cell (.int .i64), .cell (.int .i64)], .var [.int .i64, .int .i64] [.cell (.int .i64), .cell (.int .i64)]]⟩
def ceL43v2a14950 : List Cv := []
def seL43v2a14950 : St → List Nat := fun st => [(Eng.look st.env 6).id, (Eng.look st.env 7).id]
def xL43v2a14950wret : XSh OL43v2a14950 := ⟨[], ⟨[], [.var [.int .i64, .int .i64] [.cell (.int .i64), .cell (.int .i64)], .var [.int .i64, .int .i64] [.cell (.int .i64), .cell (.int .i64)]]⟩, fun st => [0, 1], fun s => .ret (((s.mem.getD 0 .dead).cells.getD 0 .top).toI) (((s.mem.getD 0 .dead).cells.getD 1 .top).toI) (((s.mem.getD 1 .dead).cells.getD 0 .top).toI) (((s.mem.getD 1 .dead).cells.getD 1 .top).toI)⟩
def xL43v2a14950wx2 : XSh OL43v2a14950 := ⟨[], ⟨[], [.var [.int .i64, .int .i64] [.cell (.int .i64), .cell (.int .i64)], .var [.int .i64, .int .i64] [.cell (.int .i64), .cell (.int .i64)]]⟩, fun st => [0, 1], fun s => .x2 (((s.mem.getD 0 .dead).cells.getD 0 .top).toI) (((s.mem.getD 0 .dead).cells.getD 1 .top).toI) (((s.mem.getD 1 .dead).cells.getD 0 .top).toI) (((s.mem.getD 1 .dead).cells.getD 1 .top).toI)⟩
def xsL43v2a14950 : Ex → St → Option (XSh OL43v2a14950) := fun e st => match e with
  | .ret => some xL43v2a14950wret
  | .exit 2 => some xL43v2a14950wx2
  | _ => none
def exL43v2a14950 (o : OL43v2a14950) : Ex := match o with | .ret b0c0 b0c1 b1c0 b1c1 => .ret | .x2 b0c0 b0c1 b1c0 b1c1 => (.exit 2)
def stL43v2a14950 (o : OL43v2a14950) : St := match o with | .ret b0c0 b0c1 b1c0 b1c1 => ⟨[], [.var [.int .i64, .int .i64] [.int .i64 b0c0, .int .i64 b0c1], .var [.int .i64, .int .i64] [.int .i64 b1c0, .int .i64 b1c1]], [], .unk⟩ | .x2 b0c0 b0c1 b1c0 b1c1 => ⟨[], [.var [.int .i64, .int .i64] [.int .i64 b0c0, .int .i64 b0c1], .var [.int .i64, .int .i64] [.int .i64 b1c0, .int .i64 b1c1]], [], .unk⟩
def elL43v2a14950 {R : Type} (o : OL43v2a14950) (k : Ex → St → Option R) : Option R := match o with | .ret b0c0 b0c1 b1c0 b1c1 => k .ret ⟨[], [.var [.int .i64, .int .i64] [.int .i64 b0c0, .int .i64 b0c1], .var [.int .i64, .int .i64] [.int .i64 b1c0, .int .i64 b1c1]], [], .unk⟩ | .x2 b0c0 b0c1 b1c0 b1c1 => k (.exit 2) ⟨[], [.var [.int .i64, .int .i64] [.int .i64 b0c0, .int .i64 b0c1], .var [.int .i64, .int .i64] [.int .i64 b1c0, .int .i64 b1c1]], [], .unk⟩
theorem heL43v2a14950 {R : Type} (o : OL43v2a14950) (k : Ex → St → Option R) : elL43v2a14950 o k = k (exL43v2a14950 o) (stL43v2a14950 o) := by cases o <;> rfl
theorem hxL43v2a14950 : ∀ e st x, xsL43v2a14950 e st = some x → outOk x e exL43v2a14950 stL43v2a14950 := by
  intro e st x h
  unfold xsL43v2a14950 at h
  repeat' split at h
  all_goals first
    | (injection h with h; subst h; exact fun lk M => ⟨rfl, rfl⟩)
    | cases h
noncomputable def T43v2ul14950 (N : Nat) (R : Type) : LTab R := mkTab ⟨44, 4398038136832⟩ (csF43v2 N R) (noY) [] [] []
theorem okT43v2ul14950 (N : Nat) (R : Type) : (T43v2ul14950 N R).Ok CX code43 := mkTab_ok (hcsF43v2 N R) (noY_ok) (trivial) (trivial) (trivial)
noncomputable def bdL43v2a14950 : Code := match codeAt code43 [false, true, true, false, false, true, true, false, false, true, false, true, true] with | some (.loop c) => c | _ => .skip
theorem hsL43v2a14950 (N : Nat) : ∀ (n : Nat) (lk : Nat → AV) (M : List Blk), LFL43v2a14950 N (n + 1) (canS sgL43v2a14950 lk M) = evk CX (T43v2ul14950 N OL43v2a14950) bdL43v2a14950 (2 * 14950) (canS sgL43v2a14950 lk M) (kont CX 2 [] sgL43v2a14950 (fun st => [0, 1]) xsL43v2a14950 (LFL43v2a14950 N n)) := by intro n lk M; kernel_rfl
inductive OL43v2a58 where
  | ret (b0c0 : Int) (b0c1 : Int) (b1c0 : Int) (b1c1 : Int)
  | x0 (b0c0 : Int) (b0c1 : Int) (b1c0 : Int) (b1c1 : Int)
def L43v2a58 (N : Nat) : Nat → List Row → List Row → Int → Int → Int → Int → Int → Int → Option OL43v2a58
  | 0 => fun _ _ _ _ _ _ _ _ => none
  | n + 1 => fun x2 x15 x16 x17 b0c0 b0c1 b1c0 b1c1 =>
    match decide (x17 < x16) with
    | true =>
      tst (decide ((0 : Int) ≤ x17) && decide (x17 < ((x15.length : Int)))) <|
      match L43v2a14950 N N ((((x15.getD x17.toNat [])).getD 0 .top).toI) x2 ((x2.length : Int)) 0 b0c0 b0c1 b1c0 b1c1 with
      | none => none
      | some (.ret b0c0v6 b0c1v6 b1c0v6 b1c1v6) =>
        some (.ret b0c0v6 b0c1v6 b1c0v6 b1c1v6)
      | some (.x2 b0c0v7 b0c1v7 b1c0v7 b1c1v7) =>
        L43v2a58 N n x2 x15 x16 (IntKind.wrap .i64 (x17 + (1 : Int))) b0c0v7 b0c1v7 b1c0v7 b1c1v7
    | false =>
      some (.x0 b0c0 b0c1 b1c0 b1c1)
def LFL43v2a58 (N : Nat) (n : Nat) (s : St) : Option OL43v2a58 := L43v2a58 N n ((Eng.look s.env 2).rows) ((Eng.look s.env 15).rows) ((Eng.look s.env 16).toI) ((Eng.look s.env 17).toI) (((s.mem.getD 0 .dead).cells.getD 0 .top).toI) (((s.mem.getD 0 .dead).cells.getD 1 .top).toI) (((s.mem.getD 1 .dead).cells.getD 0 .top).toI) (((s.mem.getD 1 .dead).cells.getD 1 .top).toI)
def sgL43v2a58 : LSh := ⟨[(0, .one (.fn 46)), (2, .one (.cell (.slice 2))), (6, .one (.ptr 0 0 0)), (7, .one (.ptr 1 0 0)), (15, .one (.cell (.slice 2))), (16, .one (.cell (.int .i64))), (17, .one (.cell (.int .i64)))], [.var [.int .i64, .int .i64] [.cell (.int .i64), .cell (.int .i64)], .var [.int .i64, .int .i64] [.cell (.int .i64), .cell (.int .i64)]]⟩
def ceL43v2a58 : List Cv := []
def seL43v2a58 : St → List Nat := fun st => [(Eng.look st.env 6).id, (Eng.look st.env 7).id]
def xL43v2a58wret : XSh OL43v2a58 := ⟨[], ⟨[], [.var [.int .i64, .int .i64] [.cell (.int .i64), .cell (.int .i64)], .var [.int .i64, .int .i64] [.cell (.int .i64), .cell (.int .i64)]]⟩, fun st => [0, 1], fun s => .ret (((s.mem.getD 0 .dead).cells.getD 0 .top).toI) (((s.mem.getD 0 .dead).cells.getD 1 .top).toI) (((s.mem.getD 1 .dead).cells.getD 0 .top).toI) (((s.mem.getD 1 .dead).cells.getD 1 .top).toI)⟩
def xL43v2a58wx0 : XSh OL43v2a58 := ⟨[], ⟨[], [.var [.int .i64, .int .i64] [.cell (.int .i64), .cell (.int .i64)], .var [.int .i64, .int .i64] [.cell (.int .i64), .cell (.int .i64)]]⟩, fun st => [0, 1], fun s => .x0 (((s.mem.getD 0 .dead).cells.getD 0 .top).toI) (((s.mem.getD 0 .dead).cells.getD 1 .top).toI) (((s.mem.getD 1 .dead).cells.getD 0 .top).toI) (((s.mem.getD 1 .dead).cells.getD 1 .top).toI)⟩
def xsL43v2a58 : Ex → St → Option (XSh OL43v2a58) := fun e st => match e with
  | .ret => some xL43v2a58wret
  | .exit 0 => some xL43v2a58wx0
  | _ => none
def exL43v2a58 (o : OL43v2a58) : Ex := match o with | .ret b0c0 b0c1 b1c0 b1c1 => .ret | .x0 b0c0 b0c1 b1c0 b1c1 => (.exit 0)
def stL43v2a58 (o : OL43v2a58) : St := match o with | .ret b0c0 b0c1 b1c0 b1c1 => ⟨[], [.var [.int .i64, .int .i64] [.int .i64 b0c0, .int .i64 b0c1], .var [.int .i64, .int .i64] [.int .i64 b1c0, .int .i64 b1c1]], [], .unk⟩ | .x0 b0c0 b0c1 b1c0 b1c1 => ⟨[], [.var [.int .i64, .int .i64] [.int .i64 b0c0, .int .i64 b0c1], .var [.int .i64, .int .i64] [.int .i64 b1c0, .int .i64 b1c1]], [], .unk⟩
def elL43v2a58 {R : Type} (o : OL43v2a58) (k : Ex → St → Option R) : Option R := match o with | .ret b0c0 b0c1 b1c0 b1c1 => k .ret ⟨[], [.var [.int .i64, .int .i64] [.int .i64 b0c0, .int .i64 b0c1], .var [.int .i64, .int .i64] [.int .i64 b1c0, .int .i64 b1c1]], [], .unk⟩ | .x0 b0c0 b0c1 b1c0 b1c1 => k (.exit 0) ⟨[], [.var [.int .i64, .int .i64] [.int .i64 b0c0, .int .i64 b0c1], .var [.int .i64, .int .i64] [.int .i64 b1c0, .int .i64 b1c1]], [], .unk⟩
theorem heL43v2a58 {R : Type} (o : OL43v2a58) (k : Ex → St → Option R) : elL43v2a58 o k = k (exL43v2a58 o) (stL43v2a58 o) := by cases o <;> rfl
theorem hxL43v2a58 : ∀ e st x, xsL43v2a58 e st = some x → outOk x e exL43v2a58 stL43v2a58 := by
  intro e st x h
  unfold xsL43v2a58 at h
  repeat' split at h
  all_goals first
    | (injection h with h; subst h; exact fun lk M => ⟨rfl, rfl⟩)
    | cases h
noncomputable def T43v2ul58 (N : Nat) (R : Type) : LTab R := mkTab ⟨44, 8796092905984⟩ (csF43v2 N R) (noY) [(14950, fun st k => callLoop CX 2 4398038136832 ceL43v2a14950 sgL43v2a14950 seL43v2a14950 ⟨44, 8796092905984⟩ (LFL43v2a14950 N N) elL43v2a14950 st k)] [] []
theorem okT43v2ul58 (N : Nat) (R : Type) : (T43v2ul58 N R).Ok CX code43 := mkTab_ok (hcsF43v2 N R) (noY_ok) (⟨loop_ok hX (path := [false, true, true, false, false, true, true, false, false, true, false, true, true]) (by kernel_rfl) (by rfl) (okT43v2ul14950 N OL43v2a14950) (fun _ _ => rfl) (hsL43v2a14950 N) hxL43v2a14950 rfl heL43v2a14950, trivial⟩) (trivial) (trivial)
noncomputable def bdL43v2a58 : Code := match codeAt code43 [false, true, false, true, true] with | some (.loop c) => c | _ => .skip
theorem hsL43v2a58 (N : Nat) : ∀ (n : Nat) (lk : Nat → AV) (M : List Blk), LFL43v2a58 N (n + 1) (canS sgL43v2a58 lk M) = evk CX (T43v2ul58 N OL43v2a58) bdL43v2a58 (2 * 58) (canS sgL43v2a58 lk M) (kont CX 2 [] sgL43v2a58 (fun st => [0, 1]) xsL43v2a58 (LFL43v2a58 N n)) := by intro n lk M; kernel_rfl
noncomputable def T43v2ur1 (N : Nat) (R : Type) : LTab R := mkTab ⟨44, 17592186044415⟩ (csF43v2 N R) (noY) [(58, fun st k => callLoop CX 2 8796092905984 ceL43v2a58 sgL43v2a58 seL43v2a58 ⟨44, 17592186044415⟩ (LFL43v2a58 N N) elL43v2a58 st k)] [] []
theorem okT43v2ur1 (N : Nat) (R : Type) : (T43v2ur1 N R).Ok CX code43 := mkTab_ok (hcsF43v2 N R) (noY_ok) (⟨loop_ok hX (path := [false, true, false, true, true]) (by kernel_rfl) (by rfl) (okT43v2ul58 N OL43v2a58) (fun _ _ => rfl) (hsL43v2a58 N) hxL43v2a58 rfl heL43v2a58, trivial⟩) (trivial) (trivial)
def rsF43v2 : List ResultVar := [.cell 6 29]
def F43v2 : Nat → TF43v2
  | 0 => fun _ _ => none
  | N + 1 => fun x1 x2 =>
    match F42 N  with
    | none => none
    | some (.r rx0c0v1 rx0c1v1) =>
      match L43v2a58 N N x2 x1 ((x1.length : Int)) 0 0 0 rx0c0v1 rx0c1v1 with
      | none => none
      | some (.ret b0c0v8 b0c1v8 b1c0v8 b1c1v8) =>
        some (.r b0c0v8 b0c1v8)
      | some (.x0 b0c0v9 b0c1v9 b1c0v9 b1c1v9) =>
        some (.r b1c0v9 b1c1v9)
def xRF43v2 : XSh R43v2 := ⟨[], ⟨[(0, .agg [.cell (.int .i64), .cell (.int .i64)])], []⟩, fun _ => [], fun s => .r (((Eng.look s.env 0).cells.getD 0 .top).toI) (((Eng.look s.env 0).cells.getD 1 .top).toI)⟩
theorem fsF43v2 : ∀ (N : Nat) (lk : Nat → AV) (M : List Blk), FFF43v2 (F43v2 (N + 1)) (canS sgF43v2 lk M) = evfn CX (T43v2ur1 N R43v2) code43 rsF43v2 (argsE 3 (canS sgF43v2 lk M).env) (canS sgF43v2 lk M).mem (goR CX 0 (fun _ => some xRF43v2)) := by intro N lk M; kernel_rfl
theorem soundF43v2 : ∀ N, RecOkF43v2 (F43v2 N)
  | 0, lk, M, o, h => by cases h
  | N + 1, lk, M, o, h => fn_sound hX (okT43v2ur1 N R43v2) Try.func43 hb43 rfl en43 (by kernel_rfl) (ys := fun _ => some xRF43v2) (fun st y h => by injection h with h; subst h; exact fun lk M => ⟨rfl, rfl⟩) ((fsF43v2 N lk M).symm.trans h)
def cvce43v2n0 : List Cv := []
def selce43v2n0 : St → List Nat := fun _ => []
noncomputable def ce43v2n0 (Fx : TF43v2) (R : Type) (test : List AV → List Blk → Bool) : CE R := ⟨43, test, fun args M => some (selce43v2n0 ⟨argEnv 0 args, M, [], .unk⟩), fun args M k => tst (Nat.beq args.length 3) (callFn CX 0 cvce43v2n0 sgF43v2 selce43v2n0 (FFF43v2 Fx) elF43v2 args M k)⟩
theorem okce43v2n0 (Fx : TF43v2) (h : RecOkF43v2 Fx) (R : Type) (test : List AV → List Blk → Bool) : CeOk CX (ce43v2n0 Fx R test) := ce_ok hX (fun o k => by cases o; rfl) h en43 (fun args M ids h => by injection h with h; exact ⟨rfl, h.symm⟩)
end Go.Proofs.Ytnfmdenclkdmbaa

namespace Go.Proofs.Ytnfmdenclkdmbaa
open Go Go.Eng
set_option maxRecDepth 100000

/-! ### F23: ceiling/num.Has -/
inductive R23 where
  | r (x0 : Bool)
abbrev TF23 := Int → Int → Int → Option R23
def sgF23 : LSh := ⟨[(0, .agg [.cell (.int .i64), .cell (.int .i64)]), (1, .one (.cell (.int .i64)))], []⟩
def FFF23 (Fx : TF23) (s : St) : Option R23 := Fx (((Eng.look s.env 0).cells.getD 0 .top).toI) (((Eng.look s.env 0).cells.getD 1 .top).toI) ((Eng.look s.env 1).toI)
def valF23 (o : R23) : AV := match o with | .r x0 => .bool x0
def memF23 (o : R23) : List Blk := match o with | .r x0 => []
def elF23 {R : Type} (o : R23) (k : AV → List Blk → Option R) : Option R := match o with | .r x0 => k (.bool x0) []
def RecOkF23 (Fx : TF23) : Prop := ∀ lk M o, FFF23 Fx (canS sgF23 lk M) = some o → FCalls CX 23 0 (argsE 2 (canS sgF23 lk M).env) (canS sgF23 lk M).mem (valF23 o) (memF23 o)
noncomputable def csF23 (N : Nat) (R : Type) : List (CE R) := []
theorem hcsF23 (N : Nat) (R : Type) : AllE (CeOk CX) (csF23 N R) := trivial
noncomputable def T23ur1 (N : Nat) (R : Type) : LTab R := mkTab ⟨15, 32767⟩ (csF23 N R) (noY) [] [] []
theorem okT23ur1 (N : Nat) (R : Type) : (T23ur1 N R).Ok CX code23 := mkTab_ok (hcsF23 N R) (noY_ok) (trivial) (trivial) (trivial)
def rsF23 : List ResultVar := [.tmp 4]
def F23 : Nat → TF23
  | 0 => fun _ _ _ => none
  | N + 1 => fun x0c0 x0c1 x1 =>
    match decide (x0c0 ≤ x1) with
    | true =>
      some (.r (decide (x1 ≤ x0c1)))
    | false =>
      some (.r false)
def xRF23 : XSh R23 := ⟨[], ⟨[(0, .one (.cell (.bool)))], []⟩, fun _ => [], fun s => .r ((Eng.look s.env 0).toB)⟩
theorem fsF23 : ∀ (N : Nat) (lk : Nat → AV) (M : List Blk), FFF23 (F23 (N + 1)) (canS sgF23 lk M) = evfn CX (T23ur1 N R23) code23 rsF23 (argsE 2 (canS sgF23 lk M).env) (canS sgF23 lk M).mem (goR CX 0 (fun _ => some xRF23)) := by intro N lk M; kernel_rfl
theorem soundF23 : ∀ N, RecOkF23 (F23 N)
  | 0, lk, M, o, h => by cases h
  | N + 1, lk, M, o, h => fn_sound hX (okT23ur1 N R23) Try.func23 hb23 rfl en23 (by kernel_rfl) (ys := fun _ => some xRF23) (fun st y h => by injection h with h; subst h; exact fun lk M => ⟨rfl, rfl⟩) ((fsF23 N lk M).symm.trans h)
def cvce23n0 : List Cv := []
def selce23n0 : St → List Nat := fun _ => []
noncomputable def ce23n0 (Fx : TF23) (R : Type) (test : List AV → List Blk → Bool) : CE R := ⟨23, test, fun args M => some (selce23n0 ⟨argEnv 0 args, M, [], .unk⟩), fun args M k => tst (Nat.beq args.length 2) (callFn CX 0 cvce23n0 sgF23 selce23n0 (FFF23 Fx) elF23 args M k)⟩
theorem okce23n0 (Fx : TF23) (h : RecOkF23 Fx) (R : Type) (test : List AV → List Blk → Bool) : CeOk CX (ce23n0 Fx R test) := ce_ok hX (fun o k => by cases o; rfl) h en23 (fun args M ids h => by injection h with h; exact ⟨rfl, h.symm⟩)
end Go.Proofs.Ytnfmdenclkdmbaa

namespace Go.Proofs.Ytnfmdenclkdmbaa
open Go Go.Eng
set_option maxRecDepth 100000

/-! ### F48: ceiling/num.divisors -/
inductive R48 where
  | r (b0 : List Row)
abbrev TF48 := Int → Int → Option R48
def sgF48 : LSh := ⟨[(0, .agg [.cell (.int .i64), .cell (.int .i64)])], []⟩
def FFF48 (Fx : TF48) (s : St) : Option R48 := Fx (((Eng.look s.env 0).cells.getD 0 .top).toI) (((Eng.look s.env 0).cells.getD 1 .top).toI)
def valF48 (o : R48) : AV := match o with | .r b0 => .own 0
def memF48 (o : R48) : List Blk := match o with | .r b0 => [.row 2 b0]
def elF48 {R : Type} (o : R48) (k : AV → List Blk → Option R) : Option R := match o with | .r b0 => k (.own 0) [.row 2 b0]
def RecOkF48 (Fx : TF48) : Prop := ∀ lk M o, FFF48 Fx (canS sgF48 lk M) = some o → FCalls CX 48 0 (argsE 1 (canS sgF48 lk M).env) (canS sgF48 lk M).mem (valF48 o) (memF48 o)
noncomputable def csF48 (N : Nat) (R : Type) : List (CE R) := [ce23n0 (F23 N) R (fun _ _ => true)]
theorem hcsF48 (N : Nat) (R : Type) : AllE (CeOk CX) (csF48 N R) := ⟨okce23n0 (F23 N) (soundF23 N) R (fun _ _ => true), trivial⟩
inductive OL48a26 where
  | x0 (b0c0 : Int) (b0c1 : Int) (b1 : List Row) (b2 : List Row)
def L48a26 (N : Nat) : Nat → Int → Int → Int → Int → List Row → List Row → Option OL48a26
  | 0 => fun _ _ _ _ _ _ => none
  | n + 1 => fun x10 x11 b0c0 b0c1 b1 b2 =>
    match decide (x11 < x10) with
    | true =>
      tst (decide ((0 : Int) ≤ x11) && decide (x11 < ((b1.length : Int)))) <|
      tst (decide (x11.toNat < b1.length)) <|
      match ((((b1.getD x11.toNat [])).getD 0 .top).toI) != (0 : Int) with
      | true =>
        match F23 N b0c0 b0c1 ((((b1.getD x11.toNat [])).getD 0 .top).toI) with
        | none => none
        | some (.r rx0v1) =>
          match rx0v1 with
          | true =>
            tst (decide (((b2.length + 1) * 8) ≤ 140737488355328)) <|
            L48a26 N n x10 (IntKind.wrap .i64 (x11 + (1 : Int))) b0c0 b0c1 b1 (b2 ++ (([[.int .i64 ((((b1.getD x11.toNat [])).getD 0 .top).toI)]] : List Row)))
          | false =>
            L48a26 N n x10 (IntKind.wrap .i64 (x11 + (1 : Int))) b0c0 b0c1 b1 b2
      | false =>
        L48a26 N n x10 (IntKind.wrap .i64 (x11 + (1 : Int))) b0c0 b0c1 b1 b2
    | false =>
      some (.x0 b0c0 b0c1 b1 b2)
def LFL48a26 (N : Nat) (n : Nat) (s : St) : Option OL48a26 := L48a26 N n ((Eng.look s.env 10).toI) ((Eng.look s.env 11).toI) (((s.mem.getD 0 .dead).cells.getD 0 .top).toI) (((s.mem.getD 0 .dead).cells.getD 1 .top).toI) ((s.mem.getD 1 .dead).rows) ((s.mem.getD 2 .dead).rows)
def sgL48a26 : LSh := ⟨[(1, .one (.ptr 0 0 0)), (2, .one (.own 2)), (9, .one (.own 1)), (10, .one (.cell (.int .i64))), (11, .one (.cell (.int .i64)))], [.var [.int .i64, .int .i64] [.cell (.int .i64), .cell (.int .i64)], .row 2, .row 2]⟩
def ceL48a26 : List Cv := [.mk 2 2]
def seL48a26 : St → List Nat := fun st => [(Eng.look st.env 1).id, (Eng.look st.env 9).id, (Eng.look st.env 2).id]
def xL48a26wx0 : XSh OL48a26 := ⟨[], ⟨[(2, .one (.own 2))], [.var [.int .i64, .int .i64] [.cell (.int .i64), .cell (.int .i64)], .row 2, .row 2]⟩, fun st => [0, 1, (Eng.look st.env 2).id], fun s => .x0 (((s.mem.getD 0 .dead).cells.getD 0 .top).toI) (((s.mem.getD 0 .dead).cells.getD 1 .top).toI) ((s.mem.getD 1 .dead).rows) ((s.mem.getD 2 .dead).rows)⟩
def xsL48a26 : Ex → St → Option (XSh OL48a26) := fun e st => match e with
  | .exit 0 => some xL48a26wx0
  | _ => none
def exL48a26 (o : OL48a26) : Ex := match o with | .x0 b0c0 b0c1 b1 b2 => (.exit 0)
def stL48a26 (o : OL48a26) : St := match o with | .x0 b0c0 b0c1 b1 b2 => ⟨[(2, .own 2)], [.var [.int .i64, .int .i64] [.int .i64 b0c0, .int .i64 b0c1], .row 2 b1, .row 2 b2], [], .unk⟩
def elL48a26 {R : Type} (o : OL48a26) (k : Ex → St → Option R) : Option R := match o with | .x0 b0c0 b0c1 b1 b2 => k (.exit 0) ⟨[(2, .own 2)], [.var [.int .i64, .int .i64] [.int .i64 b0c0, .int .i64 b0c1], .row 2 b1, .row 2 b2], [], .unk⟩
theorem heL48a26 {R : Type} (o : OL48a26) (k : Ex → St → Option R) : elL48a26 o k = k (exL48a26 o) (stL48a26 o) := by cases o <;> rfl
theorem hxL48a26 : ∀ e st x, xsL48a26 e st = some x → outOk x e exL48a26 stL48a26 := by
  intro e st x h
  unfold xsL48a26 at h
  repeat' split at h
  all_goals first
    | (injection h with h; subst h; exact fun lk M => ⟨rfl, rfl⟩)
    | cases h
noncomputable def T48ul26 (N : Nat) (R : Type) : LTab R := mkTab ⟨28, 134215700⟩ (csF48 N R) (noY) [] [] []
theorem okT48ul26 (N : Nat) (R : Type) : (T48ul26 N R).Ok CX code48 := mkTab_ok (hcsF48 N R) (noY_ok) (trivial) (trivial) (trivial)
noncomputable def bdL48a26 : Code := match codeAt code48 [false, true, false, true] with | some (.loop c) => c | _ => .skip
theorem hsL48a26 (N : Nat) : ∀ (n : Nat) (lk : Nat → AV) (M : List Blk), LFL48a26 N (n + 1) (canS sgL48a26 lk M) = evk CX (T48ul26 N OL48a26) bdL48a26 (2 * 26) (canS sgL48a26 lk M) (kont CX 2 [] sgL48a26 (fun st => [0, 1, (Eng.look st.env 2).id]) xsL48a26 (LFL48a26 N n)) := by intro n lk M; kernel_rfl
noncomputable def T48ur1 (N : Nat) (R : Type) : LTab R := mkTab ⟨28, 268435455⟩ (csF48 N R) (noY) [(26, fun st k => callLoop CX 2 134215700 ceL48a26 sgL48a26 seL48a26 ⟨28, 268435455⟩ (LFL48a26 N N) elL48a26 st k)] [] []
theorem okT48ur1 (N : Nat) (R : Type) : (T48ur1 N R).Ok CX code48 := mkTab_ok (hcsF48 N R) (noY_ok) (⟨loop_ok hX (path := [false, true, false, true]) (by kernel_rfl) (by rfl) (okT48ul26 N OL48a26) (fun _ _ => rfl) (hsL48a26 N) hxL48a26 rfl heL48a26, trivial⟩) (trivial) (trivial)
def rsF48 : List ResultVar := [.tmp 2]
def F48 : Nat → TF48
  | 0 => fun _ _ => none
  | N + 1 => fun x0c0 x0c1 =>
    match L48a26 N N 4 0 x0c0 x0c1 (([[.int .i64 x0c0], [.int .i64 ((-1))], [.int .i64 1], [.int .i64 x0c1]] : List Row)) (([] : List Row)) with
    | none => none
    | some (.x0 b0c0v2 b0c1v2 b1v2 b2v2) =>
      some (.r b2v2)
def xRF48 : XSh R48 := ⟨[], ⟨[(0, .one (.own 0))], [.row 2]⟩, fun st => [(Eng.look st.env 0).id], fun s => .r ((s.mem.getD 0 .dead).rows)⟩
theorem fsF48 : ∀ (N : Nat) (lk : Nat → AV) (M : List Blk), FFF48 (F48 (N + 1)) (canS sgF48 lk M) = evfn CX (T48ur1 N R48) code48 rsF48 (argsE 1 (canS sgF48 lk M).env) (canS sgF48 lk M).mem (goR CX 0 (fun _ => some xRF48)) := by intro N lk M; kernel_rfl
theorem soundF48 : ∀ N, RecOkF48 (F48 N)
  | 0, lk, M, o, h => by cases h
  | N + 1, lk, M, o, h => fn_sound hX (okT48ur1 N R48) Try.func48 hb48 rfl en48 (by kernel_rfl) (ys := fun _ => some xRF48) (fun st y h => by injection h with h; subst h; exact fun lk M => ⟨rfl, rfl⟩) ((fsF48 N lk M).symm.trans h)
def cvce48n0 : List Cv := []
def selce48n0 : St → List Nat := fun _ => []
noncomputable def ce48n0 (Fx : TF48) (R : Type) (test : List AV → List Blk → Bool) : CE R := ⟨48, test, fun args M => some (selce48n0 ⟨argEnv 0 args, M, [], .unk⟩), fun args M k => tst (Nat.beq args.length 1) (callFn CX 0 cvce48n0 sgF48 selce48n0 (FFF48 Fx) elF48 args M k)⟩
theorem okce48n0 (Fx : TF48) (h : RecOkF48 Fx) (R : Type) (test : List AV → List Blk → Bool) : CeOk CX (ce48n0 Fx R test) := ce_ok hX (fun o k => by cases o; rfl) h en48 (fun args M ids h => by injection h with h; exact ⟨rfl, h.symm⟩)
end Go.Proofs.Ytnfmdenclkdmbaa

namespace Go.Proofs.Ytnfmdenclkdmbaa
open Go Go.Eng
set_option maxRecDepth 100000

/-! ### F47: ceiling/num.quotient -/
inductive R47 where
  | r (x0 : Int) (x1 : Bool)
abbrev TF47 := Int → Int → Option R47
def sgF47 : LSh := ⟨[(0, .one (.cell (.int .i64))), (1, .one (.cell (.int .i64)))], []⟩
def FFF47 (Fx : TF47) (s : St) : Option R47 := Fx ((Eng.look s.env 0).toI) ((Eng.look s.env 1).toI)
def valF47 (o : R47) : AV := match o with | .r x0 x1 => .tup [.int .i64 x0, .bool x1]
def memF47 (o : R47) : List Blk := match o with | .r x0 x1 => []
def elF47 {R : Type} (o : R47) (k : AV → List Blk → Option R) : Option R := match o with | .r x0 x1 => k (.tup [.int .i64 x0, .bool x1]) []
def RecOkF47 (Fx : TF47) : Prop := ∀ lk M o, FFF47 Fx (canS sgF47 lk M) = some o → FCalls CX 47 0 (argsE 2 (canS sgF47 lk M).env) (canS sgF47 lk M).mem (valF47 o) (memF47 o)
noncomputable def csF47 (N : Nat) (R : Type) : List (CE R) := []
theorem hcsF47 (N : Nat) (R : Type) : AllE (CeOk CX) (csF47 N R) := trivial
noncomputable def T47ur1 (N : Nat) (R : Type) : LTab R := mkTab ⟨15, 32767⟩ (csF47 N R) (noY) [] [] []
theorem okT47ur1 (N : Nat) (R : Type) : (T47ur1 N R).Ok CX code47 := mkTab_ok (hcsF47 N R) (noY_ok) (trivial) (trivial) (trivial)
def rsF47 : List ResultVar := [.tmp 4, .tmp 5]
def F47 : Nat → TF47
  | 0 => fun _ _ => none
  | N + 1 => fun x0 x1 =>
    tst (!(x1 == 0)) <|
    match x0 != (-9223372036854775808 : Int) with
    | true =>
      some (.r (IntKind.wrap .i64 (Int.tdiv x0 x1)) true)
    | false =>
      some (.r (IntKind.wrap .i64 (Int.tdiv x0 x1)) (x1 != (-1 : Int)))
def xRF47 : XSh R47 := ⟨[], ⟨[(0, .one (.cell (.int .i64))), (1, .one (.cell (.bool)))], []⟩, fun _ => [], fun s => .r ((Eng.look s.env 0).toI) ((Eng.look s.env 1).toB)⟩
theorem fsF47 : ∀ (N : Nat) (lk : Nat → AV) (M : List Blk), FFF47 (F47 (N + 1)) (canS sgF47 lk M) = evfn CX (T47ur1 N R47) code47 rsF47 (argsE 2 (canS sgF47 lk M).env) (canS sgF47 lk M).mem (goRt CX 0 2 (fun _ => some xRF47)) := by intro N lk M; kernel_rfl
theorem soundF47 : ∀ N, RecOkF47 (F47 N)
  | 0, lk, M, o, h => by cases h
  | N + 1, lk, M, o, h => fn_soundt hX (okT47ur1 N R47) Try.func47 hb47 rfl en47 (by kernel_rfl) (ys := fun _ => some xRF47) (fun st y h => by injection h with h; subst h; exact fun lk M => ⟨rfl, rfl⟩) ((fsF47 N lk M).symm.trans h)
def cvce47n0 : List Cv := []
def selce47n0 : St → List Nat := fun _ => []
noncomputable def ce47n0 (Fx : TF47) (R : Type) (test : List AV → List Blk → Bool) : CE R := ⟨47, test, fun args M => some (selce47n0 ⟨argEnv 0 args, M, [], .unk⟩), fun args M k => tst (Nat.beq args.length 2) (callFn CX 0 cvce47n0 sgF47 selce47n0 (FFF47 Fx) elF47 args M k)⟩
theorem okce47n0 (Fx : TF47) (h : RecOkF47 Fx) (R : Type) (test : List AV → List Blk → Bool) : CeOk CX (ce47n0 Fx R test) := ce_ok hX (fun o k => by cases o; rfl) h en47 (fun args M ids h => by injection h with h; exact ⟨rfl, h.symm⟩)
end Go.Proofs.Ytnfmdenclkdmbaa

namespace Go.Proofs.Ytnfmdenclkdmbaa
open Go Go.Eng
set_option maxRecDepth 100000

/-! ### F43v3: ceiling/num.corners -/
inductive R43v3 where
  | r (x0c0 : Int) (x0c1 : Int)
abbrev TF43v3 := List Row → List Row → Option R43v3
def sgF43v3 : LSh := ⟨[(0, .one (.fn 47)), (1, .one (.cell (.slice 2))), (2, .one (.cell (.slice 2)))], []⟩
def FFF43v3 (Fx : TF43v3) (s : St) : Option R43v3 := Fx ((Eng.look s.env 1).rows) ((Eng.look s.env 2).rows)
def valF43v3 (o : R43v3) : AV := match o with | .r x0c0 x0c1 => .agg [.int .i64 x0c0, .int .i64 x0c1]
def memF43v3 (o : R43v3) : List Blk := match o with | .r x0c0 x0c1 => []
def elF43v3 {R : Type} (o : R43v3) (k : AV → List Blk → Option R) : Option R := match o with | .r x0c0 x0c1 => k (.agg [.int .i64 x0c0, .int .i64 x0c1]) []
def RecOkF43v3 (Fx : TF43v3) : Prop := ∀ lk M o, FFF43v3 Fx (canS sgF43v3 lk M) = some o → FCalls CX 43 0 (argsE 3 (canS sgF43v3 lk M).env) (canS sgF43v3 lk M).mem (valF43v3 o) (memF43v3 o)
noncomputable def csF43v3 (N : Nat) (R : Type) : List (CE R) := [ce25n0 (F25 N) R (fun _ _ => true), ce42n0 (F42 N) R (fun _ _ => true), ce47n0 (F47 N) R (fun _ _ => true), ce64n1 (F64 N) R (fun _ _ => true), ce65n0 (F65 N) R (fun _ _ => true)]
theorem hcsF43v3 (N : Nat) (R : Type) : AllE (CeOk CX) (csF43v3 N R) := ⟨okce25n0 (F25 N) (soundF25 N) R (fun _ _ => true), okce42n0 (F42 N) (soundF42 N) R (fun _ _ => true), okce47n0 (F47 N) (soundF47 N) R (fun _ _ => true), okce64n1 (F64 N) (soundF64 N) R (fun _ _ => true), okce65n0 (F65 N) (soundF65 N) R (fun _ _ => true), trivial⟩
inductive OL43v3a14950 where
  | ret (b0c0 : Int) (b0c1 : Int) (b1c0 : Int) (b1c1 : Int)
  | x2 (b0c0 : Int) (b0c1 : Int) (b1c0 : Int) (b1c1 : Int)
def L43v3a14950 (N : Nat) : Nat → Int → List Row → Int → Int → Int → Int → Int → Int → Option OL43v3a14950
  | 0 => fun _ _ _ _ _ _ _ _ => none
  | n + 1 => fun x9 x21 x22 x23 b0c0 b0c1 b1c0 b1c1 =>
    match decide (x23 < x22) with
    | true =>
      tst (decide ((0 : Int) ≤ x23) && decide (x23 < ((x21.length : Int)))) <|
      match F47 N x9 ((((x21.getD x23.toNat [])).getD 0 .top).toI) with
      | none => none
      | some (.r rx0v2 rx1v2) =>
        match !rx1v2 with
        | true =>
          match F65 N  with
          | none => none
          | some (.r rx0c0v3 rx0c1v3) =>
            some (.ret rx0c0v3 rx0c1v3 b1c0 b1c1)
        | false =>
          match F64 N rx0v2 ([]) with
          | none => none
          | some (.r rx0c0v4 rx0c1v4) =>
            match F25 N b1c0 b1c1 rx0c0v4 rx0c1v4 with
            | none => none
            | some (.r rx0c0v5 rx0c1v5) =>
              L43v3a14950 N n x9 x21 x22 (IntKind.wrap .i64 (x23 + (1 : Int))) b0c0 b0c1 rx0c0v5 rx0c1v5
    | false =>
      some (.x2 b0c0 b0c1 b1c0 b1c1)
def LFL43v3a14950 (N : Nat) (n : Nat) (s : St) : Option OL43v3a14950 := L43v3a14950 N n ((Eng.look s.env 9).toI) ((Eng.look s.env 21).rows) ((Eng.look s.env 22).toI) ((Eng.look s.env 23).toI) (((s.mem.getD 0 .dead).cells.getD 0 .top).toI) (((s.mem.getD 0 .dead).cells.getD 1 .top).toI) (((s.mem.getD 1 .dead).cells.getD 0 .top).toI) (((s.mem.getD 1 .dead).cells.getD 1 .top).toI)
def sgL43v3a14950 : LSh := ⟨[(0, .one (.fn 47)), (6, .one (.ptr 0 0 0)), (7, .one (.ptr 1 0 0)), (9, .one (.cell (.int .i64))), (21, .one (.cell (.slice 2))), (22, .one (.cell (.int .i64))), (23, .one (.cell (.int .i64)))], [.var [.int .i64, .int .i64] [.cell (.int .i64), .cell (.int .i64)], .var [.int .i64, .int .i64] [.cell (.int .i64), .cell (.int .i64)]]⟩
def ceL43v3a14950 : List Cv := []
def seL43v3a14950 : St → List Nat := fun st => [(Eng.look st.env 6).id, (Eng.look st.env 7).id]
def xL43v3a14950wret : XSh OL43v3a14950 := ⟨[], ⟨[], [.var [.int .i64, .int .i64] [.cell (.int .i64), .cell (.int .i64)], .var [.int .i64, .int .i64] [.cell (.int .i64), .cell (.int .i64)]]⟩, fun st => [0, 1], fun s => .ret (((s.mem.getD 0 .dead).cells.getD 0 .top).toI) (((s.mem.getD 0 .dead).cells.getD 1 .top).toI) (((s.mem.getD 1 .dead).cells.getD 0 .top).toI) (((s.mem.getD 1 .dead).cells.getD 1 .top).toI)⟩
def xL43v3a14950wx2 : XSh OL43v3a14950 := ⟨[], ⟨[], [.var [.int .i64, .int .i64] [.cell (.int .i64), .cell (.int .i64)], .var [.int .i64, .int .i64] [.cell (.int .i64), .cell (.int .i64)]]⟩, fun st => [0, 1], fun s => .x2 (((s.mem.getD 0 .dead).cells.getD 0 .top).toI) (((s.mem.getD 0 .dead).cells.getD 1 .top).toI) (((s.mem.getD 1 .dead).cells.getD 0 .top).toI) (((s.mem.getD 1 .dead).cells.getD 1 .top).toI)⟩
def xsL43v3a14950 : Ex → St → Option (XSh OL43v3a14950) := fun e st => match e with
  | .ret => some xL43v3a14950wret
  | .exit 2 => some xL43v3a14950wx2
  | _ => none
def exL43v3a14950 (o : OL43v3a14950) : Ex := match o with | .ret b0c0 b0c1 b1c0 b1c1 => .ret | .x2 b0c0 b0c1 b1c0 b1c1 => (.exit 2)
def stL43v3a14950 (o : OL43v3a14950) : St := match o with | .ret b0c0 b0c1 b1c0 b1c1 => ⟨[], [.var [.int .i64, .int .i64] [.int .i64 b0c0, .int .i64 b0c1], .var [.int .i64, .int .i64] [.int .i64 b1c0, .int .i64 b1c1]], [], .unk⟩ | .x2 b0c0 b0c1 b1c0 b1c1 => ⟨[], [.var [.int .i64, .int .i64] [.int .i64 b0c0, .int .i64 b0c1], .var [.int .i64, .int .i64] [.int .i64 b1c0, .int .i64 b1c1]], [], .unk⟩
def elL43v3a14950 {R : Type} (o : OL43v3a14950) (k : Ex → St → Option R) : Option R := match o with | .ret b0c0 b0c1 b1c0 b1c1 => k .ret ⟨[], [.var [.int .i64, .int .i64] [.int .i64 b0c0, .int .i64 b0c1], .var [.int .i64, .int .i64] [.int .i64 b1c0, .int .i64 b1c1]], [], .unk⟩ | .x2 b0c0 b0c1 b1c0 b1c1 => k (.exit 2) ⟨[], [.var [.int .i64, .int .i64] [.int .i64 b0c0, .int .i64 b0c1], .var [.int .i64, .int .i64] [.int .i64 b1c0, .int .i64 b1c1]], [], .unk⟩
theorem heL43v3a14950 {R : Type} (o : OL43v3a14950) (k : Ex → St → Option R) : elL43v3a14950 o k = k (exL43v3a14950 o) (stL43v3a14950 o) := by cases o <;> rfl
theorem hxL43v3a14950 : ∀ e st x, xsL43v3a14950 e st = some x → outOk x e exL43v3a14950 stL43v3a14950 := by
  intro e st x h
  unfold xsL43v3a14950 at h
  repeat' split at h
  all_goals first
    | (injection h with h; subst h; exact fun lk M => ⟨rfl, rfl⟩)
    | cases h
noncomputable def T43v3ul14950 (N : Nat) (R : Type) : LTab R := mkTab ⟨44, 4398038136832⟩ (csF43v3 N R) (noY) [] [] []
theorem okT43v3ul14950 (N : Nat) (R : Type) : (T43v3ul14950 N R).Ok CX code43 := mkTab_ok (hcsF43v3 N R) (noY_ok) (trivial) (trivial) (trivial)
noncomputable def bdL43v3a14950 : Code := match codeAt code43 [false, true, true, false, false, true, true, false, false, true, false, true, true] with | some (.loop c) => c | _ => .skip
theorem hsL43v3a14950 (N : Nat) : ∀ (n : Nat) (lk : Nat → AV) (M : List Blk), LFL43v3a14950 N (n + 1) (canS sgL43v3a14950 lk M) = evk CX (T43v3ul14950 N OL43v3a14950) bdL43v3a14950 (2 * 14950) (canS sgL43v3a14950 lk M) (kont CX 2 [] sgL43v3a14950 (fun st => [0, 1]) xsL43v3a14950 (LFL43v3a14950 N n)) := by intro n lk M; kernel_rfl
inductive OL43v3a58 where
  | ret (b0c0 : Int) (b0c1 : Int) (b1c0 : Int) (b1c1 : Int)
  | x0 (b0c0 : Int) (b0c1 : Int) (b1c0 : Int) (b1c1 : Int)
def L43v3a58 (N : Nat) : Nat → List Row → List Row → Int → Int → Int → Int → Int → Int → Option OL43v3a58
  | 0 => fun _ _ _ _ _ _ _ _ => none
  | n + 1 => fun x2 x15 x16 x17 b0c0 b0c1 b1c0 b1c1 =>
    match decide (x17 < x16) with
    | true =>
      tst (decide ((0 : Int) ≤ x17) && decide (x17 < ((x15.length : Int)))) <|
      match L43v3a14950 N N ((((x15.getD x17.toNat [])).getD 0 .top).toI) x2 ((x2.length : Int)) 0 b0c0 b0c1 b1c0 b1c1 with
      | none => none
      | some (.ret b0c0v6 b0c1v6 b1c0v6 b1c1v6) =>
        some (.ret b0c0v6 b0c1v6 b1c0v6 b1c1v6)
      | some (.x2 b0c0v7 b0c1v7 b1c0v7 b1c1v7) =>
        L43v3a58 N n x2 x15 x16 (IntKind.wrap .i64 (x17 + (1 : Int))) b0c0v7 b0c1v7 b1c0v7 b1c1v7
    | false =>
      some (.x0 b0c0 b0c1 b1c0 b1c1)
def LFL43v3a58 (N : Nat) (n : Nat) (s : St) : Option OL43v3a58 := L43v3a58 N n ((Eng.look s.env 2).rows) ((Eng.look s.env 15).rows) ((Eng.look s.env 16).toI) ((Eng.look s.env 17).toI) (((s.mem.getD 0 .dead).cells.getD 0 .top).toI) (((s.mem.getD 0 .dead).cells.getD 1 .top).toI) (((s.mem.getD 1 .dead).cells.getD 0 .top).toI) (((s.mem.getD 1 .dead).cells.getD 1 .top).toI)
def sgL43v3a58 : LSh := ⟨[(0, .one (.fn 47)), (2, .one (.cell (.slice 2))), (6, .one (.ptr 0 0 0)), (7, .one (.ptr 1 0 0)), (15, .one (.cell (.slice 2))), (16, .one (.cell (.int .i64))), (17, .one (.cell (.int .i64)))], [.var [.int .i64, .int .i64] [.cell (.int .i64), .cell (.int .i64)], .var [.int .i64, .int .i64] [.cell (.int .i64), .cell (.int .i64)]]⟩
def ceL43v3a58 : List Cv := []
def seL43v3a58 : St → List Nat := fun st => [(Eng.look st.env 6).id, (Eng.look st.env 7).id]
def xL43v3a58wret : XSh OL43v3a58 := ⟨[], ⟨[], [.var [.int .i64, .int .i64] [.cell (.int .i64), .cell (.int .i64)], .var [.int .i64, .int .i64] [.cell (.int .i64), .cell (.int .i64)]]⟩, fun st => [0, 1], fun s => .ret (((s.mem.getD 0 .dead).cells.getD 0 .top).toI) (((s.mem.getD 0 .dead).cells.getD 1 .top).toI) (((s.mem.getD 1 .dead).cells.getD 0 .top).toI) (((s.mem.getD 1 .dead).cells.getD 1 .top).toI)⟩
def xL43v3a58wx0 : XSh OL43v3a58 := ⟨[], ⟨[], [.var [.int .i64, .int .i64] [.cell (.int .i64), .cell (.int .i64)], .var [.int .i64, .int .i64] [.cell (.int .i64), .cell (.int .i64)]]⟩, fun st => [0, 1], fun s => .x0 (((s.mem.getD 0 .dead).cells.getD 0 .top).toI) (((s.mem.getD 0 .dead).cells.getD 1 .top).toI) (((s.mem.getD 1 .dead).cells.getD 0 .top).toI) (((s.mem.getD 1 .dead).cells.getD 1 .top).toI)⟩
def xsL43v3a58 : Ex → St → Option (XSh OL43v3a58) := fun e st => match e with
  | .ret => some xL43v3a58wret
  | .exit 0 => some xL43v3a58wx0
  | _ => none
def exL43v3a58 (o : OL43v3a58) : Ex := match o with | .ret b0c0 b0c1 b1c0 b1c1 => .ret | .x0 b0c0 b0c1 b1c0 b1c1 => (.exit 0)
def stL43v3a58 (o : OL43v3a58) : St := match o with | .ret b0c0 b0c1 b1c0 b1c1 => ⟨[], [.var [.int .i64, .int .i64] [.int .i64 b0c0, .int .i64 b0c1], .var [.int .i64, .int .i64] [.int .i64 b1c0, .int .i64 b1c1]], [], .unk⟩ | .x0 b0c0 b0c1 b1c0 b1c1 => ⟨[], [.var [.int .i64, .int .i64] [.int .i64 b0c0, .int .i64 b0c1], .var [.int .i64, .int .i64] [.int .i64 b1c0, .int .i64 b1c1]], [], .unk⟩
def elL43v3a58 {R : Type} (o : OL43v3a58) (k : Ex → St → Option R) : Option R := match o with | .ret b0c0 b0c1 b1c0 b1c1 => k .ret ⟨[], [.var [.int .i64, .int .i64] [.int .i64 b0c0, .int .i64 b0c1], .var [.int .i64, .int .i64] [.int .i64 b1c0, .int .i64 b1c1]], [], .unk⟩ | .x0 b0c0 b0c1 b1c0 b1c1 => k (.exit 0) ⟨[], [.var [.int .i64, .int .i64] [.int .i64 b0c0, .int .i64 b0c1], .var [.int .i64, .int .i64] [.int .i64 b1c0, .int .i64 b1c1]], [], .unk⟩
theorem heL43v3a58 {R : Type} (o : OL43v3a58) (k : Ex → St → Option R) : elL43v3a58 o k = k (exL43v3a58 o) (stL43v3a58 o) := by cases o <;> rfl
theorem hxL43v3a58 : ∀ e st x, xsL43v3a58 e st = some x → outOk x e exL43v3a58 stL43v3a58 := by
  intro e st x h
  unfold xsL43v3a58 at h
  repeat' split at h
  all_goals first
    | (injection h with h; subst h; exact fun lk M => ⟨rfl, rfl⟩)
    | cases h
noncomputable def T43v3ul58 (N : Nat) (R : Type) : LTab R := mkTab ⟨44, 8796092905984⟩ (csF43v3 N R) (noY) [(14950, fun st k => callLoop CX 2 4398038136832 ceL43v3a14950 sgL43v3a14950 seL43v3a14950 ⟨44, 8796092905984⟩ (LFL43v3a14950 N N) elL43v3a14950 st k)] [] []
theorem okT43v3ul58 (N : Nat) (R : Type) : (T43v3ul58 N R).Ok CX code43 := mkTab_ok (hcsF43v3 N R) (noY_ok) (⟨loop_ok hX (path := [false, true, true, false, false, true, true, false, false, true, false, true, true]) (by kernel_rfl) (by rfl) (okT43v3ul14950 N OL43v3a14950) (fun _ _ => rfl) (hsL43v3a14950 N) hxL43v3a14950 rfl heL43v3a14950, trivial⟩) (trivial) (trivial)
noncomputable def bdL43v3a58 : Code := match codeAt code43 [false, true, false, true, true] with | some (.loop c) => c | _ => .skip
theorem hsL43v3a58 (N : Nat) : ∀ (n : Nat) (lk : Nat → AV) (M : List Blk), LFL43v3a58 N (n + 1) (canS sgL43v3a58 lk M) = evk CX (T43v3ul58 N OL43v3a58) bdL43v3a58 (2 * 58) (canS sgL43v3a58 lk M) (kont CX 2 [] sgL43v3a58 (fun st => [0, 1]) xsL43v3a58 (LFL43v3a58 N n)) := by intro n lk M; kernel_rfl
noncomputable def T43v3ur1 (N : Nat) (R : Type) : LTab R := mkTab ⟨44, 17592186044415⟩ (csF43v3 N R) (noY) [(58, fun st k => callLoop CX 2 8796092905984 ceL43v3a58 sgL43v3a58 seL43v3a58 ⟨44, 17592186044415⟩ (LFL43v3a58 N N) elL43v3a58 st k)] [] []
theorem okT43v3ur1 (N : Nat) (R : Type) : (T43v3ur1 N R).Ok CX code43 := mkTab_ok (hcsF43v3 N R) (noY_ok) (⟨loop_ok hX (path := [false, true, false, true, true]) (by kernel_rfl) (by rfl) (okT43v3ul58 N OL43v3a58) (fun _ _ => rfl) (hsL43v3a58 N) hxL43v3a58 rfl heL43v3a58, trivial⟩) (trivial) (trivial)
def rsF43v3 : List ResultVar := [.cell 6 29]
def F43v3 : Nat → TF43v3
  | 0 => fun _ _ => none
  | N + 1 => fun x1 x2 =>
    match F42 N  with
    | none => none
    | some (.r rx0c0v1 rx0c1v1) =>
      match L43v3a58 N N x2 x1 ((x1.length : Int)) 0 0 0 rx0c0v1 rx0c1v1 with
      | none => none
      | some (.ret b0c0v8 b0c1v8 b1c0v8 b1c1v8) =>
        some (.r b0c0v8 b0c1v8)
      | some (.x0 b0c0v9 b0c1v9 b1c0v9 b1c1v9) =>
        some (.r b1c0v9 b1c1v9)
def xRF43v3 : XSh R43v3 := ⟨[], ⟨[(0, .agg [.cell (.int .i64), .cell (.int .i64)])], []⟩, fun _ => [], fun s => .r (((Eng.look s.env 0).cells.getD 0 .top).toI) (((Eng.look s.env 0).cells.getD 1 .top).toI)⟩
theorem fsF43v3 : ∀ (N : Nat) (lk : Nat → AV) (M : List Blk), FFF43v3 (F43v3 (N + 1)) (canS sgF43v3 lk M) = evfn CX (T43v3ur1 N R43v3) code43 rsF43v3 (argsE 3 (canS sgF43v3 lk M).env) (canS sgF43v3 lk M).mem (goR CX 0 (fun _ => some xRF43v3)) := by intro N lk M; kernel_rfl
theorem soundF43v3 : ∀ N, RecOkF43v3 (F43v3 N)
  | 0, lk, M, o, h => by cases h
  | N + 1, lk, M, o, h => fn_sound hX (okT43v3ur1 N R43v3) Try.func43 hb43 rfl en43 (by kernel_rfl) (ys := fun _ => some xRF43v3) (fun st y h => by injection h with h; subst h; exact fun lk M => ⟨rfl, rfl⟩) ((fsF43v3 N lk M).symm.trans h)
def cvce43v3n0 : List Cv := [.frz 2 (.slice 2)]
def selce43v3n0 : St → List Nat := fun _ => []
noncomputable def ce43v3n0 (Fx : TF43v3) (R : Type) (test : List AV → List Blk → Bool) : CE R := ⟨43, test, fun _ M => some (List.range M.length), fun args M k => tst (Nat.beq args.length 3) (callFn CX 0 cvce43v3n0 sgF43v3 selce43v3n0 (FFF43v3 Fx) elF43v3 args M (fun x M' => tst (Nat.ble M.length M'.length) (k x M')))⟩
theorem okce43v3n0 (Fx : TF43v3) (h : RecOkF43v3 Fx) (R : Type) (test : List AV → List Blk → Bool) : CeOk CX (ce43v3n0 Fx R test) := ce_okc hX (fun o k => by cases o; rfl) h en43
end Go.Proofs.Ytnfmdenclkdmbaa

namespace Go.Proofs.Ytnfmdenclkdmbaa
open Go Go.Eng
set_option maxRecDepth 100000

/-! ### F49: ceiling/num.rest -/
inductive R49 where
  | r (x0c0 : Int) (x0c1 : Int)
abbrev TF49 := Int → Int → Int → Int → Option R49
def sgF49 : LSh := ⟨[(0, .agg [.cell (.int .i64), .cell (.int .i64)]), (1, .agg [.cell (.int .i64), .cell (.int .i64)])], []⟩
def FFF49 (Fx : TF49) (s : St) : Option R49 := Fx (((Eng.look s.env 0).cells.getD 0 .top).toI) (((Eng.look s.env 0).cells.getD 1 .top).toI) (((Eng.look s.env 1).cells.getD 0 .top).toI) (((Eng.look s.env 1).cells.getD 1 .top).toI)
def valF49 (o : R49) : AV := match o with | .r x0c0 x0c1 => .agg [.int .i64 x0c0, .int .i64 x0c1]
def memF49 (o : R49) : List Blk := match o with | .r x0c0 x0c1 => []
def elF49 {R : Type} (o : R49) (k : AV → List Blk → Option R) : Option R := match o with | .r x0c0 x0c1 => k (.agg [.int .i64 x0c0, .int .i64 x0c1]) []
def RecOkF49 (Fx : TF49) : Prop := ∀ lk M o, FFF49 Fx (canS sgF49 lk M) = some o → FCalls CX 49 0 (argsE 2 (canS sgF49 lk M).env) (canS sgF49 lk M).mem (valF49 o) (memF49 o)
noncomputable def csF49 (N : Nat) (R : Type) : List (CE R) := [ce89n0 (F89 N) R (fun _ _ => true)]
theorem hcsF49 (N : Nat) (R : Type) : AllE (CeOk CX) (csF49 N R) := ⟨okce89n0 (F89 N) (soundF89 N) R (fun _ _ => true), trivial⟩
noncomputable def T49ur1 (N : Nat) (R : Type) : LTab R := mkTab ⟨27, 134217727⟩ (csF49 N R) (noY) [] [] []
theorem okT49ur1 (N : Nat) (R : Type) : (T49ur1 N R).Ok CX code49 := mkTab_ok (hcsF49 N R) (noY_ok) (trivial) (trivial) (trivial)
def rsF49 : List ResultVar := [.cell 4 29]
def F49 : Nat → TF49
  | 0 => fun _ _ _ _ => none
  | N + 1 => fun x0c0 x0c1 x1c0 x1c1 =>
    match F89 N x1c0 with
    | none => none
    | some (.r rx0v1) =>
      match F89 N x1c1 with
      | none => none
      | some (.r rx0v2) =>
        some (.r (Eng.imin 0 (Eng.imax x0c0 (IntKind.wrap .i64 (0 - (IntKind.wrap .i64 (IntKind.wrap .u64 ((Eng.imax rx0v1 rx0v2) - (1 : Int)))))))) (Eng.imax 0 (Eng.imin x0c1 (IntKind.wrap .i64 (IntKind.wrap .u64 ((Eng.imax rx0v1 rx0v2) - (1 : Int)))))))
def xRF49 : XSh R49 := ⟨[], ⟨[(0, .agg [.cell (.int .i64), .cell (.int .i64)])], []⟩, fun _ => [], fun s => .r (((Eng.look s.env 0).cells.getD 0 .top).toI) (((Eng.look s.env 0).cells.getD 1 .top).toI)⟩
theorem fsF49 : ∀ (N : Nat) (lk : Nat → AV) (M : List Blk), FFF49 (F49 (N + 1)) (canS sgF49 lk M) = evfn CX (T49ur1 N R49) code49 rsF49 (argsE 2 (canS sgF49 lk M).env) (canS sgF49 lk M).mem (goR CX 0 (fun _ => some xRF49)) := by intro N lk M; kernel_rfl
theorem soundF49 : ∀ N, RecOkF49 (F49 N)
  | 0, lk, M, o, h => by cases h
  | N + 1, lk, M, o, h => fn_sound hX (okT49ur1 N R49) Try.func49 hb49 rfl en49 (by kernel_rfl) (ys := fun _ => some xRF49) (fun st y h => by injection h with h; subst h; exact fun lk M => ⟨rfl, rfl⟩) ((fsF49 N lk M).symm.trans h)
def cvce49n0 : List Cv := []
def selce49n0 : St → List Nat := fun _ => []
noncomputable def ce49n0 (Fx : TF49) (R : Type) (test : List AV → List Blk → Bool) : CE R := ⟨49, test, fun args M => some (selce49n0 ⟨argEnv 0 args, M, [], .unk⟩), fun args M k => tst (Nat.beq args.length 2) (callFn CX 0 cvce49n0 sgF49 selce49n0 (FFF49 Fx) elF49 args M k)⟩
theorem okce49n0 (Fx : TF49) (h : RecOkF49 Fx) (R : Type) (test : List AV → List Blk → Bool) : CeOk CX (ce49n0 Fx R test) := ce_ok hX (fun o k => by cases o; rfl) h en49 (fun args M ids h => by injection h with h; exact ⟨rfl, h.symm⟩)
end Go.Proofs.Ytnfmdenclkdmbaa

namespace Go.Proofs.Ytnfmdenclkdmbaa
open Go Go.Eng
set_option maxRecDepth 100000

/-! ### F50: ceiling/num.residues -/
inductive R50 where
  | r (x0c0 : Int) (x0c1 : Int)
abbrev TF50 := Int → Int → Int → Int → Option R50
def sgF50 : LSh := ⟨[(0, .agg [.cell (.int .i64), .cell (.int .i64)]), (1, .agg [.cell (.int .i64), .cell (.int .i64)])], []⟩
def FFF50 (Fx : TF50) (s : St) : Option R50 := Fx (((Eng.look s.env 0).cells.getD 0 .top).toI) (((Eng.look s.env 0).cells.getD 1 .top).toI) (((Eng.look s.env 1).cells.getD 0 .top).toI) (((Eng.look s.env 1).cells.getD 1 .top).toI)
def valF50 (o : R50) : AV := match o with | .r x0c0 x0c1 => .agg [.int .i64 x0c0, .int .i64 x0c1]
def memF50 (o : R50) : List Blk := match o with | .r x0c0 x0c1 => []
def elF50 {R : Type} (o : R50) (k : AV → List Blk → Option R) : Option R := match o with | .r x0c0 x0c1 => k (.agg [.int .i64 x0c0, .int .i64 x0c1]) []
def RecOkF50 (Fx : TF50) : Prop := ∀ lk M o, FFF50 Fx (canS sgF50 lk M) = some o → FCalls CX 50 0 (argsE 2 (canS sgF50 lk M).env) (canS sgF50 lk M).mem (valF50 o) (memF50 o)
noncomputable def csF50 (N : Nat) (R : Type) : List (CE R) := []
theorem hcsF50 (N : Nat) (R : Type) : AllE (CeOk CX) (csF50 N R) := trivial
inductive OJ50a14 where
  | nx (b0c0 : Int) (b0c1 : Int) (b1c0 : Int) (b1c1 : Int) (b2c0 : Int) (b2c1 : Int)
def J50a14 (N : Nat) : Int → Int → Int → Int → Int → Int → Option OJ50a14 := fun b0c0 b0c1 b1c0 b1c1 b2c0 b2c1 =>
    match decide ((0 : Int) < b1c1) with
    | true =>
      match decide ((0 : Int) ≤ b0c0) with
      | true =>
        match decide ((0 : Int) < b1c0) with
        | true =>
          some (.nx b0c0 b0c1 b1c0 b1c1 b2c0 (Eng.imin (IntKind.wrap .i64 (b1c1 - (1 : Int))) b0c1))
        | false =>
          some (.nx b0c0 b0c1 b1c0 b1c1 b2c0 (IntKind.wrap .i64 (b1c1 - (1 : Int))))
      | false =>
        some (.nx b0c0 b0c1 b1c0 b1c1 b2c0 (IntKind.wrap .i64 (b1c1 - (1 : Int))))
    | false =>
      some (.nx b0c0 b0c1 b1c0 b1c1 b2c0 b2c1)
def LFJ50a14 (N : Nat) (s : St) : Option OJ50a14 := J50a14 N (((s.mem.getD 0 .dead).cells.getD 0 .top).toI) (((s.mem.getD 0 .dead).cells.getD 1 .top).toI) (((s.mem.getD 1 .dead).cells.getD 0 .top).toI) (((s.mem.getD 1 .dead).cells.getD 1 .top).toI) (((s.mem.getD 2 .dead).cells.getD 0 .top).toI) (((s.mem.getD 2 .dead).cells.getD 1 .top).toI)
def sgJ50a14 : LSh := ⟨[(2, .one (.ptr 0 0 0)), (3, .one (.ptr 1 0 0)), (5, .one (.ptr 2 0 0))], [.var [.int .i64, .int .i64] [.cell (.int .i64), .cell (.int .i64)], .var [.int .i64, .int .i64] [.cell (.int .i64), .cell (.int .i64)], .var [.int .i64, .int .i64] [.cell (.int .i64), .cell (.int .i64)]]⟩
def ceJ50a14 : List Cv := []
def seJ50a14 : St → List Nat := fun st => [(Eng.look st.env 2).id, (Eng.look st.env 3).id, (Eng.look st.env 5).id]
def xJ50a14wnx : XSh OJ50a14 := ⟨[], ⟨[], [.var [.int .i64, .int .i64] [.cell (.int .i64), .cell (.int .i64)], .var [.int .i64, .int .i64] [.cell (.int .i64), .cell (.int .i64)], .var [.int .i64, .int .i64] [.cell (.int .i64), .cell (.int .i64)]]⟩, fun st => [0, 1, 2], fun s => .nx (((s.mem.getD 0 .dead).cells.getD 0 .top).toI) (((s.mem.getD 0 .dead).cells.getD 1 .top).toI) (((s.mem.getD 1 .dead).cells.getD 0 .top).toI) (((s.mem.getD 1 .dead).cells.getD 1 .top).toI) (((s.mem.getD 2 .dead).cells.getD 0 .top).toI) (((s.mem.getD 2 .dead).cells.getD 1 .top).toI)⟩
def xsJ50a14 : Ex → St → Option (XSh OJ50a14) := fun e st => match e with
  | .normal => some xJ50a14wnx
  | _ => none
def exJ50a14 (o : OJ50a14) : Ex := match o with | .nx b0c0 b0c1 b1c0 b1c1 b2c0 b2c1 => .normal
def stJ50a14 (o : OJ50a14) : St := match o with | .nx b0c0 b0c1 b1c0 b1c1 b2c0 b2c1 => ⟨[], [.var [.int .i64, .int .i64] [.int .i64 b0c0, .int .i64 b0c1], .var [.int .i64, .int .i64] [.int .i64 b1c0, .int .i64 b1c1], .var [.int .i64, .int .i64] [.int .i64 b2c0, .int .i64 b2c1]], [], .unk⟩
def elJ50a14 {R : Type} (o : OJ50a14) (k : Ex → St → Option R) : Option R := match o with | .nx b0c0 b0c1 b1c0 b1c1 b2c0 b2c1 => k .normal ⟨[], [.var [.int .i64, .int .i64] [.int .i64 b0c0, .int .i64 b0c1], .var [.int .i64, .int .i64] [.int .i64 b1c0, .int .i64 b1c1], .var [.int .i64, .int .i64] [.int .i64 b2c0, .int .i64 b2c1]], [], .unk⟩
theorem heJ50a14 {R : Type} (o : OJ50a14) (k : Ex → St → Option R) : elJ50a14 o k = k (exJ50a14 o) (stJ50a14 o) := by cases o <;> rfl
theorem hxJ50a14 : ∀ e st x, xsJ50a14 e st = some x → outOk x e exJ50a14 stJ50a14 := by
  intro e st x h
  unfold xsJ50a14 at h
  repeat' split at h
  all_goals first
    | (injection h with h; subst h; exact fun lk M => ⟨rfl, rfl⟩)
    | cases h
noncomputable def T50uc14 (N : Nat) (R : Type) : LTab R := mkTab ⟨49, 134217664⟩ (csF50 N R) (noY) [] [] []
theorem okT50uc14 (N : Nat) (R : Type) : (T50uc14 N R).Ok CX code50 := mkTab_ok (hcsF50 N R) (noY_ok) (trivial) (trivial) (trivial)
noncomputable def bdJ50a14 : Code := (codeAt code50 [false, true, true]).getD .skip
theorem hsJ50a14 (N : Nat) : ∀ (lk : Nat → AV) (M : List Blk), LFJ50a14 N (canS sgJ50a14 lk M) = evk CX (T50uc14 N OJ50a14) bdJ50a14 14 (canS sgJ50a14 lk M) (kontX CX 3 xsJ50a14) := by intro lk M; kernel_rfl
noncomputable def T50ur1 (N : Nat) (R : Type) : LTab R := mkTab ⟨49, 562949953421311⟩ (csF50 N R) (noY) [] [] [(14, fun st k => callLoop CX 3 134217664 ceJ50a14 sgJ50a14 seJ50a14 ⟨49, 562949953421311⟩ (LFJ50a14 N) elJ50a14 st k)]
theorem okT50ur1 (N : Nat) (R : Type) : (T50ur1 N R).Ok CX code50 := mkTab_ok (hcsF50 N R) (noY_ok) (trivial) (trivial) (⟨cut_ok hX (path := [false, true, true]) (by kernel_rfl) (by rfl) (okT50uc14 N OJ50a14) (hsJ50a14 N) hxJ50a14 rfl heJ50a14, trivial⟩)
def rsF50 : List ResultVar := [.cell 4 29]
def F50 : Nat → TF50
  | 0 => fun _ _ _ _ => none
  | N + 1 => fun x0c0 x0c1 x1c0 x1c1 =>
    match J50a14 N x0c0 x0c1 x1c0 x1c1 0 0 with
    | none => none
    | some (.nx b0c0v1 b0c1v1 b1c0v1 b1c1v1 b2c0v1 b2c1v1) =>
      match decide (b1c0v1 < (0 : Int)) with
      | true =>
        match decide (b0c1v1 ≤ (0 : Int)) with
        | true =>
          match decide (b1c1v1 < (0 : Int)) with
          | true =>
            some (.r (Eng.imax (IntKind.wrap .i64 (b1c0v1 + (1 : Int))) b0c0v1) b2c1v1)
          | false =>
            some (.r (IntKind.wrap .i64 (b1c0v1 + (1 : Int))) b2c1v1)
        | false =>
          some (.r (IntKind.wrap .i64 (b1c0v1 + (1 : Int))) b2c1v1)
      | false =>
        some (.r b2c0v1 b2c1v1)
def xRF50 : XSh R50 := ⟨[], ⟨[(0, .agg [.cell (.int .i64), .cell (.int .i64)])], []⟩, fun _ => [], fun s => .r (((Eng.look s.env 0).cells.getD 0 .top).toI) (((Eng.look s.env 0).cells.getD 1 .top).toI)⟩
theorem fsF50 : ∀ (N : Nat) (lk : Nat → AV) (M : List Blk), FFF50 (F50 (N + 1)) (canS sgF50 lk M) = evfn CX (T50ur1 N R50) code50 rsF50 (argsE 2 (canS sgF50 lk M).env) (canS sgF50 lk M).mem (goR CX 0 (fun _ => some xRF50)) := by intro N lk M; kernel_rfl
theorem soundF50 : ∀ N, RecOkF50 (F50 N)
  | 0, lk, M, o, h => by cases h
  | N + 1, lk, M, o, h => fn_sound hX (okT50ur1 N R50) Try.func50 hb50 rfl en50 (by kernel_rfl) (ys := fun _ => some xRF50) (fun st y h => by injection h with h; subst h; exact fun lk M => ⟨rfl, rfl⟩) ((fsF50 N lk M).symm.trans h)
def cvce50n0 : List Cv := []
def selce50n0 : St → List Nat := fun _ => []
noncomputable def ce50n0 (Fx : TF50) (R : Type) (test : List AV → List Blk → Bool) : CE R := ⟨50, test, fun args M => some (selce50n0 ⟨argEnv 0 args, M, [], .unk⟩), fun args M k => tst (Nat.beq args.length 2) (callFn CX 0 cvce50n0 sgF50 selce50n0 (FFF50 Fx) elF50 args M k)⟩
theorem okce50n0 (Fx : TF50) (h : RecOkF50 Fx) (R : Type) (test : List AV → List Blk → Bool) : CeOk CX (ce50n0 Fx R test) := ce_ok hX (fun o k => by cases o; rfl) h en50 (fun args M ids h => by injection h with h; exact ⟨rfl, h.symm⟩)
end Go.Proofs.Ytnfmdenclkdmbaa

namespace Go.Proofs.Ytnfmdenclkdmbaa
open Go Go.Eng
set_option maxRecDepth 100000

/-! ### F90: ceiling/num.relates.1 -/
inductive R90 where
  | r (x0 : Bool)
abbrev TF90 := List Row → Option R90
def sgF90 : LSh := ⟨[(0, .one (.cell (.slice 4)))], []⟩
def FFF90 (Fx : TF90) (s : St) : Option R90 := Fx ((Eng.look s.env 0).rows)
def valF90 (o : R90) : AV := match o with | .r x0 => .bool x0
def memF90 (o : R90) : List Blk := match o with | .r x0 => []
def elF90 {R : Type} (o : R90) (k : AV → List Blk → Option R) : Option R := match o with | .r x0 => k (.bool x0) []
def RecOkF90 (Fx : TF90) : Prop := ∀ lk M o, FFF90 Fx (canS sgF90 lk M) = some o → FCalls CX 90 0 (argsE 1 (canS sgF90 lk M).env) (canS sgF90 lk M).mem (valF90 o) (memF90 o)
noncomputable def csF90 (N : Nat) (R : Type) : List (CE R) := []
theorem hcsF90 (N : Nat) (R : Type) : AllE (CeOk CX) (csF90 N R) := trivial
inductive OL90a26 where
  | ret (x2 : Bool)
  | x0
def L90a26 (N : Nat) : Nat → List Row → Int → Int → Option OL90a26
  | 0 => fun _ _ _ => none
  | n + 1 => fun x5 x6 x7 =>
    match decide (x7 < x6) with
    | true =>
      tst (decide ((0 : Int) ≤ x7) && decide (x7 < ((x5.length : Int)))) <|
      match (((x5.getD x7.toNat [])).getD 0 .top).toB with
      | true =>
        some (.ret true)
      | false =>
        L90a26 N n x5 x6 (IntKind.wrap .i64 (x7 + (1 : Int)))
    | false =>
      some .x0
def LFL90a26 (N : Nat) (n : Nat) (s : St) : Option OL90a26 := L90a26 N n ((Eng.look s.env 5).rows) ((Eng.look s.env 6).toI) ((Eng.look s.env 7).toI)
def sgL90a26 : LSh := ⟨[(5, .one (.cell (.slice 4))), (6, .one (.cell (.int .i64))), (7, .one (.cell (.int .i64)))], []⟩
def ceL90a26 : List Cv := []
def seL90a26 : St → List Nat := fun _ => []
def xL90a26wret : XSh OL90a26 := ⟨[], ⟨[(2, .one (.cell (.bool)))], []⟩, fun _ => [], fun s => .ret ((Eng.look s.env 2).toB)⟩
def xL90a26wx0 : XSh OL90a26 := ⟨[], ⟨[], []⟩, fun _ => [], fun s => .x0 ⟩
def xsL90a26 : Ex → St → Option (XSh OL90a26) := fun e st => match e with
  | .ret => some xL90a26wret
  | .exit 0 => some xL90a26wx0
  | _ => none
def exL90a26 (o : OL90a26) : Ex := match o with | .ret x2 => .ret | .x0 => (.exit 0)
def stL90a26 (o : OL90a26) : St := match o with | .ret x2 => ⟨[(2, .bool x2)], [], [], .unk⟩ | .x0 => ⟨[], [], [], .unk⟩
def elL90a26 {R : Type} (o : OL90a26) (k : Ex → St → Option R) : Option R := match o with | .ret x2 => k .ret ⟨[(2, .bool x2)], [], [], .unk⟩ | .x0 => k (.exit 0) ⟨[], [], [], .unk⟩
theorem heL90a26 {R : Type} (o : OL90a26) (k : Ex → St → Option R) : elL90a26 o k = k (exL90a26 o) (stL90a26 o) := by cases o <;> rfl
theorem hxL90a26 : ∀ e st x, xsL90a26 e st = some x → outOk x e exL90a26 stL90a26 := by
  intro e st x h
  unfold xsL90a26 at h
  repeat' split at h
  all_goals first
    | (injection h with h; subst h; exact fun lk M => ⟨rfl, rfl⟩)
    | cases h
noncomputable def T90ul26 (N : Nat) (R : Type) : LTab R := mkTab ⟨13, 8084⟩ (csF90 N R) (noY) [] [] []
theorem okT90ul26 (N : Nat) (R : Type) : (T90ul26 N R).Ok CX code90 := mkTab_ok (hcsF90 N R) (noY_ok) (trivial) (trivial) (trivial)
noncomputable def bdL90a26 : Code := match codeAt code90 [false, true, false, true] with | some (.loop c) => c | _ => .skip
theorem hsL90a26 (N : Nat) : ∀ (n : Nat) (lk : Nat → AV) (M : List Blk), LFL90a26 N (n + 1) (canS sgL90a26 lk M) = evk CX (T90ul26 N OL90a26) bdL90a26 (2 * 26) (canS sgL90a26 lk M) (kont CX 0 [] sgL90a26 (fun _ => []) xsL90a26 (LFL90a26 N n)) := by intro n lk M; kernel_rfl
noncomputable def T90ur1 (N : Nat) (R : Type) : LTab R := mkTab ⟨13, 8191⟩ (csF90 N R) (noY) [(26, fun st k => callLoop CX 0 8084 ceL90a26 sgL90a26 seL90a26 ⟨13, 8191⟩ (LFL90a26 N N) elL90a26 st k)] [] []
theorem okT90ur1 (N : Nat) (R : Type) : (T90ur1 N R).Ok CX code90 := mkTab_ok (hcsF90 N R) (noY_ok) (⟨loop_ok hX (path := [false, true, false, true]) (by kernel_rfl) (by rfl) (okT90ul26 N OL90a26) (fun _ _ => rfl) (hsL90a26 N) hxL90a26 rfl heL90a26, trivial⟩) (trivial) (trivial)
def rsF90 : List ResultVar := [.tmp 2]
def F90 : Nat → TF90
  | 0 => fun _ => none
  | N + 1 => fun x0 =>
    match L90a26 N N x0 ((x0.length : Int)) 0 with
    | none => none
    | some (.ret x2v1) =>
      some (.r x2v1)
    | some (.x0) =>
      some (.r false)
def xRF90 : XSh R90 := ⟨[], ⟨[(0, .one (.cell (.bool)))], []⟩, fun _ => [], fun s => .r ((Eng.look s.env 0).toB)⟩
theorem fsF90 : ∀ (N : Nat) (lk : Nat → AV) (M : List Blk), FFF90 (F90 (N + 1)) (canS sgF90 lk M) = evfn CX (T90ur1 N R90) code90 rsF90 (argsE 1 (canS sgF90 lk M).env) (canS sgF90 lk M).mem (goR CX 0 (fun _ => some xRF90)) := by intro N lk M; kernel_rfl
theorem soundF90 : ∀ N, RecOkF90 (F90 N)
  | 0, lk, M, o, h => by cases h
  | N + 1, lk, M, o, h => fn_sound hX (okT90ur1 N R90) Try.func90 hb90 rfl en90 (by kernel_rfl) (ys := fun _ => some xRF90) (fun st y h => by injection h with h; subst h; exact fun lk M => ⟨rfl, rfl⟩) ((fsF90 N lk M).symm.trans h)
def cvce90n0 : List Cv := [.frz 0 (.slice 4)]
def selce90n0 : St → List Nat := fun _ => []
noncomputable def ce90n0 (Fx : TF90) (R : Type) (test : List AV → List Blk → Bool) : CE R := ⟨90, test, fun _ M => some (List.range M.length), fun args M k => tst (Nat.beq args.length 1) (callFn CX 0 cvce90n0 sgF90 selce90n0 (FFF90 Fx) elF90 args M (fun x M' => tst (Nat.ble M.length M'.length) (k x M')))⟩
theorem okce90n0 (Fx : TF90) (h : RecOkF90 Fx) (R : Type) (test : List AV → List Blk → Bool) : CeOk CX (ce90n0 Fx R test) := ce_okc hX (fun o k => by cases o; rfl) h en90
end Go.Proofs.Ytnfmdenclkdmbaa

namespace Go.Proofs.Ytnfmdenclkdmbaa
open Go Go.Eng
set_option maxRecDepth 100000

/-! ### F51: ceiling/num.relates -/
inductive R51 where
  | r (x0c0 : Int) (x0c1 : Int)
abbrev TF51 := Int → Int → Int → Int → Int → Option R51
def sgF51 : LSh := ⟨[(0, .one (.cell (.int .u8))), (1, .agg [.cell (.int .i64), .cell (.int .i64)]), (2, .agg [.cell (.int .i64), .cell (.int .i64)])], []⟩
def FFF51 (Fx : TF51) (s : St) : Option R51 := Fx ((Eng.look s.env 0).toI) (((Eng.look s.env 1).cells.getD 0 .top).toI) (((Eng.look s.env 1).cells.getD 1 .top).toI) (((Eng.look s.env 2).cells.getD 0 .top).toI) (((Eng.look s.env 2).cells.getD 1 .top).toI)
def valF51 (o : R51) : AV := match o with | .r x0c0 x0c1 => .agg [.int .i64 x0c0, .int .i64 x0c1]
def memF51 (o : R51) : List Blk := match o with | .r x0c0 x0c1 => []
def elF51 {R : Type} (o : R51) (k : AV → List Blk → Option R) : Option R := match o with | .r x0c0 x0c1 => k (.agg [.int .i64 x0c0, .int .i64 x0c1]) []
def RecOkF51 (Fx : TF51) : Prop := ∀ lk M o, FFF51 Fx (canS sgF51 lk M) = some o → FCalls CX 51 0 (argsE 3 (canS sgF51 lk M).env) (canS sgF51 lk M).mem (valF51 o) (memF51 o)
noncomputable def csF51 (N : Nat) (R : Type) : List (CE R) := [ce90n0 (F90 N) R (fun _ _ => true), ce91n0 (F91 N) R (fun _ _ => true)]
theorem hcsF51 (N : Nat) (R : Type) : AllE (CeOk CX) (csF51 N R) := ⟨okce90n0 (F90 N) (soundF90 N) R (fun _ _ => true), okce91n0 (F91 N) (soundF91 N) R (fun _ _ => true), trivial⟩
inductive OJ51a62 where
  | nx (x11 : Bool) (x12 : Bool)
def J51a62 (N : Nat) : Int → Bool → Bool → Bool → Option OJ51a62 := fun x0 x7 x8 x9 =>
    match x0 == (7 : Int) with
    | true =>
      match F90 N (([[.bool x7], [.bool x9]] : List Row)) with
      | none => none
      | some (.r rx0v1) =>
        some (.nx x8 rx0v1)
    | false =>
      match x0 == (8 : Int) with
      | true =>
        match F90 N (([[.bool x7], [.bool x9]] : List Row)) with
        | none => none
        | some (.r rx0v2) =>
          some (.nx rx0v2 x8)
      | false =>
        match x0 == (9 : Int) with
        | true =>
          match F90 N (([[.bool x8], [.bool x9]] : List Row)) with
          | none => none
          | some (.r rx0v3) =>
            some (.nx x7 rx0v3)
        | false =>
          match x0 == (10 : Int) with
          | true =>
            match F90 N (([[.bool x7], [.bool x8]] : List Row)) with
            | none => none
            | some (.r rx0v4) =>
              some (.nx rx0v4 x9)
          | false =>
            match x0 == (11 : Int) with
            | true =>
              match F90 N (([[.bool x7], [.bool x8]] : List Row)) with
              | none => none
              | some (.r rx0v5) =>
                some (.nx x9 rx0v5)
            | false =>
              match F90 N (([[.bool x8], [.bool x9]] : List Row)) with
              | none => none
              | some (.r rx0v6) =>
                some (.nx rx0v6 x7)
def LFJ51a62 (N : Nat) (s : St) : Option OJ51a62 := J51a62 N ((Eng.look s.env 0).toI) ((Eng.look s.env 7).toB) ((Eng.look s.env 8).toB) ((Eng.look s.env 9).toB)
def sgJ51a62 : LSh := ⟨[(0, .one (.cell (.int .u8))), (7, .one (.cell (.bool))), (8, .one (.cell (.bool))), (9, .one (.cell (.bool))), (10, .one (.fn 90))], []⟩
def ceJ51a62 : List Cv := []
def seJ51a62 : St → List Nat := fun _ => []
def xJ51a62wnx : XSh OJ51a62 := ⟨[], ⟨[(11, .one (.cell (.bool))), (12, .one (.cell (.bool)))], []⟩, fun _ => [], fun s => .nx ((Eng.look s.env 11).toB) ((Eng.look s.env 12).toB)⟩
def xsJ51a62 : Ex → St → Option (XSh OJ51a62) := fun e st => match e with
  | .normal => some xJ51a62wnx
  | _ => none
def exJ51a62 (o : OJ51a62) : Ex := match o with | .nx x11 x12 => .normal
def stJ51a62 (o : OJ51a62) : St := match o with | .nx x11 x12 => ⟨[(11, .bool x11), (12, .bool x12)], [], [], .unk⟩
def elJ51a62 {R : Type} (o : OJ51a62) (k : Ex → St → Option R) : Option R := match o with | .nx x11 x12 => k .normal ⟨[(11, .bool x11), (12, .bool x12)], [], [], .unk⟩
theorem heJ51a62 {R : Type} (o : OJ51a62) (k : Ex → St → Option R) : elJ51a62 o k = k (exJ51a62 o) (stJ51a62 o) := by cases o <;> rfl
theorem hxJ51a62 : ∀ e st x, xsJ51a62 e st = some x → outOk x e exJ51a62 stJ51a62 := by
  intro e st x h
  unfold xsJ51a62 at h
  repeat' split at h
  all_goals first
    | (injection h with h; subst h; exact fun lk M => ⟨rfl, rfl⟩)
    | cases h
noncomputable def T51uc62 (N : Nat) (R : Type) : LTab R := mkTab ⟨87, 2417851639229241169549312⟩ (csF51 N R) (noY) [] [] []
theorem okT51uc62 (N : Nat) (R : Type) : (T51uc62 N R).Ok CX code51 := mkTab_ok (hcsF51 N R) (noY_ok) (trivial) (trivial) (trivial)
noncomputable def bdJ51a62 : Code := (codeAt code51 [false, true, true, true, true]).getD .skip
theorem hsJ51a62 (N : Nat) : ∀ (lk : Nat → AV) (M : List Blk), LFJ51a62 N (canS sgJ51a62 lk M) = evk CX (T51uc62 N OJ51a62) bdJ51a62 62 (canS sgJ51a62 lk M) (kontX CX 0 xsJ51a62) := by intro lk M; kernel_rfl
noncomputable def T51ur1 (N : Nat) (R : Type) : LTab R := mkTab ⟨87, 154742504910672534362390527⟩ (csF51 N R) (noY) [] [] [(62, fun st k => callLoop CX 0 2417851639229241169549312 ceJ51a62 sgJ51a62 seJ51a62 ⟨87, 154742504910672534362390527⟩ (LFJ51a62 N) elJ51a62 st k)]
theorem okT51ur1 (N : Nat) (R : Type) : (T51ur1 N R).Ok CX code51 := mkTab_ok (hcsF51 N R) (noY_ok) (trivial) (trivial) (⟨cut_ok hX (path := [false, true, true, true, true]) (by kernel_rfl) (by rfl) (okT51uc62 N OJ51a62) (hsJ51a62 N) hxJ51a62 rfl heJ51a62, trivial⟩)
def rsF51 : List ResultVar := [.cell 6 29]
def F51 : Nat → TF51
  | 0 => fun _ _ _ _ _ => none
  | N + 1 => fun x0 x1c0 x1c1 x2c0 x2c1 =>
    match J51a62 N x0 (decide (x1c0 < x2c1)) (decide ((Eng.imax x1c0 x2c0) ≤ (Eng.imin x1c1 x2c1))) (decide (x2c0 < x1c1)) with
    | none => none
    | some (.nx x11v7 x12v7) =>
      match F91 N (!x12v7) with
      | none => none
      | some (.r rx0v8) =>
        match F91 N x11v7 with
        | none => none
        | some (.r rx0v9) =>
          some (.r rx0v8 rx0v9)
def xRF51 : XSh R51 := ⟨[], ⟨[(0, .agg [.cell (.int .i64), .cell (.int .i64)])], []⟩, fun _ => [], fun s => .r (((Eng.look s.env 0).cells.getD 0 .top).toI) (((Eng.look s.env 0).cells.getD 1 .top).toI)⟩
theorem fsF51 : ∀ (N : Nat) (lk : Nat → AV) (M : List Blk), FFF51 (F51 (N + 1)) (canS sgF51 lk M) = evfn CX (T51ur1 N R51) code51 rsF51 (argsE 3 (canS sgF51 lk M).env) (canS sgF51 lk M).mem (goR CX 0 (fun _ => some xRF51)) := by intro N lk M; kernel_rfl
theorem soundF51 : ∀ N, RecOkF51 (F51 N)
  | 0, lk, M, o, h => by cases h
  | N + 1, lk, M, o, h => fn_sound hX (okT51ur1 N R51) Try.func51 hb51 rfl en51 (by kernel_rfl) (ys := fun _ => some xRF51) (fun st y h => by injection h with h; subst h; exact fun lk M => ⟨rfl, rfl⟩) ((fsF51 N lk M).symm.trans h)
def cvce51n0 : List Cv := []
def selce51n0 : St → List Nat := fun _ => []
noncomputable def ce51n0 (Fx : TF51) (R : Type) (test : List AV → List Blk → Bool) : CE R := ⟨51, test, fun args M => some (selce51n0 ⟨argEnv 0 args, M, [], .unk⟩), fun args M k => tst (Nat.beq args.length 3) (callFn CX 0 cvce51n0 sgF51 selce51n0 (FFF51 Fx) elF51 args M k)⟩
theorem okce51n0 (Fx : TF51) (h : RecOkF51 Fx) (R : Type) (test : List AV → List Blk → Bool) : CeOk CX (ce51n0 Fx R test) := ce_ok hX (fun o k => by cases o; rfl) h en51 (fun args M ids h => by injection h with h; exact ⟨rfl, h.symm⟩)
end Go.Proofs.Ytnfmdenclkdmbaa

namespace Go.Proofs.Ytnfmdenclkdmbaa
open Go Go.Eng
set_option maxRecDepth 100000

/-! ### F24: ceiling/num.Lies -/
inductive R24 where
  | r (x0 : Bool)
abbrev TF24 := Int → Int → Int → Int → Option R24
def sgF24 : LSh := ⟨[(0, .agg [.cell (.int .i64), .cell (.int .i64)]), (1, .agg [.cell (.int .i64), .cell (.int .i64)])], []⟩
def FFF24 (Fx : TF24) (s : St) : Option R24 := Fx (((Eng.look s.env 0).cells.getD 0 .top).toI) (((Eng.look s.env 0).cells.getD 1 .top).toI) (((Eng.look s.env 1).cells.getD 0 .top).toI) (((Eng.look s.env 1).cells.getD 1 .top).toI)
def valF24 (o : R24) : AV := match o with | .r x0 => .bool x0
def memF24 (o : R24) : List Blk := match o with | .r x0 => []
def elF24 {R : Type} (o : R24) (k : AV → List Blk → Option R) : Option R := match o with | .r x0 => k (.bool x0) []
def RecOkF24 (Fx : TF24) : Prop := ∀ lk M o, FFF24 Fx (canS sgF24 lk M) = some o → FCalls CX 24 0 (argsE 2 (canS sgF24 lk M).env) (canS sgF24 lk M).mem (valF24 o) (memF24 o)
noncomputable def csF24 (N : Nat) (R : Type) : List (CE R) := [ce41n0 (F41 N) R (fun _ _ => true)]
theorem hcsF24 (N : Nat) (R : Type) : AllE (CeOk CX) (csF24 N R) := ⟨okce41n0 (F41 N) (soundF41 N) R (fun _ _ => true), trivial⟩
noncomputable def T24ur1 (N : Nat) (R : Type) : LTab R := mkTab ⟨21, 2097151⟩ (csF24 N R) (noY) [] [] []
theorem okT24ur1 (N : Nat) (R : Type) : (T24ur1 N R).Ok CX code24 := mkTab_ok (hcsF24 N R) (noY_ok) (trivial) (trivial) (trivial)
def rsF24 : List ResultVar := [.tmp 4]
def F24 : Nat → TF24
  | 0 => fun _ _ _ _ => none
  | N + 1 => fun x0c0 x0c1 x1c0 x1c1 =>
    match F41 N x0c0 x0c1 with
    | none => none
    | some (.r rx0v1) =>
      match rx0v1 with
      | true =>
        some (.r true)
      | false =>
        match decide (x1c0 ≤ x0c0) with
        | true =>
          some (.r (decide (x0c1 ≤ x1c1)))
        | false =>
          some (.r false)
def xRF24 : XSh R24 := ⟨[], ⟨[(0, .one (.cell (.bool)))], []⟩, fun _ => [], fun s => .r ((Eng.look s.env 0).toB)⟩
theorem fsF24 : ∀ (N : Nat) (lk : Nat → AV) (M : List Blk), FFF24 (F24 (N + 1)) (canS sgF24 lk M) = evfn CX (T24ur1 N R24) code24 rsF24 (argsE 2 (canS sgF24 lk M).env) (canS sgF24 lk M).mem (goR CX 0 (fun _ => some xRF24)) := by intro N lk M; kernel_rfl
theorem soundF24 : ∀ N, RecOkF24 (F24 N)
  | 0, lk, M, o, h => by cases h
  | N + 1, lk, M, o, h => fn_sound hX (okT24ur1 N R24) Try.func24 hb24 rfl en24 (by kernel_rfl) (ys := fun _ => some xRF24) (fun st y h => by injection h with h; subst h; exact fun lk M => ⟨rfl, rfl⟩) ((fsF24 N lk M).symm.trans h)
def cvce24n0 : List Cv := []
def selce24n0 : St → List Nat := fun _ => []
noncomputable def ce24n0 (Fx : TF24) (R : Type) (test : List AV → List Blk → Bool) : CE R := ⟨24, test, fun args M => some (selce24n0 ⟨argEnv 0 args, M, [], .unk⟩), fun args M k => tst (Nat.beq args.length 2) (callFn CX 0 cvce24n0 sgF24 selce24n0 (FFF24 Fx) elF24 args M k)⟩
theorem okce24n0 (Fx : TF24) (h : RecOkF24 Fx) (R : Type) (test : List AV → List Blk → Bool) : CeOk CX (ce24n0 Fx R test) := ce_ok hX (fun o k => by cases o; rfl) h en24 (fun args M ids h => by injection h with h; exact ⟨rfl, h.symm⟩)
end Go.Proofs.Ytnfmdenclkdmbaa

namespace Go.Proofs.Ytnfmdenclkdmbaa
open Go Go.Eng
set_option maxRecDepth 100000

/-! ### F92: ceiling/num.logic.1 -/
inductive R92 where
  | r (x0 : Int) (x1 : Bool) (b0c0 : Int)
abbrev TF92 := Int → Int → Int → Option R92
def sgF92 : LSh := ⟨[(0, .one (.cell (.int .i64))), (1, .one (.cell (.int .i64))), (2, .one (.ptr 0 0 0))], [.var [.int .u8] [.cell (.int .u8)]]⟩
def FFF92 (Fx : TF92) (s : St) : Option R92 := Fx ((Eng.look s.env 0).toI) ((Eng.look s.env 1).toI) (((s.mem.getD 0 .dead).cells.getD 0 .top).toI)
def valF92 (o : R92) : AV := match o with | .r x0 x1 b0c0 => .tup [.int .i64 x0, .bool x1]
def memF92 (o : R92) : List Blk := match o with | .r x0 x1 b0c0 => [.var [.int .u8] [.int .u8 b0c0]]
def elF92 {R : Type} (o : R92) (k : AV → List Blk → Option R) : Option R := match o with | .r x0 x1 b0c0 => k (.tup [.int .i64 x0, .bool x1]) [.var [.int .u8] [.int .u8 b0c0]]
def RecOkF92 (Fx : TF92) : Prop := ∀ lk M o, FFF92 Fx (canS sgF92 lk M) = some o → FCalls CX 92 1 (argsE 3 (canS sgF92 lk M).env) (canS sgF92 lk M).mem (valF92 o) (memF92 o)
noncomputable def csF92 (N : Nat) (R : Type) : List (CE R) := [ce17n0 (F17 N) R (fun _ _ => true)]
theorem hcsF92 (N : Nat) (R : Type) : AllE (CeOk CX) (csF92 N R) := ⟨okce17n0 (F17 N) (soundF17 N) R (fun _ _ => true), trivial⟩
noncomputable def T92ur1 (N : Nat) (R : Type) : LTab R := mkTab ⟨13, 8191⟩ (csF92 N R) (noY) [] [] []
theorem okT92ur1 (N : Nat) (R : Type) : (T92ur1 N R).Ok CX code92 := mkTab_ok (hcsF92 N R) (noY_ok) (trivial) (trivial) (trivial)
def rsF92 : List ResultVar := [.tmp 5, .tmp 6]
def F92 : Nat → TF92
  | 0 => fun _ _ _ => none
  | N + 1 => fun x0 x1 b0c0 =>
    match F17 N b0c0 x0 x1 with
    | none => none
    | some (.r rx0v1 rx1v1) =>
      some (.r rx0v1 rx1v1 b0c0)
def xRF92 : XSh R92 := ⟨[], ⟨[(0, .one (.cell (.int .i64))), (1, .one (.cell (.bool)))], [.var [.int .u8] [.cell (.int .u8)]]⟩, fun st => [0], fun s => .r ((Eng.look s.env 0).toI) ((Eng.look s.env 1).toB) (((s.mem.getD 0 .dead).cells.getD 0 .top).toI)⟩
theorem fsF92 : ∀ (N : Nat) (lk : Nat → AV) (M : List Blk), FFF92 (F92 (N + 1)) (canS sgF92 lk M) = evfn CX (T92ur1 N R92) code92 rsF92 (argsE 3 (canS sgF92 lk M).env) (canS sgF92 lk M).mem (goRt CX 1 2 (fun _ => some xRF92)) := by intro N lk M; kernel_rfl
theorem soundF92 : ∀ N, RecOkF92 (F92 N)
  | 0, lk, M, o, h => by cases h
  | N + 1, lk, M, o, h => fn_soundt hX (okT92ur1 N R92) Try.func92 hb92 rfl en92 (by kernel_rfl) (ys := fun _ => some xRF92) (fun st y h => by injection h with h; subst h; exact fun lk M => ⟨rfl, rfl⟩) ((fsF92 N lk M).symm.trans h)
def cvce92n0 : List Cv := []
def selce92n0 : St → List Nat := fun st => [(Eng.look st.env 2).id]
noncomputable def ce92n0 (Fx : TF92) (R : Type) (test : List AV → List Blk → Bool) : CE R := ⟨92, test, fun args M => some (selce92n0 ⟨argEnv 0 args, M, [], .unk⟩), fun args M k => tst (Nat.beq args.length 3) (callFn CX 1 cvce92n0 sgF92 selce92n0 (FFF92 Fx) elF92 args M k)⟩
theorem okce92n0 (Fx : TF92) (h : RecOkF92 Fx) (R : Type) (test : List AV → List Blk → Bool) : CeOk CX (ce92n0 Fx R test) := ce_ok hX (fun o k => by cases o; rfl) h en92 (fun args M ids h => by injection h with h; exact ⟨rfl, h.symm⟩)
end Go.Proofs.Ytnfmdenclkdmbaa

namespace Go.Proofs.Ytnfmdenclkdmbaa
open Go Go.Eng
set_option maxRecDepth 100000

/-! ### F43v4: ceiling/num.corners -/
inductive R43v4 where
  | r (x0c0 : Int) (x0c1 : Int) (b0c0 : Int)
abbrev TF43v4 := List Row → List Row → Int → Option R43v4
def sgF43v4 : LSh := ⟨[(0, .one (.cl 92 [(0, 0, 0)])), (1, .one (.cell (.slice 2))), (2, .one (.cell (.slice 2)))], [.var [.int .u8] [.cell (.int .u8)]]⟩
def FFF43v4 (Fx : TF43v4) (s : St) : Option R43v4 := Fx ((Eng.look s.env 1).rows) ((Eng.look s.env 2).rows) (((s.mem.getD 0 .dead).cells.getD 0 .top).toI)
def valF43v4 (o : R43v4) : AV := match o with | .r x0c0 x0c1 b0c0 => .agg [.int .i64 x0c0, .int .i64 x0c1]
def memF43v4 (o : R43v4) : List Blk := match o with | .r x0c0 x0c1 b0c0 => [.var [.int .u8] [.int .u8 b0c0]]
def elF43v4 {R : Type} (o : R43v4) (k : AV → List Blk → Option R) : Option R := match o with | .r x0c0 x0c1 b0c0 => k (.agg [.int .i64 x0c0, .int .i64 x0c1]) [.var [.int .u8] [.int .u8 b0c0]]
def RecOkF43v4 (Fx : TF43v4) : Prop := ∀ lk M o, FFF43v4 Fx (canS sgF43v4 lk M) = some o → FCalls CX 43 1 (argsE 3 (canS sgF43v4 lk M).env) (canS sgF43v4 lk M).mem (valF43v4 o) (memF43v4 o)
noncomputable def csF43v4 (N : Nat) (R : Type) : List (CE R) := [ce25n0 (F25 N) R (fun _ _ => true), ce42n0 (F42 N) R (fun _ _ => true), ce64n1 (F64 N) R (fun _ _ => true), ce65n0 (F65 N) R (fun _ _ => true), ce92n0 (F92 N) R (fun _ _ => true)]
theorem hcsF43v4 (N : Nat) (R : Type) : AllE (CeOk CX) (csF43v4 N R) := ⟨okce25n0 (F25 N) (soundF25 N) R (fun _ _ => true), okce42n0 (F42 N) (soundF42 N) R (fun _ _ => true), okce64n1 (F64 N) (soundF64 N) R (fun _ _ => true), okce65n0 (F65 N) (soundF65 N) R (fun _ _ => true), okce92n0 (F92 N) (soundF92 N) R (fun _ _ => true), trivial⟩
inductive OL43v4a14950 where
  | ret (b0c0 : Int) (b1c0 : Int) (b1c1 : Int) (b2c0 : Int) (b2c1 : Int)
  | x2 (b0c0 : Int) (b1c0 : Int) (b1c1 : Int) (b2c0 : Int) (b2c1 : Int)
def L43v4a14950 (N : Nat) : Nat → Int → List Row → Int → Int → Int → Int → Int → Int → Int → Option OL43v4a14950
  | 0 => fun _ _ _ _ _ _ _ _ _ => none
  | n + 1 => fun x9 x21 x22 x23 b0c0 b1c0 b1c1 b2c0 b2c1 =>
    match decide (x23 < x22) with
    | true =>
      tst (decide ((0 : Int) ≤ x23) && decide (x23 < ((x21.length : Int)))) <|
      match F92 N x9 ((((x21.getD x23.toNat [])).getD 0 .top).toI) b0c0 with
      | none => none
      | some (.r rx0v2 rx1v2 rb0c0v2) =>
        match !rx1v2 with
        | true =>
          match F65 N  with
          | none => none
          | some (.r rx0c0v3 rx0c1v3) =>
            some (.ret rb0c0v2 rx0c0v3 rx0c1v3 b2c0 b2c1)
        | false =>
          match F64 N rx0v2 ([]) with
          | none => none
          | some (.r rx0c0v4 rx0c1v4) =>
            match F25 N b2c0 b2c1 rx0c0v4 rx0c1v4 with
            | none => none
            | some (.r rx0c0v5 rx0c1v5) =>
              L43v4a14950 N n x9 x21 x22 (IntKind.wrap .i64 (x23 + (1 : Int))) rb0c0v2 b1c0 b1c1 rx0c0v5 rx0c1v5
    | false =>
      some (.x2 b0c0 b1c0 b1c1 b2c0 b2c1)
def LFL43v4a14950 (N : Nat) (n : Nat) (s : St) : Option OL43v4a14950 := L43v4a14950 N n ((Eng.look s.env 9).toI) ((Eng.look s.env 21).rows) ((Eng.look s.env 22).toI) ((Eng.look s.env 23).toI) (((s.mem.getD 0 .dead).cells.getD 0 .top).toI) (((s.mem.getD 1 .dead).cells.getD 0 .top).toI) (((s.mem.getD 1 .dead).cells.getD 1 .top).toI) (((s.mem.getD 2 .dead).cells.getD 0 .top).toI) (((s.mem.getD 2 .dead).cells.getD 1 .top).toI)
def sgL43v4a14950 : LSh := ⟨[(0, .one (.cl 92 [(0, 0, 0)])), (6, .one (.ptr 1 0 0)), (7, .one (.ptr 2 0 0)), (9, .one (.cell (.int .i64))), (21, .one (.cell (.slice 2))), (22, .one (.cell (.int .i64))), (23, .one (.cell (.int .i64)))], [.var [.int .u8] [.cell (.int .u8)], .var [.int .i64, .int .i64] [.cell (.int .i64), .cell (.int .i64)], .var [.int .i64, .int .i64] [.cell (.int .i64), .cell (.int .i64)]]⟩
def ceL43v4a14950 : List Cv := []
def seL43v4a14950 : St → List Nat := fun st => [((Eng.look st.env 0).caps.getD 0 .top).id, (Eng.look st.env 6).id, (Eng.look st.env 7).id]
def xL43v4a14950wret : XSh OL43v4a14950 := ⟨[], ⟨[], [.var [.int .u8] [.cell (.int .u8)], .var [.int .i64, .int .i64] [.cell (.int .i64), .cell (.int .i64)], .var [.int .i64, .int .i64] [.cell (.int .i64), .cell (.int .i64)]]⟩, fun st => [0, 1, 2], fun s => .ret (((s.mem.getD 0 .dead).cells.getD 0 .top).toI) (((s.mem.getD 1 .dead).cells.getD 0 .top).toI) (((s.mem.getD 1 .dead).cells.getD 1 .top).toI) (((s.mem.getD 2 .dead).cells.getD 0 .top).toI) (((s.mem.getD 2 .dead).cells.getD 1 .top).toI)⟩
def xL43v4a14950wx2 : XSh OL43v4a14950 := ⟨[], ⟨[], [.var [.int .u8] [.cell (.int .u8)], .var [.int .i64, .int .i64] [.cell (.int .i64), .cell (.int .i64)], .var [.int .i64, .int .i64] [.cell (.int .i64), .cell (.int .i64)]]⟩, fun st => [0, 1, 2], fun s => .x2 (((s.mem.getD 0 .dead).cells.getD 0 .top).toI) (((s.mem.getD 1 .dead).cells.getD 0 .top).toI) (((s.mem.getD 1 .dead).cells.getD 1 .top).toI) (((s.mem.getD 2 .dead).cells.getD 0 .top).toI) (((s.mem.getD 2 .dead).cells.getD 1 .top).toI)⟩
def xsL43v4a14950 : Ex → St → Option (XSh OL43v4a14950) := fun e st => match e with
  | .ret => some xL43v4a14950wret
  | .exit 2 => some xL43v4a14950wx2
  | _ => none
def exL43v4a14950 (o : OL43v4a14950) : Ex := match o with | .ret b0c0 b1c0 b1c1 b2c0 b2c1 => .ret | .x2 b0c0 b1c0 b1c1 b2c0 b2c1 => (.exit 2)
def stL43v4a14950 (o : OL43v4a14950) : St := match o with | .ret b0c0 b1c0 b1c1 b2c0 b2c1 => ⟨[], [.var [.int .u8] [.int .u8 b0c0], .var [.int .i64, .int .i64] [.int .i64 b1c0, .int .i64 b1c1], .var [.int .i64, .int .i64] [.int .i64 b2c0, .int .i64 b2c1]], [], .unk⟩ | .x2 b0c0 b1c0 b1c1 b2c0 b2c1 => ⟨[], [.var [.int .u8] [.int .u8 b0c0], .var [.int .i64, .int .i64] [.int .i64 b1c0, .int .i64 b1c1], .var [.int .i64, .int .i64] [.int .i64 b2c0, .int .i64 b2c1]], [], .unk⟩
def elL43v4a14950 {R : Type} (o : OL43v4a14950) (k : Ex → St → Option R) : Option R := match o with | .ret b0c0 b1c0 b1c1 b2c0 b2c1 => k .ret ⟨[], [.var [.int .u8] [.int .u8 b0c0], .var [.int .i64, .int .i64] [.int .i64 b1c0, .int .i64 b1c1], .var [.int .i64, .int .i64] [.int .i64 b2c0, .int .i64 b2c1]], [], .unk⟩ | .x2 b0c0 b1c0 b1c1 b2c0 b2c1 => k (.exit 2) ⟨[], [.var [.int .u8] [.int .u8 b0c0], .var [.int .i64, .int .i64] [.int .i64 b1c0, .int .i64 b1c1], .var [.int .i64, .int .i64] [.int .i64 b2c0, .int .i64 b2c1]], [], .unk⟩
theorem heL43v4a14950 {R : Type} (o : OL43v4a14950) (k : Ex → St → Option R) : elL43v4a14950 o k = k (exL43v4a14950 o) (stL43v4a14950 o) := by cases o <;> rfl
theorem hxL43v4a14950 : ∀ e st x, xsL43v4a14950 e st = some x → outOk x e exL43v4a14950 stL43v4a14950 := by
  intro e st x h
  unfold xsL43v4a14950 at h
  repeat' split at h
  all_goals first
    | (injection h with h; subst h; exact fun lk M => ⟨rfl, rfl⟩)
    | cases h
noncomputable def T43v4ul14950 (N : Nat) (R : Type) : LTab R := mkTab ⟨44, 4398038136832⟩ (csF43v4 N R) (noY) [] [] []
theorem okT43v4ul14950 (N : Nat) (R : Type) : (T43v4ul14950 N R).Ok CX code43 := mkTab_ok (hcsF43v4 N R) (noY_ok) (trivial) (trivial) (trivial)
noncomputable def bdL43v4a14950 : Code := match codeAt code43 [false, true, true, false, false, true, true, false, false, true, false, true, true] with | some (.loop c) => c | _ => .skip
theorem hsL43v4a14950 (N : Nat) : ∀ (n : Nat) (lk : Nat → AV) (M : List Blk), LFL43v4a14950 N (n + 1) (canS sgL43v4a14950 lk M) = evk CX (T43v4ul14950 N OL43v4a14950) bdL43v4a14950 (2 * 14950) (canS sgL43v4a14950 lk M) (kont CX 3 [] sgL43v4a14950 (fun st => [0, 1, 2]) xsL43v4a14950 (LFL43v4a14950 N n)) := by intro n lk M; kernel_rfl
inductive OL43v4a58 where
  | ret (b0c0 : Int) (b1c0 : Int) (b1c1 : Int) (b2c0 : Int) (b2c1 : Int)
  | x0 (b0c0 : Int) (b1c0 : Int) (b1c1 : Int) (b2c0 : Int) (b2c1 : Int)
def L43v4a58 (N : Nat) : Nat → List Row → List Row → Int → Int → Int → Int → Int → Int → Int → Option OL43v4a58
  | 0 => fun _ _ _ _ _ _ _ _ _ => none
  | n + 1 => fun x2 x15 x16 x17 b0c0 b1c0 b1c1 b2c0 b2c1 =>
    match decide (x17 < x16) with
    | true =>
      tst (decide ((0 : Int) ≤ x17) && decide (x17 < ((x15.length : Int)))) <|
      match L43v4a14950 N N ((((x15.getD x17.toNat [])).getD 0 .top).toI) x2 ((x2.length : Int)) 0 b0c0 b1c0 b1c1 b2c0 b2c1 with
      | none => none
      | some (.ret b0c0v6 b1c0v6 b1c1v6 b2c0v6 b2c1v6) =>
        some (.ret b0c0v6 b1c0v6 b1c1v6 b2c0v6 b2c1v6)
      | some (.x2 b0c0v7 b1c0v7 b1c1v7 b2c0v7 b2c1v7) =>
        L43v4a58 N n x2 x15 x16 (IntKind.wrap .i64 (x17 + (1 : Int))) b0c0v7 b1c0v7 b1c1v7 b2c0v7 b2c1v7
    | false =>
      some (.x0 b0c0 b1c0 b1c1 b2c0 b2c1)
def LFL43v4a58 (N : Nat) (n : Nat) (s : St) : Option OL43v4a58 := L43v4a58 N n ((Eng.look s.env 2).rows) ((Eng.look s.env 15).rows) ((Eng.look s.env 16).toI) ((Eng.look s.env 17).toI) (((s.mem.getD 0 .dead).cells.getD 0 .top).toI) (((s.mem.getD 1 .dead).cells.getD 0 .top).toI) (((s.mem.getD 1 .dead).cells.getD 1 .top).toI) (((s.mem.getD 2 .dead).cells.getD 0 .top).toI) (((s.mem.getD 2 .dead).cells.getD 1 .top).toI)
def sgL43v4a58 : LSh := ⟨[(0, .one (.cl 92 [(0, 0, 0)])), (2, .one (.cell (.slice 2))), (6, .one (.ptr 1 0 0)), (7, .one (.ptr 2 0 0)), (15, .one (.cell (.slice 2))), (16, .one (.cell (.int .i64))), (17, .one (.cell (.int .i64)))], [.var [.int .u8] [.cell (.int .u8)], .var [.int .i64, .int .i64] [.cell (.int .i64), .cell (.int .i64)], .var [.int .i64, .int .i64] [.cell (.int .i64), .cell (.int .i64)]]⟩
def ceL43v4a58 : List Cv := []
def seL43v4a58 : St → List Nat := fun st => [((Eng.look st.env 0).caps.getD 0 .top).id, (Eng.look st.env 6).id, (Eng.look st.env 7).id]
def xL43v4a58wret : XSh OL43v4a58 := ⟨[], ⟨[], [.var [.int .u8] [.cell (.int .u8)], .var [.int .i64, .int .i64] [.cell (.int .i64), .cell (.int .i64)], .var [.int .i64, .int .i64] [.cell (.int .i64), .cell (.int .i64)]]⟩, fun st => [0, 1, 2], fun s => .ret (((s.mem.getD 0 .dead).cells.getD 0 .top).toI) (((s.mem.getD 1 .dead).cells.getD 0 .top).toI) (((s.mem.getD 1 .dead).cells.getD 1 .top).toI) (((s.mem.getD 2 .dead).cells.getD 0 .top).toI) (((s.mem.getD 2 .dead).cells.getD 1 .top).toI)⟩
def xL43v4a58wx0 : XSh OL43v4a58 := ⟨[], ⟨[], [.var [.int .u8] [.cell (.int .u8)], .var [.int .i64, .int .i64] [.cell (.int .i64), .cell (.int .i64)], .var [.int .i64, .int .i64] [.cell (.int .i64), .cell (.int .i64)]]⟩, fun st => [0, 1, 2], fun s => .x0 (((s.mem.getD 0 .dead).cells.getD 0 .top).toI) (((s.mem.getD 1 .dead).cells.getD 0 .top).toI) (((s.mem.getD 1 .dead).cells.getD 1 .top).toI) (((s.mem.getD 2 .dead).cells.getD 0 .top).toI) (((s.mem.getD 2 .dead).cells.getD 1 .top).toI)⟩
def xsL43v4a58 : Ex → St → Option (XSh OL43v4a58) := fun e st => match e with
  | .ret => some xL43v4a58wret
  | .exit 0 => some xL43v4a58wx0
  | _ => none
def exL43v4a58 (o : OL43v4a58) : Ex := match o with | .ret b0c0 b1c0 b1c1 b2c0 b2c1 => .ret | .x0 b0c0 b1c0 b1c1 b2c0 b2c1 => (.exit 0)
def stL43v4a58 (o : OL43v4a58) : St := match o with | .ret b0c0 b1c0 b1c1 b2c0 b2c1 => ⟨[], [.var [.int .u8] [.int .u8 b0c0], .var [.int .i64, .int .i64] [.int .i64 b1c0, .int .i64 b1c1], .var [.int .i64, .int .i64] [.int .i64 b2c0, .int .i64 b2c1]], [], .unk⟩ | .x0 b0c0 b1c0 b1c1 b2c0 b2c1 => ⟨[], [.var [.int .u8] [.int .u8 b0c0], .var [.int .i64, .int .i64] [.int .i64 b1c0, .int .i64 b1c1], .var [.int .i64, .int .i64] [.int .i64 b2c0, .int .i64 b2c1]], [], .unk⟩
def elL43v4a58 {R : Type} (o : OL43v4a58) (k : Ex → St → Option R) : Option R := match o with | .ret b0c0 b1c0 b1c1 b2c0 b2c1 => k .ret ⟨[], [.var [.int .u8] [.int .u8 b0c0], .var [.int .i64, .int .i64] [.int .i64 b1c0, .int .i64 b1c1], .var [.int .i64, .int .i64] [.int .i64 b2c0, .int .i64 b2c1]], [], .unk⟩ | .x0 b0c0 b1c0 b1c1 b2c0 b2c1 => k (.exit 0) ⟨[], [.var [.int .u8] [.int .u8 b0c0], .var [.int .i64, .int .i64] [.int .i64 b1c0, .int .i64 b1c1], .var [.int .i64, .int .i64] [.int .i64 b2c0, .int .i64 b2c1]], [], .unk⟩
theorem heL43v4a58 {R : Type} (o : OL43v4a58) (k : Ex → St → Option R) : elL43v4a58 o k = k (exL43v4a58 o) (stL43v4a58 o) := by cases o <;> rfl
theorem hxL43v4a58 : ∀ e st x, xsL43v4a58 e st = some x → outOk x e exL43v4a58 stL43v4a58 := by
  intro e st x h
  unfold xsL43v4a58 at h
  repeat' split at h
  all_goals first
    | (injection h with h; subst h; exact fun lk M => ⟨rfl, rfl⟩)
    | cases h
noncomputable def T43v4ul58 (N : Nat) (R : Type) : LTab R := mkTab ⟨44, 8796092905984⟩ (csF43v4 N R) (noY) [(14950, fun st k => callLoop CX 3 4398038136832 ceL43v4a14950 sgL43v4a14950 seL43v4a14950 ⟨44, 8796092905984⟩ (LFL43v4a14950 N N) elL43v4a14950 st k)] [] []
theorem okT43v4ul58 (N : Nat) (R : Type) : (T43v4ul58 N R).Ok CX code43 := mkTab_ok (hcsF43v4 N R) (noY_ok) (⟨loop_ok hX (path := [false, true, true, false, false, true, true, false, false, true, false, true, true]) (by kernel_rfl) (by rfl) (okT43v4ul14950 N OL43v4a14950) (fun _ _ => rfl) (hsL43v4a14950 N) hxL43v4a14950 rfl heL43v4a14950, trivial⟩) (trivial) (trivial)
noncomputable def bdL43v4a58 : Code := match codeAt code43 [false, true, false, true, true] with | some (.loop c) => c | _ => .skip
theorem hsL43v4a58 (N : Nat) : ∀ (n : Nat) (lk : Nat → AV) (M : List Blk), LFL43v4a58 N (n + 1) (canS sgL43v4a58 lk M) = evk CX (T43v4ul58 N OL43v4a58) bdL43v4a58 (2 * 58) (canS sgL43v4a58 lk M) (kont CX 3 [] sgL43v4a58 (fun st => [0, 1, 2]) xsL43v4a58 (LFL43v4a58 N n)) := by intro n lk M; kernel_rfl
noncomputable def T43v4ur1 (N : Nat) (R : Type) : LTab R := mkTab ⟨44, 17592186044415⟩ (csF43v4 N R) (noY) [(58, fun st k => callLoop CX 3 8796092905984 ceL43v4a58 sgL43v4a58 seL43v4a58 ⟨44, 17592186044415⟩ (LFL43v4a58 N N) elL43v4a58 st k)] [] []
theorem okT43v4ur1 (N : Nat) (R : Type) : (T43v4ur1 N R).Ok CX code43 := mkTab_ok (hcsF43v4 N R) (noY_ok) (⟨loop_ok hX (path := [false, true, false, true, true]) (by kernel_rfl) (by rfl) (okT43v4ul58 N OL43v4a58) (fun _ _ => rfl) (hsL43v4a58 N) hxL43v4a58 rfl heL43v4a58, trivial⟩) (trivial) (trivial)
def rsF43v4 : List ResultVar := [.cell 6 29]
def F43v4 : Nat → TF43v4
  | 0 => fun _ _ _ => none
  | N + 1 => fun x1 x2 b0c0 =>
    match F42 N  with
    | none => none
    | some (.r rx0c0v1 rx0c1v1) =>
      match L43v4a58 N N x2 x1 ((x1.length : Int)) 0 b0c0 0 0 rx0c0v1 rx0c1v1 with
      | none => none
      | some (.ret b0c0v8 b1c0v8 b1c1v8 b2c0v8 b2c1v8) =>
        some (.r b1c0v8 b1c1v8 b0c0v8)
      | some (.x0 b0c0v9 b1c0v9 b1c1v9 b2c0v9 b2c1v9) =>
        some (.r b2c0v9 b2c1v9 b0c0v9)
def xRF43v4 : XSh R43v4 := ⟨[], ⟨[(0, .agg [.cell (.int .i64), .cell (.int .i64)])], [.var [.int .u8] [.cell (.int .u8)]]⟩, fun st => [0], fun s => .r (((Eng.look s.env 0).cells.getD 0 .top).toI) (((Eng.look s.env 0).cells.getD 1 .top).toI) (((s.mem.getD 0 .dead).cells.getD 0 .top).toI)⟩
theorem fsF43v4 : ∀ (N : Nat) (lk : Nat → AV) (M : List Blk), FFF43v4 (F43v4 (N + 1)) (canS sgF43v4 lk M) = evfn CX (T43v4ur1 N R43v4) code43 rsF43v4 (argsE 3 (canS sgF43v4 lk M).env) (canS sgF43v4 lk M).mem (goR CX 1 (fun _ => some xRF43v4)) := by intro N lk M; kernel_rfl
theorem soundF43v4 : ∀ N, RecOkF43v4 (F43v4 N)
  | 0, lk, M, o, h => by cases h
  | N + 1, lk, M, o, h => fn_sound hX (okT43v4ur1 N R43v4) Try.func43 hb43 rfl en43 (by kernel_rfl) (ys := fun _ => some xRF43v4) (fun st y h => by injection h with h; subst h; exact fun lk M => ⟨rfl, rfl⟩) ((fsF43v4 N lk M).symm.trans h)
def cvce43v4n0 : List Cv := [.frz 1 (.slice 2), .frz 2 (.slice 2)]
def selce43v4n0 : St → List Nat := fun st => [((Eng.look st.env 0).caps.getD 0 .top).id]
noncomputable def ce43v4n0 (Fx : TF43v4) (R : Type) (test : List AV → List Blk → Bool) : CE R := ⟨43, test, fun _ M => some (List.range M.length), fun args M k => tst (Nat.beq args.length 3) (callFn CX 1 cvce43v4n0 sgF43v4 selce43v4n0 (FFF43v4 Fx) elF43v4 args M (fun x M' => tst (Nat.ble M.length M'.length) (k x M')))⟩
theorem okce43v4n0 (Fx : TF43v4) (h : RecOkF43v4 Fx) (R : Type) (test : List AV → List Blk → Bool) : CeOk CX (ce43v4n0 Fx R test) := ce_okc hX (fun o k => by cases o; rfl) h en43
end Go.Proofs.Ytnfmdenclkdmbaa

namespace Go.Proofs.Ytnfmdenclkdmbaa
open Go Go.Eng
set_option maxRecDepth 100000

/-! ### F52: ceiling/num.logic -/
inductive R52 where
  | r (x0c0 : Int) (x0c1 : Int)
abbrev TF52 := Int → Int → Int → Int → Int → Option R52
def sgF52 : LSh := ⟨[(0, .one (.cell (.int .u8))), (1, .agg [.cell (.int .i64), .cell (.int .i64)]), (2, .agg [.cell (.int .i64), .cell (.int .i64)])], []⟩
def FFF52 (Fx : TF52) (s : St) : Option R52 := Fx ((Eng.look s.env 0).toI) (((Eng.look s.env 1).cells.getD 0 .top).toI) (((Eng.look s.env 1).cells.getD 1 .top).toI) (((Eng.look s.env 2).cells.getD 0 .top).toI) (((Eng.look s.env 2).cells.getD 1 .top).toI)
def valF52 (o : R52) : AV := match o with | .r x0c0 x0c1 => .agg [.int .i64 x0c0, .int .i64 x0c1]
def memF52 (o : R52) : List Blk := match o with | .r x0c0 x0c1 => []
def elF52 {R : Type} (o : R52) (k : AV → List Blk → Option R) : Option R := match o with | .r x0c0 x0c1 => k (.agg [.int .i64 x0c0, .int .i64 x0c1]) []
def RecOkF52 (Fx : TF52) : Prop := ∀ lk M o, FFF52 Fx (canS sgF52 lk M) = some o → FCalls CX 52 0 (argsE 3 (canS sgF52 lk M).env) (canS sgF52 lk M).mem (valF52 o) (memF52 o)
noncomputable def csF52 (N : Nat) (R : Type) : List (CE R) := [ce24n0 (F24 N) R (fun _ _ => true), ce43v4n0 (F43v4 N) R (fun _ _ => true), ce65n0 (F65 N) R (fun _ _ => true)]
theorem hcsF52 (N : Nat) (R : Type) : AllE (CeOk CX) (csF52 N R) := ⟨okce24n0 (F24 N) (soundF24 N) R (fun _ _ => true), okce43v4n0 (F43v4 N) (soundF43v4 N) R (fun _ _ => true), okce65n0 (F65 N) (soundF65 N) R (fun _ _ => true), trivial⟩
noncomputable def T52ur1 (N : Nat) (R : Type) : LTab R := mkTab ⟨32, 4294967295⟩ (csF52 N R) (noY) [] [] []
theorem okT52ur1 (N : Nat) (R : Type) : (T52ur1 N R).Ok CX code52 := mkTab_ok (hcsF52 N R) (noY_ok) (trivial) (trivial) (trivial)
def rsF52 : List ResultVar := [.cell 6 29]
def F52 : Nat → TF52
  | 0 => fun _ _ _ _ _ => none
  | N + 1 => fun x0 x1c0 x1c1 x2c0 x2c1 =>
    match F24 N x1c0 x1c1 0 1 with
    | none => none
    | some (.r rx0v1) =>
      match !rx0v1 with
      | true =>
        match F65 N  with
        | none => none
        | some (.r rx0c0v2 rx0c1v2) =>
          some (.r rx0c0v2 rx0c1v2)
      | false =>
        match F24 N x2c0 x2c1 0 1 with
        | none => none
        | some (.r rx0v3) =>
          match !rx0v3 with
          | true =>
            match F65 N  with
            | none => none
            | some (.r rx0c0v4 rx0c1v4) =>
              some (.r rx0c0v4 rx0c1v4)
          | false =>
            match F43v4 N (([[.int .i64 x1c0], [.int .i64 x1c1]] : List Row)) (([[.int .i64 x2c0], [.int .i64 x2c1]] : List Row)) x0 with
            | none => none
            | some (.r rx0c0v5 rx0c1v5 rb0c0v5) =>
              some (.r rx0c0v5 rx0c1v5)
def xRF52 : XSh R52 := ⟨[], ⟨[(0, .agg [.cell (.int .i64), .cell (.int .i64)])], []⟩, fun _ => [], fun s => .r (((Eng.look s.env 0).cells.getD 0 .top).toI) (((Eng.look s.env 0).cells.getD 1 .top).toI)⟩
theorem fsF52 : ∀ (N : Nat) (lk : Nat → AV) (M : List Blk), FFF52 (F52 (N + 1)) (canS sgF52 lk M) = evfn CX (T52ur1 N R52) code52 rsF52 (argsE 3 (canS sgF52 lk M).env) (canS sgF52 lk M).mem (goR CX 0 (fun _ => some xRF52)) := by intro N lk M; kernel_rfl
theorem soundF52 : ∀ N, RecOkF52 (F52 N)
  | 0, lk, M, o, h => by cases h
  | N + 1, lk, M, o, h => fn_sound hX (okT52ur1 N R52) Try.func52 hb52 rfl en52 (by kernel_rfl) (ys := fun _ => some xRF52) (fun st y h => by injection h with h; subst h; exact fun lk M => ⟨rfl, rfl⟩) ((fsF52 N lk M).symm.trans h)
def cvce52n0 : List Cv := []
def selce52n0 : St → List Nat := fun _ => []
noncomputable def ce52n0 (Fx : TF52) (R : Type) (test : List AV → List Blk → Bool) : CE R := ⟨52, test, fun args M => some (selce52n0 ⟨argEnv 0 args, M, [], .unk⟩), fun args M k => tst (Nat.beq args.length 3) (callFn CX 0 cvce52n0 sgF52 selce52n0 (FFF52 Fx) elF52 args M k)⟩
theorem okce52n0 (Fx : TF52) (h : RecOkF52 Fx) (R : Type) (test : List AV → List Blk → Bool) : CeOk CX (ce52n0 Fx R test) := ce_ok hX (fun o k => by cases o; rfl) h en52 (fun args M ids h => by injection h with h; exact ⟨rfl, h.symm⟩)
end Go.Proofs.Ytnfmdenclkdmbaa

namespace Go.Proofs.Ytnfmdenclkdmbaa
open Go Go.Eng
set_option maxRecDepth 100000

/-! ### F53: ceiling/num.absolute -/
inductive R53 where
  | r (x0c0 : Int) (x0c1 : Int)
abbrev TF53 := Int → Int → Option R53
def sgF53 : LSh := ⟨[(0, .agg [.cell (.int .i64), .cell (.int .i64)])], []⟩
def FFF53 (Fx : TF53) (s : St) : Option R53 := Fx (((Eng.look s.env 0).cells.getD 0 .top).toI) (((Eng.look s.env 0).cells.getD 1 .top).toI)
def valF53 (o : R53) : AV := match o with | .r x0c0 x0c1 => .agg [.int .i64 x0c0, .int .i64 x0c1]
def memF53 (o : R53) : List Blk := match o with | .r x0c0 x0c1 => []
def elF53 {R : Type} (o : R53) (k : AV → List Blk → Option R) : Option R := match o with | .r x0c0 x0c1 => k (.agg [.int .i64 x0c0, .int .i64 x0c1]) []
def RecOkF53 (Fx : TF53) : Prop := ∀ lk M o, FFF53 Fx (canS sgF53 lk M) = some o → FCalls CX 53 0 (argsE 1 (canS sgF53 lk M).env) (canS sgF53 lk M).mem (valF53 o) (memF53 o)
noncomputable def csF53 (N : Nat) (R : Type) : List (CE R) := [ce64n0 (F64 N) R (fun _ _ => true), ce65n0 (F65 N) R (fun _ _ => true)]
theorem hcsF53 (N : Nat) (R : Type) : AllE (CeOk CX) (csF53 N R) := ⟨okce64n0 (F64 N) (soundF64 N) R (fun _ _ => true), okce65n0 (F65 N) (soundF65 N) R (fun _ _ => true), trivial⟩
noncomputable def T53ur1 (N : Nat) (R : Type) : LTab R := mkTab ⟨38, 274877906943⟩ (csF53 N R) (noY) [] [] []
theorem okT53ur1 (N : Nat) (R : Type) : (T53ur1 N R).Ok CX code53 := mkTab_ok (hcsF53 N R) (noY_ok) (trivial) (trivial) (trivial)
def rsF53 : List ResultVar := [.cell 2 29]
def F53 : Nat → TF53
  | 0 => fun _ _ => none
  | N + 1 => fun x0c0 x0c1 =>
    match x0c0 == (-9223372036854775808 : Int) with
    | true =>
      match F65 N  with
      | none => none
      | some (.r rx0c0v1 rx0c1v1) =>
        some (.r rx0c0v1 rx0c1v1)
    | false =>
      match decide (x0c0 ≤ (0 : Int)) with
      | true =>
        match decide ((0 : Int) ≤ x0c1) with
        | true =>
          match F64 N 0 (([[.int .i64 (IntKind.wrap .i64 (0 - x0c0))], [.int .i64 x0c1]] : List Row)) with
          | none => none
          | some (.r rx0c0v2 rx0c1v2) =>
            some (.r rx0c0v2 rx0c1v2)
        | false =>
          match F64 N (Eng.imax x0c0 (IntKind.wrap .i64 (0 - x0c0))) (([[.int .i64 (Eng.imax x0c1 (IntKind.wrap .i64 (0 - x0c1)))]] : List Row)) with
          | none => none
          | some (.r rx0c0v3 rx0c1v3) =>
            some (.r rx0c0v3 rx0c1v3)
      | false =>
        match F64 N (Eng.imax x0c0 (IntKind.wrap .i64 (0 - x0c0))) (([[.int .i64 (Eng.imax x0c1 (IntKind.wrap .i64 (0 - x0c1)))]] : List Row)) with
        | none => none
        | some (.r rx0c0v4 rx0c1v4) =>
          some (.r rx0c0v4 rx0c1v4)
def xRF53 : XSh R53 := ⟨[], ⟨[(0, .agg [.cell (.int .i64), .cell (.int .i64)])], []⟩, fun _ => [], fun s => .r (((Eng.look s.env 0).cells.getD 0 .top).toI) (((Eng.look s.env 0).cells.getD 1 .top).toI)⟩
theorem fsF53 : ∀ (N : Nat) (lk : Nat → AV) (M : List Blk), FFF53 (F53 (N + 1)) (canS sgF53 lk M) = evfn CX (T53ur1 N R53) code53 rsF53 (argsE 1 (canS sgF53 lk M).env) (canS sgF53 lk M).mem (goR CX 0 (fun _ => some xRF53)) := by intro N lk M; kernel_rfl
theorem soundF53 : ∀ N, RecOkF53 (F53 N)
  | 0, lk, M, o, h => by cases h
  | N + 1, lk, M, o, h => fn_sound hX (okT53ur1 N R53) Try.func53 hb53 rfl en53 (by kernel_rfl) (ys := fun _ => some xRF53) (fun st y h => by injection h with h; subst h; exact fun lk M => ⟨rfl, rfl⟩) ((fsF53 N lk M).symm.trans h)
def cvce53n0 : List Cv := []
def selce53n0 : St → List Nat := fun _ => []
noncomputable def ce53n0 (Fx : TF53) (R : Type) (test : List AV → List Blk → Bool) : CE R := ⟨53, test, fun args M => some (selce53n0 ⟨argEnv 0 args, M, [], .unk⟩), fun args M k => tst (Nat.beq args.length 1) (callFn CX 0 cvce53n0 sgF53 selce53n0 (FFF53 Fx) elF53 args M k)⟩
theorem okce53n0 (Fx : TF53) (h : RecOkF53 Fx) (R : Type) (test : List AV → List Blk → Bool) : CeOk CX (ce53n0 Fx R test) := ce_ok hX (fun o k => by cases o; rfl) h en53 (fun args M ids h => by injection h with h; exact ⟨rfl, h.symm⟩)
end Go.Proofs.Ytnfmdenclkdmbaa

namespace Go.Proofs.Ytnfmdenclkdmbaa
open Go Go.Eng
set_option maxRecDepth 100000

/-! ### F19: ceiling/num.Range -/
inductive R19 where
  | r (x0c0 : Int) (x0c1 : Int)
abbrev TF19 := Int → Int → Int → Int → Int → Option R19
def sgF19 : LSh := ⟨[(0, .one (.cell (.int .u8))), (1, .agg [.cell (.int .i64), .cell (.int .i64)]), (2, .agg [.cell (.int .i64), .cell (.int .i64)])], []⟩
def FFF19 (Fx : TF19) (s : St) : Option R19 := Fx ((Eng.look s.env 0).toI) (((Eng.look s.env 1).cells.getD 0 .top).toI) (((Eng.look s.env 1).cells.getD 1 .top).toI) (((Eng.look s.env 2).cells.getD 0 .top).toI) (((Eng.look s.env 2).cells.getD 1 .top).toI)
def valF19 (o : R19) : AV := match o with | .r x0c0 x0c1 => .agg [.int .i64 x0c0, .int .i64 x0c1]
def memF19 (o : R19) : List Blk := match o with | .r x0c0 x0c1 => []
def elF19 {R : Type} (o : R19) (k : AV → List Blk → Option R) : Option R := match o with | .r x0c0 x0c1 => k (.agg [.int .i64 x0c0, .int .i64 x0c1]) []
def RecOkF19 (Fx : TF19) : Prop := ∀ lk M o, FFF19 Fx (canS sgF19 lk M) = some o → FCalls CX 19 0 (argsE 3 (canS sgF19 lk M).env) (canS sgF19 lk M).mem (valF19 o) (memF19 o)
noncomputable def csF19 (N : Nat) (R : Type) : List (CE R) := [ce33n0 (F33 N) R (fun _ _ => true), ce41n0 (F41 N) R (fun _ _ => true), ce42n0 (F42 N) R (fun _ _ => true), ce43n0 (F43 N) R (testV CX cvce43n0 sgF43 selce43n0), ce43v1n0 (F43v1 N) R (testV CX cvce43v1n0 sgF43v1 selce43v1n0), ce43v2n0 (F43v2 N) R (testV CX cvce43v2n0 sgF43v2 selce43v2n0), ce43v3n0 (F43v3 N) R (testV CX cvce43v3n0 sgF43v3 selce43v3n0), ce43v1n1 (F43v1 N) R (testV CX cvce43v1n1 sgF43v1 selce43v1n1), ce48n0 (F48 N) R (fun _ _ => true), ce49n0 (F49 N) R (fun _ _ => true), ce50n0 (F50 N) R (fun _ _ => true), ce51n0 (F51 N) R (fun _ _ => true), ce52n0 (F52 N) R (fun _ _ => true), ce53n0 (F53 N) R (fun _ _ => true)]
theorem hcsF19 (N : Nat) (R : Type) : AllE (CeOk CX) (csF19 N R) := ⟨okce33n0 (F33 N) (soundF33 N) R (fun _ _ => true), okce41n0 (F41 N) (soundF41 N) R (fun _ _ => true), okce42n0 (F42 N) (soundF42 N) R (fun _ _ => true), okce43n0 (F43 N) (soundF43 N) R (testV CX cvce43n0 sgF43 selce43n0), okce43v1n0 (F43v1 N) (soundF43v1 N) R (testV CX cvce43v1n0 sgF43v1 selce43v1n0), okce43v2n0 (F43v2 N) (soundF43v2 N) R (testV CX cvce43v2n0 sgF43v2 selce43v2n0), okce43v3n0 (F43v3 N) (soundF43v3 N) R (testV CX cvce43v3n0 sgF43v3 selce43v3n0), okce43v1n1 (F43v1 N) (soundF43v1 N) R (testV CX cvce43v1n1 sgF43v1 selce43v1n1), okce48n0 (F48 N) (soundF48 N) R (fun _ _ => true), okce49n0 (F49 N) (soundF49 N) R (fun _ _ => true), okce50n0 (F50 N) (soundF50 N) R (fun _ _ => true), okce51n0 (F51 N) (soundF51 N) R (fun _ _ => true), okce52n0 (F52 N) (soundF52 N) R (fun _ _ => true), okce53n0 (F53 N) (soundF53 N) R (fun _ _ => true), trivial⟩
inductive OJ19a6 where
  | nx (b0c0 : Int) (b0c1 : Int) (b1c0 : Int) (b1c1 : Int) (b2c0 : Int) (b2c1 : Int)
  | ret (b0c0 : Int) (b0c1 : Int) (b1c0 : Int) (b1c1 : Int) (b2c0 : Int) (b2c1 : Int)
def J19a6 (N : Nat) : Int → Int → Int → Int → Int → Int → Int → Option OJ19a6 := fun x0 b0c0 b0c1 b1c0 b1c1 b2c0 b2c1 =>
    match F41 N b0c0 b0c1 with
    | none => none
    | some (.r rx0v1) =>
      match rx0v1 with
      | true =>
        match F42 N  with
        | none => none
        | some (.r rx0c0v2 rx0c1v2) =>
          some (.ret b0c0 b0c1 b1c0 b1c1 rx0c0v2 rx0c1v2)
      | false =>
        match F41 N b1c0 b1c1 with
        | none => none
        | some (.r rx0v3) =>
          match rx0v3 with
          | true =>
            match F33 N x0 with
            | none => none
            | some (.r rx0v4) =>
              match !rx0v4 with
              | true =>
                match F42 N  with
                | none => none
                | some (.r rx0c0v5 rx0c1v5) =>
                  some (.ret b0c0 b0c1 b1c0 b1c1 rx0c0v5 rx0c1v5)
              | false =>
                some (.nx b0c0 b0c1 b1c0 b1c1 b2c0 b2c1)
          | false =>
            some (.nx b0c0 b0c1 b1c0 b1c1 b2c0 b2c1)
def LFJ19a6 (N : Nat) (s : St) : Option OJ19a6 := J19a6 N ((Eng.look s.env 0).toI) (((s.mem.getD 0 .dead).cells.getD 0 .top).toI) (((s.mem.getD 0 .dead).cells.getD 1 .top).toI) (((s.mem.getD 1 .dead).cells.getD 0 .top).toI) (((s.mem.getD 1 .dead).cells.getD 1 .top).toI) (((s.mem.getD 2 .dead).cells.getD 0 .top).toI) (((s.mem.getD 2 .dead).cells.getD 1 .top).toI)
def sgJ19a6 : LSh := ⟨[(0, .one (.cell (.int .u8))), (4, .one (.ptr 0 0 0)), (5, .one (.ptr 1 0 0)), (6, .one (.ptr 2 0 0))], [.var [.int .i64, .int .i64] [.cell (.int .i64), .cell (.int .i64)], .var [.int .i64, .int .i64] [.cell (.int .i64), .cell (.int .i64)], .var [.int .i64, .int .i64] [.cell (.int .i64), .cell (.int .i64)]]⟩
def ceJ19a6 : List Cv := []
def seJ19a6 : St → List Nat := fun st => [(Eng.look st.env 4).id, (Eng.look st.env 5).id, (Eng.look st.env 6).id]
def xJ19a6wnx : XSh OJ19a6 := ⟨[], ⟨[], [.var [.int .i64, .int .i64] [.cell (.int .i64), .cell (.int .i64)], .var [.int .i64, .int .i64] [.cell (.int .i64), .cell (.int .i64)], .var [.int .i64, .int .i64] [.cell (.int .i64), .cell (.int .i64)]]⟩, fun st => [0, 1, 2], fun s => .nx (((s.mem.getD 0 .dead).cells.getD 0 .top).toI) (((s.mem.getD 0 .dead).cells.getD 1 .top).toI) (((s.mem.getD 1 .dead).cells.getD 0 .top).toI) (((s.mem.getD 1 .dead).cells.getD 1 .top).toI) (((s.mem.getD 2 .dead).cells.getD 0 .top).toI) (((s.mem.getD 2 .dead).cells.getD 1 .top).toI)⟩
def xJ19a6wret : XSh OJ19a6 := ⟨[], ⟨[], [.var [.int .i64, .int .i64] [.cell (.int .i64), .cell (.int .i64)], .var [.int .i64, .int .i64] [.cell (.int .i64), .cell (.int .i64)], .var [.int .i64, .int .i64] [.cell (.int .i64), .cell (.int .i64)]]⟩, fun st => [0, 1, 2], fun s => .ret (((s.mem.getD 0 .dead).cells.getD 0 .top).toI) (((s.mem.getD 0 .dead).cells.getD 1 .top).toI) (((s.mem.getD 1 .dead).cells.getD 0 .top).toI) (((s.mem.getD 1 .dead).cells.getD 1 .top).toI) (((s.mem.getD 2 .dead).cells.getD 0 .top).toI) (((s.mem.getD 2 .dead).cells.getD 1 .top).toI)⟩
def xsJ19a6 : Ex → St → Option (XSh OJ19a6) := fun e st => match e with
  | .normal => some xJ19a6wnx
  | .ret => some xJ19a6wret
  | _ => none
def exJ19a6 (o : OJ19a6) : Ex := match o with | .nx b0c0 b0c1 b1c0 b1c1 b2c0 b2c1 => .normal | .ret b0c0 b0c1 b1c0 b1c1 b2c0 b2c1 => .ret
def stJ19a6 (o : OJ19a6) : St := match o with | .nx b0c0 b0c1 b1c0 b1c1 b2c0 b2c1 => ⟨[], [.var [.int .i64, .int .i64] [.int .i64 b0c0, .int .i64 b0c1], .var [.int .i64, .int .i64] [.int .i64 b1c0, .int .i64 b1c1], .var [.int .i64, .int .i64] [.int .i64 b2c0, .int .i64 b2c1]], [], .unk⟩ | .ret b0c0 b0c1 b1c0 b1c1 b2c0 b2c1 => ⟨[], [.var [.int .i64, .int .i64] [.int .i64 b0c0, .int .i64 b0c1], .var [.int .i64, .int .i64] [.int .i64 b1c0, .int .i64 b1c1], .var [.int .i64, .int .i64] [.int .i64 b2c0, .int .i64 b2c1]], [], .unk⟩
def elJ19a6 {R : Type} (o : OJ19a6) (k : Ex → St → Option R) : Option R := match o with | .nx b0c0 b0c1 b1c0 b1c1 b2c0 b2c1 => k .normal ⟨[], [.var [.int .i64, .int .i64] [.int .i64 b0c0, .int .i64 b0c1], .var [.int .i64, .int .i64] [.int .i64 b1c0, .int .i64 b1c1], .var [.int .i64, .int .i64] [.int .i64 b2c0, .int .i64 b2c1]], [], .unk⟩ | .ret b0c0 b0c1 b1c0 b1c1 b2c0 b2c1 => k .ret ⟨[], [.var [.int .i64, .int .i64] [.int .i64 b0c0, .int .i64 b0c1], .var [.int .i64, .int .i64] [.int .i64 b1c0, .int .i64 b1c1], .var [.int .i64, .int .i64] [.int .i64 b2c0, .int .i64 b2c1]], [], .unk⟩
theorem heJ19a6 {R : Type} (o : OJ19a6) (k : Ex → St → Option R) : elJ19a6 o k = k (exJ19a6 o) (stJ19a6 o) := by cases o <;> rfl
theorem hxJ19a6 : ∀ e st x, xsJ19a6 e st = some x → outOk x e exJ19a6 stJ19a6 := by
  intro e st x h
  unfold xsJ19a6 at h
  repeat' split at h
  all_goals first
    | (injection h with h; subst h; exact fun lk M => ⟨rfl, rfl⟩)
    | cases h
noncomputable def T19uc6 (N : Nat) (R : Type) : LTab R := mkTab ⟨102, 2096640⟩ (csF19 N R) (noY) [] [] []
theorem okT19uc6 (N : Nat) (R : Type) : (T19uc6 N R).Ok CX code19 := mkTab_ok (hcsF19 N R) (noY_ok) (trivial) (trivial) (trivial)
noncomputable def bdJ19a6 : Code := (codeAt code19 [false, true]).getD .skip
theorem hsJ19a6 (N : Nat) : ∀ (lk : Nat → AV) (M : List Blk), LFJ19a6 N (canS sgJ19a6 lk M) = evk CX (T19uc6 N OJ19a6) bdJ19a6 6 (canS sgJ19a6 lk M) (kontX CX 3 xsJ19a6) := by intro lk M; kernel_rfl
inductive OJ19a62974 where
  | nx (x53 : Bool)
def J19a62974 (N : Nat) : Int → Option OJ19a62974 := fun x31 =>
    match x31 == (5 : Int) with
    | true =>
      some (.nx true)
    | false =>
      some (.nx (x31 == (6 : Int)))
def LFJ19a62974 (N : Nat) (s : St) : Option OJ19a62974 := J19a62974 N ((Eng.look s.env 31).toI)
def sgJ19a62974 : LSh := ⟨[(31, .one (.cell (.int .u8)))], []⟩
def ceJ19a62974 : List Cv := []
def seJ19a62974 : St → List Nat := fun _ => []
def xJ19a62974wnx : XSh OJ19a62974 := ⟨[], ⟨[(53, .one (.cell (.bool)))], []⟩, fun _ => [], fun s => .nx ((Eng.look s.env 53).toB)⟩
def xsJ19a62974 : Ex → St → Option (XSh OJ19a62974) := fun e st => match e with
  | .normal => some xJ19a62974wnx
  | _ => none
def exJ19a62974 (o : OJ19a62974) : Ex := match o with | .nx x53 => .normal
def stJ19a62974 (o : OJ19a62974) : St := match o with | .nx x53 => ⟨[(53, .bool x53)], [], [], .unk⟩
def elJ19a62974 {R : Type} (o : OJ19a62974) (k : Ex → St → Option R) : Option R := match o with | .nx x53 => k .normal ⟨[(53, .bool x53)], [], [], .unk⟩
theorem heJ19a62974 {R : Type} (o : OJ19a62974) (k : Ex → St → Option R) : elJ19a62974 o k = k (exJ19a62974 o) (stJ19a62974 o) := by cases o <;> rfl
theorem hxJ19a62974 : ∀ e st x, xsJ19a62974 e st = some x → outOk x e exJ19a62974 stJ19a62974 := by
  intro e st x h
  unfold xsJ19a62974 at h
  repeat' split at h
  all_goals first
    | (injection h with h; subst h; exact fun lk M => ⟨rfl, rfl⟩)
    | cases h
noncomputable def T19uc62974 (N : Nat) (R : Type) : LTab R := mkTab ⟨102, 63050394783186944⟩ (csF19 N R) (noY) [] [] []
theorem okT19uc62974 (N : Nat) (R : Type) : (T19uc62974 N R).Ok CX code19 := mkTab_ok (hcsF19 N R) (noY_ok) (trivial) (trivial) (trivial)
noncomputable def bdJ19a62974 : Code := (codeAt code19 [false, true, true, true, true, true, true, true, true, false, true, false, true, true, true]).getD .skip
theorem hsJ19a62974 (N : Nat) : ∀ (lk : Nat → AV) (M : List Blk), LFJ19a62974 N (canS sgJ19a62974 lk M) = evk CX (T19uc62974 N OJ19a62974) bdJ19a62974 62974 (canS sgJ19a62974 lk M) (kontX CX 0 xsJ19a62974) := by intro lk M; kernel_rfl
inductive OJ19a251902 where
  | nx (x68 : Bool)
def J19a251902 (N : Nat) : Int → Option OJ19a251902 := fun x31 =>
    match x31 == (7 : Int) with
    | true =>
      some (.nx true)
    | false =>
      match x31 == (8 : Int) with
      | true =>
        some (.nx true)
      | false =>
        match x31 == (9 : Int) with
        | true =>
          some (.nx true)
        | false =>
          match x31 == (10 : Int) with
          | true =>
            some (.nx true)
          | false =>
            match x31 == (11 : Int) with
            | true =>
              some (.nx true)
            | false =>
              some (.nx (x31 == (12 : Int)))
def LFJ19a251902 (N : Nat) (s : St) : Option OJ19a251902 := J19a251902 N ((Eng.look s.env 31).toI)
def sgJ19a251902 : LSh := ⟨[(31, .one (.cell (.int .u8)))], []⟩
def ceJ19a251902 : List Cv := []
def seJ19a251902 : St → List Nat := fun _ => []
def xJ19a251902wnx : XSh OJ19a251902 := ⟨[], ⟨[(68, .one (.cell (.bool)))], []⟩, fun _ => [], fun s => .nx ((Eng.look s.env 68).toB)⟩
def xsJ19a251902 : Ex → St → Option (XSh OJ19a251902) := fun e st => match e with
  | .normal => some xJ19a251902wnx
  | _ => none
def exJ19a251902 (o : OJ19a251902) : Ex := match o with | .nx x68 => .normal
def stJ19a251902 (o : OJ19a251902) : St := match o with | .nx x68 => ⟨[(68, .bool x68)], [], [], .unk⟩
def elJ19a251902 {R : Type} (o : OJ19a251902) (k : Ex → St → Option R) : Option R := match o with | .nx x68 => k .normal ⟨[(68, .bool x68)], [], [], .unk⟩
theorem heJ19a251902 {R : Type} (o : OJ19a251902) (k : Ex → St → Option R) : elJ19a251902 o k = k (exJ19a251902 o) (stJ19a251902 o) := by cases o <;> rfl
theorem hxJ19a251902 : ∀ e st x, xsJ19a251902 e st = some x → outOk x e exJ19a251902 stJ19a251902 := by
  intro e st x h
  unfold xsJ19a251902 at h
  repeat' split at h
  all_goals first
    | (injection h with h; subst h; exact fun lk M => ⟨rfl, rfl⟩)
    | cases h
noncomputable def T19uc251902 (N : Nat) (R : Type) : LTab R := mkTab ⟨102, 37483783957777808883712⟩ (csF19 N R) (noY) [] [] []
theorem okT19uc251902 (N : Nat) (R : Type) : (T19uc251902 N R).Ok CX code19 := mkTab_ok (hcsF19 N R) (noY_ok) (trivial) (trivial) (trivial)
noncomputable def bdJ19a251902 : Code := (codeAt code19 [false, true, true, true, true, true, true, true, true, true, true, false, true, false, true, true, true]).getD .skip
theorem hsJ19a251902 (N : Nat) : ∀ (lk : Nat → AV) (M : List Blk), LFJ19a251902 N (canS sgJ19a251902 lk M) = evk CX (T19uc251902 N OJ19a251902) bdJ19a251902 251902 (canS sgJ19a251902 lk M) (kontX CX 0 xsJ19a251902) := by intro lk M; kernel_rfl
inductive OJ19a1007614 where
  | nx (x79 : Bool)
def J19a1007614 (N : Nat) : Int → Option OJ19a1007614 := fun x31 =>
    match x31 == (13 : Int) with
    | true =>
      some (.nx true)
    | false =>
      match x31 == (14 : Int) with
      | true =>
        some (.nx true)
      | false =>
        some (.nx (x31 == (15 : Int)))
def LFJ19a1007614 (N : Nat) (s : St) : Option OJ19a1007614 := J19a1007614 N ((Eng.look s.env 31).toI)
def sgJ19a1007614 : LSh := ⟨[(31, .one (.cell (.int .u8)))], []⟩
def ceJ19a1007614 : List Cv := []
def seJ19a1007614 : St → List Nat := fun _ => []
def xJ19a1007614wnx : XSh OJ19a1007614 := ⟨[], ⟨[(79, .one (.cell (.bool)))], []⟩, fun _ => [], fun s => .nx ((Eng.look s.env 79).toB)⟩
def xsJ19a1007614 : Ex → St → Option (XSh OJ19a1007614) := fun e st => match e with
  | .normal => some xJ19a1007614wnx
  | _ => none
def exJ19a1007614 (o : OJ19a1007614) : Ex := match o with | .nx x79 => .normal
def stJ19a1007614 (o : OJ19a1007614) : St := match o with | .nx x79 => ⟨[(79, .bool x79)], [], [], .unk⟩
def elJ19a1007614 {R : Type} (o : OJ19a1007614) (k : Ex → St → Option R) : Option R := match o with | .nx x79 => k .normal ⟨[(79, .bool x79)], [], [], .unk⟩
theorem heJ19a1007614 {R : Type} (o : OJ19a1007614) (k : Ex → St → Option R) : elJ19a1007614 o k = k (exJ19a1007614 o) (stJ19a1007614 o) := by cases o <;> rfl
theorem hxJ19a1007614 : ∀ e st x, xsJ19a1007614 e st = some x → outOk x e exJ19a1007614 stJ19a1007614 := by
  intro e st x h
  unfold xsJ19a1007614 at h
  repeat' split at h
  all_goals first
    | (injection h with h; subst h; exact fun lk M => ⟨rfl, rfl⟩)
    | cases h
noncomputable def T19uc1007614 (N : Nat) (R : Type) : LTab R := mkTab ⟨102, 9066943647109718810296320⟩ (csF19 N R) (noY) [] [] []
theorem okT19uc1007614 (N : Nat) (R : Type) : (T19uc1007614 N R).Ok CX code19 := mkTab_ok (hcsF19 N R) (noY_ok) (trivial) (trivial) (trivial)
noncomputable def bdJ19a1007614 : Code := (codeAt code19 [false, true, true, true, true, true, true, true, true, true, true, true, true, false, true, false, true, true, true]).getD .skip
theorem hsJ19a1007614 (N : Nat) : ∀ (lk : Nat → AV) (M : List Blk), LFJ19a1007614 N (canS sgJ19a1007614 lk M) = evk CX (T19uc1007614 N OJ19a1007614) bdJ19a1007614 1007614 (canS sgJ19a1007614 lk M) (kontX CX 0 xsJ19a1007614) := by intro lk M; kernel_rfl
noncomputable def T19ur1 (N : Nat) (R : Type) : LTab R := mkTab ⟨102, 5070602400912917605986812821503⟩ (csF19 N R) (noY) [] [] [(6, fun st k => callLoop CX 3 2096640 ceJ19a6 sgJ19a6 seJ19a6 ⟨102, 5070602400912917605986812821503⟩ (LFJ19a6 N) elJ19a6 st k), (62974, fun st k => callLoop CX 0 63050394783186944 ceJ19a62974 sgJ19a62974 seJ19a62974 ⟨102, 5070602400912917605986812821503⟩ (LFJ19a62974 N) elJ19a62974 st k), (251902, fun st k => callLoop CX 0 37483783957777808883712 ceJ19a251902 sgJ19a251902 seJ19a251902 ⟨102, 5070602400912917605986812821503⟩ (LFJ19a251902 N) elJ19a251902 st k), (1007614, fun st k => callLoop CX 0 9066943647109718810296320 ceJ19a1007614 sgJ19a1007614 seJ19a1007614 ⟨102, 5070602400912917605986812821503⟩ (LFJ19a1007614 N) elJ19a1007614 st k)]
theorem okT19ur1 (N : Nat) (R : Type) : (T19ur1 N R).Ok CX code19 := mkTab_ok (hcsF19 N R) (noY_ok) (trivial) (trivial) (⟨cut_ok hX (path := [false, true]) (by kernel_rfl) (by rfl) (okT19uc6 N OJ19a6) (hsJ19a6 N) hxJ19a6 rfl heJ19a6, cut_ok hX (path := [false, true, true, true, true, true, true, true, true, false, true, false, true, true, true]) (by kernel_rfl) (by rfl) (okT19uc62974 N OJ19a62974) (hsJ19a62974 N) hxJ19a62974 rfl heJ19a62974, cut_ok hX (path := [false, true, true, true, true, true, true, true, true, true, true, false, true, false, true, true, true]) (by kernel_rfl) (by rfl) (okT19uc251902 N OJ19a251902) (hsJ19a251902 N) hxJ19a251902 rfl heJ19a251902, cut_ok hX (path := [false, true, true, true, true, true, true, true, true, true, true, true, true, false, true, false, true, true, true]) (by kernel_rfl) (by rfl) (okT19uc1007614 N OJ19a1007614) (hsJ19a1007614 N) hxJ19a1007614 rfl heJ19a1007614, trivial⟩)
def rsF19 : List ResultVar := [.cell 6 29]
def F19 : Nat → TF19
  | 0 => fun _ _ _ _ _ => none
  | N + 1 => fun x0 x1c0 x1c1 x2c0 x2c1 =>
    match J19a6 N x0 x1c0 x1c1 x2c0 x2c1 0 0 with
    | none => none
    | some (.nx b0c0v6 b0c1v6 b1c0v6 b1c1v6 b2c0v6 b2c1v6) =>
      match x0 == (1 : Int) with
      | true =>
        match F43 N (([[.int .i64 b0c0v6], [.int .i64 b0c1v6]] : List Row)) (([[.int .i64 b1c0v6], [.int .i64 b1c1v6]] : List Row)) with
        | none => none
        | some (.r rx0c0v7 rx0c1v7) =>
          some (.r rx0c0v7 rx0c1v7)
      | false =>
        match x0 == (2 : Int) with
        | true =>
          match F43v1 N (([[.int .i64 b0c0v6], [.int .i64 b0c1v6]] : List Row)) (([[.int .i64 b1c0v6], [.int .i64 b1c1v6]] : List Row)) with
          | none => none
          | some (.r rx0c0v8 rx0c1v8) =>
            some (.r rx0c0v8 rx0c1v8)
        | false =>
          match x0 == (3 : Int) with
          | true =>
            match F43v2 N (([[.int .i64 b0c0v6], [.int .i64 b0c1v6]] : List Row)) (([[.int .i64 b1c0v6], [.int .i64 b1c1v6]] : List Row)) with
            | none => none
            | some (.r rx0c0v9 rx0c1v9) =>
              some (.r rx0c0v9 rx0c1v9)
          | false =>
            match x0 == (4 : Int) with
            | true =>
              match F48 N b1c0v6 b1c1v6 with
              | none => none
              | some (.r rb0v10) =>
                match F43v3 N (([[.int .i64 b0c0v6], [.int .i64 b0c1v6]] : List Row)) rb0v10 with
                | none => none
                | some (.r rx0c0v11 rx0c1v11) =>
                  some (.r rx0c0v11 rx0c1v11)
            | false =>
              match J19a62974 N x0 with
              | none => none
              | some (.nx x53v12) =>
                match x53v12 with
                | true =>
                  match ((b1c0v6 == (0 : Int)) && ((b1c1v6 == (0 : Int)) && true)) with
                  | true =>
                    match F42 N  with
                    | none => none
                    | some (.r rx0c0v13 rx0c1v13) =>
                      some (.r rx0c0v13 rx0c1v13)
                  | false =>
                    match x0 == (5 : Int) with
                    | true =>
                      match F49 N b0c0v6 b0c1v6 b1c0v6 b1c1v6 with
                      | none => none
                      | some (.r rx0c0v14 rx0c1v14) =>
                        some (.r rx0c0v14 rx0c1v14)
                    | false =>
                      match F50 N b0c0v6 b0c1v6 b1c0v6 b1c1v6 with
                      | none => none
                      | some (.r rx0c0v15 rx0c1v15) =>
                        some (.r rx0c0v15 rx0c1v15)
                | false =>
                  match J19a251902 N x0 with
                  | none => none
                  | some (.nx x68v16) =>
                    match x68v16 with
                    | true =>
                      match F51 N x0 b0c0v6 b0c1v6 b1c0v6 b1c1v6 with
                      | none => none
                      | some (.r rx0c0v17 rx0c1v17) =>
                        some (.r rx0c0v17 rx0c1v17)
                    | false =>
                      match J19a1007614 N x0 with
                      | none => none
                      | some (.nx x79v18) =>
                        match x79v18 with
                        | true =>
                          match F52 N x0 b0c0v6 b0c1v6 b1c0v6 b1c1v6 with
                          | none => none
                          | some (.r rx0c0v19 rx0c1v19) =>
                            some (.r rx0c0v19 rx0c1v19)
                        | false =>
                          match x0 == (16 : Int) with
                          | true =>
                            match F43v1 N (([[.int .i64 0]] : List Row)) (([[.int .i64 b0c0v6], [.int .i64 b0c1v6]] : List Row)) with
                            | none => none
                            | some (.r rx0c0v20 rx0c1v20) =>
                              some (.r rx0c0v20 rx0c1v20)
                          | false =>
                            match x0 == (18 : Int) with
                            | true =>
                              match F43v1 N (([[.int .i64 1]] : List Row)) (([[.int .i64 b0c0v6], [.int .i64 b0c1v6]] : List Row)) with
                              | none => none
                              | some (.r rx0c0v21 rx0c1v21) =>
                                some (.r rx0c0v21 rx0c1v21)
                            | false =>
                              match x0 == (17 : Int) with
                              | true =>
                                match F53 N b0c0v6 b0c1v6 with
                                | none => none
                                | some (.r rx0c0v22 rx0c1v22) =>
                                  some (.r rx0c0v22 rx0c1v22)
                              | false =>
                                match F42 N  with
                                | none => none
                                | some (.r rx0c0v23 rx0c1v23) =>
                                  some (.r rx0c0v23 rx0c1v23)
    | some (.ret b0c0v24 b0c1v24 b1c0v24 b1c1v24 b2c0v24 b2c1v24) =>
      some (.r b2c0v24 b2c1v24)
def xRF19 : XSh R19 := ⟨[], ⟨[(0, .agg [.cell (.int .i64), .cell (.int .i64)])], []⟩, fun _ => [], fun s => .r (((Eng.look s.env 0).cells.getD 0 .top).toI) (((Eng.look s.env 0).cells.getD 1 .top).toI)⟩
theorem fsF19 : ∀ (N : Nat) (lk : Nat → AV) (M : List Blk), FFF19 (F19 (N + 1)) (canS sgF19 lk M) = evfn CX (T19ur1 N R19) code19 rsF19 (argsE 3 (canS sgF19 lk M).env) (canS sgF19 lk M).mem (goR CX 0 (fun _ => some xRF19)) := by intro N lk M; kernel_rfl
theorem soundF19 : ∀ N, RecOkF19 (F19 N)
  | 0, lk, M, o, h => by cases h
  | N + 1, lk, M, o, h => fn_sound hX (okT19ur1 N R19) Try.func19 hb19 rfl en19 (by kernel_rfl) (ys := fun _ => some xRF19) (fun st y h => by injection h with h; subst h; exact fun lk M => ⟨rfl, rfl⟩) ((fsF19 N lk M).symm.trans h)
def cvce19n0 : List Cv := []
def selce19n0 : St → List Nat := fun _ => []
noncomputable def ce19n0 (Fx : TF19) (R : Type) (test : List AV → List Blk → Bool) : CE R := ⟨19, test, fun args M => some (selce19n0 ⟨argEnv 0 args, M, [], .unk⟩), fun args M k => tst (Nat.beq args.length 3) (callFn CX 0 cvce19n0 sgF19 selce19n0 (FFF19 Fx) elF19 args M k)⟩
theorem okce19n0 (Fx : TF19) (h : RecOkF19 Fx) (R : Type) (test : List AV → List Blk → Bool) : CeOk CX (ce19n0 Fx R test) := ce_ok hX (fun o k => by cases o; rfl) h en19 (fun args M ids h => by injection h with h; exact ⟨rfl, h.symm⟩)
end Go.Proofs.Ytnfmdenclkdmbaa

namespace Go.Proofs.Ytnfmdenclkdmbaa
open Go Go.Eng
set_option maxRecDepth 100000

/-! ### F26: ceiling/num.Widen -/
inductive R26 where
  | r (x0c0 : Int) (x0c1 : Int)
abbrev TF26 := Int → Int → Int → Int → Int → Int → Option R26
def sgF26 : LSh := ⟨[(0, .agg [.cell (.int .i64), .cell (.int .i64)]), (1, .agg [.cell (.int .i64), .cell (.int .i64)]), (2, .agg [.cell (.int .i64), .cell (.int .i64)])], []⟩
def FFF26 (Fx : TF26) (s : St) : Option R26 := Fx (((Eng.look s.env 0).cells.getD 0 .top).toI) (((Eng.look s.env 0).cells.getD 1 .top).toI) (((Eng.look s.env 1).cells.getD 0 .top).toI) (((Eng.look s.env 1).cells.getD 1 .top).toI) (((Eng.look s.env 2).cells.getD 0 .top).toI) (((Eng.look s.env 2).cells.getD 1 .top).toI)
def valF26 (o : R26) : AV := match o with | .r x0c0 x0c1 => .agg [.int .i64 x0c0, .int .i64 x0c1]
def memF26 (o : R26) : List Blk := match o with | .r x0c0 x0c1 => []
def elF26 {R : Type} (o : R26) (k : AV → List Blk → Option R) : Option R := match o with | .r x0c0 x0c1 => k (.agg [.int .i64 x0c0, .int .i64 x0c1]) []
def RecOkF26 (Fx : TF26) : Prop := ∀ lk M o, FFF26 Fx (canS sgF26 lk M) = some o → FCalls CX 26 0 (argsE 3 (canS sgF26 lk M).env) (canS sgF26 lk M).mem (valF26 o) (memF26 o)
noncomputable def csF26 (N : Nat) (R : Type) : List (CE R) := [ce25n0 (F25 N) R (fun _ _ => true), ce41n0 (F41 N) R (fun _ _ => true), ce65n0 (F65 N) R (fun _ _ => true)]
theorem hcsF26 (N : Nat) (R : Type) : AllE (CeOk CX) (csF26 N R) := ⟨okce25n0 (F25 N) (soundF25 N) R (fun _ _ => true), okce41n0 (F41 N) (soundF41 N) R (fun _ _ => true), okce65n0 (F65 N) (soundF65 N) R (fun _ _ => true), trivial⟩
inductive OJ26a6 where
  | nx (b0c0 : Int) (b0c1 : Int) (b1c0 : Int) (b1c1 : Int) (b2c0 : Int) (b2c1 : Int)
  | ret (b0c0 : Int) (b0c1 : Int) (b1c0 : Int) (b1c1 : Int) (b2c0 : Int) (b2c1 : Int)
def J26a6 (N : Nat) : Int → Int → Int → Int → Int → Int → Option OJ26a6 := fun b0c0 b0c1 b1c0 b1c1 b2c0 b2c1 =>
    match F41 N b0c0 b0c1 with
    | none => none
    | some (.r rx0v1) =>
      match rx0v1 with
      | true =>
        match F25 N b0c0 b0c1 b1c0 b1c1 with
        | none => none
        | some (.r rx0c0v2 rx0c1v2) =>
          some (.ret b0c0 b0c1 b1c0 b1c1 rx0c0v2 rx0c1v2)
      | false =>
        match F41 N b1c0 b1c1 with
        | none => none
        | some (.r rx0v3) =>
          match rx0v3 with
          | true =>
            match F25 N b0c0 b0c1 b1c0 b1c1 with
            | none => none
            | some (.r rx0c0v4 rx0c1v4) =>
              some (.ret b0c0 b0c1 b1c0 b1c1 rx0c0v4 rx0c1v4)
          | false =>
            some (.nx b0c0 b0c1 b1c0 b1c1 b2c0 b2c1)
def LFJ26a6 (N : Nat) (s : St) : Option OJ26a6 := J26a6 N (((s.mem.getD 0 .dead).cells.getD 0 .top).toI) (((s.mem.getD 0 .dead).cells.getD 1 .top).toI) (((s.mem.getD 1 .dead).cells.getD 0 .top).toI) (((s.mem.getD 1 .dead).cells.getD 1 .top).toI) (((s.mem.getD 2 .dead).cells.getD 0 .top).toI) (((s.mem.getD 2 .dead).cells.getD 1 .top).toI)
def sgJ26a6 : LSh := ⟨[(3, .one (.ptr 0 0 0)), (4, .one (.ptr 1 0 0)), (6, .one (.ptr 2 0 0))], [.var [.int .i64, .int .i64] [.cell (.int .i64), .cell (.int .i64)], .var [.int .i64, .int .i64] [.cell (.int .i64), .cell (.int .i64)], .var [.int .i64, .int .i64] [.cell (.int .i64), .cell (.int .i64)]]⟩
def ceJ26a6 : List Cv := []
def seJ26a6 : St → List Nat := fun st => [(Eng.look st.env 3).id, (Eng.look st.env 4).id, (Eng.look st.env 6).id]
def xJ26a6wnx : XSh OJ26a6 := ⟨[], ⟨[], [.var [.int .i64, .int .i64] [.cell (.int .i64), .cell (.int .i64)], .var [.int .i64, .int .i64] [.cell (.int .i64), .cell (.int .i64)], .var [.int .i64, .int .i64] [.cell (.int .i64), .cell (.int .i64)]]⟩, fun st => [0, 1, 2], fun s => .nx (((s.mem.getD 0 .dead).cells.getD 0 .top).toI) (((s.mem.getD 0 .dead).cells.getD 1 .top).toI) (((s.mem.getD 1 .dead).cells.getD 0 .top).toI) (((s.mem.getD 1 .dead).cells.getD 1 .top).toI) (((s.mem.getD 2 .dead).cells.getD 0 .top).toI) (((s.mem.getD 2 .dead).cells.getD 1 .top).toI)⟩
def xJ26a6wret : XSh OJ26a6 := ⟨[], ⟨[], [.var [.int .i64, .int .i64] [.cell (.int .i64), .cell (.int .i64)], .var [.int .i64, .int .i64] [.cell (.int .i64), .cell (.int .i64)], .var [.int .i64, .int .i64] [.cell (.int .i64), .cell (.int .i64)]]⟩, fun st => [0, 1, 2], fun s => .ret (((s.mem.getD 0 .dead).cells.getD 0 .top).toI) (((s.mem.getD 0 .dead).cells.getD 1 .top).toI) (((s.mem.getD 1 .dead).cells.getD 0 .top).toI) (((s.mem.getD 1 .dead).cells.getD 1 .top).toI) (((s.mem.getD 2 .dead).cells.getD 0 .top).toI) (((s.mem.getD 2 .dead).cells.getD 1 .top).toI)⟩
def xsJ26a6 : Ex → St → Option (XSh OJ26a6) := fun e st => match e with
  | .normal => some xJ26a6wnx
  | .ret => some xJ26a6wret
  | _ => none
def exJ26a6 (o : OJ26a6) : Ex := match o with | .nx b0c0 b0c1 b1c0 b1c1 b2c0 b2c1 => .normal | .ret b0c0 b0c1 b1c0 b1c1 b2c0 b2c1 => .ret
def stJ26a6 (o : OJ26a6) : St := match o with | .nx b0c0 b0c1 b1c0 b1c1 b2c0 b2c1 => ⟨[], [.var [.int .i64, .int .i64] [.int .i64 b0c0, .int .i64 b0c1], .var [.int .i64, .int .i64] [.int .i64 b1c0, .int .i64 b1c1], .var [.int .i64, .int .i64] [.int .i64 b2c0, .int .i64 b2c1]], [], .unk⟩ | .ret b0c0 b0c1 b1c0 b1c1 b2c0 b2c1 => ⟨[], [.var [.int .i64, .int .i64] [.int .i64 b0c0, .int .i64 b0c1], .var [.int .i64, .int .i64] [.int .i64 b1c0, .int .i64 b1c1], .var [.int .i64, .int .i64] [.int .i64 b2c0, .int .i64 b2c1]], [], .unk⟩
def elJ26a6 {R : Type} (o : OJ26a6) (k : Ex → St → Option R) : Option R := match o with | .nx b0c0 b0c1 b1c0 b1c1 b2c0 b2c1 => k .normal ⟨[], [.var [.int .i64, .int .i64] [.int .i64 b0c0, .int .i64 b0c1], .var [.int .i64, .int .i64] [.int .i64 b1c0, .int .i64 b1c1], .var [.int .i64, .int .i64] [.int .i64 b2c0, .int .i64 b2c1]], [], .unk⟩ | .ret b0c0 b0c1 b1c0 b1c1 b2c0 b2c1 => k .ret ⟨[], [.var [.int .i64, .int .i64] [.int .i64 b0c0, .int .i64 b0c1], .var [.int .i64, .int .i64] [.int .i64 b1c0, .int .i64 b1c1], .var [.int .i64, .int .i64] [.int .i64 b2c0, .int .i64 b2c1]], [], .unk⟩
theorem heJ26a6 {R : Type} (o : OJ26a6) (k : Ex → St → Option R) : elJ26a6 o k = k (exJ26a6 o) (stJ26a6 o) := by cases o <;> rfl
theorem hxJ26a6 : ∀ e st x, xsJ26a6 e st = some x → outOk x e exJ26a6 stJ26a6 := by
  intro e st x h
  unfold xsJ26a6 at h
  repeat' split at h
  all_goals first
    | (injection h with h; subst h; exact fun lk M => ⟨rfl, rfl⟩)
    | cases h
noncomputable def T26uc6 (N : Nat) (R : Type) : LTab R := mkTab ⟨55, 130816⟩ (csF26 N R) (noY) [] [] []
theorem okT26uc6 (N : Nat) (R : Type) : (T26uc6 N R).Ok CX code26 := mkTab_ok (hcsF26 N R) (noY_ok) (trivial) (trivial) (trivial)
noncomputable def bdJ26a6 : Code := (codeAt code26 [false, true]).getD .skip
theorem hsJ26a6 (N : Nat) : ∀ (lk : Nat → AV) (M : List Blk), LFJ26a6 N (canS sgJ26a6 lk M) = evk CX (T26uc6 N OJ26a6) bdJ26a6 6 (canS sgJ26a6 lk M) (kontX CX 3 xsJ26a6) := by intro lk M; kernel_rfl
inductive OJ26a30 where
  | nx (b0c0 : Int) (b0c1 : Int) (b1c0 : Int) (b1c1 : Int) (b2c0 : Int) (b2c1 : Int) (b3c0 : Int) (b3c1 : Int)
def J26a30 (N : Nat) : Int → Int → Int → Int → Int → Int → Int → Int → Option OJ26a30 := fun b0c0 b0c1 b1c0 b1c1 b2c0 b2c1 b3c0 b3c1 =>
    match decide (b0c0 ≤ b1c0) with
    | true =>
      some (.nx b0c0 b0c1 b1c0 b1c1 b2c0 b2c1 b0c0 b3c1)
    | false =>
      match decide (b2c0 ≤ b1c0) with
      | true =>
        some (.nx b0c0 b0c1 b1c0 b1c1 b2c0 b2c1 b2c0 b3c1)
      | false =>
        some (.nx b0c0 b0c1 b1c0 b1c1 b2c0 b2c1 b3c0 b3c1)
def LFJ26a30 (N : Nat) (s : St) : Option OJ26a30 := J26a30 N (((s.mem.getD 0 .dead).cells.getD 0 .top).toI) (((s.mem.getD 0 .dead).cells.getD 1 .top).toI) (((s.mem.getD 1 .dead).cells.getD 0 .top).toI) (((s.mem.getD 1 .dead).cells.getD 1 .top).toI) (((s.mem.getD 2 .dead).cells.getD 0 .top).toI) (((s.mem.getD 2 .dead).cells.getD 1 .top).toI) (((s.mem.getD 3 .dead).cells.getD 0 .top).toI) (((s.mem.getD 3 .dead).cells.getD 1 .top).toI)
def sgJ26a30 : LSh := ⟨[(3, .one (.ptr 0 0 0)), (4, .one (.ptr 1 0 0)), (5, .one (.ptr 2 0 0)), (7, .one (.ptr 3 0 0))], [.var [.int .i64, .int .i64] [.cell (.int .i64), .cell (.int .i64)], .var [.int .i64, .int .i64] [.cell (.int .i64), .cell (.int .i64)], .var [.int .i64, .int .i64] [.cell (.int .i64), .cell (.int .i64)], .var [.int .i64, .int .i64] [.cell (.int .i64), .cell (.int .i64)]]⟩
def ceJ26a30 : List Cv := []
def seJ26a30 : St → List Nat := fun st => [(Eng.look st.env 3).id, (Eng.look st.env 4).id, (Eng.look st.env 5).id, (Eng.look st.env 7).id]
def xJ26a30wnx : XSh OJ26a30 := ⟨[], ⟨[], [.var [.int .i64, .int .i64] [.cell (.int .i64), .cell (.int .i64)], .var [.int .i64, .int .i64] [.cell (.int .i64), .cell (.int .i64)], .var [.int .i64, .int .i64] [.cell (.int .i64), .cell (.int .i64)], .var [.int .i64, .int .i64] [.cell (.int .i64), .cell (.int .i64)]]⟩, fun st => [0, 1, 2, 3], fun s => .nx (((s.mem.getD 0 .dead).cells.getD 0 .top).toI) (((s.mem.getD 0 .dead).cells.getD 1 .top).toI) (((s.mem.getD 1 .dead).cells.getD 0 .top).toI) (((s.mem.getD 1 .dead).cells.getD 1 .top).toI) (((s.mem.getD 2 .dead).cells.getD 0 .top).toI) (((s.mem.getD 2 .dead).cells.getD 1 .top).toI) (((s.mem.getD 3 .dead).cells.getD 0 .top).toI) (((s.mem.getD 3 .dead).cells.getD 1 .top).toI)⟩
def xsJ26a30 : Ex → St → Option (XSh OJ26a30) := fun e st => match e with
  | .normal => some xJ26a30wnx
  | _ => none
def exJ26a30 (o : OJ26a30) : Ex := match o with | .nx b0c0 b0c1 b1c0 b1c1 b2c0 b2c1 b3c0 b3c1 => .normal
def stJ26a30 (o : OJ26a30) : St := match o with | .nx b0c0 b0c1 b1c0 b1c1 b2c0 b2c1 b3c0 b3c1 => ⟨[], [.var [.int .i64, .int .i64] [.int .i64 b0c0, .int .i64 b0c1], .var [.int .i64, .int .i64] [.int .i64 b1c0, .int .i64 b1c1], .var [.int .i64, .int .i64] [.int .i64 b2c0, .int .i64 b2c1], .var [.int .i64, .int .i64] [.int .i64 b3c0, .int .i64 b3c1]], [], .unk⟩
def elJ26a30 {R : Type} (o : OJ26a30) (k : Ex → St → Option R) : Option R := match o with | .nx b0c0 b0c1 b1c0 b1c1 b2c0 b2c1 b3c0 b3c1 => k .normal ⟨[], [.var [.int .i64, .int .i64] [.int .i64 b0c0, .int .i64 b0c1], .var [.int .i64, .int .i64] [.int .i64 b1c0, .int .i64 b1c1], .var [.int .i64, .int .i64] [.int .i64 b2c0, .int .i64 b2c1], .var [.int .i64, .int .i64] [.int .i64 b3c0, .int .i64 b3c1]], [], .unk⟩
theorem heJ26a30 {R : Type} (o : OJ26a30) (k : Ex → St → Option R) : elJ26a30 o k = k (exJ26a30 o) (stJ26a30 o) := by cases o <;> rfl
theorem hxJ26a30 : ∀ e st x, xsJ26a30 e st = some x → outOk x e exJ26a30 stJ26a30 := by
  intro e st x h
  unfold xsJ26a30 at h
  repeat' split at h
  all_goals first
    | (injection h with h; subst h; exact fun lk M => ⟨rfl, rfl⟩)
    | cases h
noncomputable def T26uc30 (N : Nat) (R : Type) : LTab R := mkTab ⟨55, 68719214592⟩ (csF26 N R) (noY) [] [] []
theorem okT26uc30 (N : Nat) (R : Type) : (T26uc30 N R).Ok CX code26 := mkTab_ok (hcsF26 N R) (noY_ok) (trivial) (trivial) (trivial)
noncomputable def bdJ26a30 : Code := (codeAt code26 [false, true, true, true]).getD .skip
theorem hsJ26a30 (N : Nat) : ∀ (lk : Nat → AV) (M : List Blk), LFJ26a30 N (canS sgJ26a30 lk M) = evk CX (T26uc30 N OJ26a30) bdJ26a30 30 (canS sgJ26a30 lk M) (kontX CX 4 xsJ26a30) := by intro lk M; kernel_rfl
noncomputable def T26ur1 (N : Nat) (R : Type) : LTab R := mkTab ⟨55, 36028797018963967⟩ (csF26 N R) (noY) [] [] [(6, fun st k => callLoop CX 3 130816 ceJ26a6 sgJ26a6 seJ26a6 ⟨55, 36028797018963967⟩ (LFJ26a6 N) elJ26a6 st k), (30, fun st k => callLoop CX 4 68719214592 ceJ26a30 sgJ26a30 seJ26a30 ⟨55, 36028797018963967⟩ (LFJ26a30 N) elJ26a30 st k)]
theorem okT26ur1 (N : Nat) (R : Type) : (T26ur1 N R).Ok CX code26 := mkTab_ok (hcsF26 N R) (noY_ok) (trivial) (trivial) (⟨cut_ok hX (path := [false, true]) (by kernel_rfl) (by rfl) (okT26uc6 N OJ26a6) (hsJ26a6 N) hxJ26a6 rfl heJ26a6, cut_ok hX (path := [false, true, true, true]) (by kernel_rfl) (by rfl) (okT26uc30 N OJ26a30) (hsJ26a30 N) hxJ26a30 rfl heJ26a30, trivial⟩)
def rsF26 : List ResultVar := [.cell 6 29]
def F26 : Nat → TF26
  | 0 => fun _ _ _ _ _ _ => none
  | N + 1 => fun x0c0 x0c1 x1c0 x1c1 x2c0 x2c1 =>
    match J26a6 N x0c0 x0c1 x1c0 x1c1 0 0 with
    | none => none
    | some (.nx b0c0v5 b0c1v5 b1c0v5 b1c1v5 b2c0v5 b2c1v5) =>
      match F65 N  with
      | none => none
      | some (.r rx0c0v6 rx0c1v6) =>
        match J26a30 N b0c0v5 b0c1v5 b1c0v5 b1c1v5 x2c0 x2c1 rx0c0v6 rx0c1v6 with
        | none => none
        | some (.nx b0c0v7 b0c1v7 b1c0v7 b1c1v7 b2c0v7 b2c1v7 b3c0v7 b3c1v7) =>
          match decide (b1c1v7 ≤ b0c1v7) with
          | true =>
            some (.r b3c0v7 b0c1v7)
          | false =>
            match decide (b1c1v7 ≤ b2c1v7) with
            | true =>
              some (.r b3c0v7 b2c1v7)
            | false =>
              some (.r b3c0v7 b3c1v7)
    | some (.ret b0c0v8 b0c1v8 b1c0v8 b1c1v8 b2c0v8 b2c1v8) =>
      some (.r b2c0v8 b2c1v8)
def xRF26 : XSh R26 := ⟨[], ⟨[(0, .agg [.cell (.int .i64), .cell (.int .i64)])], []⟩, fun _ => [], fun s => .r (((Eng.look s.env 0).cells.getD 0 .top).toI) (((Eng.look s.env 0).cells.getD 1 .top).toI)⟩
theorem fsF26 : ∀ (N : Nat) (lk : Nat → AV) (M : List Blk), FFF26 (F26 (N + 1)) (canS sgF26 lk M) = evfn CX (T26ur1 N R26) code26 rsF26 (argsE 3 (canS sgF26 lk M).env) (canS sgF26 lk M).mem (goR CX 0 (fun _ => some xRF26)) := by intro N lk M; kernel_rfl
theorem soundF26 : ∀ N, RecOkF26 (F26 N)
  | 0, lk, M, o, h => by cases h
  | N + 1, lk, M, o, h => fn_sound hX (okT26ur1 N R26) Try.func26 hb26 rfl en26 (by kernel_rfl) (ys := fun _ => some xRF26) (fun st y h => by injection h with h; subst h; exact fun lk M => ⟨rfl, rfl⟩) ((fsF26 N lk M).symm.trans h)
def cvce26n0 : List Cv := []
def selce26n0 : St → List Nat := fun _ => []
noncomputable def ce26n0 (Fx : TF26) (R : Type) (test : List AV → List Blk → Bool) : CE R := ⟨26, test, fun args M => some (selce26n0 ⟨argEnv 0 args, M, [], .unk⟩), fun args M k => tst (Nat.beq args.length 3) (callFn CX 0 cvce26n0 sgF26 selce26n0 (FFF26 Fx) elF26 args M k)⟩
theorem okce26n0 (Fx : TF26) (h : RecOkF26 Fx) (R : Type) (test : List AV → List Blk → Bool) : CeOk CX (ce26n0 Fx R test) := ce_ok hX (fun o k => by cases o; rfl) h en26 (fun args M ids h => by injection h with h; exact ⟨rfl, h.symm⟩)
end Go.Proofs.Ytnfmdenclkdmbaa

namespace Go.Proofs.Ytnfmdenclkdmbaa
open Go Go.Eng
set_option maxRecDepth 100000

/-! ### F16: ceiling/ceilinglaw01.head -/
inductive R16 where
  | r (x0 : Bool)
abbrev TF16 := Option R16
def sgF16 : LSh := ⟨[], []⟩
def FFF16 (Fx : TF16) (s : St) : Option R16 := Fx 
def valF16 (o : R16) : AV := match o with | .r x0 => .bool x0
def memF16 (o : R16) : List Blk := match o with | .r x0 => []
def elF16 {R : Type} (o : R16) (k : AV → List Blk → Option R) : Option R := match o with | .r x0 => k (.bool x0) []
def RecOkF16 (Fx : TF16) : Prop := ∀ lk M o, FFF16 Fx (canS sgF16 lk M) = some o → FCalls CX 16 0 (argsE 0 (canS sgF16 lk M).env) (canS sgF16 lk M).mem (valF16 o) (memF16 o)
noncomputable def csF16 (N : Nat) (R : Type) : List (CE R) := [ce14n0 (F14 N) R (fun _ _ => true), ce17n0 (F17 N) R (fun _ _ => true), ce19n0 (F19 N) R (fun _ _ => true), ce22n0 (F22 N) R (fun _ _ => true), ce26n0 (F26 N) R (fun _ _ => true), ce36n0 (F36 N) R (fun _ _ => true), ce37n0 (F37 N) R (fun _ _ => true)]
theorem hcsF16 (N : Nat) (R : Type) : AllE (CeOk CX) (csF16 N R) := ⟨okce14n0 (F14 N) (soundF14 N) R (fun _ _ => true), okce17n0 (F17 N) (soundF17 N) R (fun _ _ => true), okce19n0 (F19 N) (soundF19 N) R (fun _ _ => true), okce22n0 (F22 N) (soundF22 N) R (fun _ _ => true), okce26n0 (F26 N) (soundF26 N) R (fun _ _ => true), okce36n0 (F36 N) (soundF36 N) R (fun _ _ => true), okce37n0 (F37 N) (soundF37 N) R (fun _ _ => true), trivial⟩
inductive OJ16a6 where
  | nx (x1 : Bool)
def J16a6 (N : Nat) : Option OJ16a6 := 
    match F36 N 4 ((-7)) 2 ((-3)) with
    | none => none
    | some (.r rx0v1) =>
      match rx0v1 with
      | true =>
        match F36 N 5 ((-7)) 2 ((-1)) with
        | none => none
        | some (.r rx0v2) =>
          match rx0v2 with
          | true =>
            match F36 N 6 ((-7)) 2 1 with
            | none => none
            | some (.r rx0v3) =>
              match rx0v3 with
              | true =>
                match F36 N 6 7 ((-2)) ((-1)) with
                | none => none
                | some (.r rx0v4) =>
                  match rx0v4 with
                  | true =>
                    match F37 N 4 ((-2147483648)) ((-1)) with
                    | none => none
                    | some (.r rx0v5) =>
                      match rx0v5 with
                      | true =>
                        match F36 N 5 ((-2147483648)) ((-1)) 0 with
                        | none => none
                        | some (.r rx0v6) =>
                          match rx0v6 with
                          | true =>
                            match F37 N 4 1 0 with
                            | none => none
                            | some (.r rx0v7) =>
                              match rx0v7 with
                              | true =>
                                match F37 N 13 1 2 with
                                | none => none
                                | some (.r rx0v8) =>
                                  match rx0v8 with
                                  | true =>
                                    match F37 N 1 2147483647 1 with
                                    | none => none
                                    | some (.r rx0v9) =>
                                      some (.nx rx0v9)
                                  | false =>
                                    some (.nx false)
                              | false =>
                                some (.nx false)
                          | false =>
                            some (.nx false)
                      | false =>
                        some (.nx false)
                  | false =>
                    some (.nx false)
              | false =>
                some (.nx false)
          | false =>
            some (.nx false)
      | false =>
        some (.nx false)
def LFJ16a6 (N : Nat) (s : St) : Option OJ16a6 := J16a6 N 
def sgJ16a6 : LSh := ⟨[], []⟩
def ceJ16a6 : List Cv := []
def seJ16a6 : St → List Nat := fun _ => []
def xJ16a6wnx : XSh OJ16a6 := ⟨[], ⟨[(1, .one (.cell (.bool)))], []⟩, fun _ => [], fun s => .nx ((Eng.look s.env 1).toB)⟩
def xsJ16a6 : Ex → St → Option (XSh OJ16a6) := fun e st => match e with
  | .normal => some xJ16a6wnx
  | _ => none
def exJ16a6 (o : OJ16a6) : Ex := match o with | .nx x1 => .normal
def stJ16a6 (o : OJ16a6) : St := match o with | .nx x1 => ⟨[(1, .bool x1)], [], [], .unk⟩
def elJ16a6 {R : Type} (o : OJ16a6) (k : Ex → St → Option R) : Option R := match o with | .nx x1 => k .normal ⟨[(1, .bool x1)], [], [], .unk⟩
theorem heJ16a6 {R : Type} (o : OJ16a6) (k : Ex → St → Option R) : elJ16a6 o k = k (exJ16a6 o) (stJ16a6 o) := by cases o <;> rfl
theorem hxJ16a6 : ∀ e st x, xsJ16a6 e st = some x → outOk x e exJ16a6 stJ16a6 := by
  intro e st x h
  unfold xsJ16a6 at h
  repeat' split at h
  all_goals first
    | (injection h with h; subst h; exact fun lk M => ⟨rfl, rfl⟩)
    | cases h
noncomputable def T16uc6 (N : Nat) (R : Type) : LTab R := mkTab ⟨79, 1073741794⟩ (csF16 N R) (noY) [] [] []
theorem okT16uc6 (N : Nat) (R : Type) : (T16uc6 N R).Ok CX code16 := mkTab_ok (hcsF16 N R) (noY_ok) (trivial) (trivial) (trivial)
noncomputable def bdJ16a6 : Code := (codeAt code16 [false, true]).getD .skip
theorem hsJ16a6 (N : Nat) : ∀ (lk : Nat → AV) (M : List Blk), LFJ16a6 N (canS sgJ16a6 lk M) = evk CX (T16uc6 N OJ16a6) bdJ16a6 6 (canS sgJ16a6 lk M) (kontX CX 0 xsJ16a6) := by intro lk M; kernel_rfl
inductive OJ16a30 where
  | nx (x4 : Bool)
def J16a30 (N : Nat) : Int → Bool → Option OJ16a30 := fun x2 x3 =>
    match x2 == (-9223372036854775808 : Int) with
    | true =>
      match x3 with
      | true =>
        match F22 N ((-2)) 3 with
        | none => none
        | some (.r rx0c0v12 rx0c1v12) =>
          match F22 N 4 5 with
          | none => none
          | some (.r rx0c0v13 rx0c1v13) =>
            match F19 N 3 rx0c0v12 rx0c1v12 rx0c0v13 rx0c1v13 with
            | none => none
            | some (.r rx0c0v14 rx0c1v14) =>
              match F22 N ((-10)) 15 with
              | none => none
              | some (.r rx0c0v15 rx0c1v15) =>
                match ((rx0c0v14 == rx0c0v15) && ((rx0c1v14 == rx0c1v15) && true)) with
                | true =>
                  match F22 N ((-7)) 100 with
                  | none => none
                  | some (.r rx0c0v16 rx0c1v16) =>
                    match F22 N 10 10 with
                    | none => none
                    | some (.r rx0c0v17 rx0c1v17) =>
                      match F19 N 5 rx0c0v16 rx0c1v16 rx0c0v17 rx0c1v17 with
                      | none => none
                      | some (.r rx0c0v18 rx0c1v18) =>
                        match F22 N ((-7)) 9 with
                        | none => none
                        | some (.r rx0c0v19 rx0c1v19) =>
                          match ((rx0c0v18 == rx0c0v19) && ((rx0c1v18 == rx0c1v19) && true)) with
                          | true =>
                            match F22 N 1 3 with
                            | none => none
                            | some (.r rx0c0v20 rx0c1v20) =>
                              match F22 N 4 9 with
                              | none => none
                              | some (.r rx0c0v21 rx0c1v21) =>
                                match F19 N 9 rx0c0v20 rx0c1v20 rx0c0v21 rx0c1v21 with
                                | none => none
                                | some (.r rx0c0v22 rx0c1v22) =>
                                  match F22 N 1 1 with
                                  | none => none
                                  | some (.r rx0c0v23 rx0c1v23) =>
                                    match ((rx0c0v22 == rx0c0v23) && ((rx0c1v22 == rx0c1v23) && true)) with
                                    | true =>
                                      match F22 N 0 4 with
                                      | none => none
                                      | some (.r rx0c0v24 rx0c1v24) =>
                                        match F22 N 0 5 with
                                        | none => none
                                        | some (.r rx0c0v25 rx0c1v25) =>
                                          match F22 N 0 100 with
                                          | none => none
                                          | some (.r rx0c0v26 rx0c1v26) =>
                                            match F26 N rx0c0v24 rx0c1v24 rx0c0v25 rx0c1v25 rx0c0v26 rx0c1v26 with
                                            | none => none
                                            | some (.r rx0c0v27 rx0c1v27) =>
                                              match F22 N 0 100 with
                                              | none => none
                                              | some (.r rx0c0v28 rx0c1v28) =>
                                                some (.nx (((rx0c0v27 == rx0c0v28) && ((rx0c1v27 == rx0c1v28) && true))))
                                    | false =>
                                      some (.nx false)
                          | false =>
                            some (.nx false)
                | false =>
                  some (.nx false)
      | false =>
        some (.nx false)
    | false =>
      some (.nx false)
def LFJ16a30 (N : Nat) (s : St) : Option OJ16a30 := J16a30 N ((Eng.look s.env 2).toI) ((Eng.look s.env 3).toB)
def sgJ16a30 : LSh := ⟨[(2, .one (.cell (.int .i64))), (3, .one (.cell (.bool)))], []⟩
def ceJ16a30 : List Cv := []
def seJ16a30 : St → List Nat := fun _ => []
def xJ16a30wnx : XSh OJ16a30 := ⟨[], ⟨[(4, .one (.cell (.bool)))], []⟩, fun _ => [], fun s => .nx ((Eng.look s.env 4).toB)⟩
def xsJ16a30 : Ex → St → Option (XSh OJ16a30) := fun e st => match e with
  | .normal => some xJ16a30wnx
  | _ => none
def exJ16a30 (o : OJ16a30) : Ex := match o with | .nx x4 => .normal
def stJ16a30 (o : OJ16a30) : St := match o with | .nx x4 => ⟨[(4, .bool x4)], [], [], .unk⟩
def elJ16a30 {R : Type} (o : OJ16a30) (k : Ex → St → Option R) : Option R := match o with | .nx x4 => k .normal ⟨[(4, .bool x4)], [], [], .unk⟩
theorem heJ16a30 {R : Type} (o : OJ16a30) (k : Ex → St → Option R) : elJ16a30 o k = k (exJ16a30 o) (stJ16a30 o) := by cases o <;> rfl
theorem hxJ16a30 : ∀ e st x, xsJ16a30 e st = some x → outOk x e exJ16a30 stJ16a30 := by
  intro e st x h
  unfold xsJ16a30 at h
  repeat' split at h
  all_goals first
    | (injection h with h; subst h; exact fun lk M => ⟨rfl, rfl⟩)
    | cases h
noncomputable def T16uc30 (N : Nat) (R : Type) : LTab R := mkTab ⟨79, 295147905162172956688⟩ (csF16 N R) (noY) [] [] []
theorem okT16uc30 (N : Nat) (R : Type) : (T16uc30 N R).Ok CX code16 := mkTab_ok (hcsF16 N R) (noY_ok) (trivial) (trivial) (trivial)
noncomputable def bdJ16a30 : Code := (codeAt code16 [false, true, true, true]).getD .skip
theorem hsJ16a30 (N : Nat) : ∀ (lk : Nat → AV) (M : List Blk), LFJ16a30 N (canS sgJ16a30 lk M) = evk CX (T16uc30 N OJ16a30) bdJ16a30 30 (canS sgJ16a30 lk M) (kontX CX 0 xsJ16a30) := by intro lk M; kernel_rfl
noncomputable def T16ur1 (N : Nat) (R : Type) : LTab R := mkTab ⟨79, 604462909807314587353087⟩ (csF16 N R) (noY) [] [] [(6, fun st k => callLoop CX 0 1073741794 ceJ16a6 sgJ16a6 seJ16a6 ⟨79, 604462909807314587353087⟩ (LFJ16a6 N) elJ16a6 st k), (30, fun st k => callLoop CX 0 295147905162172956688 ceJ16a30 sgJ16a30 seJ16a30 ⟨79, 604462909807314587353087⟩ (LFJ16a30 N) elJ16a30 st k)]
theorem okT16ur1 (N : Nat) (R : Type) : (T16ur1 N R).Ok CX code16 := mkTab_ok (hcsF16 N R) (noY_ok) (trivial) (trivial) (⟨cut_ok hX (path := [false, true]) (by kernel_rfl) (by rfl) (okT16uc6 N OJ16a6) (hsJ16a6 N) hxJ16a6 rfl heJ16a6, cut_ok hX (path := [false, true, true, true]) (by kernel_rfl) (by rfl) (okT16uc30 N OJ16a30) (hsJ16a30 N) hxJ16a30 rfl heJ16a30, trivial⟩)
def rsF16 : List ResultVar := [.tmp 0]
def F16 : Nat → TF16
  | 0 => none
  | N + 1 => 
    match J16a6 N  with
    | none => none
    | some (.nx x1v10) =>
      match F17 N 1 9223372036854775807 1 with
      | none => none
      | some (.r rx0v11 rx1v11) =>
        match J16a30 N rx0v11 rx1v11 with
        | none => none
        | some (.nx x4v29) =>
          match x1v10 with
          | true =>
            match x4v29 with
            | true =>
              match F14 N ((-2147483648)) with
              | none => none
              | some (.r rx0v30) =>
                match rx0v30 with
                | true =>
                  match F14 N 2147483648 with
                  | none => none
                  | some (.r rx0v31) =>
                    some (.r (!rx0v31))
                | false =>
                  some (.r false)
            | false =>
              some (.r false)
          | false =>
            some (.r false)
def xRF16 : XSh R16 := ⟨[], ⟨[(0, .one (.cell (.bool)))], []⟩, fun _ => [], fun s => .r ((Eng.look s.env 0).toB)⟩
theorem fsF16 : ∀ (N : Nat) (lk : Nat → AV) (M : List Blk), FFF16 (F16 (N + 1)) (canS sgF16 lk M) = evfn CX (T16ur1 N R16) code16 rsF16 (argsE 0 (canS sgF16 lk M).env) (canS sgF16 lk M).mem (goR CX 0 (fun _ => some xRF16)) := by intro N lk M; kernel_rfl
theorem soundF16 : ∀ N, RecOkF16 (F16 N)
  | 0, lk, M, o, h => by cases h
  | N + 1, lk, M, o, h => fn_sound hX (okT16ur1 N R16) Try.func16 hb16 rfl en16 (by kernel_rfl) (ys := fun _ => some xRF16) (fun st y h => by injection h with h; subst h; exact fun lk M => ⟨rfl, rfl⟩) ((fsF16 N lk M).symm.trans h)
def cvce16n0 : List Cv := []
def selce16n0 : St → List Nat := fun _ => []
noncomputable def ce16n0 (Fx : TF16) (R : Type) (test : List AV → List Blk → Bool) : CE R := ⟨16, test, fun args M => some (selce16n0 ⟨argEnv 0 args, M, [], .unk⟩), fun args M k => tst (Nat.beq args.length 0) (callFn CX 0 cvce16n0 sgF16 selce16n0 (FFF16 Fx) elF16 args M k)⟩
theorem okce16n0 (Fx : TF16) (h : RecOkF16 Fx) (R : Type) (test : List AV → List Blk → Bool) : CeOk CX (ce16n0 Fx R test) := ce_ok hX (fun o k => by cases o; rfl) h en16 (fun args M ids h => by injection h with h; exact ⟨rfl, h.symm⟩)
end Go.Proofs.Ytnfmdenclkdmbaa

namespace Go.Proofs.Ytnfmdenclkdmbaa
open Go Go.Eng
set_option maxRecDepth 100000

/-! ### F3: ceiling/ceilinglaw01.NumApply -/
inductive R3 where
  | r (x0 : Bool)
abbrev TF3 := Int → Int → Int → Option R3
def sgF3 : LSh := ⟨[(0, .one (.cell (.int .u8))), (1, .one (.cell (.int .i64))), (2, .one (.cell (.int .i64)))], []⟩
def FFF3 (Fx : TF3) (s : St) : Option R3 := Fx ((Eng.look s.env 0).toI) ((Eng.look s.env 1).toI) ((Eng.look s.env 2).toI)
def valF3 (o : R3) : AV := match o with | .r x0 => .bool x0
def memF3 (o : R3) : List Blk := match o with | .r x0 => []
def elF3 {R : Type} (o : R3) (k : AV → List Blk → Option R) : Option R := match o with | .r x0 => k (.bool x0) []
def RecOkF3 (Fx : TF3) : Prop := ∀ lk M o, FFF3 Fx (canS sgF3 lk M) = some o → FCalls CX 3 0 (argsE 3 (canS sgF3 lk M).env) (canS sgF3 lk M).mem (valF3 o) (memF3 o)
noncomputable def csF3 (N : Nat) (R : Type) : List (CE R) := [ce12n0 (F12 N) R (fun _ _ => true), ce13n0 (F13 N) R (fun _ _ => true), ce14n0 (F14 N) R (fun _ _ => true), ce15n0 (F15 N) R (fun _ _ => true), ce16n0 (F16 N) R (fun _ _ => true)]
theorem hcsF3 (N : Nat) (R : Type) : AllE (CeOk CX) (csF3 N R) := ⟨okce12n0 (F12 N) (soundF12 N) R (fun _ _ => true), okce13n0 (F13 N) (soundF13 N) R (fun _ _ => true), okce14n0 (F14 N) (soundF14 N) R (fun _ _ => true), okce15n0 (F15 N) (soundF15 N) R (fun _ _ => true), okce16n0 (F16 N) (soundF16 N) R (fun _ _ => true), trivial⟩
noncomputable def T3ur1 (N : Nat) (R : Type) : LTab R := mkTab ⟨43, 8796093022207⟩ (csF3 N R) (noY) [] [] []
theorem okT3ur1 (N : Nat) (R : Type) : (T3ur1 N R).Ok CX code3 := mkTab_ok (hcsF3 N R) (noY_ok) (trivial) (trivial) (trivial)
def rsF3 : List ResultVar := [.tmp 6]
def F3 : Nat → TF3
  | 0 => fun _ _ _ => none
  | N + 1 => fun x0 x1 x2 =>
    match F12 N x0 x1 x2 with
    | none => none
    | some (.r rx0v1 rx1v1) =>
      match F13 N x0 x1 x2 with
      | none => none
      | some (.r rx0v2 rx1v2) =>
        match rx0v1 == rx0v2 with
        | true =>
          match rx1v1 == rx1v2 with
          | true =>
            match F14 N x1 with
            | none => none
            | some (.r rx0v3) =>
              match F15 N x1 with
              | none => none
              | some (.r rx0v4) =>
                match rx0v3 == rx0v4 with
                | true =>
                  match F16 N  with
                  | none => none
                  | some (.r rx0v5) =>
                    some (.r rx0v5)
                | false =>
                  some (.r false)
          | false =>
            some (.r false)
        | false =>
          some (.r false)
def xRF3 : XSh R3 := ⟨[], ⟨[(0, .one (.cell (.bool)))], []⟩, fun _ => [], fun s => .r ((Eng.look s.env 0).toB)⟩
theorem fsF3 : ∀ (N : Nat) (lk : Nat → AV) (M : List Blk), FFF3 (F3 (N + 1)) (canS sgF3 lk M) = evfn CX (T3ur1 N R3) code3 rsF3 (argsE 3 (canS sgF3 lk M).env) (canS sgF3 lk M).mem (goR CX 0 (fun _ => some xRF3)) := by intro N lk M; kernel_rfl
theorem soundF3 : ∀ N, RecOkF3 (F3 N)
  | 0, lk, M, o, h => by cases h
  | N + 1, lk, M, o, h => fn_sound hX (okT3ur1 N R3) Try.func3 hb3 rfl en3 (by kernel_rfl) (ys := fun _ => some xRF3) (fun st y h => by injection h with h; subst h; exact fun lk M => ⟨rfl, rfl⟩) ((fsF3 N lk M).symm.trans h)
end Go.Proofs.Ytnfmdenclkdmbaa

namespace Go.Proofs.Ytnfmdenclkdmbaa
open Go Go.Eng
set_option maxRecDepth 100000

/-! ### F4: ceiling/ceilinglaw01.NumWrap -/
inductive R4 where
  | r (x0 : Bool)
abbrev TF4 := Int → Int → Int → Option R4
def sgF4 : LSh := ⟨[(0, .one (.cell (.int .u8))), (1, .one (.cell (.int .i64))), (2, .one (.cell (.int .i64)))], []⟩
def FFF4 (Fx : TF4) (s : St) : Option R4 := Fx ((Eng.look s.env 0).toI) ((Eng.look s.env 1).toI) ((Eng.look s.env 2).toI)
def valF4 (o : R4) : AV := match o with | .r x0 => .bool x0
def memF4 (o : R4) : List Blk := match o with | .r x0 => []
def elF4 {R : Type} (o : R4) (k : AV → List Blk → Option R) : Option R := match o with | .r x0 => k (.bool x0) []
def RecOkF4 (Fx : TF4) : Prop := ∀ lk M o, FFF4 Fx (canS sgF4 lk M) = some o → FCalls CX 4 0 (argsE 3 (canS sgF4 lk M).env) (canS sgF4 lk M).mem (valF4 o) (memF4 o)
noncomputable def csF4 (N : Nat) (R : Type) : List (CE R) := [ce16n0 (F16 N) R (fun _ _ => true), ce17n0 (F17 N) R (fun _ _ => true), ce18n0 (F18 N) R (fun _ _ => true)]
theorem hcsF4 (N : Nat) (R : Type) : AllE (CeOk CX) (csF4 N R) := ⟨okce16n0 (F16 N) (soundF16 N) R (fun _ _ => true), okce17n0 (F17 N) (soundF17 N) R (fun _ _ => true), okce18n0 (F18 N) (soundF18 N) R (fun _ _ => true), trivial⟩
noncomputable def T4ur1 (N : Nat) (R : Type) : LTab R := mkTab ⟨36, 68719476735⟩ (csF4 N R) (noY) [] [] []
theorem okT4ur1 (N : Nat) (R : Type) : (T4ur1 N R).Ok CX code4 := mkTab_ok (hcsF4 N R) (noY_ok) (trivial) (trivial) (trivial)
def rsF4 : List ResultVar := [.tmp 6]
def F4 : Nat → TF4
  | 0 => fun _ _ _ => none
  | N + 1 => fun x0 x1 x2 =>
    match F17 N x0 x1 x2 with
    | none => none
    | some (.r rx0v1 rx1v1) =>
      match F18 N x0 x1 x2 with
      | none => none
      | some (.r rx0v2 rx1v2) =>
        match rx0v1 == rx0v2 with
        | true =>
          match rx1v1 == rx1v2 with
          | true =>
            match F16 N  with
            | none => none
            | some (.r rx0v3) =>
              some (.r rx0v3)
          | false =>
            some (.r false)
        | false =>
          some (.r false)
def xRF4 : XSh R4 := ⟨[], ⟨[(0, .one (.cell (.bool)))], []⟩, fun _ => [], fun s => .r ((Eng.look s.env 0).toB)⟩
theorem fsF4 : ∀ (N : Nat) (lk : Nat → AV) (M : List Blk), FFF4 (F4 (N + 1)) (canS sgF4 lk M) = evfn CX (T4ur1 N R4) code4 rsF4 (argsE 3 (canS sgF4 lk M).env) (canS sgF4 lk M).mem (goR CX 0 (fun _ => some xRF4)) := by intro N lk M; kernel_rfl
theorem soundF4 : ∀ N, RecOkF4 (F4 N)
  | 0, lk, M, o, h => by cases h
  | N + 1, lk, M, o, h => fn_sound hX (okT4ur1 N R4) Try.func4 hb4 rfl en4 (by kernel_rfl) (ys := fun _ => some xRF4) (fun st y h => by injection h with h; subst h; exact fun lk M => ⟨rfl, rfl⟩) ((fsF4 N lk M).symm.trans h)
end Go.Proofs.Ytnfmdenclkdmbaa

namespace Go.Proofs.Ytnfmdenclkdmbaa
open Go Go.Eng
set_option maxRecDepth 100000

/-! ### F54: ceiling/ceilingref01.Empty -/
inductive R54 where
  | r (x0 : Bool)
abbrev TF54 := Int → Int → Option R54
def sgF54 : LSh := ⟨[(0, .agg [.cell (.int .i64), .cell (.int .i64)])], []⟩
def FFF54 (Fx : TF54) (s : St) : Option R54 := Fx (((Eng.look s.env 0).cells.getD 0 .top).toI) (((Eng.look s.env 0).cells.getD 1 .top).toI)
def valF54 (o : R54) : AV := match o with | .r x0 => .bool x0
def memF54 (o : R54) : List Blk := match o with | .r x0 => []
def elF54 {R : Type} (o : R54) (k : AV → List Blk → Option R) : Option R := match o with | .r x0 => k (.bool x0) []
def RecOkF54 (Fx : TF54) : Prop := ∀ lk M o, FFF54 Fx (canS sgF54 lk M) = some o → FCalls CX 54 0 (argsE 1 (canS sgF54 lk M).env) (canS sgF54 lk M).mem (valF54 o) (memF54 o)
noncomputable def csF54 (N : Nat) (R : Type) : List (CE R) := []
theorem hcsF54 (N : Nat) (R : Type) : AllE (CeOk CX) (csF54 N R) := trivial
noncomputable def T54ur1 (N : Nat) (R : Type) : LTab R := mkTab ⟨8, 255⟩ (csF54 N R) (noY) [] [] []
theorem okT54ur1 (N : Nat) (R : Type) : (T54ur1 N R).Ok CX code54 := mkTab_ok (hcsF54 N R) (noY_ok) (trivial) (trivial) (trivial)
def rsF54 : List ResultVar := [.tmp 2]
def F54 : Nat → TF54
  | 0 => fun _ _ => none
  | N + 1 => fun x0c0 x0c1 =>
    some (.r (decide (x0c1 < x0c0)))
def xRF54 : XSh R54 := ⟨[], ⟨[(0, .one (.cell (.bool)))], []⟩, fun _ => [], fun s => .r ((Eng.look s.env 0).toB)⟩
theorem fsF54 : ∀ (N : Nat) (lk : Nat → AV) (M : List Blk), FFF54 (F54 (N + 1)) (canS sgF54 lk M) = evfn CX (T54ur1 N R54) code54 rsF54 (argsE 1 (canS sgF54 lk M).env) (canS sgF54 lk M).mem (goR CX 0 (fun _ => some xRF54)) := by intro N lk M; kernel_rfl
theorem soundF54 : ∀ N, RecOkF54 (F54 N)
  | 0, lk, M, o, h => by cases h
  | N + 1, lk, M, o, h => fn_sound hX (okT54ur1 N R54) Try.func54 hb54 rfl en54 (by kernel_rfl) (ys := fun _ => some xRF54) (fun st y h => by injection h with h; subst h; exact fun lk M => ⟨rfl, rfl⟩) ((fsF54 N lk M).symm.trans h)
def cvce54n0 : List Cv := []
def selce54n0 : St → List Nat := fun _ => []
noncomputable def ce54n0 (Fx : TF54) (R : Type) (test : List AV → List Blk → Bool) : CE R := ⟨54, test, fun args M => some (selce54n0 ⟨argEnv 0 args, M, [], .unk⟩), fun args M k => tst (Nat.beq args.length 1) (callFn CX 0 cvce54n0 sgF54 selce54n0 (FFF54 Fx) elF54 args M k)⟩
theorem okce54n0 (Fx : TF54) (h : RecOkF54 Fx) (R : Type) (test : List AV → List Blk → Bool) : CeOk CX (ce54n0 Fx R test) := ce_ok hX (fun o k => by cases o; rfl) h en54 (fun args M ids h => by injection h with h; exact ⟨rfl, h.symm⟩)
end Go.Proofs.Ytnfmdenclkdmbaa
