/-
  The functions of the code as typed functions, and that the code runs so. Printed by gen2.py.
  The functions of the code as typed functions, and that the code runs so. Printed by gen2.py.
  The functions of the code as typed functions, and that the code runs so. Printed by gen2.py.
  Plain laws of chapter 12: the document's examples.
  Plain laws of chapter 12: levels and masters of regions, in both texts.
  Plain laws of chapter 12: masters of regions.
  Plain laws of chapter 12: tables that may be. Printed by mkSD.py.
  Plain laws of chapter 12: LevelAdds. Printed by mkSH.py.
  What is proved: ceilinglaw12.LevelAdds returns true for every input, and leaves its arguments as they were. The table ceiling/level.adds stands as the program's text lays it (the card ties it).
-/
import Derived.Test.YtdennlgnbecojaaDoorAd3
import Derived.Test.YtdennlgnbecojaaDoorAd4
import Derived.KernelRfl
import Derived.Test.YtdennlgnbecojaaDoorRows
import Derived.Test.YtdennlgnbecojaaDoorTie
import Derived.Test.YtdennlgnbecojaaDoorCards
import Derived.WalkKit
import Derived.ProofKit
import Derived.OpenShut
import Derived.LaidMore
import Derived.Stop.Joined
import Derived.SevenTiedAt
import Derived.MakeChecks
import Derived.Lib.LaidTab
set_option linter.all false
set_option linter.deprecated false
namespace Go.Proofs.YtdennlgnbecojaaDoor
open Go Go.Eng
set_option maxRecDepth 100000

/-! ### F10v2: ceiling/level.Region -/
inductive R10v2 where
  | r (x0 : Int) (b0 : List Row)
abbrev TF10v2 := List Row → List Row → List Row → List Row → Int → List Row → Option R10v2
def sgF10v2 : LSh := ⟨[(0, .agg [.cell (.slice 58), .cell (.slice 74), .own 0, .cell (.slice 113), .cell (.slice 117)]), (1, .one (.cell (.int .i64)))], [.row 45]⟩
def FFF10v2 (Fx : TF10v2) (s : St) : Option R10v2 := Fx (((Eng.look s.env 0).cells.getD 0 .top).rows) (((Eng.look s.env 0).cells.getD 1 .top).rows) (((Eng.look s.env 0).cells.getD 3 .top).rows) (((Eng.look s.env 0).cells.getD 4 .top).rows) ((Eng.look s.env 1).toI) ((s.mem.getD 0 .dead).rows)
def valF10v2 (o : R10v2) : AV := match o with | .r x0 b0 => .int .i64 x0
def memF10v2 (o : R10v2) : List Blk := match o with | .r x0 b0 => [.row 45 b0]
def elF10v2 {R : Type} (o : R10v2) (k : AV → List Blk → Option R) : Option R := match o with | .r x0 b0 => k (.int .i64 x0) [.row 45 b0]
def RecOkF10v2 (Fx : TF10v2) : Prop := ∀ lk M o, FFF10v2 Fx (canS sgF10v2 lk M) = some o → FCalls CX 10 1 (argsE 2 (canS sgF10v2 lk M).env) (canS sgF10v2 lk M).mem (valF10v2 o) (memF10v2 o)
noncomputable def csF10v2 (N : Nat) (R : Type) : List (CE R) := [ce23v2n0 (F23v2 N) R (fun _ _ => true)]
theorem hcsF10v2 (N : Nat) (R : Type) : AllE (CeOk CX) (csF10v2 N R) := ⟨okce23v2n0 (F23v2 N) (soundF23v2 N) R (fun _ _ => true), trivial⟩
noncomputable def T10v2us58 (N : Nat) (R : Type) : LTab R := mkTab ⟨31, 2147483647⟩ (csF10v2 N R) (noY) [] [] []
theorem okT10v2us58 (N : Nat) (R : Type) : (T10v2us58 N R).Ok CX code10 := mkTab_ok (hcsF10v2 N R) (noY_ok) (trivial) (trivial) (trivial)
def rs10v2i58f45 : List ResultVar := []
inductive OJ10v2i58f45a24 where
  | nx (b0 : List Row)
  | x0 (b0 : List Row)
def J10v2i58f45a24 (N : Nat) : Int → Int → List Row → Option OJ10v2i58f45a24 := fun x4 x5 b0 =>
    match decide ((0 : Int) ≤ x4) with
    | true =>
      match decide (x4 < x5) with
      | true =>
        some (.nx b0)
      | false =>
        some (.x0 b0)
    | false =>
      some (.x0 b0)
def LFJ10v2i58f45a24 (N : Nat) (s : St) : Option OJ10v2i58f45a24 := J10v2i58f45a24 N ((Eng.look s.env 4).toI) ((Eng.look s.env 5).toI) ((s.mem.getD 0 .dead).rows)
def sgJ10v2i58f45a24 : LSh := ⟨[(4, .one (.cell (.int .i64))), (5, .one (.cell (.int .i64)))], [.row 45]⟩
def ceJ10v2i58f45a24 : List Cv := []
def seJ10v2i58f45a24 : St → List Nat := fun st => [0]
def xJ10v2i58f45a24wnx : XSh OJ10v2i58f45a24 := ⟨[], ⟨[], [.row 45]⟩, fun st => [0], fun s => .nx ((s.mem.getD 0 .dead).rows)⟩
def xJ10v2i58f45a24wx0 : XSh OJ10v2i58f45a24 := ⟨[], ⟨[], [.row 45]⟩, fun st => [0], fun s => .x0 ((s.mem.getD 0 .dead).rows)⟩
def xsJ10v2i58f45a24 : Ex → St → Option (XSh OJ10v2i58f45a24) := fun e st => match e with
  | .normal => some xJ10v2i58f45a24wnx
  | .exit 0 => some xJ10v2i58f45a24wx0
  | _ => none
def exJ10v2i58f45a24 (o : OJ10v2i58f45a24) : Ex := match o with | .nx b0 => .normal | .x0 b0 => (.exit 0)
def stJ10v2i58f45a24 (o : OJ10v2i58f45a24) : St := match o with | .nx b0 => ⟨[], [.row 45 b0], [], .unk⟩ | .x0 b0 => ⟨[], [.row 45 b0], [], .unk⟩
def elJ10v2i58f45a24 {R : Type} (o : OJ10v2i58f45a24) (k : Ex → St → Option R) : Option R := match o with | .nx b0 => k .normal ⟨[], [.row 45 b0], [], .unk⟩ | .x0 b0 => k (.exit 0) ⟨[], [.row 45 b0], [], .unk⟩
theorem heJ10v2i58f45a24 {R : Type} (o : OJ10v2i58f45a24) (k : Ex → St → Option R) : elJ10v2i58f45a24 o k = k (exJ10v2i58f45a24 o) (stJ10v2i58f45a24 o) := by cases o <;> rfl
theorem hxJ10v2i58f45a24 : ∀ e st x, xsJ10v2i58f45a24 e st = some x → outOk x e exJ10v2i58f45a24 stJ10v2i58f45a24 := by
  intro e st x h
  unfold xsJ10v2i58f45a24 at h
  repeat' split at h
  all_goals first
    | (injection h with h; subst h; exact fun lk M => ⟨rfl, rfl⟩)
    | cases h
noncomputable def T10v2i58f45uc24 (N : Nat) (R : Type) : LTab R := mkTab ⟨47, 260096⟩ (csF10v2 N R) (pickY [(4, fun id args M k => evyield CX (T10v2us58 N R) 4 58 id args M k)]) [] [] []
theorem okT10v2i58f45uc24 (N : Nat) (R : Type) : (T10v2i58f45uc24 N R).Ok CX code45 := mkTab_ok (hcsF10v2 N R) (pickY_ok (es := [(4, fun id args M k => evyield CX (T10v2us58 N R) 4 58 id args M k)]) ⟨fun {id args M k r} h => evyield_sound hX (okT10v2us58 N R) (g := nd4.1) (ps := nd4.2.1) ⟨[false, true, false, true, true], by rfl, by kernel_rfl⟩ h, trivial⟩) (trivial) (trivial) (trivial)
noncomputable def bdJ10v2i58f45a24 : Code := (codeAt code45 [false, false, false, true]).getD .skip
theorem hsJ10v2i58f45a24 (N : Nat) : ∀ (lk : Nat → AV) (M : List Blk), LFJ10v2i58f45a24 N (canS sgJ10v2i58f45a24 lk M) = evk CX (T10v2i58f45uc24 N OJ10v2i58f45a24) bdJ10v2i58f45a24 24 (canS sgJ10v2i58f45a24 lk M) (kontX CX 1 xsJ10v2i58f45a24) := by intro lk M; kernel_rfl
inductive OJ10v2i58f45a50 where
  | nx (b0 : List Row) (b2c0 : List Row) (b2c1 : List Row) (b2c3 : List Row) (b2c4 : List Row) (b3c0 : Int) (b4c0 : Int)
  | ret (b0 : List Row) (b2c0 : List Row) (b2c1 : List Row) (b2c3 : List Row) (b2c4 : List Row) (b3c0 : Int) (b4c0 : Int)
  | retw2 (b0 : List Row) (b2c0 : List Row) (b2c1 : List Row) (b2c3 : List Row) (b2c4 : List Row) (b3c0 : Int) (b4c0 : Int)
def J10v2i58f45a50 (N : Nat) : Int → List Row → List Row → List Row → List Row → List Row → Int → Int → Option OJ10v2i58f45a50 := fun x4 b0 b2c0 b2c1 b2c3 b2c4 b3c0 b4c0 =>
    tst (decide ((0 : Int) ≤ x4) && decide (x4 < ((b0.length : Int)))) <|
    tst (decide (x4.toNat < b0.length)) <|
    match ((((b0.getD x4.toNat [])).getD 0 .top).toI) == (1 : Int) with
    | true =>
      some (.ret b0 b2c0 b2c1 b2c3 b2c4 b4c0 b4c0)
    | false =>
      tst (decide ((0 : Int) ≤ ((((b0.getD x4.toNat [])).getD 0 .top).toI)) && decide ((((b0.getD x4.toNat [])).getD 0 .top).toI < (256 : Int))) <|
      tst (decide (((0 + ((((((b0.getD x4.toNat [])).getD 0 .top).toI).toNat) * 1)) + 1) ≤ 256)) <|
      match ((gl0.getD (0 + ((((((b0.getD x4.toNat [])).getD 0 .top).toI).toNat) * 1)) .top).toI) == (0 : Int) with
      | true =>
        some (.ret b0 b2c0 b2c1 b2c3 b2c4 ((-1)) b4c0)
      | false =>
        tst (decide ((0 : Int) ≤ ((((b0.getD x4.toNat [])).getD 0 .top).toI)) && decide ((((b0.getD x4.toNat [])).getD 0 .top).toI < (256 : Int))) <|
        tst (decide (((0 + ((((((b0.getD x4.toNat [])).getD 0 .top).toI).toNat) * 1)) + 1) ≤ 256)) <|
        match ((((b0.getD x4.toNat [])).getD 0 .top).toI) == (1 : Int) with
        | true =>
          some (.retw2 b0 b2c0 b2c1 b2c3 b2c4 b3c0 (IntKind.wrap .i64 (b4c0 + (IntKind.wrap .i64 (((gl0.getD (0 + ((((((b0.getD x4.toNat [])).getD 0 .top).toI).toNat) * 1)) .top).toI) - (1 : Int))))))
        | false =>
          tst (decide ((0 : Int) ≤ ((((b0.getD x4.toNat [])).getD 0 .top).toI)) && decide ((((b0.getD x4.toNat [])).getD 0 .top).toI < (256 : Int))) <|
          tst (decide (((0 + ((((((b0.getD x4.toNat [])).getD 0 .top).toI).toNat) * 1)) + 1) ≤ 256)) <|
          match ((gl0.getD (0 + ((((((b0.getD x4.toNat [])).getD 0 .top).toI).toNat) * 1)) .top).toI) == (0 : Int) with
          | true =>
            some (.retw2 b0 b2c0 b2c1 b2c3 b2c4 b3c0 (IntKind.wrap .i64 (b4c0 + (IntKind.wrap .i64 (((gl0.getD (0 + ((((((b0.getD x4.toNat [])).getD 0 .top).toI).toNat) * 1)) .top).toI) - (1 : Int))))))
          | false =>
            some (.nx b0 b2c0 b2c1 b2c3 b2c4 b3c0 (IntKind.wrap .i64 (b4c0 + (IntKind.wrap .i64 (((gl0.getD (0 + ((((((b0.getD x4.toNat [])).getD 0 .top).toI).toNat) * 1)) .top).toI) - (1 : Int))))))
def LFJ10v2i58f45a50 (N : Nat) (s : St) : Option OJ10v2i58f45a50 := J10v2i58f45a50 N ((Eng.look s.env 4).toI) ((s.mem.getD 0 .dead).rows) (((s.mem.getD 2 .dead).cells.getD 0 .top).rows) (((s.mem.getD 2 .dead).cells.getD 1 .top).rows) (((s.mem.getD 2 .dead).cells.getD 3 .top).rows) (((s.mem.getD 2 .dead).cells.getD 4 .top).rows) (((s.mem.getD 3 .dead).cells.getD 0 .top).toI) (((s.mem.getD 4 .dead).cells.getD 0 .top).toI)
def sgJ10v2i58f45a50 : LSh := ⟨[(0, .one (.yld 1)), (2, .one (.ptr 2 0 0)), (4, .one (.cell (.int .i64)))], [.row 45, .loop 4 [(4, .one (.ptr 3 0 0)), (5, .one (.ptr 4 0 0))] none, .var [.any, .any, .any, .any, .any] [.cell (.slice 58), .cell (.slice 74), .own 0, .cell (.slice 113), .cell (.slice 117)], .var [.int .i64] [.cell (.int .i64)], .var [.int .i64] [.cell (.int .i64)]]⟩
def ceJ10v2i58f45a50 : List Cv := []
def seJ10v2i58f45a50 : St → List Nat := fun st => [0, (Eng.look st.env 0).id, (Eng.look st.env 2).id, ((st.mem.getD ((Eng.look st.env 0).id) .dead).lenv.getD 0 (0, .top)).2.id, ((st.mem.getD ((Eng.look st.env 0).id) .dead).lenv.getD 1 (0, .top)).2.id]
def xJ10v2i58f45a50wnx : XSh OJ10v2i58f45a50 := ⟨[], ⟨[], [.row 45, .loop 4 [(4, .one (.ptr 3 0 0)), (5, .one (.ptr 4 0 0))] none, .var [.any, .any, .any, .any, .any] [.cell (.slice 58), .cell (.slice 74), .own 0, .cell (.slice 113), .cell (.slice 117)], .var [.int .i64] [.cell (.int .i64)], .var [.int .i64] [.cell (.int .i64)]]⟩, fun st => [0, 1, 2, 3, 4], fun s => .nx ((s.mem.getD 0 .dead).rows) (((s.mem.getD 2 .dead).cells.getD 0 .top).rows) (((s.mem.getD 2 .dead).cells.getD 1 .top).rows) (((s.mem.getD 2 .dead).cells.getD 3 .top).rows) (((s.mem.getD 2 .dead).cells.getD 4 .top).rows) (((s.mem.getD 3 .dead).cells.getD 0 .top).toI) (((s.mem.getD 4 .dead).cells.getD 0 .top).toI)⟩
def xJ10v2i58f45a50wret : XSh OJ10v2i58f45a50 := ⟨[], ⟨[], [.row 45, .loop 4 [(4, .one (.ptr 3 0 0)), (5, .one (.ptr 4 0 0))] (some .ret), .var [.any, .any, .any, .any, .any] [.cell (.slice 58), .cell (.slice 74), .own 0, .cell (.slice 113), .cell (.slice 117)], .var [.int .i64] [.cell (.int .i64)], .var [.int .i64] [.cell (.int .i64)]]⟩, fun st => [0, 1, 2, 3, 4], fun s => .ret ((s.mem.getD 0 .dead).rows) (((s.mem.getD 2 .dead).cells.getD 0 .top).rows) (((s.mem.getD 2 .dead).cells.getD 1 .top).rows) (((s.mem.getD 2 .dead).cells.getD 3 .top).rows) (((s.mem.getD 2 .dead).cells.getD 4 .top).rows) (((s.mem.getD 3 .dead).cells.getD 0 .top).toI) (((s.mem.getD 4 .dead).cells.getD 0 .top).toI)⟩
def xJ10v2i58f45a50wretw2 : XSh OJ10v2i58f45a50 := ⟨[], ⟨[], [.row 45, .loop 4 [(4, .one (.ptr 3 0 0)), (5, .one (.ptr 4 0 0))] none, .var [.any, .any, .any, .any, .any] [.cell (.slice 58), .cell (.slice 74), .own 0, .cell (.slice 113), .cell (.slice 117)], .var [.int .i64] [.cell (.int .i64)], .var [.int .i64] [.cell (.int .i64)]]⟩, fun st => [0, 1, 2, 3, 4], fun s => .retw2 ((s.mem.getD 0 .dead).rows) (((s.mem.getD 2 .dead).cells.getD 0 .top).rows) (((s.mem.getD 2 .dead).cells.getD 1 .top).rows) (((s.mem.getD 2 .dead).cells.getD 3 .top).rows) (((s.mem.getD 2 .dead).cells.getD 4 .top).rows) (((s.mem.getD 3 .dead).cells.getD 0 .top).toI) (((s.mem.getD 4 .dead).cells.getD 0 .top).toI)⟩
def xsJ10v2i58f45a50 : Ex → St → Option (XSh OJ10v2i58f45a50) := fun e st => match e with
  | .normal => some xJ10v2i58f45a50wnx
  | .ret => (match (okX ((st.mem.getD 1 .dead).pend) (some .ret)) with | true => some xJ10v2i58f45a50wret | false => some xJ10v2i58f45a50wretw2)
  | _ => none
def exJ10v2i58f45a50 (o : OJ10v2i58f45a50) : Ex := match o with | .nx b0 b2c0 b2c1 b2c3 b2c4 b3c0 b4c0 => .normal | .ret b0 b2c0 b2c1 b2c3 b2c4 b3c0 b4c0 => .ret | .retw2 b0 b2c0 b2c1 b2c3 b2c4 b3c0 b4c0 => .ret
def stJ10v2i58f45a50 (o : OJ10v2i58f45a50) : St := match o with | .nx b0 b2c0 b2c1 b2c3 b2c4 b3c0 b4c0 => ⟨[], [.row 45 b0, .loop 4 [(4, .ptr 3 0 0), (5, .ptr 4 0 0)] false none, .var [.any, .any, .any, .any, .any] [.list 58 b2c0, .list 74 b2c1, .own 0, .list 113 b2c3, .list 117 b2c4], .var [.int .i64] [.int .i64 b3c0], .var [.int .i64] [.int .i64 b4c0]], [], .unk⟩ | .ret b0 b2c0 b2c1 b2c3 b2c4 b3c0 b4c0 => ⟨[], [.row 45 b0, .loop 4 [(4, .ptr 3 0 0), (5, .ptr 4 0 0)] false (some .ret), .var [.any, .any, .any, .any, .any] [.list 58 b2c0, .list 74 b2c1, .own 0, .list 113 b2c3, .list 117 b2c4], .var [.int .i64] [.int .i64 b3c0], .var [.int .i64] [.int .i64 b4c0]], [], .unk⟩ | .retw2 b0 b2c0 b2c1 b2c3 b2c4 b3c0 b4c0 => ⟨[], [.row 45 b0, .loop 4 [(4, .ptr 3 0 0), (5, .ptr 4 0 0)] false none, .var [.any, .any, .any, .any, .any] [.list 58 b2c0, .list 74 b2c1, .own 0, .list 113 b2c3, .list 117 b2c4], .var [.int .i64] [.int .i64 b3c0], .var [.int .i64] [.int .i64 b4c0]], [], .unk⟩
def elJ10v2i58f45a50 {R : Type} (o : OJ10v2i58f45a50) (k : Ex → St → Option R) : Option R := match o with | .nx b0 b2c0 b2c1 b2c3 b2c4 b3c0 b4c0 => k .normal ⟨[], [.row 45 b0, .loop 4 [(4, .ptr 3 0 0), (5, .ptr 4 0 0)] false none, .var [.any, .any, .any, .any, .any] [.list 58 b2c0, .list 74 b2c1, .own 0, .list 113 b2c3, .list 117 b2c4], .var [.int .i64] [.int .i64 b3c0], .var [.int .i64] [.int .i64 b4c0]], [], .unk⟩ | .ret b0 b2c0 b2c1 b2c3 b2c4 b3c0 b4c0 => k .ret ⟨[], [.row 45 b0, .loop 4 [(4, .ptr 3 0 0), (5, .ptr 4 0 0)] false (some .ret), .var [.any, .any, .any, .any, .any] [.list 58 b2c0, .list 74 b2c1, .own 0, .list 113 b2c3, .list 117 b2c4], .var [.int .i64] [.int .i64 b3c0], .var [.int .i64] [.int .i64 b4c0]], [], .unk⟩ | .retw2 b0 b2c0 b2c1 b2c3 b2c4 b3c0 b4c0 => k .ret ⟨[], [.row 45 b0, .loop 4 [(4, .ptr 3 0 0), (5, .ptr 4 0 0)] false none, .var [.any, .any, .any, .any, .any] [.list 58 b2c0, .list 74 b2c1, .own 0, .list 113 b2c3, .list 117 b2c4], .var [.int .i64] [.int .i64 b3c0], .var [.int .i64] [.int .i64 b4c0]], [], .unk⟩
theorem heJ10v2i58f45a50 {R : Type} (o : OJ10v2i58f45a50) (k : Ex → St → Option R) : elJ10v2i58f45a50 o k = k (exJ10v2i58f45a50 o) (stJ10v2i58f45a50 o) := by cases o <;> rfl
theorem hxJ10v2i58f45a50 : ∀ e st x, xsJ10v2i58f45a50 e st = some x → outOk x e exJ10v2i58f45a50 stJ10v2i58f45a50 := by
  intro e st x h
  unfold xsJ10v2i58f45a50 at h
  repeat' split at h
  all_goals first
    | (injection h with h; subst h; exact fun lk M => ⟨rfl, rfl⟩)
    | cases h
noncomputable def T10v2i58f45uc50 (N : Nat) (R : Type) : LTab R := mkTab ⟨47, 140737454800960⟩ (csF10v2 N R) (pickY [(4, fun id args M k => evyield CX (T10v2us58 N R) 4 58 id args M k)]) [] [] []
theorem okT10v2i58f45uc50 (N : Nat) (R : Type) : (T10v2i58f45uc50 N R).Ok CX code45 := mkTab_ok (hcsF10v2 N R) (pickY_ok (es := [(4, fun id args M k => evyield CX (T10v2us58 N R) 4 58 id args M k)]) ⟨fun {id args M k r} h => evyield_sound hX (okT10v2us58 N R) (g := nd4.1) (ps := nd4.2.1) ⟨[false, true, false, true, true], by rfl, by kernel_rfl⟩ h, trivial⟩) (trivial) (trivial) (trivial)
noncomputable def bdJ10v2i58f45a50 : Code := (codeAt code45 [false, true, false, false, true]).getD .skip
theorem hsJ10v2i58f45a50 (N : Nat) : ∀ (lk : Nat → AV) (M : List Blk), LFJ10v2i58f45a50 N (canS sgJ10v2i58f45a50 lk M) = evk CX (T10v2i58f45uc50 N OJ10v2i58f45a50) bdJ10v2i58f45a50 50 (canS sgJ10v2i58f45a50 lk M) (kontX CX 5 xsJ10v2i58f45a50) := by intro lk M; kernel_rfl
inductive OL10v2i58f45a6 where
  | ret (b0 : List Row) (b2c0 : List Row) (b2c1 : List Row) (b2c3 : List Row) (b2c4 : List Row) (b3c0 : Int) (b4c0 : Int)
  | retw2 (b0 : List Row) (b2c0 : List Row) (b2c1 : List Row) (b2c3 : List Row) (b2c4 : List Row) (b3c0 : Int) (b4c0 : Int)
  | x0 (b0 : List Row) (b2c0 : List Row) (b2c1 : List Row) (b2c3 : List Row) (b2c4 : List Row) (b3c0 : Int) (b4c0 : Int)
def L10v2i58f45a6 (N : Nat) : Nat → Int → Int → List Row → List Row → List Row → List Row → List Row → Int → Int → Option OL10v2i58f45a6
  | 0 => fun _ _ _ _ _ _ _ _ _ => none
  | n + 1 => fun x4 x5 b0 b2c0 b2c1 b2c3 b2c4 b3c0 b4c0 =>
    match J10v2i58f45a24 N x4 x5 b0 with
    | none => none
    | some (.nx b0v2) =>
      match J10v2i58f45a50 N x4 b0v2 b2c0 b2c1 b2c3 b2c4 b3c0 b4c0 with
      | none => none
      | some (.nx b0v3 b2c0v3 b2c1v3 b2c3v3 b2c4v3 b3c0v3 b4c0v3) =>
        tst (decide ((0 : Int) ≤ x4) && decide (x4 < ((b0v3.length : Int)))) <|
        tst (decide (x4.toNat < b0v3.length)) <|
        L10v2i58f45a6 N n ((((b0v3.getD x4.toNat [])).getD 2 .top).toI) x4 b0v3 b2c0v3 b2c1v3 b2c3v3 b2c4v3 b3c0v3 b4c0v3
      | some (.ret b0v4 b2c0v4 b2c1v4 b2c3v4 b2c4v4 b3c0v4 b4c0v4) =>
        some (.ret b0v4 b2c0v4 b2c1v4 b2c3v4 b2c4v4 b3c0v4 b4c0v4)
      | some (.retw2 b0v5 b2c0v5 b2c1v5 b2c3v5 b2c4v5 b3c0v5 b4c0v5) =>
        some (.retw2 b0v5 b2c0v5 b2c1v5 b2c3v5 b2c4v5 b3c0v5 b4c0v5)
    | some (.x0 b0v6) =>
      some (.x0 b0v6 b2c0 b2c1 b2c3 b2c4 b3c0 b4c0)
def LFL10v2i58f45a6 (N : Nat) (n : Nat) (s : St) : Option OL10v2i58f45a6 := L10v2i58f45a6 N n ((Eng.look s.env 4).toI) ((Eng.look s.env 5).toI) ((s.mem.getD 0 .dead).rows) (((s.mem.getD 2 .dead).cells.getD 0 .top).rows) (((s.mem.getD 2 .dead).cells.getD 1 .top).rows) (((s.mem.getD 2 .dead).cells.getD 3 .top).rows) (((s.mem.getD 2 .dead).cells.getD 4 .top).rows) (((s.mem.getD 3 .dead).cells.getD 0 .top).toI) (((s.mem.getD 4 .dead).cells.getD 0 .top).toI)
def sgL10v2i58f45a6 : LSh := ⟨[(0, .one (.yld 1)), (2, .one (.ptr 2 0 0)), (4, .one (.cell (.int .i64))), (5, .one (.cell (.int .i64)))], [.row 45, .loop 4 [(4, .one (.ptr 3 0 0)), (5, .one (.ptr 4 0 0))] none, .var [.any, .any, .any, .any, .any] [.cell (.slice 58), .cell (.slice 74), .own 0, .cell (.slice 113), .cell (.slice 117)], .var [.int .i64] [.cell (.int .i64)], .var [.int .i64] [.cell (.int .i64)]]⟩
def ceL10v2i58f45a6 : List Cv := []
def seL10v2i58f45a6 : St → List Nat := fun st => [0, (Eng.look st.env 0).id, (Eng.look st.env 2).id, ((st.mem.getD ((Eng.look st.env 0).id) .dead).lenv.getD 0 (0, .top)).2.id, ((st.mem.getD ((Eng.look st.env 0).id) .dead).lenv.getD 1 (0, .top)).2.id]
def xL10v2i58f45a6wret : XSh OL10v2i58f45a6 := ⟨[], ⟨[], [.row 45, .loop 4 [(4, .one (.ptr 3 0 0)), (5, .one (.ptr 4 0 0))] (some .ret), .var [.any, .any, .any, .any, .any] [.cell (.slice 58), .cell (.slice 74), .own 0, .cell (.slice 113), .cell (.slice 117)], .var [.int .i64] [.cell (.int .i64)], .var [.int .i64] [.cell (.int .i64)]]⟩, fun st => [0, 1, 2, 3, 4], fun s => .ret ((s.mem.getD 0 .dead).rows) (((s.mem.getD 2 .dead).cells.getD 0 .top).rows) (((s.mem.getD 2 .dead).cells.getD 1 .top).rows) (((s.mem.getD 2 .dead).cells.getD 3 .top).rows) (((s.mem.getD 2 .dead).cells.getD 4 .top).rows) (((s.mem.getD 3 .dead).cells.getD 0 .top).toI) (((s.mem.getD 4 .dead).cells.getD 0 .top).toI)⟩
def xL10v2i58f45a6wretw2 : XSh OL10v2i58f45a6 := ⟨[], ⟨[], [.row 45, .loop 4 [(4, .one (.ptr 3 0 0)), (5, .one (.ptr 4 0 0))] none, .var [.any, .any, .any, .any, .any] [.cell (.slice 58), .cell (.slice 74), .own 0, .cell (.slice 113), .cell (.slice 117)], .var [.int .i64] [.cell (.int .i64)], .var [.int .i64] [.cell (.int .i64)]]⟩, fun st => [0, 1, 2, 3, 4], fun s => .retw2 ((s.mem.getD 0 .dead).rows) (((s.mem.getD 2 .dead).cells.getD 0 .top).rows) (((s.mem.getD 2 .dead).cells.getD 1 .top).rows) (((s.mem.getD 2 .dead).cells.getD 3 .top).rows) (((s.mem.getD 2 .dead).cells.getD 4 .top).rows) (((s.mem.getD 3 .dead).cells.getD 0 .top).toI) (((s.mem.getD 4 .dead).cells.getD 0 .top).toI)⟩
def xL10v2i58f45a6wx0 : XSh OL10v2i58f45a6 := ⟨[], ⟨[], [.row 45, .loop 4 [(4, .one (.ptr 3 0 0)), (5, .one (.ptr 4 0 0))] none, .var [.any, .any, .any, .any, .any] [.cell (.slice 58), .cell (.slice 74), .own 0, .cell (.slice 113), .cell (.slice 117)], .var [.int .i64] [.cell (.int .i64)], .var [.int .i64] [.cell (.int .i64)]]⟩, fun st => [0, 1, 2, 3, 4], fun s => .x0 ((s.mem.getD 0 .dead).rows) (((s.mem.getD 2 .dead).cells.getD 0 .top).rows) (((s.mem.getD 2 .dead).cells.getD 1 .top).rows) (((s.mem.getD 2 .dead).cells.getD 3 .top).rows) (((s.mem.getD 2 .dead).cells.getD 4 .top).rows) (((s.mem.getD 3 .dead).cells.getD 0 .top).toI) (((s.mem.getD 4 .dead).cells.getD 0 .top).toI)⟩
def xsL10v2i58f45a6 : Ex → St → Option (XSh OL10v2i58f45a6) := fun e st => match e with
  | .ret => (match (okX ((st.mem.getD 1 .dead).pend) (some .ret)) with | true => some xL10v2i58f45a6wret | false => some xL10v2i58f45a6wretw2)
  | .exit 0 => some xL10v2i58f45a6wx0
  | _ => none
def exL10v2i58f45a6 (o : OL10v2i58f45a6) : Ex := match o with | .ret b0 b2c0 b2c1 b2c3 b2c4 b3c0 b4c0 => .ret | .retw2 b0 b2c0 b2c1 b2c3 b2c4 b3c0 b4c0 => .ret | .x0 b0 b2c0 b2c1 b2c3 b2c4 b3c0 b4c0 => (.exit 0)
def stL10v2i58f45a6 (o : OL10v2i58f45a6) : St := match o with | .ret b0 b2c0 b2c1 b2c3 b2c4 b3c0 b4c0 => ⟨[], [.row 45 b0, .loop 4 [(4, .ptr 3 0 0), (5, .ptr 4 0 0)] false (some .ret), .var [.any, .any, .any, .any, .any] [.list 58 b2c0, .list 74 b2c1, .own 0, .list 113 b2c3, .list 117 b2c4], .var [.int .i64] [.int .i64 b3c0], .var [.int .i64] [.int .i64 b4c0]], [], .unk⟩ | .retw2 b0 b2c0 b2c1 b2c3 b2c4 b3c0 b4c0 => ⟨[], [.row 45 b0, .loop 4 [(4, .ptr 3 0 0), (5, .ptr 4 0 0)] false none, .var [.any, .any, .any, .any, .any] [.list 58 b2c0, .list 74 b2c1, .own 0, .list 113 b2c3, .list 117 b2c4], .var [.int .i64] [.int .i64 b3c0], .var [.int .i64] [.int .i64 b4c0]], [], .unk⟩ | .x0 b0 b2c0 b2c1 b2c3 b2c4 b3c0 b4c0 => ⟨[], [.row 45 b0, .loop 4 [(4, .ptr 3 0 0), (5, .ptr 4 0 0)] false none, .var [.any, .any, .any, .any, .any] [.list 58 b2c0, .list 74 b2c1, .own 0, .list 113 b2c3, .list 117 b2c4], .var [.int .i64] [.int .i64 b3c0], .var [.int .i64] [.int .i64 b4c0]], [], .unk⟩
def elL10v2i58f45a6 {R : Type} (o : OL10v2i58f45a6) (k : Ex → St → Option R) : Option R := match o with | .ret b0 b2c0 b2c1 b2c3 b2c4 b3c0 b4c0 => k .ret ⟨[], [.row 45 b0, .loop 4 [(4, .ptr 3 0 0), (5, .ptr 4 0 0)] false (some .ret), .var [.any, .any, .any, .any, .any] [.list 58 b2c0, .list 74 b2c1, .own 0, .list 113 b2c3, .list 117 b2c4], .var [.int .i64] [.int .i64 b3c0], .var [.int .i64] [.int .i64 b4c0]], [], .unk⟩ | .retw2 b0 b2c0 b2c1 b2c3 b2c4 b3c0 b4c0 => k .ret ⟨[], [.row 45 b0, .loop 4 [(4, .ptr 3 0 0), (5, .ptr 4 0 0)] false none, .var [.any, .any, .any, .any, .any] [.list 58 b2c0, .list 74 b2c1, .own 0, .list 113 b2c3, .list 117 b2c4], .var [.int .i64] [.int .i64 b3c0], .var [.int .i64] [.int .i64 b4c0]], [], .unk⟩ | .x0 b0 b2c0 b2c1 b2c3 b2c4 b3c0 b4c0 => k (.exit 0) ⟨[], [.row 45 b0, .loop 4 [(4, .ptr 3 0 0), (5, .ptr 4 0 0)] false none, .var [.any, .any, .any, .any, .any] [.list 58 b2c0, .list 74 b2c1, .own 0, .list 113 b2c3, .list 117 b2c4], .var [.int .i64] [.int .i64 b3c0], .var [.int .i64] [.int .i64 b4c0]], [], .unk⟩
theorem heL10v2i58f45a6 {R : Type} (o : OL10v2i58f45a6) (k : Ex → St → Option R) : elL10v2i58f45a6 o k = k (exL10v2i58f45a6 o) (stL10v2i58f45a6 o) := by cases o <;> rfl
theorem hxL10v2i58f45a6 : ∀ e st x, xsL10v2i58f45a6 e st = some x → outOk x e exL10v2i58f45a6 stL10v2i58f45a6 := by
  intro e st x h
  unfold xsL10v2i58f45a6 at h
  repeat' split at h
  all_goals first
    | (injection h with h; subst h; exact fun lk M => ⟨rfl, rfl⟩)
    | cases h
noncomputable def T10v2i58f45ul6 (N : Nat) (R : Type) : LTab R := mkTab ⟨47, 140737488353392⟩ (csF10v2 N R) (pickY [(4, fun id args M k => evyield CX (T10v2us58 N R) 4 58 id args M k)]) [] [] [(24, fun st k => callLoop CX 1 260096 ceJ10v2i58f45a24 sgJ10v2i58f45a24 seJ10v2i58f45a24 ⟨47, 140737488353392⟩ (LFJ10v2i58f45a24 N) elJ10v2i58f45a24 st k), (50, fun st k => callLoop CX 5 140737454800960 ceJ10v2i58f45a50 sgJ10v2i58f45a50 seJ10v2i58f45a50 ⟨47, 140737488353392⟩ (LFJ10v2i58f45a50 N) elJ10v2i58f45a50 st k)]
theorem okT10v2i58f45ul6 (N : Nat) (R : Type) : (T10v2i58f45ul6 N R).Ok CX code45 := mkTab_ok (hcsF10v2 N R) (pickY_ok (es := [(4, fun id args M k => evyield CX (T10v2us58 N R) 4 58 id args M k)]) ⟨fun {id args M k r} h => evyield_sound hX (okT10v2us58 N R) (g := nd4.1) (ps := nd4.2.1) ⟨[false, true, false, true, true], by rfl, by kernel_rfl⟩ h, trivial⟩) (trivial) (trivial) (⟨cut_ok hX (path := [false, false, false, true]) (by kernel_rfl) (by rfl) (okT10v2i58f45uc24 N OJ10v2i58f45a24) (hsJ10v2i58f45a24 N) hxJ10v2i58f45a24 rfl heJ10v2i58f45a24, cut_ok hX (path := [false, true, false, false, true]) (by kernel_rfl) (by rfl) (okT10v2i58f45uc50 N OJ10v2i58f45a50) (hsJ10v2i58f45a50 N) hxJ10v2i58f45a50 rfl heJ10v2i58f45a50, trivial⟩)
noncomputable def bdL10v2i58f45a6 : Code := match codeAt code45 [false, true] with | some (.loop c) => c | _ => .skip
theorem hsL10v2i58f45a6 (N : Nat) : ∀ (n : Nat) (lk : Nat → AV) (M : List Blk), LFL10v2i58f45a6 N (n + 1) (canS sgL10v2i58f45a6 lk M) = evk CX (T10v2i58f45ul6 N OL10v2i58f45a6) bdL10v2i58f45a6 (2 * 6) (canS sgL10v2i58f45a6 lk M) (kont CX 5 [] sgL10v2i58f45a6 (fun st => [0, 1, 2, 3, 4]) xsL10v2i58f45a6 (LFL10v2i58f45a6 N n)) := by intro n lk M; kernel_rfl
noncomputable def T10v2i58f45ur1 (N : Nat) (R : Type) : LTab R := mkTab ⟨47, 140737488355327⟩ (csF10v2 N R) (pickY [(4, fun id args M k => evyield CX (T10v2us58 N R) 4 58 id args M k)]) [(6, fun st k => callLoop CX 5 140737488353392 ceL10v2i58f45a6 sgL10v2i58f45a6 seL10v2i58f45a6 ⟨47, 140737488355327⟩ (LFL10v2i58f45a6 N N) elL10v2i58f45a6 st k)] [] []
theorem okT10v2i58f45ur1 (N : Nat) (R : Type) : (T10v2i58f45ur1 N R).Ok CX code45 := mkTab_ok (hcsF10v2 N R) (pickY_ok (es := [(4, fun id args M k => evyield CX (T10v2us58 N R) 4 58 id args M k)]) ⟨fun {id args M k r} h => evyield_sound hX (okT10v2us58 N R) (g := nd4.1) (ps := nd4.2.1) ⟨[false, true, false, true, true], by rfl, by kernel_rfl⟩ h, trivial⟩) (⟨loop_ok hX (path := [false, true]) (by kernel_rfl) (by rfl) (okT10v2i58f45ul6 N OL10v2i58f45a6) (fun _ _ => rfl) (hsL10v2i58f45a6 N) hxL10v2i58f45a6 rfl heL10v2i58f45a6, trivial⟩) (trivial) (trivial)
noncomputable def T10v2ur1 (N : Nat) (R : Type) : LTab R := mkTab ⟨31, 2147483647⟩ (csF10v2 N R) (noY) [] [(58, fun st k => evrange CX (oneTab ⟨31, 2147483647⟩ (inl 45 (fun args M k => evfn CX (T10v2i58f45ur1 N R) code45 rs10v2i58f45 args M k))) 4 [4, 5] (.tmp 10) st k)] []
theorem okT10v2ur1 (N : Nat) (R : Type) : (T10v2ur1 N R).Ok CX code10 := mkTab_ok (hcsF10v2 N R) (noY_ok) (trivial) (⟨range_ok hX (path := [false, true, false, true, true]) (ps0 := nd4.2.1) (a0 := nd4.2.2.1) (b0 := nd4.2.2.2) (by kernel_rfl) (by rfl) (inl_ok fun {args M k r} h => evfn_sound hX (okT10v2i58f45ur1 N R) Tryd.func45 hb45 rfl en45 (by kernel_rfl) h) (by kernel_rfl), trivial⟩) (trivial)
def rsF10v2 : List ResultVar := [.cell 4 3]
def F10v2 : Nat → TF10v2
  | 0 => fun _ _ _ _ _ _ => none
  | N + 1 => fun x0c0 x0c1 x0c3 x0c4 x1 b0 =>
    match F23v2 N x0c0 x0c1 x0c3 x0c4 x1 b0 with
    | none => none
    | some (.r rb0v1 rb1c0v1 rb2c0v1 rb2c1v1 rb2c3v1 rb2c4v1) =>
      match L10v2i58f45a6 N N rb1c0v1 ((rb0v1.length : Int)) rb0v1 rb2c0v1 rb2c1v1 rb2c3v1 rb2c4v1 0 0 with
      | none => none
      | some (.ret b0v7 b2c0v7 b2c1v7 b2c3v7 b2c4v7 b3c0v7 b4c0v7) =>
        some (.r b3c0v7 b0v7)
      | some (.retw2 b0v8 b2c0v8 b2c1v8 b2c3v8 b2c4v8 b3c0v8 b4c0v8) =>
        some (.r ((-1)) b0v8)
      | some (.x0 b0v9 b2c0v9 b2c1v9 b2c3v9 b2c4v9 b3c0v9 b4c0v9) =>
        some (.r ((-1)) b0v9)
def xRF10v2 : XSh R10v2 := ⟨[], ⟨[(0, .one (.cell (.int .i64)))], [.row 45]⟩, fun st => [0], fun s => .r ((Eng.look s.env 0).toI) ((s.mem.getD 0 .dead).rows)⟩
theorem fsF10v2 : ∀ (N : Nat) (lk : Nat → AV) (M : List Blk), FFF10v2 (F10v2 (N + 1)) (canS sgF10v2 lk M) = evfn CX (T10v2ur1 N R10v2) code10 rsF10v2 (argsE 2 (canS sgF10v2 lk M).env) (canS sgF10v2 lk M).mem (goR CX 1 (fun _ => some xRF10v2)) := by intro N lk M; kernel_rfl
theorem soundF10v2 : ∀ N, RecOkF10v2 (F10v2 N)
  | 0, lk, M, o, h => by cases h
  | N + 1, lk, M, o, h => fn_sound hX (okT10v2ur1 N R10v2) Tryd.func10 hb10 rfl en10 (by kernel_rfl) (ys := fun _ => some xRF10v2) (fun st y h => by injection h with h; subst h; exact fun lk M => ⟨rfl, rfl⟩) ((fsF10v2 N lk M).symm.trans h)
def cvce10v2n0 : List Cv := []
def selce10v2n0 : St → List Nat := fun st => [((Eng.look st.env 0).cells.getD 2 .top).id]
noncomputable def ce10v2n0 (Fx : TF10v2) (R : Type) (test : List AV → List Blk → Bool) : CE R := ⟨10, test, fun args M => some (selce10v2n0 ⟨argEnv 0 args, M, [], .unk⟩), fun args M k => tst (Nat.beq args.length 2) (callFn CX 1 cvce10v2n0 sgF10v2 selce10v2n0 (FFF10v2 Fx) elF10v2 args M k)⟩
theorem okce10v2n0 (Fx : TF10v2) (h : RecOkF10v2 Fx) (R : Type) (test : List AV → List Blk → Bool) : CeOk CX (ce10v2n0 Fx R test) := ce_ok hX (fun o k => by cases o; rfl) h en10 (fun args M ids h => by injection h with h; exact ⟨rfl, h.symm⟩)
end Go.Proofs.YtdennlgnbecojaaDoor

namespace Go.Proofs.YtdennlgnbecojaaDoor
open Go Go.Eng
set_option maxRecDepth 100000

/-! ### F14v2: ceiling/level.May -/
inductive R14v2 where
  | r (x0 : Bool) (b0 : List Row)
abbrev TF14v2 := List Row → List Row → List Row → List Row → List Row → Option R14v2
def sgF14v2 : LSh := ⟨[(0, .agg [.cell (.slice 58), .cell (.slice 74), .own 0, .cell (.slice 113), .cell (.slice 117)])], [.row 45]⟩
def FFF14v2 (Fx : TF14v2) (s : St) : Option R14v2 := Fx (((Eng.look s.env 0).cells.getD 0 .top).rows) (((Eng.look s.env 0).cells.getD 1 .top).rows) (((Eng.look s.env 0).cells.getD 3 .top).rows) (((Eng.look s.env 0).cells.getD 4 .top).rows) ((s.mem.getD 0 .dead).rows)
def valF14v2 (o : R14v2) : AV := match o with | .r x0 b0 => .bool x0
def memF14v2 (o : R14v2) : List Blk := match o with | .r x0 b0 => [.row 45 b0]
def elF14v2 {R : Type} (o : R14v2) (k : AV → List Blk → Option R) : Option R := match o with | .r x0 b0 => k (.bool x0) [.row 45 b0]
def RecOkF14v2 (Fx : TF14v2) : Prop := ∀ lk M o, FFF14v2 Fx (canS sgF14v2 lk M) = some o → FCalls CX 14 1 (argsE 1 (canS sgF14v2 lk M).env) (canS sgF14v2 lk M).mem (valF14v2 o) (memF14v2 o)
noncomputable def csF14v2 (N : Nat) (R : Type) : List (CE R) := [ce10v2n0 (F10v2 N) R (fun _ _ => true)]
theorem hcsF14v2 (N : Nat) (R : Type) : AllE (CeOk CX) (csF14v2 N R) := ⟨okce10v2n0 (F10v2 N) (soundF10v2 N) R (fun _ _ => true), trivial⟩
inductive OJ14v2a6758 where
  | nx (x5 : Int) (b0 : List Row) (b1c0 : List Row) (b1c1 : List Row) (b1c3 : List Row) (b1c4 : List Row) (b2c0 : Int) (b2c1 : ByteArray) (b2c2 : Int) (b2c3 : Int) (b2c4 : Int) (b2c5 : Int) (b2c6 : List Row) (b2c7 : Int) (b2c8 : Bool) (b2c9 : Int) (b2c10 : Int) (b2c11 : Bool) (b2c12 : Bool) (b2c13 : Int) (b2c14 : Int) (b2c15 : Int) (b2c16 : Int) (b2c17 : Bool) (b2c18 : Bool) (b2c19 : Int) (b2c20 : Int) (b2c21 : Int)
def J14v2a6758 (N : Nat) : Int → Int → List Row → List Row → List Row → List Row → List Row → Int → ByteArray → Int → Int → Int → Int → List Row → Int → Bool → Int → Int → Bool → Bool → Int → Int → Int → Int → Bool → Bool → Int → Int → Int → Option OJ14v2a6758 := fun x3 x5 b0 b1c0 b1c1 b1c3 b1c4 b2c0 b2c1 b2c2 b2c3 b2c4 b2c5 b2c6 b2c7 b2c8 b2c9 b2c10 b2c11 b2c12 b2c13 b2c14 b2c15 b2c16 b2c17 b2c18 b2c19 b2c20 b2c21 =>
    match b2c0 != (1 : Int) with
    | true =>
      match decide (b2c2 < x3) with
      | true =>
        match F10v2 N b1c0 b1c1 b1c3 b1c4 b2c2 b0 with
        | none => none
        | some (.r rx0v1 rb0v1) =>
          some (.nx rx0v1 rb0v1 b1c0 b1c1 b1c3 b1c4 b2c0 b2c1 b2c2 b2c3 b2c4 b2c5 b2c6 b2c7 b2c8 b2c9 b2c10 b2c11 b2c12 b2c13 b2c14 b2c15 b2c16 b2c17 b2c18 b2c19 b2c20 b2c21)
      | false =>
        some (.nx ((-1)) b0 b1c0 b1c1 b1c3 b1c4 b2c0 b2c1 b2c2 b2c3 b2c4 b2c5 b2c6 b2c7 b2c8 b2c9 b2c10 b2c11 b2c12 b2c13 b2c14 b2c15 b2c16 b2c17 b2c18 b2c19 b2c20 b2c21)
    | false =>
      some (.nx x5 b0 b1c0 b1c1 b1c3 b1c4 b2c0 b2c1 b2c2 b2c3 b2c4 b2c5 b2c6 b2c7 b2c8 b2c9 b2c10 b2c11 b2c12 b2c13 b2c14 b2c15 b2c16 b2c17 b2c18 b2c19 b2c20 b2c21)
def LFJ14v2a6758 (N : Nat) (s : St) : Option OJ14v2a6758 := J14v2a6758 N ((Eng.look s.env 3).toI) ((Eng.look s.env 5).toI) ((s.mem.getD 0 .dead).rows) (((s.mem.getD 1 .dead).cells.getD 0 .top).rows) (((s.mem.getD 1 .dead).cells.getD 1 .top).rows) (((s.mem.getD 1 .dead).cells.getD 3 .top).rows) (((s.mem.getD 1 .dead).cells.getD 4 .top).rows) (((s.mem.getD 2 .dead).cells.getD 0 .top).toI) (((s.mem.getD 2 .dead).cells.getD 1 .top).toS) (((s.mem.getD 2 .dead).cells.getD 2 .top).toI) (((s.mem.getD 2 .dead).cells.getD 3 .top).toI) (((s.mem.getD 2 .dead).cells.getD 4 .top).toI) (((s.mem.getD 2 .dead).cells.getD 5 .top).toI) (((s.mem.getD 2 .dead).cells.getD 6 .top).rows) (((s.mem.getD 2 .dead).cells.getD 7 .top).toI) (((s.mem.getD 2 .dead).cells.getD 8 .top).toB) (((s.mem.getD 2 .dead).cells.getD 9 .top).toI) (((s.mem.getD 2 .dead).cells.getD 10 .top).toI) (((s.mem.getD 2 .dead).cells.getD 11 .top).toB) (((s.mem.getD 2 .dead).cells.getD 12 .top).toB) (((s.mem.getD 2 .dead).cells.getD 13 .top).toI) (((s.mem.getD 2 .dead).cells.getD 14 .top).toI) (((s.mem.getD 2 .dead).cells.getD 15 .top).toI) (((s.mem.getD 2 .dead).cells.getD 16 .top).toI) (((s.mem.getD 2 .dead).cells.getD 17 .top).toB) (((s.mem.getD 2 .dead).cells.getD 18 .top).toB) (((s.mem.getD 2 .dead).cells.getD 19 .top).toI) (((s.mem.getD 2 .dead).cells.getD 20 .top).toI) (((s.mem.getD 2 .dead).cells.getD 21 .top).toI)
def sgJ14v2a6758 : LSh := ⟨[(1, .one (.ptr 1 0 0)), (3, .one (.cell (.int .i64))), (4, .one (.ptr 2 0 0)), (5, .one (.cell (.int .i64)))], [.row 45, .var [.any, .any, .any, .any, .any] [.cell (.slice 58), .cell (.slice 74), .own 0, .cell (.slice 113), .cell (.slice 117)], .var [.int .u8, .str, .int .i64, .int .u8, .int .i64, .int .i64, .any, .int .i64, .bool, .int .i64, .int .i64, .bool, .bool, .int .u8, .int .i64, .int .i64, .int .i64, .bool, .bool, .int .i64, .int .i64, .int .i64] [.cell (.int .u8), .cell (.str), .cell (.int .i64), .cell (.int .u8), .cell (.int .i64), .cell (.int .i64), .cell (.slice 90), .cell (.int .i64), .cell (.bool), .cell (.int .i64), .cell (.int .i64), .cell (.bool), .cell (.bool), .cell (.int .u8), .cell (.int .i64), .cell (.int .i64), .cell (.int .i64), .cell (.bool), .cell (.bool), .cell (.int .i64), .cell (.int .i64), .cell (.int .i64)]]⟩
def ceJ14v2a6758 : List Cv := []
def seJ14v2a6758 : St → List Nat := fun st => [0, (Eng.look st.env 1).id, (Eng.look st.env 4).id]
def xJ14v2a6758wnx : XSh OJ14v2a6758 := ⟨[], ⟨[(5, .one (.cell (.int .i64)))], [.row 45, .var [.any, .any, .any, .any, .any] [.cell (.slice 58), .cell (.slice 74), .own 0, .cell (.slice 113), .cell (.slice 117)], .var [.int .u8, .str, .int .i64, .int .u8, .int .i64, .int .i64, .any, .int .i64, .bool, .int .i64, .int .i64, .bool, .bool, .int .u8, .int .i64, .int .i64, .int .i64, .bool, .bool, .int .i64, .int .i64, .int .i64] [.cell (.int .u8), .cell (.str), .cell (.int .i64), .cell (.int .u8), .cell (.int .i64), .cell (.int .i64), .cell (.slice 90), .cell (.int .i64), .cell (.bool), .cell (.int .i64), .cell (.int .i64), .cell (.bool), .cell (.bool), .cell (.int .u8), .cell (.int .i64), .cell (.int .i64), .cell (.int .i64), .cell (.bool), .cell (.bool), .cell (.int .i64), .cell (.int .i64), .cell (.int .i64)]]⟩, fun st => [0, 1, 2], fun s => .nx ((Eng.look s.env 5).toI) ((s.mem.getD 0 .dead).rows) (((s.mem.getD 1 .dead).cells.getD 0 .top).rows) (((s.mem.getD 1 .dead).cells.getD 1 .top).rows) (((s.mem.getD 1 .dead).cells.getD 3 .top).rows) (((s.mem.getD 1 .dead).cells.getD 4 .top).rows) (((s.mem.getD 2 .dead).cells.getD 0 .top).toI) (((s.mem.getD 2 .dead).cells.getD 1 .top).toS) (((s.mem.getD 2 .dead).cells.getD 2 .top).toI) (((s.mem.getD 2 .dead).cells.getD 3 .top).toI) (((s.mem.getD 2 .dead).cells.getD 4 .top).toI) (((s.mem.getD 2 .dead).cells.getD 5 .top).toI) (((s.mem.getD 2 .dead).cells.getD 6 .top).rows) (((s.mem.getD 2 .dead).cells.getD 7 .top).toI) (((s.mem.getD 2 .dead).cells.getD 8 .top).toB) (((s.mem.getD 2 .dead).cells.getD 9 .top).toI) (((s.mem.getD 2 .dead).cells.getD 10 .top).toI) (((s.mem.getD 2 .dead).cells.getD 11 .top).toB) (((s.mem.getD 2 .dead).cells.getD 12 .top).toB) (((s.mem.getD 2 .dead).cells.getD 13 .top).toI) (((s.mem.getD 2 .dead).cells.getD 14 .top).toI) (((s.mem.getD 2 .dead).cells.getD 15 .top).toI) (((s.mem.getD 2 .dead).cells.getD 16 .top).toI) (((s.mem.getD 2 .dead).cells.getD 17 .top).toB) (((s.mem.getD 2 .dead).cells.getD 18 .top).toB) (((s.mem.getD 2 .dead).cells.getD 19 .top).toI) (((s.mem.getD 2 .dead).cells.getD 20 .top).toI) (((s.mem.getD 2 .dead).cells.getD 21 .top).toI)⟩
def xsJ14v2a6758 : Ex → St → Option (XSh OJ14v2a6758) := fun e st => match e with
  | .normal => some xJ14v2a6758wnx
  | _ => none
def exJ14v2a6758 (o : OJ14v2a6758) : Ex := match o with | .nx x5 b0 b1c0 b1c1 b1c3 b1c4 b2c0 b2c1 b2c2 b2c3 b2c4 b2c5 b2c6 b2c7 b2c8 b2c9 b2c10 b2c11 b2c12 b2c13 b2c14 b2c15 b2c16 b2c17 b2c18 b2c19 b2c20 b2c21 => .normal
def stJ14v2a6758 (o : OJ14v2a6758) : St := match o with | .nx x5 b0 b1c0 b1c1 b1c3 b1c4 b2c0 b2c1 b2c2 b2c3 b2c4 b2c5 b2c6 b2c7 b2c8 b2c9 b2c10 b2c11 b2c12 b2c13 b2c14 b2c15 b2c16 b2c17 b2c18 b2c19 b2c20 b2c21 => ⟨[(5, .int .i64 x5)], [.row 45 b0, .var [.any, .any, .any, .any, .any] [.list 58 b1c0, .list 74 b1c1, .own 0, .list 113 b1c3, .list 117 b1c4], .var [.int .u8, .str, .int .i64, .int .u8, .int .i64, .int .i64, .any, .int .i64, .bool, .int .i64, .int .i64, .bool, .bool, .int .u8, .int .i64, .int .i64, .int .i64, .bool, .bool, .int .i64, .int .i64, .int .i64] [.int .u8 b2c0, .str b2c1, .int .i64 b2c2, .int .u8 b2c3, .int .i64 b2c4, .int .i64 b2c5, .list 90 b2c6, .int .i64 b2c7, .bool b2c8, .int .i64 b2c9, .int .i64 b2c10, .bool b2c11, .bool b2c12, .int .u8 b2c13, .int .i64 b2c14, .int .i64 b2c15, .int .i64 b2c16, .bool b2c17, .bool b2c18, .int .i64 b2c19, .int .i64 b2c20, .int .i64 b2c21]], [], .unk⟩
def elJ14v2a6758 {R : Type} (o : OJ14v2a6758) (k : Ex → St → Option R) : Option R := match o with | .nx x5 b0 b1c0 b1c1 b1c3 b1c4 b2c0 b2c1 b2c2 b2c3 b2c4 b2c5 b2c6 b2c7 b2c8 b2c9 b2c10 b2c11 b2c12 b2c13 b2c14 b2c15 b2c16 b2c17 b2c18 b2c19 b2c20 b2c21 => k .normal ⟨[(5, .int .i64 x5)], [.row 45 b0, .var [.any, .any, .any, .any, .any] [.list 58 b1c0, .list 74 b1c1, .own 0, .list 113 b1c3, .list 117 b1c4], .var [.int .u8, .str, .int .i64, .int .u8, .int .i64, .int .i64, .any, .int .i64, .bool, .int .i64, .int .i64, .bool, .bool, .int .u8, .int .i64, .int .i64, .int .i64, .bool, .bool, .int .i64, .int .i64, .int .i64] [.int .u8 b2c0, .str b2c1, .int .i64 b2c2, .int .u8 b2c3, .int .i64 b2c4, .int .i64 b2c5, .list 90 b2c6, .int .i64 b2c7, .bool b2c8, .int .i64 b2c9, .int .i64 b2c10, .bool b2c11, .bool b2c12, .int .u8 b2c13, .int .i64 b2c14, .int .i64 b2c15, .int .i64 b2c16, .bool b2c17, .bool b2c18, .int .i64 b2c19, .int .i64 b2c20, .int .i64 b2c21]], [], .unk⟩
theorem heJ14v2a6758 {R : Type} (o : OJ14v2a6758) (k : Ex → St → Option R) : elJ14v2a6758 o k = k (exJ14v2a6758 o) (stJ14v2a6758 o) := by cases o <;> rfl
theorem hxJ14v2a6758 : ∀ e st x, xsJ14v2a6758 e st = some x → outOk x e exJ14v2a6758 stJ14v2a6758 := by
  intro e st x h
  unfold xsJ14v2a6758 at h
  repeat' split at h
  all_goals first
    | (injection h with h; subst h; exact fun lk M => ⟨rfl, rfl⟩)
    | cases h
noncomputable def T14v2uc6758 (N : Nat) (R : Type) : LTab R := mkTab ⟨66, 33538080⟩ (csF14v2 N R) (noY) [] [] []
theorem okT14v2uc6758 (N : Nat) (R : Type) : (T14v2uc6758 N R).Ok CX code14 := mkTab_ok (hcsF14v2 N R) (noY_ok) (trivial) (trivial) (trivial)
noncomputable def bdJ14v2a6758 : Code := (codeAt code14 [false, true, true, false, false, true, true, false, false, true, false, true]).getD .skip
theorem hsJ14v2a6758 (N : Nat) : ∀ (lk : Nat → AV) (M : List Blk), LFJ14v2a6758 N (canS sgJ14v2a6758 lk M) = evk CX (T14v2uc6758 N OJ14v2a6758) bdJ14v2a6758 6758 (canS sgJ14v2a6758 lk M) (kontX CX 3 xsJ14v2a6758) := by intro lk M; kernel_rfl
inductive OJ14v2a13518 where
  | nx (b0 : List Row) (b1c0 : Int) (b1c1 : ByteArray) (b1c2 : Int) (b1c3 : Int) (b1c4 : Int) (b1c5 : Int) (b1c6 : List Row) (b1c7 : Int) (b1c8 : Bool) (b1c9 : Int) (b1c10 : Int) (b1c11 : Bool) (b1c12 : Bool) (b1c13 : Int) (b1c14 : Int) (b1c15 : Int) (b1c16 : Int) (b1c17 : Bool) (b1c18 : Bool) (b1c19 : Int) (b1c20 : Int) (b1c21 : Int)
  | ret (x2 : Bool) (b0 : List Row) (b1c0 : Int) (b1c1 : ByteArray) (b1c2 : Int) (b1c3 : Int) (b1c4 : Int) (b1c5 : Int) (b1c6 : List Row) (b1c7 : Int) (b1c8 : Bool) (b1c9 : Int) (b1c10 : Int) (b1c11 : Bool) (b1c12 : Bool) (b1c13 : Int) (b1c14 : Int) (b1c15 : Int) (b1c16 : Int) (b1c17 : Bool) (b1c18 : Bool) (b1c19 : Int) (b1c20 : Int) (b1c21 : Int)
def J14v2a13518 (N : Nat) : Int → List Row → Int → ByteArray → Int → Int → Int → Int → List Row → Int → Bool → Int → Int → Bool → Bool → Int → Int → Int → Int → Bool → Bool → Int → Int → Int → Option OJ14v2a13518 := fun x5 b0 b1c0 b1c1 b1c2 b1c3 b1c4 b1c5 b1c6 b1c7 b1c8 b1c9 b1c10 b1c11 b1c12 b1c13 b1c14 b1c15 b1c16 b1c17 b1c18 b1c19 b1c20 b1c21 =>
    match decide (x5 < (0 : Int)) with
    | true =>
      some (.ret false b0 b1c0 b1c1 b1c2 b1c3 b1c4 b1c5 b1c6 b1c7 b1c8 b1c9 b1c10 b1c11 b1c12 b1c13 b1c14 b1c15 b1c16 b1c17 b1c18 b1c19 b1c20 b1c21)
    | false =>
      match b1c9 != x5 with
      | true =>
        some (.ret false b0 b1c0 b1c1 b1c2 b1c3 b1c4 b1c5 b1c6 b1c7 b1c8 b1c9 b1c10 b1c11 b1c12 b1c13 b1c14 b1c15 b1c16 b1c17 b1c18 b1c19 b1c20 b1c21)
      | false =>
        some (.nx b0 b1c0 b1c1 b1c2 b1c3 b1c4 b1c5 b1c6 b1c7 b1c8 b1c9 b1c10 b1c11 b1c12 b1c13 b1c14 b1c15 b1c16 b1c17 b1c18 b1c19 b1c20 b1c21)
def LFJ14v2a13518 (N : Nat) (s : St) : Option OJ14v2a13518 := J14v2a13518 N ((Eng.look s.env 5).toI) ((s.mem.getD 0 .dead).rows) (((s.mem.getD 1 .dead).cells.getD 0 .top).toI) (((s.mem.getD 1 .dead).cells.getD 1 .top).toS) (((s.mem.getD 1 .dead).cells.getD 2 .top).toI) (((s.mem.getD 1 .dead).cells.getD 3 .top).toI) (((s.mem.getD 1 .dead).cells.getD 4 .top).toI) (((s.mem.getD 1 .dead).cells.getD 5 .top).toI) (((s.mem.getD 1 .dead).cells.getD 6 .top).rows) (((s.mem.getD 1 .dead).cells.getD 7 .top).toI) (((s.mem.getD 1 .dead).cells.getD 8 .top).toB) (((s.mem.getD 1 .dead).cells.getD 9 .top).toI) (((s.mem.getD 1 .dead).cells.getD 10 .top).toI) (((s.mem.getD 1 .dead).cells.getD 11 .top).toB) (((s.mem.getD 1 .dead).cells.getD 12 .top).toB) (((s.mem.getD 1 .dead).cells.getD 13 .top).toI) (((s.mem.getD 1 .dead).cells.getD 14 .top).toI) (((s.mem.getD 1 .dead).cells.getD 15 .top).toI) (((s.mem.getD 1 .dead).cells.getD 16 .top).toI) (((s.mem.getD 1 .dead).cells.getD 17 .top).toB) (((s.mem.getD 1 .dead).cells.getD 18 .top).toB) (((s.mem.getD 1 .dead).cells.getD 19 .top).toI) (((s.mem.getD 1 .dead).cells.getD 20 .top).toI) (((s.mem.getD 1 .dead).cells.getD 21 .top).toI)
def sgJ14v2a13518 : LSh := ⟨[(4, .one (.ptr 1 0 0)), (5, .one (.cell (.int .i64)))], [.row 45, .var [.int .u8, .str, .int .i64, .int .u8, .int .i64, .int .i64, .any, .int .i64, .bool, .int .i64, .int .i64, .bool, .bool, .int .u8, .int .i64, .int .i64, .int .i64, .bool, .bool, .int .i64, .int .i64, .int .i64] [.cell (.int .u8), .cell (.str), .cell (.int .i64), .cell (.int .u8), .cell (.int .i64), .cell (.int .i64), .cell (.slice 90), .cell (.int .i64), .cell (.bool), .cell (.int .i64), .cell (.int .i64), .cell (.bool), .cell (.bool), .cell (.int .u8), .cell (.int .i64), .cell (.int .i64), .cell (.int .i64), .cell (.bool), .cell (.bool), .cell (.int .i64), .cell (.int .i64), .cell (.int .i64)]]⟩
def ceJ14v2a13518 : List Cv := []
def seJ14v2a13518 : St → List Nat := fun st => [0, (Eng.look st.env 4).id]
def xJ14v2a13518wnx : XSh OJ14v2a13518 := ⟨[], ⟨[], [.row 45, .var [.int .u8, .str, .int .i64, .int .u8, .int .i64, .int .i64, .any, .int .i64, .bool, .int .i64, .int .i64, .bool, .bool, .int .u8, .int .i64, .int .i64, .int .i64, .bool, .bool, .int .i64, .int .i64, .int .i64] [.cell (.int .u8), .cell (.str), .cell (.int .i64), .cell (.int .u8), .cell (.int .i64), .cell (.int .i64), .cell (.slice 90), .cell (.int .i64), .cell (.bool), .cell (.int .i64), .cell (.int .i64), .cell (.bool), .cell (.bool), .cell (.int .u8), .cell (.int .i64), .cell (.int .i64), .cell (.int .i64), .cell (.bool), .cell (.bool), .cell (.int .i64), .cell (.int .i64), .cell (.int .i64)]]⟩, fun st => [0, 1], fun s => .nx ((s.mem.getD 0 .dead).rows) (((s.mem.getD 1 .dead).cells.getD 0 .top).toI) (((s.mem.getD 1 .dead).cells.getD 1 .top).toS) (((s.mem.getD 1 .dead).cells.getD 2 .top).toI) (((s.mem.getD 1 .dead).cells.getD 3 .top).toI) (((s.mem.getD 1 .dead).cells.getD 4 .top).toI) (((s.mem.getD 1 .dead).cells.getD 5 .top).toI) (((s.mem.getD 1 .dead).cells.getD 6 .top).rows) (((s.mem.getD 1 .dead).cells.getD 7 .top).toI) (((s.mem.getD 1 .dead).cells.getD 8 .top).toB) (((s.mem.getD 1 .dead).cells.getD 9 .top).toI) (((s.mem.getD 1 .dead).cells.getD 10 .top).toI) (((s.mem.getD 1 .dead).cells.getD 11 .top).toB) (((s.mem.getD 1 .dead).cells.getD 12 .top).toB) (((s.mem.getD 1 .dead).cells.getD 13 .top).toI) (((s.mem.getD 1 .dead).cells.getD 14 .top).toI) (((s.mem.getD 1 .dead).cells.getD 15 .top).toI) (((s.mem.getD 1 .dead).cells.getD 16 .top).toI) (((s.mem.getD 1 .dead).cells.getD 17 .top).toB) (((s.mem.getD 1 .dead).cells.getD 18 .top).toB) (((s.mem.getD 1 .dead).cells.getD 19 .top).toI) (((s.mem.getD 1 .dead).cells.getD 20 .top).toI) (((s.mem.getD 1 .dead).cells.getD 21 .top).toI)⟩
def xJ14v2a13518wret : XSh OJ14v2a13518 := ⟨[], ⟨[(2, .one (.cell (.bool)))], [.row 45, .var [.int .u8, .str, .int .i64, .int .u8, .int .i64, .int .i64, .any, .int .i64, .bool, .int .i64, .int .i64, .bool, .bool, .int .u8, .int .i64, .int .i64, .int .i64, .bool, .bool, .int .i64, .int .i64, .int .i64] [.cell (.int .u8), .cell (.str), .cell (.int .i64), .cell (.int .u8), .cell (.int .i64), .cell (.int .i64), .cell (.slice 90), .cell (.int .i64), .cell (.bool), .cell (.int .i64), .cell (.int .i64), .cell (.bool), .cell (.bool), .cell (.int .u8), .cell (.int .i64), .cell (.int .i64), .cell (.int .i64), .cell (.bool), .cell (.bool), .cell (.int .i64), .cell (.int .i64), .cell (.int .i64)]]⟩, fun st => [0, 1], fun s => .ret ((Eng.look s.env 2).toB) ((s.mem.getD 0 .dead).rows) (((s.mem.getD 1 .dead).cells.getD 0 .top).toI) (((s.mem.getD 1 .dead).cells.getD 1 .top).toS) (((s.mem.getD 1 .dead).cells.getD 2 .top).toI) (((s.mem.getD 1 .dead).cells.getD 3 .top).toI) (((s.mem.getD 1 .dead).cells.getD 4 .top).toI) (((s.mem.getD 1 .dead).cells.getD 5 .top).toI) (((s.mem.getD 1 .dead).cells.getD 6 .top).rows) (((s.mem.getD 1 .dead).cells.getD 7 .top).toI) (((s.mem.getD 1 .dead).cells.getD 8 .top).toB) (((s.mem.getD 1 .dead).cells.getD 9 .top).toI) (((s.mem.getD 1 .dead).cells.getD 10 .top).toI) (((s.mem.getD 1 .dead).cells.getD 11 .top).toB) (((s.mem.getD 1 .dead).cells.getD 12 .top).toB) (((s.mem.getD 1 .dead).cells.getD 13 .top).toI) (((s.mem.getD 1 .dead).cells.getD 14 .top).toI) (((s.mem.getD 1 .dead).cells.getD 15 .top).toI) (((s.mem.getD 1 .dead).cells.getD 16 .top).toI) (((s.mem.getD 1 .dead).cells.getD 17 .top).toB) (((s.mem.getD 1 .dead).cells.getD 18 .top).toB) (((s.mem.getD 1 .dead).cells.getD 19 .top).toI) (((s.mem.getD 1 .dead).cells.getD 20 .top).toI) (((s.mem.getD 1 .dead).cells.getD 21 .top).toI)⟩
def xsJ14v2a13518 : Ex → St → Option (XSh OJ14v2a13518) := fun e st => match e with
  | .normal => some xJ14v2a13518wnx
  | .ret => some xJ14v2a13518wret
  | _ => none
def exJ14v2a13518 (o : OJ14v2a13518) : Ex := match o with | .nx b0 b1c0 b1c1 b1c2 b1c3 b1c4 b1c5 b1c6 b1c7 b1c8 b1c9 b1c10 b1c11 b1c12 b1c13 b1c14 b1c15 b1c16 b1c17 b1c18 b1c19 b1c20 b1c21 => .normal | .ret x2 b0 b1c0 b1c1 b1c2 b1c3 b1c4 b1c5 b1c6 b1c7 b1c8 b1c9 b1c10 b1c11 b1c12 b1c13 b1c14 b1c15 b1c16 b1c17 b1c18 b1c19 b1c20 b1c21 => .ret
def stJ14v2a13518 (o : OJ14v2a13518) : St := match o with | .nx b0 b1c0 b1c1 b1c2 b1c3 b1c4 b1c5 b1c6 b1c7 b1c8 b1c9 b1c10 b1c11 b1c12 b1c13 b1c14 b1c15 b1c16 b1c17 b1c18 b1c19 b1c20 b1c21 => ⟨[], [.row 45 b0, .var [.int .u8, .str, .int .i64, .int .u8, .int .i64, .int .i64, .any, .int .i64, .bool, .int .i64, .int .i64, .bool, .bool, .int .u8, .int .i64, .int .i64, .int .i64, .bool, .bool, .int .i64, .int .i64, .int .i64] [.int .u8 b1c0, .str b1c1, .int .i64 b1c2, .int .u8 b1c3, .int .i64 b1c4, .int .i64 b1c5, .list 90 b1c6, .int .i64 b1c7, .bool b1c8, .int .i64 b1c9, .int .i64 b1c10, .bool b1c11, .bool b1c12, .int .u8 b1c13, .int .i64 b1c14, .int .i64 b1c15, .int .i64 b1c16, .bool b1c17, .bool b1c18, .int .i64 b1c19, .int .i64 b1c20, .int .i64 b1c21]], [], .unk⟩ | .ret x2 b0 b1c0 b1c1 b1c2 b1c3 b1c4 b1c5 b1c6 b1c7 b1c8 b1c9 b1c10 b1c11 b1c12 b1c13 b1c14 b1c15 b1c16 b1c17 b1c18 b1c19 b1c20 b1c21 => ⟨[(2, .bool x2)], [.row 45 b0, .var [.int .u8, .str, .int .i64, .int .u8, .int .i64, .int .i64, .any, .int .i64, .bool, .int .i64, .int .i64, .bool, .bool, .int .u8, .int .i64, .int .i64, .int .i64, .bool, .bool, .int .i64, .int .i64, .int .i64] [.int .u8 b1c0, .str b1c1, .int .i64 b1c2, .int .u8 b1c3, .int .i64 b1c4, .int .i64 b1c5, .list 90 b1c6, .int .i64 b1c7, .bool b1c8, .int .i64 b1c9, .int .i64 b1c10, .bool b1c11, .bool b1c12, .int .u8 b1c13, .int .i64 b1c14, .int .i64 b1c15, .int .i64 b1c16, .bool b1c17, .bool b1c18, .int .i64 b1c19, .int .i64 b1c20, .int .i64 b1c21]], [], .unk⟩
def elJ14v2a13518 {R : Type} (o : OJ14v2a13518) (k : Ex → St → Option R) : Option R := match o with | .nx b0 b1c0 b1c1 b1c2 b1c3 b1c4 b1c5 b1c6 b1c7 b1c8 b1c9 b1c10 b1c11 b1c12 b1c13 b1c14 b1c15 b1c16 b1c17 b1c18 b1c19 b1c20 b1c21 => k .normal ⟨[], [.row 45 b0, .var [.int .u8, .str, .int .i64, .int .u8, .int .i64, .int .i64, .any, .int .i64, .bool, .int .i64, .int .i64, .bool, .bool, .int .u8, .int .i64, .int .i64, .int .i64, .bool, .bool, .int .i64, .int .i64, .int .i64] [.int .u8 b1c0, .str b1c1, .int .i64 b1c2, .int .u8 b1c3, .int .i64 b1c4, .int .i64 b1c5, .list 90 b1c6, .int .i64 b1c7, .bool b1c8, .int .i64 b1c9, .int .i64 b1c10, .bool b1c11, .bool b1c12, .int .u8 b1c13, .int .i64 b1c14, .int .i64 b1c15, .int .i64 b1c16, .bool b1c17, .bool b1c18, .int .i64 b1c19, .int .i64 b1c20, .int .i64 b1c21]], [], .unk⟩ | .ret x2 b0 b1c0 b1c1 b1c2 b1c3 b1c4 b1c5 b1c6 b1c7 b1c8 b1c9 b1c10 b1c11 b1c12 b1c13 b1c14 b1c15 b1c16 b1c17 b1c18 b1c19 b1c20 b1c21 => k .ret ⟨[(2, .bool x2)], [.row 45 b0, .var [.int .u8, .str, .int .i64, .int .u8, .int .i64, .int .i64, .any, .int .i64, .bool, .int .i64, .int .i64, .bool, .bool, .int .u8, .int .i64, .int .i64, .int .i64, .bool, .bool, .int .i64, .int .i64, .int .i64] [.int .u8 b1c0, .str b1c1, .int .i64 b1c2, .int .u8 b1c3, .int .i64 b1c4, .int .i64 b1c5, .list 90 b1c6, .int .i64 b1c7, .bool b1c8, .int .i64 b1c9, .int .i64 b1c10, .bool b1c11, .bool b1c12, .int .u8 b1c13, .int .i64 b1c14, .int .i64 b1c15, .int .i64 b1c16, .bool b1c17, .bool b1c18, .int .i64 b1c19, .int .i64 b1c20, .int .i64 b1c21]], [], .unk⟩
theorem heJ14v2a13518 {R : Type} (o : OJ14v2a13518) (k : Ex → St → Option R) : elJ14v2a13518 o k = k (exJ14v2a13518 o) (stJ14v2a13518 o) := by cases o <;> rfl
theorem hxJ14v2a13518 : ∀ e st x, xsJ14v2a13518 e st = some x → outOk x e exJ14v2a13518 stJ14v2a13518 := by
  intro e st x h
  unfold xsJ14v2a13518 at h
  repeat' split at h
  all_goals first
    | (injection h with h; subst h; exact fun lk M => ⟨rfl, rfl⟩)
    | cases h
noncomputable def T14v2uc13518 (N : Nat) (R : Type) : LTab R := mkTab ⟨66, 8556380164⟩ (csF14v2 N R) (noY) [] [] []
theorem okT14v2uc13518 (N : Nat) (R : Type) : (T14v2uc13518 N R).Ok CX code14 := mkTab_ok (hcsF14v2 N R) (noY_ok) (trivial) (trivial) (trivial)
noncomputable def bdJ14v2a13518 : Code := (codeAt code14 [false, true, true, true, false, false, true, true, false, false, true, false, true]).getD .skip
theorem hsJ14v2a13518 (N : Nat) : ∀ (lk : Nat → AV) (M : List Blk), LFJ14v2a13518 N (canS sgJ14v2a13518 lk M) = evk CX (T14v2uc13518 N OJ14v2a13518) bdJ14v2a13518 13518 (canS sgJ14v2a13518 lk M) (kontX CX 2 xsJ14v2a13518) := by intro lk M; kernel_rfl
inductive OL14v2a26 where
  | ret (x2 : Bool) (b0 : List Row) (b1c0 : List Row) (b1c1 : List Row) (b1c3 : List Row) (b1c4 : List Row)
  | x0 (b0 : List Row) (b1c0 : List Row) (b1c1 : List Row) (b1c3 : List Row) (b1c4 : List Row)
def L14v2a26 (N : Nat) : Nat → Int → Int → List Row → List Row → List Row → List Row → List Row → Option OL14v2a26
  | 0 => fun _ _ _ _ _ _ _ => none
  | n + 1 => fun x8 x9 b0 b1c0 b1c1 b1c3 b1c4 =>
    match decide (x9 < x8) with
    | true =>
      tst (decide ((0 : Int) ≤ x9) && decide (x9 < ((b0.length : Int)))) <|
      tst (decide (x9.toNat < b0.length)) <|
      match J14v2a6758 N x9 0 b0 b1c0 b1c1 b1c3 b1c4 ((((b0.getD x9.toNat [])).getD 0 .top).toI) ((((b0.getD x9.toNat [])).getD 1 .top).toS) ((((b0.getD x9.toNat [])).getD 2 .top).toI) ((((b0.getD x9.toNat [])).getD 3 .top).toI) ((((b0.getD x9.toNat [])).getD 4 .top).toI) ((((b0.getD x9.toNat [])).getD 5 .top).toI) ((((b0.getD x9.toNat [])).getD 6 .top).rows) ((((b0.getD x9.toNat [])).getD 7 .top).toI) ((((b0.getD x9.toNat [])).getD 8 .top).toB) ((((b0.getD x9.toNat [])).getD 9 .top).toI) ((((b0.getD x9.toNat [])).getD 10 .top).toI) ((((b0.getD x9.toNat [])).getD 11 .top).toB) ((((b0.getD x9.toNat [])).getD 12 .top).toB) ((((b0.getD x9.toNat [])).getD 13 .top).toI) ((((b0.getD x9.toNat [])).getD 14 .top).toI) ((((b0.getD x9.toNat [])).getD 15 .top).toI) ((((b0.getD x9.toNat [])).getD 16 .top).toI) ((((b0.getD x9.toNat [])).getD 17 .top).toB) ((((b0.getD x9.toNat [])).getD 18 .top).toB) ((((b0.getD x9.toNat [])).getD 19 .top).toI) ((((b0.getD x9.toNat [])).getD 20 .top).toI) ((((b0.getD x9.toNat [])).getD 21 .top).toI) with
      | none => none
      | some (.nx x5v2 b0v2 b1c0v2 b1c1v2 b1c3v2 b1c4v2 b2c0v2 b2c1v2 b2c2v2 b2c3v2 b2c4v2 b2c5v2 b2c6v2 b2c7v2 b2c8v2 b2c9v2 b2c10v2 b2c11v2 b2c12v2 b2c13v2 b2c14v2 b2c15v2 b2c16v2 b2c17v2 b2c18v2 b2c19v2 b2c20v2 b2c21v2) =>
        match J14v2a13518 N x5v2 b0v2 b2c0v2 b2c1v2 b2c2v2 b2c3v2 b2c4v2 b2c5v2 b2c6v2 b2c7v2 b2c8v2 b2c9v2 b2c10v2 b2c11v2 b2c12v2 b2c13v2 b2c14v2 b2c15v2 b2c16v2 b2c17v2 b2c18v2 b2c19v2 b2c20v2 b2c21v2 with
        | none => none
        | some (.nx b0v3 b1c0v3 b1c1v3 b1c2v3 b1c3v3 b1c4v3 b1c5v3 b1c6v3 b1c7v3 b1c8v3 b1c9v3 b1c10v3 b1c11v3 b1c12v3 b1c13v3 b1c14v3 b1c15v3 b1c16v3 b1c17v3 b1c18v3 b1c19v3 b1c20v3 b1c21v3) =>
          match b1c0v3 == (5 : Int) with
          | true =>
            match !b1c8v3 with
            | true =>
              match decide (b1c4v3 < (0 : Int)) with
              | true =>
                some (.ret false b0v3 b1c0v2 b1c1v2 b1c3v2 b1c4v2)
              | false =>
                match decide (((b1c0v2.length : Int)) ≤ b1c4v3) with
                | true =>
                  some (.ret false b0v3 b1c0v2 b1c1v2 b1c3v2 b1c4v2)
                | false =>
                  tst (decide ((0 : Int) ≤ b1c4v3) && decide (b1c4v3 < ((b1c0v2.length : Int)))) <|
                  match ((((b1c0v2.getD b1c4v3.toNat [])).getD 17 .top).toI) != x5v2 with
                  | true =>
                    some (.ret false b0v3 b1c0v2 b1c1v2 b1c3v2 b1c4v2)
                  | false =>
                    L14v2a26 N n x8 (IntKind.wrap .i64 (x9 + (1 : Int))) b0v3 b1c0v2 b1c1v2 b1c3v2 b1c4v2
            | false =>
              L14v2a26 N n x8 (IntKind.wrap .i64 (x9 + (1 : Int))) b0v3 b1c0v2 b1c1v2 b1c3v2 b1c4v2
          | false =>
            L14v2a26 N n x8 (IntKind.wrap .i64 (x9 + (1 : Int))) b0v3 b1c0v2 b1c1v2 b1c3v2 b1c4v2
        | some (.ret x2v4 b0v4 b1c0v4 b1c1v4 b1c2v4 b1c3v4 b1c4v4 b1c5v4 b1c6v4 b1c7v4 b1c8v4 b1c9v4 b1c10v4 b1c11v4 b1c12v4 b1c13v4 b1c14v4 b1c15v4 b1c16v4 b1c17v4 b1c18v4 b1c19v4 b1c20v4 b1c21v4) =>
          some (.ret x2v4 b0v4 b1c0v2 b1c1v2 b1c3v2 b1c4v2)
    | false =>
      some (.x0 b0 b1c0 b1c1 b1c3 b1c4)
def LFL14v2a26 (N : Nat) (n : Nat) (s : St) : Option OL14v2a26 := L14v2a26 N n ((Eng.look s.env 8).toI) ((Eng.look s.env 9).toI) ((s.mem.getD 0 .dead).rows) (((s.mem.getD 1 .dead).cells.getD 0 .top).rows) (((s.mem.getD 1 .dead).cells.getD 1 .top).rows) (((s.mem.getD 1 .dead).cells.getD 3 .top).rows) (((s.mem.getD 1 .dead).cells.getD 4 .top).rows)
def sgL14v2a26 : LSh := ⟨[(1, .one (.ptr 1 0 0)), (7, .one (.own 0)), (8, .one (.cell (.int .i64))), (9, .one (.cell (.int .i64)))], [.row 45, .var [.any, .any, .any, .any, .any] [.cell (.slice 58), .cell (.slice 74), .own 0, .cell (.slice 113), .cell (.slice 117)]]⟩
def ceL14v2a26 : List Cv := []
def seL14v2a26 : St → List Nat := fun st => [0, (Eng.look st.env 1).id]
def xL14v2a26wret : XSh OL14v2a26 := ⟨[], ⟨[(2, .one (.cell (.bool)))], [.row 45, .var [.any, .any, .any, .any, .any] [.cell (.slice 58), .cell (.slice 74), .own 0, .cell (.slice 113), .cell (.slice 117)]]⟩, fun st => [0, 1], fun s => .ret ((Eng.look s.env 2).toB) ((s.mem.getD 0 .dead).rows) (((s.mem.getD 1 .dead).cells.getD 0 .top).rows) (((s.mem.getD 1 .dead).cells.getD 1 .top).rows) (((s.mem.getD 1 .dead).cells.getD 3 .top).rows) (((s.mem.getD 1 .dead).cells.getD 4 .top).rows)⟩
def xL14v2a26wx0 : XSh OL14v2a26 := ⟨[], ⟨[], [.row 45, .var [.any, .any, .any, .any, .any] [.cell (.slice 58), .cell (.slice 74), .own 0, .cell (.slice 113), .cell (.slice 117)]]⟩, fun st => [0, 1], fun s => .x0 ((s.mem.getD 0 .dead).rows) (((s.mem.getD 1 .dead).cells.getD 0 .top).rows) (((s.mem.getD 1 .dead).cells.getD 1 .top).rows) (((s.mem.getD 1 .dead).cells.getD 3 .top).rows) (((s.mem.getD 1 .dead).cells.getD 4 .top).rows)⟩
def xsL14v2a26 : Ex → St → Option (XSh OL14v2a26) := fun e st => match e with
  | .ret => some xL14v2a26wret
  | .exit 0 => some xL14v2a26wx0
  | _ => none
def exL14v2a26 (o : OL14v2a26) : Ex := match o with | .ret x2 b0 b1c0 b1c1 b1c3 b1c4 => .ret | .x0 b0 b1c0 b1c1 b1c3 b1c4 => (.exit 0)
def stL14v2a26 (o : OL14v2a26) : St := match o with | .ret x2 b0 b1c0 b1c1 b1c3 b1c4 => ⟨[(2, .bool x2)], [.row 45 b0, .var [.any, .any, .any, .any, .any] [.list 58 b1c0, .list 74 b1c1, .own 0, .list 113 b1c3, .list 117 b1c4]], [], .unk⟩ | .x0 b0 b1c0 b1c1 b1c3 b1c4 => ⟨[], [.row 45 b0, .var [.any, .any, .any, .any, .any] [.list 58 b1c0, .list 74 b1c1, .own 0, .list 113 b1c3, .list 117 b1c4]], [], .unk⟩
def elL14v2a26 {R : Type} (o : OL14v2a26) (k : Ex → St → Option R) : Option R := match o with | .ret x2 b0 b1c0 b1c1 b1c3 b1c4 => k .ret ⟨[(2, .bool x2)], [.row 45 b0, .var [.any, .any, .any, .any, .any] [.list 58 b1c0, .list 74 b1c1, .own 0, .list 113 b1c3, .list 117 b1c4]], [], .unk⟩ | .x0 b0 b1c0 b1c1 b1c3 b1c4 => k (.exit 0) ⟨[], [.row 45 b0, .var [.any, .any, .any, .any, .any] [.list 58 b1c0, .list 74 b1c1, .own 0, .list 113 b1c3, .list 117 b1c4]], [], .unk⟩
theorem heL14v2a26 {R : Type} (o : OL14v2a26) (k : Ex → St → Option R) : elL14v2a26 o k = k (exL14v2a26 o) (stL14v2a26 o) := by cases o <;> rfl
theorem hxL14v2a26 : ∀ e st x, xsL14v2a26 e st = some x → outOk x e exL14v2a26 stL14v2a26 := by
  intro e st x h
  unfold xsL14v2a26 at h
  repeat' split at h
  all_goals first
    | (injection h with h; subst h; exact fun lk M => ⟨rfl, rfl⟩)
    | cases h
noncomputable def T14v2ul26 (N : Nat) (R : Type) : LTab R := mkTab ⟨66, 73786976294838206012⟩ (csF14v2 N R) (noY) [] [] [(6758, fun st k => callLoop CX 3 33538080 ceJ14v2a6758 sgJ14v2a6758 seJ14v2a6758 ⟨66, 73786976294838206012⟩ (LFJ14v2a6758 N) elJ14v2a6758 st k), (13518, fun st k => callLoop CX 2 8556380164 ceJ14v2a13518 sgJ14v2a13518 seJ14v2a13518 ⟨66, 73786976294838206012⟩ (LFJ14v2a13518 N) elJ14v2a13518 st k)]
theorem okT14v2ul26 (N : Nat) (R : Type) : (T14v2ul26 N R).Ok CX code14 := mkTab_ok (hcsF14v2 N R) (noY_ok) (trivial) (trivial) (⟨cut_ok hX (path := [false, true, true, false, false, true, true, false, false, true, false, true]) (by kernel_rfl) (by rfl) (okT14v2uc6758 N OJ14v2a6758) (hsJ14v2a6758 N) hxJ14v2a6758 rfl heJ14v2a6758, cut_ok hX (path := [false, true, true, true, false, false, true, true, false, false, true, false, true]) (by kernel_rfl) (by rfl) (okT14v2uc13518 N OJ14v2a13518) (hsJ14v2a13518 N) hxJ14v2a13518 rfl heJ14v2a13518, trivial⟩)
noncomputable def bdL14v2a26 : Code := match codeAt code14 [false, true, false, true] with | some (.loop c) => c | _ => .skip
theorem hsL14v2a26 (N : Nat) : ∀ (n : Nat) (lk : Nat → AV) (M : List Blk), LFL14v2a26 N (n + 1) (canS sgL14v2a26 lk M) = evk CX (T14v2ul26 N OL14v2a26) bdL14v2a26 (2 * 26) (canS sgL14v2a26 lk M) (kont CX 2 [] sgL14v2a26 (fun st => [0, 1]) xsL14v2a26 (LFL14v2a26 N n)) := by intro n lk M; kernel_rfl
noncomputable def T14v2ur1 (N : Nat) (R : Type) : LTab R := mkTab ⟨66, 73786976294838206463⟩ (csF14v2 N R) (noY) [(26, fun st k => callLoop CX 2 73786976294838206012 ceL14v2a26 sgL14v2a26 seL14v2a26 ⟨66, 73786976294838206463⟩ (LFL14v2a26 N N) elL14v2a26 st k)] [] []
theorem okT14v2ur1 (N : Nat) (R : Type) : (T14v2ur1 N R).Ok CX code14 := mkTab_ok (hcsF14v2 N R) (noY_ok) (⟨loop_ok hX (path := [false, true, false, true]) (by kernel_rfl) (by rfl) (okT14v2ul26 N OL14v2a26) (fun _ _ => rfl) (hsL14v2a26 N) hxL14v2a26 rfl heL14v2a26, trivial⟩) (trivial) (trivial)
def rsF14v2 : List ResultVar := [.tmp 2]
def F14v2 : Nat → TF14v2
  | 0 => fun _ _ _ _ _ => none
  | N + 1 => fun x0c0 x0c1 x0c3 x0c4 b0 =>
    match L14v2a26 N N ((b0.length : Int)) 0 b0 x0c0 x0c1 x0c3 x0c4 with
    | none => none
    | some (.ret x2v5 b0v5 b1c0v5 b1c1v5 b1c3v5 b1c4v5) =>
      some (.r x2v5 b0v5)
    | some (.x0 b0v6 b1c0v6 b1c1v6 b1c3v6 b1c4v6) =>
      some (.r true b0v6)
def xRF14v2 : XSh R14v2 := ⟨[], ⟨[(0, .one (.cell (.bool)))], [.row 45]⟩, fun st => [0], fun s => .r ((Eng.look s.env 0).toB) ((s.mem.getD 0 .dead).rows)⟩
theorem fsF14v2 : ∀ (N : Nat) (lk : Nat → AV) (M : List Blk), FFF14v2 (F14v2 (N + 1)) (canS sgF14v2 lk M) = evfn CX (T14v2ur1 N R14v2) code14 rsF14v2 (argsE 1 (canS sgF14v2 lk M).env) (canS sgF14v2 lk M).mem (goR CX 1 (fun _ => some xRF14v2)) := by intro N lk M; kernel_rfl
theorem soundF14v2 : ∀ N, RecOkF14v2 (F14v2 N)
  | 0, lk, M, o, h => by cases h
  | N + 1, lk, M, o, h => fn_sound hX (okT14v2ur1 N R14v2) Tryd.func14 hb14 rfl en14 (by kernel_rfl) (ys := fun _ => some xRF14v2) (fun st y h => by injection h with h; subst h; exact fun lk M => ⟨rfl, rfl⟩) ((fsF14v2 N lk M).symm.trans h)
def cvce14v2n0 : List Cv := []
def selce14v2n0 : St → List Nat := fun st => [((Eng.look st.env 0).cells.getD 2 .top).id]
noncomputable def ce14v2n0 (Fx : TF14v2) (R : Type) (test : List AV → List Blk → Bool) : CE R := ⟨14, test, fun args M => some (selce14v2n0 ⟨argEnv 0 args, M, [], .unk⟩), fun args M k => tst (Nat.beq args.length 1) (callFn CX 1 cvce14v2n0 sgF14v2 selce14v2n0 (FFF14v2 Fx) elF14v2 args M k)⟩
theorem okce14v2n0 (Fx : TF14v2) (h : RecOkF14v2 Fx) (R : Type) (test : List AV → List Blk → Bool) : CeOk CX (ce14v2n0 Fx R test) := ce_ok hX (fun o k => by cases o; rfl) h en14 (fun args M ids h => by injection h with h; exact ⟨rfl, h.symm⟩)
end Go.Proofs.YtdennlgnbecojaaDoor

namespace Go.Proofs.YtdennlgnbecojaaDoor
open Go Go.Eng
set_option maxRecDepth 100000

/-! ### F7: ceiling/ceilinglaw12.LevelAdds -/
inductive R7 where
  | r (x0 : Bool)
abbrev TF7 := List Row → List Row → List Row → List Row → List Row → Int → ByteArray → Int → Int → Int → Int → List Row → Int → Bool → Int → Int → Bool → Bool → Int → Int → Int → Int → Bool → Bool → Int → Int → Int → Int → Option R7
def sgF7 : LSh := ⟨[(0, .agg [.cell (.slice 58), .cell (.slice 74), .cell (.slice 45), .cell (.slice 113), .cell (.slice 117)]), (1, .agg [.cell (.int .u8), .cell (.str), .cell (.int .i64), .cell (.int .u8), .cell (.int .i64), .cell (.int .i64), .cell (.slice 90), .cell (.int .i64), .cell (.bool), .cell (.int .i64), .cell (.int .i64), .cell (.bool), .cell (.bool), .cell (.int .u8), .cell (.int .i64), .cell (.int .i64), .cell (.int .i64), .cell (.bool), .cell (.bool), .cell (.int .i64), .cell (.int .i64), .cell (.int .i64)]), (2, .one (.cell (.int .i64)))], []⟩
def FFF7 (Fx : TF7) (s : St) : Option R7 := Fx (((Eng.look s.env 0).cells.getD 0 .top).rows) (((Eng.look s.env 0).cells.getD 1 .top).rows) (((Eng.look s.env 0).cells.getD 2 .top).rows) (((Eng.look s.env 0).cells.getD 3 .top).rows) (((Eng.look s.env 0).cells.getD 4 .top).rows) (((Eng.look s.env 1).cells.getD 0 .top).toI) (((Eng.look s.env 1).cells.getD 1 .top).toS) (((Eng.look s.env 1).cells.getD 2 .top).toI) (((Eng.look s.env 1).cells.getD 3 .top).toI) (((Eng.look s.env 1).cells.getD 4 .top).toI) (((Eng.look s.env 1).cells.getD 5 .top).toI) (((Eng.look s.env 1).cells.getD 6 .top).rows) (((Eng.look s.env 1).cells.getD 7 .top).toI) (((Eng.look s.env 1).cells.getD 8 .top).toB) (((Eng.look s.env 1).cells.getD 9 .top).toI) (((Eng.look s.env 1).cells.getD 10 .top).toI) (((Eng.look s.env 1).cells.getD 11 .top).toB) (((Eng.look s.env 1).cells.getD 12 .top).toB) (((Eng.look s.env 1).cells.getD 13 .top).toI) (((Eng.look s.env 1).cells.getD 14 .top).toI) (((Eng.look s.env 1).cells.getD 15 .top).toI) (((Eng.look s.env 1).cells.getD 16 .top).toI) (((Eng.look s.env 1).cells.getD 17 .top).toB) (((Eng.look s.env 1).cells.getD 18 .top).toB) (((Eng.look s.env 1).cells.getD 19 .top).toI) (((Eng.look s.env 1).cells.getD 20 .top).toI) (((Eng.look s.env 1).cells.getD 21 .top).toI) ((Eng.look s.env 2).toI)
def valF7 (o : R7) : AV := match o with | .r x0 => .bool x0
def memF7 (o : R7) : List Blk := match o with | .r x0 => []
def elF7 {R : Type} (o : R7) (k : AV → List Blk → Option R) : Option R := match o with | .r x0 => k (.bool x0) []
def RecOkF7 (Fx : TF7) : Prop := ∀ lk M o, FFF7 Fx (canS sgF7 lk M) = some o → FCalls CX 7 0 (argsE 3 (canS sgF7 lk M).env) (canS sgF7 lk M).mem (valF7 o) (memF7 o)
noncomputable def csF7 (N : Nat) (R : Type) : List (CE R) := [ce8n0 (F8 N) R (fun _ _ => true), ce9n0 (F9 N) R (fun _ _ => true), ce10v1n0 (F10v1 N) R (fun _ _ => true), ce14v2n0 (F14v2 N) R (fun _ _ => true), ce15n0 (F15 N) R (fun _ _ => true)]
theorem hcsF7 (N : Nat) (R : Type) : AllE (CeOk CX) (csF7 N R) := ⟨okce8n0 (F8 N) (soundF8 N) R (fun _ _ => true), okce9n0 (F9 N) (soundF9 N) R (fun _ _ => true), okce10v1n0 (F10v1 N) (soundF10v1 N) R (fun _ _ => true), okce14v2n0 (F14v2 N) (soundF14v2 N) R (fun _ _ => true), okce15n0 (F15 N) (soundF15 N) R (fun _ _ => true), trivial⟩
inductive OJ7a6 where
  | nx (b0c0 : List Row) (b0c1 : List Row) (b0c2 : List Row) (b0c3 : List Row) (b0c4 : List Row) (b1c0 : Int) (b1c1 : ByteArray) (b1c2 : Int) (b1c3 : Int) (b1c4 : Int) (b1c5 : Int) (b1c6 : List Row) (b1c7 : Int) (b1c8 : Bool) (b1c9 : Int) (b1c10 : Int) (b1c11 : Bool) (b1c12 : Bool) (b1c13 : Int) (b1c14 : Int) (b1c15 : Int) (b1c16 : Int) (b1c17 : Bool) (b1c18 : Bool) (b1c19 : Int) (b1c20 : Int) (b1c21 : Int)
  | ret (x6 : Bool) (b0c0 : List Row) (b0c1 : List Row) (b0c2 : List Row) (b0c3 : List Row) (b0c4 : List Row) (b1c0 : Int) (b1c1 : ByteArray) (b1c2 : Int) (b1c3 : Int) (b1c4 : Int) (b1c5 : Int) (b1c6 : List Row) (b1c7 : Int) (b1c8 : Bool) (b1c9 : Int) (b1c10 : Int) (b1c11 : Bool) (b1c12 : Bool) (b1c13 : Int) (b1c14 : Int) (b1c15 : Int) (b1c16 : Int) (b1c17 : Bool) (b1c18 : Bool) (b1c19 : Int) (b1c20 : Int) (b1c21 : Int)
def J7a6 (N : Nat) : List Row → List Row → List Row → List Row → List Row → Int → ByteArray → Int → Int → Int → Int → List Row → Int → Bool → Int → Int → Bool → Bool → Int → Int → Int → Int → Bool → Bool → Int → Int → Int → Option OJ7a6 := fun b0c0 b0c1 b0c2 b0c3 b0c4 b1c0 b1c1 b1c2 b1c3 b1c4 b1c5 b1c6 b1c7 b1c8 b1c9 b1c10 b1c11 b1c12 b1c13 b1c14 b1c15 b1c16 b1c17 b1c18 b1c19 b1c20 b1c21 =>
    match F8 N b0c0 b0c1 b0c2 b0c3 b0c4 with
    | none => none
    | some (.r rx0v1) =>
      match rx0v1 with
      | true =>
        match F9 N  with
        | none => none
        | some (.r rx0v2) =>
          some (.ret rx0v2 b0c0 b0c1 b0c2 b0c3 b0c4 b1c0 b1c1 b1c2 b1c3 b1c4 b1c5 b1c6 b1c7 b1c8 b1c9 b1c10 b1c11 b1c12 b1c13 b1c14 b1c15 b1c16 b1c17 b1c18 b1c19 b1c20 b1c21)
      | false =>
        match F15 N b0c0 b0c1 b0c2 b0c3 b0c4 with
        | none => none
        | some (.r rx0v3) =>
          match !rx0v3 with
          | true =>
            match F9 N  with
            | none => none
            | some (.r rx0v4) =>
              some (.ret rx0v4 b0c0 b0c1 b0c2 b0c3 b0c4 b1c0 b1c1 b1c2 b1c3 b1c4 b1c5 b1c6 b1c7 b1c8 b1c9 b1c10 b1c11 b1c12 b1c13 b1c14 b1c15 b1c16 b1c17 b1c18 b1c19 b1c20 b1c21)
          | false =>
            match b1c0 == (1 : Int) with
            | true =>
              match F9 N  with
              | none => none
              | some (.r rx0v5) =>
                some (.ret rx0v5 b0c0 b0c1 b0c2 b0c3 b0c4 b1c0 b1c1 b1c2 b1c3 b1c4 b1c5 b1c6 b1c7 b1c8 b1c9 b1c10 b1c11 b1c12 b1c13 b1c14 b1c15 b1c16 b1c17 b1c18 b1c19 b1c20 b1c21)
            | false =>
              match b1c0 == (5 : Int) with
              | true =>
                match F9 N  with
                | none => none
                | some (.r rx0v6) =>
                  some (.ret rx0v6 b0c0 b0c1 b0c2 b0c3 b0c4 b1c0 b1c1 b1c2 b1c3 b1c4 b1c5 b1c6 b1c7 b1c8 b1c9 b1c10 b1c11 b1c12 b1c13 b1c14 b1c15 b1c16 b1c17 b1c18 b1c19 b1c20 b1c21)
              | false =>
                some (.nx b0c0 b0c1 b0c2 b0c3 b0c4 b1c0 b1c1 b1c2 b1c3 b1c4 b1c5 b1c6 b1c7 b1c8 b1c9 b1c10 b1c11 b1c12 b1c13 b1c14 b1c15 b1c16 b1c17 b1c18 b1c19 b1c20 b1c21)
def LFJ7a6 (N : Nat) (s : St) : Option OJ7a6 := J7a6 N (((s.mem.getD 0 .dead).cells.getD 0 .top).rows) (((s.mem.getD 0 .dead).cells.getD 1 .top).rows) (((s.mem.getD 0 .dead).cells.getD 2 .top).rows) (((s.mem.getD 0 .dead).cells.getD 3 .top).rows) (((s.mem.getD 0 .dead).cells.getD 4 .top).rows) (((s.mem.getD 1 .dead).cells.getD 0 .top).toI) (((s.mem.getD 1 .dead).cells.getD 1 .top).toS) (((s.mem.getD 1 .dead).cells.getD 2 .top).toI) (((s.mem.getD 1 .dead).cells.getD 3 .top).toI) (((s.mem.getD 1 .dead).cells.getD 4 .top).toI) (((s.mem.getD 1 .dead).cells.getD 5 .top).toI) (((s.mem.getD 1 .dead).cells.getD 6 .top).rows) (((s.mem.getD 1 .dead).cells.getD 7 .top).toI) (((s.mem.getD 1 .dead).cells.getD 8 .top).toB) (((s.mem.getD 1 .dead).cells.getD 9 .top).toI) (((s.mem.getD 1 .dead).cells.getD 10 .top).toI) (((s.mem.getD 1 .dead).cells.getD 11 .top).toB) (((s.mem.getD 1 .dead).cells.getD 12 .top).toB) (((s.mem.getD 1 .dead).cells.getD 13 .top).toI) (((s.mem.getD 1 .dead).cells.getD 14 .top).toI) (((s.mem.getD 1 .dead).cells.getD 15 .top).toI) (((s.mem.getD 1 .dead).cells.getD 16 .top).toI) (((s.mem.getD 1 .dead).cells.getD 17 .top).toB) (((s.mem.getD 1 .dead).cells.getD 18 .top).toB) (((s.mem.getD 1 .dead).cells.getD 19 .top).toI) (((s.mem.getD 1 .dead).cells.getD 20 .top).toI) (((s.mem.getD 1 .dead).cells.getD 21 .top).toI)
def sgJ7a6 : LSh := ⟨[(3, .one (.ptr 0 0 0)), (4, .one (.ptr 1 0 0))], [.var [.any, .any, .any, .any, .any] [.cell (.slice 58), .cell (.slice 74), .cell (.slice 45), .cell (.slice 113), .cell (.slice 117)], .var [.int .u8, .str, .int .i64, .int .u8, .int .i64, .int .i64, .any, .int .i64, .bool, .int .i64, .int .i64, .bool, .bool, .int .u8, .int .i64, .int .i64, .int .i64, .bool, .bool, .int .i64, .int .i64, .int .i64] [.cell (.int .u8), .cell (.str), .cell (.int .i64), .cell (.int .u8), .cell (.int .i64), .cell (.int .i64), .cell (.slice 90), .cell (.int .i64), .cell (.bool), .cell (.int .i64), .cell (.int .i64), .cell (.bool), .cell (.bool), .cell (.int .u8), .cell (.int .i64), .cell (.int .i64), .cell (.int .i64), .cell (.bool), .cell (.bool), .cell (.int .i64), .cell (.int .i64), .cell (.int .i64)]]⟩
def ceJ7a6 : List Cv := []
def seJ7a6 : St → List Nat := fun st => [(Eng.look st.env 3).id, (Eng.look st.env 4).id]
def xJ7a6wnx : XSh OJ7a6 := ⟨[], ⟨[], [.var [.any, .any, .any, .any, .any] [.cell (.slice 58), .cell (.slice 74), .cell (.slice 45), .cell (.slice 113), .cell (.slice 117)], .var [.int .u8, .str, .int .i64, .int .u8, .int .i64, .int .i64, .any, .int .i64, .bool, .int .i64, .int .i64, .bool, .bool, .int .u8, .int .i64, .int .i64, .int .i64, .bool, .bool, .int .i64, .int .i64, .int .i64] [.cell (.int .u8), .cell (.str), .cell (.int .i64), .cell (.int .u8), .cell (.int .i64), .cell (.int .i64), .cell (.slice 90), .cell (.int .i64), .cell (.bool), .cell (.int .i64), .cell (.int .i64), .cell (.bool), .cell (.bool), .cell (.int .u8), .cell (.int .i64), .cell (.int .i64), .cell (.int .i64), .cell (.bool), .cell (.bool), .cell (.int .i64), .cell (.int .i64), .cell (.int .i64)]]⟩, fun st => [0, 1], fun s => .nx (((s.mem.getD 0 .dead).cells.getD 0 .top).rows) (((s.mem.getD 0 .dead).cells.getD 1 .top).rows) (((s.mem.getD 0 .dead).cells.getD 2 .top).rows) (((s.mem.getD 0 .dead).cells.getD 3 .top).rows) (((s.mem.getD 0 .dead).cells.getD 4 .top).rows) (((s.mem.getD 1 .dead).cells.getD 0 .top).toI) (((s.mem.getD 1 .dead).cells.getD 1 .top).toS) (((s.mem.getD 1 .dead).cells.getD 2 .top).toI) (((s.mem.getD 1 .dead).cells.getD 3 .top).toI) (((s.mem.getD 1 .dead).cells.getD 4 .top).toI) (((s.mem.getD 1 .dead).cells.getD 5 .top).toI) (((s.mem.getD 1 .dead).cells.getD 6 .top).rows) (((s.mem.getD 1 .dead).cells.getD 7 .top).toI) (((s.mem.getD 1 .dead).cells.getD 8 .top).toB) (((s.mem.getD 1 .dead).cells.getD 9 .top).toI) (((s.mem.getD 1 .dead).cells.getD 10 .top).toI) (((s.mem.getD 1 .dead).cells.getD 11 .top).toB) (((s.mem.getD 1 .dead).cells.getD 12 .top).toB) (((s.mem.getD 1 .dead).cells.getD 13 .top).toI) (((s.mem.getD 1 .dead).cells.getD 14 .top).toI) (((s.mem.getD 1 .dead).cells.getD 15 .top).toI) (((s.mem.getD 1 .dead).cells.getD 16 .top).toI) (((s.mem.getD 1 .dead).cells.getD 17 .top).toB) (((s.mem.getD 1 .dead).cells.getD 18 .top).toB) (((s.mem.getD 1 .dead).cells.getD 19 .top).toI) (((s.mem.getD 1 .dead).cells.getD 20 .top).toI) (((s.mem.getD 1 .dead).cells.getD 21 .top).toI)⟩
def xJ7a6wret : XSh OJ7a6 := ⟨[], ⟨[(6, .one (.cell (.bool)))], [.var [.any, .any, .any, .any, .any] [.cell (.slice 58), .cell (.slice 74), .cell (.slice 45), .cell (.slice 113), .cell (.slice 117)], .var [.int .u8, .str, .int .i64, .int .u8, .int .i64, .int .i64, .any, .int .i64, .bool, .int .i64, .int .i64, .bool, .bool, .int .u8, .int .i64, .int .i64, .int .i64, .bool, .bool, .int .i64, .int .i64, .int .i64] [.cell (.int .u8), .cell (.str), .cell (.int .i64), .cell (.int .u8), .cell (.int .i64), .cell (.int .i64), .cell (.slice 90), .cell (.int .i64), .cell (.bool), .cell (.int .i64), .cell (.int .i64), .cell (.bool), .cell (.bool), .cell (.int .u8), .cell (.int .i64), .cell (.int .i64), .cell (.int .i64), .cell (.bool), .cell (.bool), .cell (.int .i64), .cell (.int .i64), .cell (.int .i64)]]⟩, fun st => [0, 1], fun s => .ret ((Eng.look s.env 6).toB) (((s.mem.getD 0 .dead).cells.getD 0 .top).rows) (((s.mem.getD 0 .dead).cells.getD 1 .top).rows) (((s.mem.getD 0 .dead).cells.getD 2 .top).rows) (((s.mem.getD 0 .dead).cells.getD 3 .top).rows) (((s.mem.getD 0 .dead).cells.getD 4 .top).rows) (((s.mem.getD 1 .dead).cells.getD 0 .top).toI) (((s.mem.getD 1 .dead).cells.getD 1 .top).toS) (((s.mem.getD 1 .dead).cells.getD 2 .top).toI) (((s.mem.getD 1 .dead).cells.getD 3 .top).toI) (((s.mem.getD 1 .dead).cells.getD 4 .top).toI) (((s.mem.getD 1 .dead).cells.getD 5 .top).toI) (((s.mem.getD 1 .dead).cells.getD 6 .top).rows) (((s.mem.getD 1 .dead).cells.getD 7 .top).toI) (((s.mem.getD 1 .dead).cells.getD 8 .top).toB) (((s.mem.getD 1 .dead).cells.getD 9 .top).toI) (((s.mem.getD 1 .dead).cells.getD 10 .top).toI) (((s.mem.getD 1 .dead).cells.getD 11 .top).toB) (((s.mem.getD 1 .dead).cells.getD 12 .top).toB) (((s.mem.getD 1 .dead).cells.getD 13 .top).toI) (((s.mem.getD 1 .dead).cells.getD 14 .top).toI) (((s.mem.getD 1 .dead).cells.getD 15 .top).toI) (((s.mem.getD 1 .dead).cells.getD 16 .top).toI) (((s.mem.getD 1 .dead).cells.getD 17 .top).toB) (((s.mem.getD 1 .dead).cells.getD 18 .top).toB) (((s.mem.getD 1 .dead).cells.getD 19 .top).toI) (((s.mem.getD 1 .dead).cells.getD 20 .top).toI) (((s.mem.getD 1 .dead).cells.getD 21 .top).toI)⟩
def xsJ7a6 : Ex → St → Option (XSh OJ7a6) := fun e st => match e with
  | .normal => some xJ7a6wnx
  | .ret => some xJ7a6wret
  | _ => none
def exJ7a6 (o : OJ7a6) : Ex := match o with | .nx b0c0 b0c1 b0c2 b0c3 b0c4 b1c0 b1c1 b1c2 b1c3 b1c4 b1c5 b1c6 b1c7 b1c8 b1c9 b1c10 b1c11 b1c12 b1c13 b1c14 b1c15 b1c16 b1c17 b1c18 b1c19 b1c20 b1c21 => .normal | .ret x6 b0c0 b0c1 b0c2 b0c3 b0c4 b1c0 b1c1 b1c2 b1c3 b1c4 b1c5 b1c6 b1c7 b1c8 b1c9 b1c10 b1c11 b1c12 b1c13 b1c14 b1c15 b1c16 b1c17 b1c18 b1c19 b1c20 b1c21 => .ret
def stJ7a6 (o : OJ7a6) : St := match o with | .nx b0c0 b0c1 b0c2 b0c3 b0c4 b1c0 b1c1 b1c2 b1c3 b1c4 b1c5 b1c6 b1c7 b1c8 b1c9 b1c10 b1c11 b1c12 b1c13 b1c14 b1c15 b1c16 b1c17 b1c18 b1c19 b1c20 b1c21 => ⟨[], [.var [.any, .any, .any, .any, .any] [.list 58 b0c0, .list 74 b0c1, .list 45 b0c2, .list 113 b0c3, .list 117 b0c4], .var [.int .u8, .str, .int .i64, .int .u8, .int .i64, .int .i64, .any, .int .i64, .bool, .int .i64, .int .i64, .bool, .bool, .int .u8, .int .i64, .int .i64, .int .i64, .bool, .bool, .int .i64, .int .i64, .int .i64] [.int .u8 b1c0, .str b1c1, .int .i64 b1c2, .int .u8 b1c3, .int .i64 b1c4, .int .i64 b1c5, .list 90 b1c6, .int .i64 b1c7, .bool b1c8, .int .i64 b1c9, .int .i64 b1c10, .bool b1c11, .bool b1c12, .int .u8 b1c13, .int .i64 b1c14, .int .i64 b1c15, .int .i64 b1c16, .bool b1c17, .bool b1c18, .int .i64 b1c19, .int .i64 b1c20, .int .i64 b1c21]], [], .unk⟩ | .ret x6 b0c0 b0c1 b0c2 b0c3 b0c4 b1c0 b1c1 b1c2 b1c3 b1c4 b1c5 b1c6 b1c7 b1c8 b1c9 b1c10 b1c11 b1c12 b1c13 b1c14 b1c15 b1c16 b1c17 b1c18 b1c19 b1c20 b1c21 => ⟨[(6, .bool x6)], [.var [.any, .any, .any, .any, .any] [.list 58 b0c0, .list 74 b0c1, .list 45 b0c2, .list 113 b0c3, .list 117 b0c4], .var [.int .u8, .str, .int .i64, .int .u8, .int .i64, .int .i64, .any, .int .i64, .bool, .int .i64, .int .i64, .bool, .bool, .int .u8, .int .i64, .int .i64, .int .i64, .bool, .bool, .int .i64, .int .i64, .int .i64] [.int .u8 b1c0, .str b1c1, .int .i64 b1c2, .int .u8 b1c3, .int .i64 b1c4, .int .i64 b1c5, .list 90 b1c6, .int .i64 b1c7, .bool b1c8, .int .i64 b1c9, .int .i64 b1c10, .bool b1c11, .bool b1c12, .int .u8 b1c13, .int .i64 b1c14, .int .i64 b1c15, .int .i64 b1c16, .bool b1c17, .bool b1c18, .int .i64 b1c19, .int .i64 b1c20, .int .i64 b1c21]], [], .unk⟩
def elJ7a6 {R : Type} (o : OJ7a6) (k : Ex → St → Option R) : Option R := match o with | .nx b0c0 b0c1 b0c2 b0c3 b0c4 b1c0 b1c1 b1c2 b1c3 b1c4 b1c5 b1c6 b1c7 b1c8 b1c9 b1c10 b1c11 b1c12 b1c13 b1c14 b1c15 b1c16 b1c17 b1c18 b1c19 b1c20 b1c21 => k .normal ⟨[], [.var [.any, .any, .any, .any, .any] [.list 58 b0c0, .list 74 b0c1, .list 45 b0c2, .list 113 b0c3, .list 117 b0c4], .var [.int .u8, .str, .int .i64, .int .u8, .int .i64, .int .i64, .any, .int .i64, .bool, .int .i64, .int .i64, .bool, .bool, .int .u8, .int .i64, .int .i64, .int .i64, .bool, .bool, .int .i64, .int .i64, .int .i64] [.int .u8 b1c0, .str b1c1, .int .i64 b1c2, .int .u8 b1c3, .int .i64 b1c4, .int .i64 b1c5, .list 90 b1c6, .int .i64 b1c7, .bool b1c8, .int .i64 b1c9, .int .i64 b1c10, .bool b1c11, .bool b1c12, .int .u8 b1c13, .int .i64 b1c14, .int .i64 b1c15, .int .i64 b1c16, .bool b1c17, .bool b1c18, .int .i64 b1c19, .int .i64 b1c20, .int .i64 b1c21]], [], .unk⟩ | .ret x6 b0c0 b0c1 b0c2 b0c3 b0c4 b1c0 b1c1 b1c2 b1c3 b1c4 b1c5 b1c6 b1c7 b1c8 b1c9 b1c10 b1c11 b1c12 b1c13 b1c14 b1c15 b1c16 b1c17 b1c18 b1c19 b1c20 b1c21 => k .ret ⟨[(6, .bool x6)], [.var [.any, .any, .any, .any, .any] [.list 58 b0c0, .list 74 b0c1, .list 45 b0c2, .list 113 b0c3, .list 117 b0c4], .var [.int .u8, .str, .int .i64, .int .u8, .int .i64, .int .i64, .any, .int .i64, .bool, .int .i64, .int .i64, .bool, .bool, .int .u8, .int .i64, .int .i64, .int .i64, .bool, .bool, .int .i64, .int .i64, .int .i64] [.int .u8 b1c0, .str b1c1, .int .i64 b1c2, .int .u8 b1c3, .int .i64 b1c4, .int .i64 b1c5, .list 90 b1c6, .int .i64 b1c7, .bool b1c8, .int .i64 b1c9, .int .i64 b1c10, .bool b1c11, .bool b1c12, .int .u8 b1c13, .int .i64 b1c14, .int .i64 b1c15, .int .i64 b1c16, .bool b1c17, .bool b1c18, .int .i64 b1c19, .int .i64 b1c20, .int .i64 b1c21]], [], .unk⟩
theorem heJ7a6 {R : Type} (o : OJ7a6) (k : Ex → St → Option R) : elJ7a6 o k = k (exJ7a6 o) (stJ7a6 o) := by cases o <;> rfl
theorem hxJ7a6 : ∀ e st x, xsJ7a6 e st = some x → outOk x e exJ7a6 stJ7a6 := by
  intro e st x h
  unfold xsJ7a6 at h
  repeat' split at h
  all_goals first
    | (injection h with h; subst h; exact fun lk M => ⟨rfl, rfl⟩)
    | cases h
noncomputable def T7uc6 (N : Nat) (R : Type) : LTab R := mkTab ⟨96, 134217280⟩ (csF7 N R) (noY) [] [] []
theorem okT7uc6 (N : Nat) (R : Type) : (T7uc6 N R).Ok CX code7 := mkTab_ok (hcsF7 N R) (noY_ok) (trivial) (trivial) (trivial)
noncomputable def bdJ7a6 : Code := (codeAt code7 [false, true]).getD .skip
theorem hsJ7a6 (N : Nat) : ∀ (lk : Nat → AV) (M : List Blk), LFJ7a6 N (canS sgJ7a6 lk M) = evk CX (T7uc6 N OJ7a6) bdJ7a6 6 (canS sgJ7a6 lk M) (kontX CX 2 xsJ7a6) := by intro lk M; kernel_rfl
inductive OJ7a254 where
  | nx (b0c0 : List Row) (b0c1 : List Row) (b0c2 : List Row) (b0c3 : List Row) (b0c4 : List Row) (b1c0 : Int) (b1c1 : ByteArray) (b1c2 : Int) (b1c3 : Int) (b1c4 : Int) (b1c5 : Int) (b1c6 : List Row) (b1c7 : Int) (b1c8 : Bool) (b1c9 : Int) (b1c10 : Int) (b1c11 : Bool) (b1c12 : Bool) (b1c13 : Int) (b1c14 : Int) (b1c15 : Int) (b1c16 : Int) (b1c17 : Bool) (b1c18 : Bool) (b1c19 : Int) (b1c20 : Int) (b1c21 : Int) (b2c0 : List Row) (b2c1 : List Row) (b2c3 : List Row) (b2c4 : List Row) (b3 : List Row)
  | ret (x6 : Bool) (b0c0 : List Row) (b0c1 : List Row) (b0c2 : List Row) (b0c3 : List Row) (b0c4 : List Row) (b1c0 : Int) (b1c1 : ByteArray) (b1c2 : Int) (b1c3 : Int) (b1c4 : Int) (b1c5 : Int) (b1c6 : List Row) (b1c7 : Int) (b1c8 : Bool) (b1c9 : Int) (b1c10 : Int) (b1c11 : Bool) (b1c12 : Bool) (b1c13 : Int) (b1c14 : Int) (b1c15 : Int) (b1c16 : Int) (b1c17 : Bool) (b1c18 : Bool) (b1c19 : Int) (b1c20 : Int) (b1c21 : Int) (b2c0 : List Row) (b2c1 : List Row) (b2c3 : List Row) (b2c4 : List Row) (b3 : List Row)
def J7a254 (N : Nat) : Int → List Row → List Row → List Row → List Row → List Row → Int → ByteArray → Int → Int → Int → Int → List Row → Int → Bool → Int → Int → Bool → Bool → Int → Int → Int → Int → Bool → Bool → Int → Int → Int → List Row → List Row → List Row → List Row → List Row → Option OJ7a254 := fun x8 b0c0 b0c1 b0c2 b0c3 b0c4 b1c0 b1c1 b1c2 b1c3 b1c4 b1c5 b1c6 b1c7 b1c8 b1c9 b1c10 b1c11 b1c12 b1c13 b1c14 b1c15 b1c16 b1c17 b1c18 b1c19 b1c20 b1c21 b2c0 b2c1 b2c3 b2c4 b3 =>
    match decide (b1c2 < (0 : Int)) with
    | true =>
      tst (decide (((b3.length + 1) * 176) ≤ 140737488355328)) <|
      match x8 == (-1 : Int) with
      | true =>
        match F14v2 N b2c0 b2c1 b2c3 b2c4 (b3 ++ (([[.int .u8 b1c0, .str b1c1, .int .i64 b1c2, .int .u8 b1c3, .int .i64 b1c4, .int .i64 b1c5, .list 90 b1c6, .int .i64 b1c7, .bool b1c8, .int .i64 b1c9, .int .i64 b1c10, .bool b1c11, .bool b1c12, .int .u8 b1c13, .int .i64 b1c14, .int .i64 b1c15, .int .i64 b1c16, .bool b1c17, .bool b1c18, .int .i64 b1c19, .int .i64 b1c20, .int .i64 b1c21]] : List Row))) with
        | none => none
        | some (.r rx0v9 rb0v9) =>
          match !rx0v9 with
          | true =>
            match F9 N  with
            | none => none
            | some (.r rx0v10) =>
              some (.ret rx0v10 b0c0 b0c1 b0c2 b0c3 b0c4 b1c0 b1c1 b1c2 b1c3 b1c4 b1c5 b1c6 b1c7 b1c8 b1c9 b1c10 b1c11 b1c12 b1c13 b1c14 b1c15 b1c16 b1c17 b1c18 b1c19 b1c20 b1c21 b2c0 b2c1 b2c3 b2c4 rb0v9)
          | false =>
            some (.ret false b0c0 b0c1 b0c2 b0c3 b0c4 b1c0 b1c1 b1c2 b1c3 b1c4 b1c5 b1c6 b1c7 b1c8 b1c9 b1c10 b1c11 b1c12 b1c13 b1c14 b1c15 b1c16 b1c17 b1c18 b1c19 b1c20 b1c21 b2c0 b2c1 b2c3 b2c4 rb0v9)
      | false =>
        some (.ret false b0c0 b0c1 b0c2 b0c3 b0c4 b1c0 b1c1 b1c2 b1c3 b1c4 b1c5 b1c6 b1c7 b1c8 b1c9 b1c10 b1c11 b1c12 b1c13 b1c14 b1c15 b1c16 b1c17 b1c18 b1c19 b1c20 b1c21 b2c0 b2c1 b2c3 b2c4 (b3 ++ (([[.int .u8 b1c0, .str b1c1, .int .i64 b1c2, .int .u8 b1c3, .int .i64 b1c4, .int .i64 b1c5, .list 90 b1c6, .int .i64 b1c7, .bool b1c8, .int .i64 b1c9, .int .i64 b1c10, .bool b1c11, .bool b1c12, .int .u8 b1c13, .int .i64 b1c14, .int .i64 b1c15, .int .i64 b1c16, .bool b1c17, .bool b1c18, .int .i64 b1c19, .int .i64 b1c20, .int .i64 b1c21]] : List Row))))
    | false =>
      match decide (((b0c2.length : Int)) ≤ b1c2) with
      | true =>
        tst (decide (((b3.length + 1) * 176) ≤ 140737488355328)) <|
        match x8 == (-1 : Int) with
        | true =>
          match F14v2 N b2c0 b2c1 b2c3 b2c4 (b3 ++ (([[.int .u8 b1c0, .str b1c1, .int .i64 b1c2, .int .u8 b1c3, .int .i64 b1c4, .int .i64 b1c5, .list 90 b1c6, .int .i64 b1c7, .bool b1c8, .int .i64 b1c9, .int .i64 b1c10, .bool b1c11, .bool b1c12, .int .u8 b1c13, .int .i64 b1c14, .int .i64 b1c15, .int .i64 b1c16, .bool b1c17, .bool b1c18, .int .i64 b1c19, .int .i64 b1c20, .int .i64 b1c21]] : List Row))) with
          | none => none
          | some (.r rx0v11 rb0v11) =>
            match !rx0v11 with
            | true =>
              match F9 N  with
              | none => none
              | some (.r rx0v12) =>
                some (.ret rx0v12 b0c0 b0c1 b0c2 b0c3 b0c4 b1c0 b1c1 b1c2 b1c3 b1c4 b1c5 b1c6 b1c7 b1c8 b1c9 b1c10 b1c11 b1c12 b1c13 b1c14 b1c15 b1c16 b1c17 b1c18 b1c19 b1c20 b1c21 b2c0 b2c1 b2c3 b2c4 rb0v11)
            | false =>
              some (.ret false b0c0 b0c1 b0c2 b0c3 b0c4 b1c0 b1c1 b1c2 b1c3 b1c4 b1c5 b1c6 b1c7 b1c8 b1c9 b1c10 b1c11 b1c12 b1c13 b1c14 b1c15 b1c16 b1c17 b1c18 b1c19 b1c20 b1c21 b2c0 b2c1 b2c3 b2c4 rb0v11)
        | false =>
          some (.ret false b0c0 b0c1 b0c2 b0c3 b0c4 b1c0 b1c1 b1c2 b1c3 b1c4 b1c5 b1c6 b1c7 b1c8 b1c9 b1c10 b1c11 b1c12 b1c13 b1c14 b1c15 b1c16 b1c17 b1c18 b1c19 b1c20 b1c21 b2c0 b2c1 b2c3 b2c4 (b3 ++ (([[.int .u8 b1c0, .str b1c1, .int .i64 b1c2, .int .u8 b1c3, .int .i64 b1c4, .int .i64 b1c5, .list 90 b1c6, .int .i64 b1c7, .bool b1c8, .int .i64 b1c9, .int .i64 b1c10, .bool b1c11, .bool b1c12, .int .u8 b1c13, .int .i64 b1c14, .int .i64 b1c15, .int .i64 b1c16, .bool b1c17, .bool b1c18, .int .i64 b1c19, .int .i64 b1c20, .int .i64 b1c21]] : List Row))))
      | false =>
        some (.nx b0c0 b0c1 b0c2 b0c3 b0c4 b1c0 b1c1 b1c2 b1c3 b1c4 b1c5 b1c6 b1c7 b1c8 b1c9 b1c10 b1c11 b1c12 b1c13 b1c14 b1c15 b1c16 b1c17 b1c18 b1c19 b1c20 b1c21 b2c0 b2c1 b2c3 b2c4 b3)
def LFJ7a254 (N : Nat) (s : St) : Option OJ7a254 := J7a254 N ((Eng.look s.env 8).toI) (((s.mem.getD 0 .dead).cells.getD 0 .top).rows) (((s.mem.getD 0 .dead).cells.getD 1 .top).rows) (((s.mem.getD 0 .dead).cells.getD 2 .top).rows) (((s.mem.getD 0 .dead).cells.getD 3 .top).rows) (((s.mem.getD 0 .dead).cells.getD 4 .top).rows) (((s.mem.getD 1 .dead).cells.getD 0 .top).toI) (((s.mem.getD 1 .dead).cells.getD 1 .top).toS) (((s.mem.getD 1 .dead).cells.getD 2 .top).toI) (((s.mem.getD 1 .dead).cells.getD 3 .top).toI) (((s.mem.getD 1 .dead).cells.getD 4 .top).toI) (((s.mem.getD 1 .dead).cells.getD 5 .top).toI) (((s.mem.getD 1 .dead).cells.getD 6 .top).rows) (((s.mem.getD 1 .dead).cells.getD 7 .top).toI) (((s.mem.getD 1 .dead).cells.getD 8 .top).toB) (((s.mem.getD 1 .dead).cells.getD 9 .top).toI) (((s.mem.getD 1 .dead).cells.getD 10 .top).toI) (((s.mem.getD 1 .dead).cells.getD 11 .top).toB) (((s.mem.getD 1 .dead).cells.getD 12 .top).toB) (((s.mem.getD 1 .dead).cells.getD 13 .top).toI) (((s.mem.getD 1 .dead).cells.getD 14 .top).toI) (((s.mem.getD 1 .dead).cells.getD 15 .top).toI) (((s.mem.getD 1 .dead).cells.getD 16 .top).toI) (((s.mem.getD 1 .dead).cells.getD 17 .top).toB) (((s.mem.getD 1 .dead).cells.getD 18 .top).toB) (((s.mem.getD 1 .dead).cells.getD 19 .top).toI) (((s.mem.getD 1 .dead).cells.getD 20 .top).toI) (((s.mem.getD 1 .dead).cells.getD 21 .top).toI) (((s.mem.getD 2 .dead).cells.getD 0 .top).rows) (((s.mem.getD 2 .dead).cells.getD 1 .top).rows) (((s.mem.getD 2 .dead).cells.getD 3 .top).rows) (((s.mem.getD 2 .dead).cells.getD 4 .top).rows) ((s.mem.getD 3 .dead).rows)
def sgJ7a254 : LSh := ⟨[(3, .one (.ptr 0 0 0)), (4, .one (.ptr 1 0 0)), (7, .one (.ptr 2 0 0)), (8, .one (.cell (.int .i64)))], [.var [.any, .any, .any, .any, .any] [.cell (.slice 58), .cell (.slice 74), .cell (.slice 45), .cell (.slice 113), .cell (.slice 117)], .var [.int .u8, .str, .int .i64, .int .u8, .int .i64, .int .i64, .any, .int .i64, .bool, .int .i64, .int .i64, .bool, .bool, .int .u8, .int .i64, .int .i64, .int .i64, .bool, .bool, .int .i64, .int .i64, .int .i64] [.cell (.int .u8), .cell (.str), .cell (.int .i64), .cell (.int .u8), .cell (.int .i64), .cell (.int .i64), .cell (.slice 90), .cell (.int .i64), .cell (.bool), .cell (.int .i64), .cell (.int .i64), .cell (.bool), .cell (.bool), .cell (.int .u8), .cell (.int .i64), .cell (.int .i64), .cell (.int .i64), .cell (.bool), .cell (.bool), .cell (.int .i64), .cell (.int .i64), .cell (.int .i64)], .var [.any, .any, .any, .any, .any] [.cell (.slice 58), .cell (.slice 74), .own 3, .cell (.slice 113), .cell (.slice 117)], .row 45]⟩
def ceJ7a254 : List Cv := []
def seJ7a254 : St → List Nat := fun st => [(Eng.look st.env 3).id, (Eng.look st.env 4).id, (Eng.look st.env 7).id, ((st.mem.getD ((Eng.look st.env 7).id) .dead).cells.getD 2 .top).id]
def xJ7a254wnx : XSh OJ7a254 := ⟨[], ⟨[], [.var [.any, .any, .any, .any, .any] [.cell (.slice 58), .cell (.slice 74), .cell (.slice 45), .cell (.slice 113), .cell (.slice 117)], .var [.int .u8, .str, .int .i64, .int .u8, .int .i64, .int .i64, .any, .int .i64, .bool, .int .i64, .int .i64, .bool, .bool, .int .u8, .int .i64, .int .i64, .int .i64, .bool, .bool, .int .i64, .int .i64, .int .i64] [.cell (.int .u8), .cell (.str), .cell (.int .i64), .cell (.int .u8), .cell (.int .i64), .cell (.int .i64), .cell (.slice 90), .cell (.int .i64), .cell (.bool), .cell (.int .i64), .cell (.int .i64), .cell (.bool), .cell (.bool), .cell (.int .u8), .cell (.int .i64), .cell (.int .i64), .cell (.int .i64), .cell (.bool), .cell (.bool), .cell (.int .i64), .cell (.int .i64), .cell (.int .i64)], .var [.any, .any, .any, .any, .any] [.cell (.slice 58), .cell (.slice 74), .own 3, .cell (.slice 113), .cell (.slice 117)], .row 45]⟩, fun st => [0, 1, 2, ((st.mem.getD 2 .dead).cells.getD 2 .top).id], fun s => .nx (((s.mem.getD 0 .dead).cells.getD 0 .top).rows) (((s.mem.getD 0 .dead).cells.getD 1 .top).rows) (((s.mem.getD 0 .dead).cells.getD 2 .top).rows) (((s.mem.getD 0 .dead).cells.getD 3 .top).rows) (((s.mem.getD 0 .dead).cells.getD 4 .top).rows) (((s.mem.getD 1 .dead).cells.getD 0 .top).toI) (((s.mem.getD 1 .dead).cells.getD 1 .top).toS) (((s.mem.getD 1 .dead).cells.getD 2 .top).toI) (((s.mem.getD 1 .dead).cells.getD 3 .top).toI) (((s.mem.getD 1 .dead).cells.getD 4 .top).toI) (((s.mem.getD 1 .dead).cells.getD 5 .top).toI) (((s.mem.getD 1 .dead).cells.getD 6 .top).rows) (((s.mem.getD 1 .dead).cells.getD 7 .top).toI) (((s.mem.getD 1 .dead).cells.getD 8 .top).toB) (((s.mem.getD 1 .dead).cells.getD 9 .top).toI) (((s.mem.getD 1 .dead).cells.getD 10 .top).toI) (((s.mem.getD 1 .dead).cells.getD 11 .top).toB) (((s.mem.getD 1 .dead).cells.getD 12 .top).toB) (((s.mem.getD 1 .dead).cells.getD 13 .top).toI) (((s.mem.getD 1 .dead).cells.getD 14 .top).toI) (((s.mem.getD 1 .dead).cells.getD 15 .top).toI) (((s.mem.getD 1 .dead).cells.getD 16 .top).toI) (((s.mem.getD 1 .dead).cells.getD 17 .top).toB) (((s.mem.getD 1 .dead).cells.getD 18 .top).toB) (((s.mem.getD 1 .dead).cells.getD 19 .top).toI) (((s.mem.getD 1 .dead).cells.getD 20 .top).toI) (((s.mem.getD 1 .dead).cells.getD 21 .top).toI) (((s.mem.getD 2 .dead).cells.getD 0 .top).rows) (((s.mem.getD 2 .dead).cells.getD 1 .top).rows) (((s.mem.getD 2 .dead).cells.getD 3 .top).rows) (((s.mem.getD 2 .dead).cells.getD 4 .top).rows) ((s.mem.getD 3 .dead).rows)⟩
def xJ7a254wret : XSh OJ7a254 := ⟨[], ⟨[(6, .one (.cell (.bool)))], [.var [.any, .any, .any, .any, .any] [.cell (.slice 58), .cell (.slice 74), .cell (.slice 45), .cell (.slice 113), .cell (.slice 117)], .var [.int .u8, .str, .int .i64, .int .u8, .int .i64, .int .i64, .any, .int .i64, .bool, .int .i64, .int .i64, .bool, .bool, .int .u8, .int .i64, .int .i64, .int .i64, .bool, .bool, .int .i64, .int .i64, .int .i64] [.cell (.int .u8), .cell (.str), .cell (.int .i64), .cell (.int .u8), .cell (.int .i64), .cell (.int .i64), .cell (.slice 90), .cell (.int .i64), .cell (.bool), .cell (.int .i64), .cell (.int .i64), .cell (.bool), .cell (.bool), .cell (.int .u8), .cell (.int .i64), .cell (.int .i64), .cell (.int .i64), .cell (.bool), .cell (.bool), .cell (.int .i64), .cell (.int .i64), .cell (.int .i64)], .var [.any, .any, .any, .any, .any] [.cell (.slice 58), .cell (.slice 74), .own 3, .cell (.slice 113), .cell (.slice 117)], .row 45]⟩, fun st => [0, 1, 2, ((st.mem.getD 2 .dead).cells.getD 2 .top).id], fun s => .ret ((Eng.look s.env 6).toB) (((s.mem.getD 0 .dead).cells.getD 0 .top).rows) (((s.mem.getD 0 .dead).cells.getD 1 .top).rows) (((s.mem.getD 0 .dead).cells.getD 2 .top).rows) (((s.mem.getD 0 .dead).cells.getD 3 .top).rows) (((s.mem.getD 0 .dead).cells.getD 4 .top).rows) (((s.mem.getD 1 .dead).cells.getD 0 .top).toI) (((s.mem.getD 1 .dead).cells.getD 1 .top).toS) (((s.mem.getD 1 .dead).cells.getD 2 .top).toI) (((s.mem.getD 1 .dead).cells.getD 3 .top).toI) (((s.mem.getD 1 .dead).cells.getD 4 .top).toI) (((s.mem.getD 1 .dead).cells.getD 5 .top).toI) (((s.mem.getD 1 .dead).cells.getD 6 .top).rows) (((s.mem.getD 1 .dead).cells.getD 7 .top).toI) (((s.mem.getD 1 .dead).cells.getD 8 .top).toB) (((s.mem.getD 1 .dead).cells.getD 9 .top).toI) (((s.mem.getD 1 .dead).cells.getD 10 .top).toI) (((s.mem.getD 1 .dead).cells.getD 11 .top).toB) (((s.mem.getD 1 .dead).cells.getD 12 .top).toB) (((s.mem.getD 1 .dead).cells.getD 13 .top).toI) (((s.mem.getD 1 .dead).cells.getD 14 .top).toI) (((s.mem.getD 1 .dead).cells.getD 15 .top).toI) (((s.mem.getD 1 .dead).cells.getD 16 .top).toI) (((s.mem.getD 1 .dead).cells.getD 17 .top).toB) (((s.mem.getD 1 .dead).cells.getD 18 .top).toB) (((s.mem.getD 1 .dead).cells.getD 19 .top).toI) (((s.mem.getD 1 .dead).cells.getD 20 .top).toI) (((s.mem.getD 1 .dead).cells.getD 21 .top).toI) (((s.mem.getD 2 .dead).cells.getD 0 .top).rows) (((s.mem.getD 2 .dead).cells.getD 1 .top).rows) (((s.mem.getD 2 .dead).cells.getD 3 .top).rows) (((s.mem.getD 2 .dead).cells.getD 4 .top).rows) ((s.mem.getD 3 .dead).rows)⟩
def xsJ7a254 : Ex → St → Option (XSh OJ7a254) := fun e st => match e with
  | .normal => some xJ7a254wnx
  | .ret => some xJ7a254wret
  | _ => none
def exJ7a254 (o : OJ7a254) : Ex := match o with | .nx b0c0 b0c1 b0c2 b0c3 b0c4 b1c0 b1c1 b1c2 b1c3 b1c4 b1c5 b1c6 b1c7 b1c8 b1c9 b1c10 b1c11 b1c12 b1c13 b1c14 b1c15 b1c16 b1c17 b1c18 b1c19 b1c20 b1c21 b2c0 b2c1 b2c3 b2c4 b3 => .normal | .ret x6 b0c0 b0c1 b0c2 b0c3 b0c4 b1c0 b1c1 b1c2 b1c3 b1c4 b1c5 b1c6 b1c7 b1c8 b1c9 b1c10 b1c11 b1c12 b1c13 b1c14 b1c15 b1c16 b1c17 b1c18 b1c19 b1c20 b1c21 b2c0 b2c1 b2c3 b2c4 b3 => .ret
def stJ7a254 (o : OJ7a254) : St := match o with | .nx b0c0 b0c1 b0c2 b0c3 b0c4 b1c0 b1c1 b1c2 b1c3 b1c4 b1c5 b1c6 b1c7 b1c8 b1c9 b1c10 b1c11 b1c12 b1c13 b1c14 b1c15 b1c16 b1c17 b1c18 b1c19 b1c20 b1c21 b2c0 b2c1 b2c3 b2c4 b3 => ⟨[], [.var [.any, .any, .any, .any, .any] [.list 58 b0c0, .list 74 b0c1, .list 45 b0c2, .list 113 b0c3, .list 117 b0c4], .var [.int .u8, .str, .int .i64, .int .u8, .int .i64, .int .i64, .any, .int .i64, .bool, .int .i64, .int .i64, .bool, .bool, .int .u8, .int .i64, .int .i64, .int .i64, .bool, .bool, .int .i64, .int .i64, .int .i64] [.int .u8 b1c0, .str b1c1, .int .i64 b1c2, .int .u8 b1c3, .int .i64 b1c4, .int .i64 b1c5, .list 90 b1c6, .int .i64 b1c7, .bool b1c8, .int .i64 b1c9, .int .i64 b1c10, .bool b1c11, .bool b1c12, .int .u8 b1c13, .int .i64 b1c14, .int .i64 b1c15, .int .i64 b1c16, .bool b1c17, .bool b1c18, .int .i64 b1c19, .int .i64 b1c20, .int .i64 b1c21], .var [.any, .any, .any, .any, .any] [.list 58 b2c0, .list 74 b2c1, .own 3, .list 113 b2c3, .list 117 b2c4], .row 45 b3], [], .unk⟩ | .ret x6 b0c0 b0c1 b0c2 b0c3 b0c4 b1c0 b1c1 b1c2 b1c3 b1c4 b1c5 b1c6 b1c7 b1c8 b1c9 b1c10 b1c11 b1c12 b1c13 b1c14 b1c15 b1c16 b1c17 b1c18 b1c19 b1c20 b1c21 b2c0 b2c1 b2c3 b2c4 b3 => ⟨[(6, .bool x6)], [.var [.any, .any, .any, .any, .any] [.list 58 b0c0, .list 74 b0c1, .list 45 b0c2, .list 113 b0c3, .list 117 b0c4], .var [.int .u8, .str, .int .i64, .int .u8, .int .i64, .int .i64, .any, .int .i64, .bool, .int .i64, .int .i64, .bool, .bool, .int .u8, .int .i64, .int .i64, .int .i64, .bool, .bool, .int .i64, .int .i64, .int .i64] [.int .u8 b1c0, .str b1c1, .int .i64 b1c2, .int .u8 b1c3, .int .i64 b1c4, .int .i64 b1c5, .list 90 b1c6, .int .i64 b1c7, .bool b1c8, .int .i64 b1c9, .int .i64 b1c10, .bool b1c11, .bool b1c12, .int .u8 b1c13, .int .i64 b1c14, .int .i64 b1c15, .int .i64 b1c16, .bool b1c17, .bool b1c18, .int .i64 b1c19, .int .i64 b1c20, .int .i64 b1c21], .var [.any, .any, .any, .any, .any] [.list 58 b2c0, .list 74 b2c1, .own 3, .list 113 b2c3, .list 117 b2c4], .row 45 b3], [], .unk⟩
def elJ7a254 {R : Type} (o : OJ7a254) (k : Ex → St → Option R) : Option R := match o with | .nx b0c0 b0c1 b0c2 b0c3 b0c4 b1c0 b1c1 b1c2 b1c3 b1c4 b1c5 b1c6 b1c7 b1c8 b1c9 b1c10 b1c11 b1c12 b1c13 b1c14 b1c15 b1c16 b1c17 b1c18 b1c19 b1c20 b1c21 b2c0 b2c1 b2c3 b2c4 b3 => k .normal ⟨[], [.var [.any, .any, .any, .any, .any] [.list 58 b0c0, .list 74 b0c1, .list 45 b0c2, .list 113 b0c3, .list 117 b0c4], .var [.int .u8, .str, .int .i64, .int .u8, .int .i64, .int .i64, .any, .int .i64, .bool, .int .i64, .int .i64, .bool, .bool, .int .u8, .int .i64, .int .i64, .int .i64, .bool, .bool, .int .i64, .int .i64, .int .i64] [.int .u8 b1c0, .str b1c1, .int .i64 b1c2, .int .u8 b1c3, .int .i64 b1c4, .int .i64 b1c5, .list 90 b1c6, .int .i64 b1c7, .bool b1c8, .int .i64 b1c9, .int .i64 b1c10, .bool b1c11, .bool b1c12, .int .u8 b1c13, .int .i64 b1c14, .int .i64 b1c15, .int .i64 b1c16, .bool b1c17, .bool b1c18, .int .i64 b1c19, .int .i64 b1c20, .int .i64 b1c21], .var [.any, .any, .any, .any, .any] [.list 58 b2c0, .list 74 b2c1, .own 3, .list 113 b2c3, .list 117 b2c4], .row 45 b3], [], .unk⟩ | .ret x6 b0c0 b0c1 b0c2 b0c3 b0c4 b1c0 b1c1 b1c2 b1c3 b1c4 b1c5 b1c6 b1c7 b1c8 b1c9 b1c10 b1c11 b1c12 b1c13 b1c14 b1c15 b1c16 b1c17 b1c18 b1c19 b1c20 b1c21 b2c0 b2c1 b2c3 b2c4 b3 => k .ret ⟨[(6, .bool x6)], [.var [.any, .any, .any, .any, .any] [.list 58 b0c0, .list 74 b0c1, .list 45 b0c2, .list 113 b0c3, .list 117 b0c4], .var [.int .u8, .str, .int .i64, .int .u8, .int .i64, .int .i64, .any, .int .i64, .bool, .int .i64, .int .i64, .bool, .bool, .int .u8, .int .i64, .int .i64, .int .i64, .bool, .bool, .int .i64, .int .i64, .int .i64] [.int .u8 b1c0, .str b1c1, .int .i64 b1c2, .int .u8 b1c3, .int .i64 b1c4, .int .i64 b1c5, .list 90 b1c6, .int .i64 b1c7, .bool b1c8, .int .i64 b1c9, .int .i64 b1c10, .bool b1c11, .bool b1c12, .int .u8 b1c13, .int .i64 b1c14, .int .i64 b1c15, .int .i64 b1c16, .bool b1c17, .bool b1c18, .int .i64 b1c19, .int .i64 b1c20, .int .i64 b1c21], .var [.any, .any, .any, .any, .any] [.list 58 b2c0, .list 74 b2c1, .own 3, .list 113 b2c3, .list 117 b2c4], .row 45 b3], [], .unk⟩
theorem heJ7a254 {R : Type} (o : OJ7a254) (k : Ex → St → Option R) : elJ7a254 o k = k (exJ7a254 o) (stJ7a254 o) := by cases o <;> rfl
theorem hxJ7a254 : ∀ e st x, xsJ7a254 e st = some x → outOk x e exJ7a254 stJ7a254 := by
  intro e st x h
  unfold xsJ7a254 at h
  repeat' split at h
  all_goals first
    | (injection h with h; subst h; exact fun lk M => ⟨rfl, rfl⟩)
    | cases h
noncomputable def T7uc254 (N : Nat) (R : Type) : LTab R := mkTab ⟨96, 73786975745082392640⟩ (csF7 N R) (noY) [] [] []
theorem okT7uc254 (N : Nat) (R : Type) : (T7uc254 N R).Ok CX code7 := mkTab_ok (hcsF7 N R) (noY_ok) (trivial) (trivial) (trivial)
noncomputable def bdJ7a254 : Code := (codeAt code7 [false, true, true, true, true, true, true]).getD .skip
theorem hsJ7a254 (N : Nat) : ∀ (lk : Nat → AV) (M : List Blk), LFJ7a254 N (canS sgJ7a254 lk M) = evk CX (T7uc254 N OJ7a254) bdJ7a254 254 (canS sgJ7a254 lk M) (kontX CX 3 xsJ7a254) := by intro lk M; kernel_rfl
noncomputable def T7ur1 (N : Nat) (R : Type) : LTab R := mkTab ⟨96, 79228162514264337593543950335⟩ (csF7 N R) (noY) [] [] [(6, fun st k => callLoop CX 2 134217280 ceJ7a6 sgJ7a6 seJ7a6 ⟨96, 79228162514264337593543950335⟩ (LFJ7a6 N) elJ7a6 st k), (254, fun st k => callLoop CX 3 73786975745082392640 ceJ7a254 sgJ7a254 seJ7a254 ⟨96, 79228162514264337593543950335⟩ (LFJ7a254 N) elJ7a254 st k)]
theorem okT7ur1 (N : Nat) (R : Type) : (T7ur1 N R).Ok CX code7 := mkTab_ok (hcsF7 N R) (noY_ok) (trivial) (trivial) (⟨cut_ok hX (path := [false, true]) (by kernel_rfl) (by rfl) (okT7uc6 N OJ7a6) (hsJ7a6 N) hxJ7a6 rfl heJ7a6, cut_ok hX (path := [false, true, true, true, true, true, true]) (by kernel_rfl) (by rfl) (okT7uc254 N OJ7a254) (hsJ7a254 N) hxJ7a254 rfl heJ7a254, trivial⟩)
def rsF7 : List ResultVar := [.tmp 6]
def F7 : Nat → TF7
  | 0 => fun _ _ _ _ _ _ _ _ _ _ _ _ _ _ _ _ _ _ _ _ _ _ _ _ _ _ _ _ => none
  | N + 1 => fun x0c0 x0c1 x0c2 x0c3 x0c4 x1c0 x1c1 x1c2 x1c3 x1c4 x1c5 x1c6 x1c7 x1c8 x1c9 x1c10 x1c11 x1c12 x1c13 x1c14 x1c15 x1c16 x1c17 x1c18 x1c19 x1c20 x1c21 x2 =>
    match J7a6 N x0c0 x0c1 x0c2 x0c3 x0c4 x1c0 x1c1 x1c2 x1c3 x1c4 x1c5 x1c6 x1c7 x1c8 x1c9 x1c10 x1c11 x1c12 x1c13 x1c14 x1c15 x1c16 x1c17 x1c18 x1c19 x1c20 x1c21 with
    | none => none
    | some (.nx b0c0v7 b0c1v7 b0c2v7 b0c3v7 b0c4v7 b1c0v7 b1c1v7 b1c2v7 b1c3v7 b1c4v7 b1c5v7 b1c6v7 b1c7v7 b1c8v7 b1c9v7 b1c10v7 b1c11v7 b1c12v7 b1c13v7 b1c14v7 b1c15v7 b1c16v7 b1c17v7 b1c18v7 b1c19v7 b1c20v7 b1c21v7) =>
      tst (decide (((0 + b0c2v7.length) * 176) ≤ 140737488355328)) <|
      match F10v1 N b0c0v7 b0c1v7 b0c2v7 b0c3v7 b0c4v7 b1c2v7 with
      | none => none
      | some (.r rx0v8) =>
        match J7a254 N rx0v8 b0c0v7 b0c1v7 b0c2v7 b0c3v7 b0c4v7 b1c0v7 b1c1v7 b1c2v7 b1c3v7 b1c4v7 b1c5v7 b1c6v7 b1c7v7 b1c8v7 rx0v8 b1c10v7 b1c11v7 b1c12v7 b1c13v7 b1c14v7 b1c15v7 b1c16v7 b1c17v7 b1c18v7 b1c19v7 b1c20v7 b1c21v7 b0c0v7 b0c1v7 b0c3v7 b0c4v7 ((([] : List Row)) ++ b0c2v7) with
        | none => none
        | some (.nx b0c0v13 b0c1v13 b0c2v13 b0c3v13 b0c4v13 b1c0v13 b1c1v13 b1c2v13 b1c3v13 b1c4v13 b1c5v13 b1c6v13 b1c7v13 b1c8v13 b1c9v13 b1c10v13 b1c11v13 b1c12v13 b1c13v13 b1c14v13 b1c15v13 b1c16v13 b1c17v13 b1c18v13 b1c19v13 b1c20v13 b1c21v13 b2c0v13 b2c1v13 b2c3v13 b2c4v13 b3v13) =>
          tst (decide (((b3v13.length + 1) * 176) ≤ 140737488355328)) <|
          match F14v2 N b2c0v13 b2c1v13 b2c3v13 b2c4v13 (b3v13 ++ (([[.int .u8 b1c0v13, .str b1c1v13, .int .i64 b1c2v13, .int .u8 b1c3v13, .int .i64 b1c4v13, .int .i64 b1c5v13, .list 90 b1c6v13, .int .i64 b1c7v13, .bool b1c8v13, .int .i64 b1c9v13, .int .i64 b1c10v13, .bool b1c11v13, .bool b1c12v13, .int .u8 b1c13v13, .int .i64 b1c14v13, .int .i64 b1c15v13, .int .i64 b1c16v13, .bool b1c17v13, .bool b1c18v13, .int .i64 b1c19v13, .int .i64 b1c20v13, .int .i64 b1c21v13]] : List Row))) with
          | none => none
          | some (.r rx0v14 rb0v14) =>
            match !(rx0v14 == (decide ((0 : Int) ≤ rx0v8))) with
            | true =>
              some (.r false)
            | false =>
              tst (decide ((0 : Int) ≤ ((b0c2v13.length : Int))) && decide ((b0c2v13.length : Int) < ((rb0v14.length : Int)))) <|
              tst (decide ((((b0c2v13.length : Int)).toNat) < rb0v14.length)) <|
              match x2 == rx0v8 with
              | true =>
                match F9 N  with
                | none => none
                | some (.r rx0v15) =>
                  some (.r rx0v15)
              | false =>
                match F14v2 N b2c0v13 b2c1v13 b2c3v13 b2c4v13 (rb0v14.set (((b0c2v13.length : Int)).toNat) (Eng.setAt ((rb0v14.getD (((b0c2v13.length : Int)).toNat) [])) 9 [.int .i64 x2])) with
                | none => none
                | some (.r rx0v16 rb0v16) =>
                  match !rx0v16 with
                  | true =>
                    match F9 N  with
                    | none => none
                    | some (.r rx0v17) =>
                      some (.r rx0v17)
                  | false =>
                    some (.r false)
        | some (.ret x6v18 b0c0v18 b0c1v18 b0c2v18 b0c3v18 b0c4v18 b1c0v18 b1c1v18 b1c2v18 b1c3v18 b1c4v18 b1c5v18 b1c6v18 b1c7v18 b1c8v18 b1c9v18 b1c10v18 b1c11v18 b1c12v18 b1c13v18 b1c14v18 b1c15v18 b1c16v18 b1c17v18 b1c18v18 b1c19v18 b1c20v18 b1c21v18 b2c0v18 b2c1v18 b2c3v18 b2c4v18 b3v18) =>
          some (.r x6v18)
    | some (.ret x6v19 b0c0v19 b0c1v19 b0c2v19 b0c3v19 b0c4v19 b1c0v19 b1c1v19 b1c2v19 b1c3v19 b1c4v19 b1c5v19 b1c6v19 b1c7v19 b1c8v19 b1c9v19 b1c10v19 b1c11v19 b1c12v19 b1c13v19 b1c14v19 b1c15v19 b1c16v19 b1c17v19 b1c18v19 b1c19v19 b1c20v19 b1c21v19) =>
      some (.r x6v19)
def xRF7 : XSh R7 := ⟨[], ⟨[(0, .one (.cell (.bool)))], []⟩, fun _ => [], fun s => .r ((Eng.look s.env 0).toB)⟩
theorem fsF7 : ∀ (N : Nat) (lk : Nat → AV) (M : List Blk), FFF7 (F7 (N + 1)) (canS sgF7 lk M) = evfn CX (T7ur1 N R7) code7 rsF7 (argsE 3 (canS sgF7 lk M).env) (canS sgF7 lk M).mem (goR CX 0 (fun _ => some xRF7)) := by intro N lk M; kernel_rfl
theorem soundF7 : ∀ N, RecOkF7 (F7 N)
  | 0, lk, M, o, h => by cases h
  | N + 1, lk, M, o, h => fn_sound hX (okT7ur1 N R7) Tryd.func7 hb7 rfl en7 (by kernel_rfl) (ys := fun _ => some xRF7) (fun st y h => by injection h with h; subst h; exact fun lk M => ⟨rfl, rfl⟩) ((fsF7 N lk M).symm.trans h)
end Go.Proofs.YtdennlgnbecojaaDoor

namespace Go.Proofs.YtdennlgnbecojaaDoor
open Go Go.Eng
theorem head_true : F9 300 = some (.r true) := by kernel_rfl
end Go.Proofs.YtdennlgnbecojaaDoor

namespace Go.Proofs.YtdennlgnbecojaaDoor
open Go Go.Eng

def inI (x : Int) : Prop := -9223372036854775808 ≤ x ∧ x ≤ 9223372036854775807
theorem wrap_id {n : Int} (h : inI n) : IntKind.wrap .i64 n = n := by
  obtain ⟨h0, h1⟩ := h
  simp [IntKind.wrap, IntKind.bits, IntKind.signed]
  split <;> omega
theorem beq_f {x k : Int} (h : x ≠ k) : (x == k) = false := by simpa using h
theorem beq_t {x k : Int} (h : x = k) : (x == k) = true := by simpa using h
/-- A cell of a row. -/
def cI (E : List Row) (i : Nat) (c : Nat) : Int := ((E.getD i []).getD c .top).toI
def cB (E : List Row) (i : Nat) (c : Nat) : Bool := ((E.getD i []).getD c .top).toB
def kd (E : List Row) (i : Nat) : Int := cI E i 0
def ow (E : List Row) (i : Nat) : Int := cI E i 2
def plain (k : Int) : Bool := k == 3 || k == 4 || k == 12 || k == 14 || k == 18 || k == 17
theorem F25_eq {N : Nat} (hN : 0 < N) (k : Int) : F25 N k = some (.r (plain k)) := by
  obtain ⟨N, rfl⟩ : ∃ m, N = m + 1 := ⟨N - 1, by omega⟩
  simp only [F25, plain]
  cases (k == 3) <;> cases (k == 4) <;> cases (k == 12) <;> cases (k == 14) <;> cases (k == 18) <;> rfl
def addS (k : Int) : Int := if k = 2 ∨ k = 13 then 1 else if plain k = true then 2 else 0
theorem adds_all : ((List.range 256).all fun k => (gl0.getD (0 + k * 1) .top).toI == addS (k : Int)) = true := by kernel_rfl
theorem adds_eq {k : Int} (h0 : 0 ≤ k) (h1 : k ≤ 255) : (gl0.getD (0 + k.toNat * 1) .top).toI = addS k := by
  have := List.all_eq_true.1 adds_all k.toNat (List.mem_range.2 (by omega))
  rw [show ((k.toNat : Nat) : Int) = k by omega] at this
  simpa using this

/-- The level of a region. -/
def reg (E : List Row) (r : Nat) : Int :=
  if r < E.length then
    if kd E r = 1 then 0
    else if h : 0 ≤ ow E r ∧ ow E r < (r : Int) then
      (if reg E (ow E r).toNat < 0 then -1 else if kd E r = 2 ∨ kd E r = 13 then reg E (ow E r).toNat else if plain (kd E r) = true then reg E (ow E r).toNat + 1 else -1)
    else -1
  else -1
termination_by r
decreasing_by all_goals omega
theorem reg_bd (E : List Row) : ∀ r : Nat, -1 ≤ reg E r ∧ reg E r ≤ r := by
  intro r
  induction r using Nat.strongRecOn with
  | _ r ih =>
    rw [reg]
    split
    · split
      · omega
      · split
        · rename_i h
          have := ih (ow E r).toNat (by omega)
          repeat' split
          all_goals omega
        · omega
    · omega
def regI (E : List Row) (x : Int) : Int := if 0 ≤ x then reg E x.toNat else -1
theorem regI_nat (E : List Row) (r : Nat) : regI E (r : Int) = reg E r := by unfold regI; rw [if_pos (by omega)]; rfl
theorem regI_big {E : List Row} {x : Int} (h : ¬ (0 ≤ x ∧ x < (E.length : Int))) : regI E x = -1 := by
  unfold regI
  split
  · rw [reg, if_neg (by omega)]
  · rfl
theorem F24_eq {N : Nat} (hN : 0 < N) (A B E C D : List Row) (x : Int) : F24 N A B E C D x = some (.r (decide (0 ≤ x) && decide (x < (E.length : Int)))) := by
  obtain ⟨N, rfl⟩ : ∃ m, N = m + 1 := ⟨N - 1, by omega⟩
  simp only [F24]
  cases decide (0 ≤ x) <;> rfl

theorem F11_eq (A B E C D : List Row) (hl : E.length ≤ 100000) : ∀ (r N : Nat), r + 2 ≤ N → F11 N A B E C D (r : Int) = some (.r (reg E r)) := by
  intro r
  induction r using Nat.strongRecOn with
  | _ r ih =>
    intro N hN
    obtain ⟨N, rfl⟩ : ∃ m, N = m + 1 := ⟨N - 1, by omega⟩
    have hp : 0 < N := by omega
    rw [reg]
    by_cases hr : r < E.length
    · have e1 : (decide ((0 : Int) ≤ (r : Int)) && decide ((r : Int) < (E.length : Int))) = true := by simp; omega
      have ek : ((((E.getD ((r : Int).toNat) [])).getD 0 .top).toI) = kd E r := rfl
      have eo : ((((E.getD ((r : Int).toNat) [])).getD 2 .top).toI) = ow E r := rfl
      simp only [F11, F24_eq hp, e1, Bool.not_true, tst, ek, eo, if_pos hr]
      by_cases hk : kd E r = 1
      · simp only [beq_t hk, if_pos hk]
      · simp only [beq_f hk, if_neg hk, J11a62]
        by_cases h1 : ow E r < 0
        · rw [decide_eq_true h1, dif_neg (by omega)]
        · rw [decide_eq_false h1]
          by_cases h2 : (r : Int) ≤ ow E r
          · rw [decide_eq_true h2, dif_neg (by omega)]
          · rw [decide_eq_false h2, dif_pos (by omega)]
            have := ih (ow E r).toNat (by omega) N (by omega)
            rw [show (((ow E r).toNat : Nat) : Int) = ow E r by omega] at this
            simp only [this]
            have hb := reg_bd E (ow E r).toNat
            by_cases h3 : reg E (ow E r).toNat < 0
            · simp only [h3, decide_true, if_true]
            · simp only [h3, decide_false, if_false, F25_eq hp]
              by_cases h4 : kd E r = 2
              · rw [if_pos (Or.inl h4)]
                simp only [beq_t h4]
              · by_cases h5 : kd E r = 13
                · rw [if_pos (Or.inr h5)]
                  simp only [beq_f h4, beq_t h5]
                · rw [if_neg (fun h => h.elim h4 h5)]
                  simp only [beq_f h4, beq_f h5]
                  cases plain (kd E r) with
                  | true =>
                    simp only [if_true]
                    rw [wrap_id (by unfold inI; omega)]
                  | false => simp only [Bool.false_eq_true, if_false]
    · have e1 : (decide ((0 : Int) ≤ (r : Int)) && decide ((r : Int) < (E.length : Int))) = false := by simp; omega
      simp only [F11, F24_eq hp, e1, Bool.not_false, if_neg hr]
theorem F11_eqI (A B E C D : List Row) (hl : E.length ≤ 200) (x : Int) (N : Nat) (hN : 202 ≤ N) : F11 N A B E C D x = some (.r (regI E x)) := by
  by_cases h : 0 ≤ x ∧ x < (E.length : Int)
  · obtain ⟨r, rfl⟩ := Int.eq_ofNat_of_zero_le h.1
    rw [F11_eq A B E C D (by omega) r N (by omega), regI_nat]
  · rw [regI_big h]
    obtain ⟨N, rfl⟩ : ∃ m, N = m + 1 := ⟨N - 1, by omega⟩
    have hp : 0 < N := by omega
    have e1 : (decide ((0 : Int) ≤ x) && decide (x < (E.length : Int))) = false := by
      rw [Bool.eq_false_iff]; intro hc; simp only [Bool.and_eq_true, decide_eq_true_eq] at hc; exact h hc
    simp only [F11, F24_eq hp, e1, Bool.not_false]

/-- The kinds are numbers of one byte. -/
def okE (E : List Row) : Prop := ∀ i, i < E.length → 0 ≤ kd E i ∧ kd E i ≤ 255
theorem addS_cases {k : Int} (h : k ≠ 1) : (addS k = 1 ∧ (k = 2 ∨ k = 13)) ∨ (addS k = 2 ∧ ¬ (k = 2 ∨ k = 13) ∧ plain k = true) ∨ (addS k = 0 ∧ ¬ (k = 2 ∨ k = 13) ∧ plain k = false) := by
  unfold addS
  by_cases h1 : k = 2 ∨ k = 13
  · left; rw [if_pos h1]; exact ⟨rfl, h1⟩
  · rw [if_neg h1]
    cases hp : plain k with
    | true => right; left; exact ⟨if_pos rfl, h1, rfl⟩
    | false => right; right; exact ⟨if_neg (by decide), h1, rfl⟩
theorem idx_ok {k : Int} (h0 : 0 ≤ k) (h1 : k ≤ 255) : (decide ((0 : Int) ≤ k) && decide (k < (256 : Int))) = true ∧ decide ((0 + k.toNat * 1) + 1 ≤ 256) = true := by
  constructor
  · simp; omega
  · simp; omega

def v10 : OL10v1i58f45a6 → Int
  | .ret _ _ _ _ _ v _ => v
  | _ => -1
theorem L10_out (A B E C D : List Row) {N n : Nat} {x last res acc : Int} (h : ¬ (0 ≤ x ∧ x < last)) : ∃ o, L10v1i58f45a6 N (n + 1) x last A B E C D res acc = some o ∧ v10 o = -1 := by
  refine ⟨.x0 A B E C D res acc, ?_, rfl⟩
  simp only [L10v1i58f45a6, J10v1i58f45a24]
  by_cases h1 : 0 ≤ x
  · rw [decide_eq_true h1, decide_eq_false (by omega)]
  · rw [decide_eq_false h1]
/-- The walk outwards. -/
theorem L10_eq (A B E C D : List Row) (hE : okE E) (hl : E.length ≤ 100000) : ∀ (r : Nat) (n N : Nat) (last acc res : Int), r + 1 < n → (r : Int) < last → last ≤ E.length → 0 ≤ acc → acc + r ≤ 100000 →
    ∃ o, L10v1i58f45a6 N n (r : Int) last A B E C D res acc = some o ∧ v10 o = if reg E r < 0 then -1 else acc + reg E r := by
  intro r
  induction r using Nat.strongRecOn with
  | _ r ih =>
    intro n N last acc res hn hlast hle ha hb
    obtain ⟨n, rfl⟩ : ∃ m, n = m + 1 := ⟨n - 1, by omega⟩
    have hr : r < E.length := by omega
    have ek : ((((E.getD ((r : Int).toNat) [])).getD 0 .top).toI) = kd E r := rfl
    have eo : ((((E.getD ((r : Int).toNat) [])).getD 2 .top).toI) = ow E r := rfl
    have e0 : decide ((0 : Int) ≤ (r : Int)) = true := by simp
    have e1 : decide ((r : Int) < last) = true := by simp; omega
    have e2 : decide ((r : Int) < (E.length : Int)) = true := by simp; omega
    obtain ⟨k0, k1⟩ := hE r hr
    obtain ⟨i1, i2⟩ := idx_ok k0 k1
    have hreg := reg.eq_1 E r
    rw [if_pos hr] at hreg
    simp only [L10v1i58f45a6, J10v1i58f45a24, J10v1i58f45a50, e0, e1, e2, Bool.and_self, tst, ek, eo, i1, i2, adds_eq k0 k1]
    by_cases hk : kd E r = 1
    · rw [if_pos hk] at hreg
      simp only [beq_t hk]
      exact ⟨_, rfl, by rw [hreg]; simp [v10]⟩
    · rw [if_neg hk] at hreg
      simp only [beq_f hk]
      rcases addS_cases hk with ⟨e3, h4⟩ | ⟨e3, h4, h5⟩ | ⟨e3, h4, h5⟩
      · rw [e3]
        simp only [beq_f (show (1 : Int) ≠ 0 by decide)]
        have ew : IntKind.wrap .i64 (acc + IntKind.wrap .i64 ((1 : Int) - 1)) = acc := by
          rw [show (1 : Int) - 1 = 0 by decide, wrap_id (n := 0) (by unfold inI; omega), wrap_id (by unfold inI; omega)]; omega
        rw [ew]
        simp only [e2, Bool.and_self, eo]
        by_cases ho : 0 ≤ ow E r ∧ ow E r < (r : Int)
        · rw [dif_pos ho] at hreg
          obtain ⟨o, h, h2⟩ := ih (ow E r).toNat (by omega) n N (r : Int) acc res (by omega) (by omega) (by omega) ha (by omega)
          rw [show (((ow E r).toNat : Nat) : Int) = ow E r by omega] at h
          refine ⟨o, h, ?_⟩
          rw [h2, hreg, if_pos h4]
          split <;> simp_all
        · rw [dif_neg ho] at hreg
          obtain ⟨n, rfl⟩ : ∃ m, n = m + 1 := ⟨n - 1, by omega⟩
          obtain ⟨o, h, h2⟩ := L10_out A B E C D (N := N) (n := n) (res := res) (acc := acc) ho
          refine ⟨o, h, ?_⟩
          rw [h2, hreg]; rfl
      · rw [e3]
        simp only [beq_f (show (2 : Int) ≠ 0 by decide)]
        have ew : IntKind.wrap .i64 (acc + IntKind.wrap .i64 ((2 : Int) - 1)) = acc + 1 := by
          rw [show (2 : Int) - 1 = 1 by decide, wrap_id (n := 1) (by unfold inI; omega), wrap_id (by unfold inI; omega)]
        rw [ew]
        simp only [e2, Bool.and_self, eo]
        by_cases ho : 0 ≤ ow E r ∧ ow E r < (r : Int)
        · rw [dif_pos ho] at hreg
          obtain ⟨o, h, h2⟩ := ih (ow E r).toNat (by omega) n N (r : Int) (acc + 1) res (by omega) (by omega) (by omega) (by omega) (by omega)
          rw [show (((ow E r).toNat : Nat) : Int) = ow E r by omega] at h
          refine ⟨o, h, ?_⟩
          have hb := reg_bd E (ow E r).toNat
          rw [h2, hreg, if_neg h4, if_pos h5]
          by_cases h6 : reg E (ow E r).toNat < 0
          · rw [if_pos h6, if_pos h6]; rfl
          · rw [if_neg h6, if_neg h6, if_neg (by omega)]; omega
        · rw [dif_neg ho] at hreg
          obtain ⟨n, rfl⟩ : ∃ m, n = m + 1 := ⟨n - 1, by omega⟩
          obtain ⟨o, h, h2⟩ := L10_out A B E C D (N := N) (n := n) (res := res) (acc := acc + 1) ho
          refine ⟨o, h, ?_⟩
          rw [h2, hreg]; rfl
      · simp only [e3, beq_self_eq_true]
        refine ⟨_, rfl, ?_⟩
        rw [if_neg h4, if_neg (show ¬ plain (kd E r) = true by rw [h5]; decide)] at hreg
        rw [if_pos (by rw [hreg]; repeat' split
                       all_goals omega)]
        rfl
theorem F10_eqI (A B E C D : List Row) (hE : okE E) (hl : E.length ≤ 200) (x : Int) (N : Nat) (hN : 210 ≤ N) : F10v1 N A B E C D x = some (.r (regI E x)) := by
  obtain ⟨N, rfl⟩ : ∃ m, N = m + 2 := ⟨N - 2, by omega⟩
  simp only [F10v1, F23v1]
  by_cases h : 0 ≤ x ∧ x < (E.length : Int)
  · obtain ⟨r, rfl⟩ := Int.eq_ofNat_of_zero_le h.1
    obtain ⟨o, h1, h2⟩ := L10_eq A B E C D hE (by omega) r (N + 1) (N + 1) E.length 0 0 (by omega) (by omega) (by omega) (by omega) (by omega)
    have e1 : L10v1i58f45a6 (N + 1) (N + 1) (r : Int) (E.length : Int) A B E C D 0 0 = some o := h1
    have e2 : v10 o = regI E (r : Int) := by
      rw [h2, regI_nat]
      have := reg_bd E r
      split <;> omega
    rw [e1, ← e2]
    cases o <;> rfl
  · obtain ⟨o, h1, h2⟩ := L10_out A B E C D (N := N + 1) (n := N) (x := x) (last := E.length) (res := 0) (acc := 0) h
    rw [regI_big h]
    rw [h1, ← h2]
    cases o <;> rfl
end Go.Proofs.YtdennlgnbecojaaDoor

namespace Go.Proofs.YtdennlgnbecojaaDoor
open Go Go.Eng
/-- The master of a region. -/
def mst (E : List Row) (r : Nat) : Int :=
  if reg E r < 0 then -1
  else if kd E r = 1 ∨ plain (kd E r) = true then r
  else if h : 0 ≤ ow E r ∧ ow E r < (r : Int) then mst E (ow E r).toNat else -1
termination_by r
decreasing_by omega
theorem reg_pos {E : List Row} {r : Nat} (h : 0 ≤ reg E r) (hk : kd E r ≠ 1) : r < E.length ∧ (0 ≤ ow E r ∧ ow E r < (r : Int)) ∧ 0 ≤ reg E (ow E r).toNat ∧ ((kd E r = 2 ∨ kd E r = 13) ∧ plain (kd E r) = false ∨ ¬ (kd E r = 2 ∨ kd E r = 13) ∧ plain (kd E r) = true) := by
  rw [reg] at h
  split at h
  · rename_i hr
    refine ⟨hr, ?_⟩
    split at h
    · rename_i ho
      refine ⟨ho, ?_⟩
      split at h
      · omega
      · rename_i h2
        refine ⟨by omega, ?_⟩
        split at h
        · rename_i h3
          left
          refine ⟨h3, ?_⟩
          rcases h3 with h3 | h3 <;> rw [h3] <;> rfl
        · rename_i h3
          split at h
          · rename_i h4; exact .inr ⟨h3, h4⟩
          · omega
    · omega
  · omega
theorem reg_lt {E : List Row} {r : Nat} (h : 0 ≤ reg E r) : r < E.length := by
  rw [reg] at h
  split at h
  · assumption
  · omega
theorem F13_eq (A B E C D : List Row) (hl : E.length ≤ 100000) : ∀ (r N : Nat), r + 4 ≤ N → F13 N A B E C D (r : Int) = some (.r (mst E r)) := by
  intro r
  induction r using Nat.strongRecOn with
  | _ r ih =>
    intro N hN
    obtain ⟨N, rfl⟩ : ∃ m, N = m + 1 := ⟨N - 1, by omega⟩
    have hp : 0 < N := by omega
    have ek : ((((E.getD ((r : Int).toNat) [])).getD 0 .top).toI) = kd E r := rfl
    have eo : ((((E.getD ((r : Int).toNat) [])).getD 2 .top).toI) = ow E r := rfl
    rw [mst]
    simp only [F13, F11_eq A B E C D hl r N (by omega)]
    by_cases h1 : reg E r < 0
    · rw [if_pos h1, decide_eq_true h1]
    · have hr := reg_lt (E := E) (r := r) (by omega)
      have e1 : (decide ((0 : Int) ≤ (r : Int)) && decide ((r : Int) < (E.length : Int))) = true := by simp; omega
      rw [if_neg h1, decide_eq_false h1]
      simp only [e1, tst, ek, eo]
      by_cases hk : kd E r = 1
      · rw [if_pos (Or.inl hk), beq_t hk]
      · obtain ⟨_, ho, h2, h3⟩ := reg_pos (by omega) hk
        simp only [beq_f hk, F25_eq hp]
        have := ih (ow E r).toNat (by omega) N (by omega)
        rw [show (((ow E r).toNat : Nat) : Int) = ow E r by omega] at this
        rcases h3 with ⟨h3, h4⟩ | ⟨h3, h4⟩
        · rw [h4, if_neg (by rintro (h | h); exact hk h; cases h), dif_pos ho]
          simp only [this]
        · rw [h4, if_pos (Or.inr rfl)]
def mstI (E : List Row) (x : Int) : Int := if 0 ≤ x then mst E x.toNat else -1
theorem mst_none {E : List Row} {x : Int} (h : regI E x < 0) : mstI E x = -1 := by
  unfold mstI
  unfold regI at h
  split
  · rw [if_pos (by assumption)] at h
    rw [mst, if_pos h]
  · rfl
theorem F13_eqI (A B E C D : List Row) (hl : E.length ≤ 200) (x : Int) (N : Nat) (hN : 210 ≤ N) : F13 N A B E C D x = some (.r (mstI E x)) := by
  by_cases h : 0 ≤ x ∧ x < (E.length : Int)
  · obtain ⟨r, rfl⟩ := Int.eq_ofNat_of_zero_le h.1
    rw [F13_eq A B E C D (by omega) r N (by omega)]
    unfold mstI
    rw [if_pos (by omega)]; rfl
  · have hx := regI_big h
    rw [mst_none (by omega)]
    obtain ⟨N, rfl⟩ : ∃ m, N = m + 1 := ⟨N - 1, by omega⟩
    simp only [F13, F11_eqI A B E C D hl x N (by omega), hx]
    rfl
def v12 : OL12v1i106f45a6 → Int
  | .ret _ _ _ _ _ v => v
  | _ => -1
/-- The walk to the master. -/
theorem L12_eq (A B E C D : List Row) (hE : okE E) (hl : E.length ≤ 100000) : ∀ (r : Nat) (n N : Nat) (last res : Int), r + 1 < n → (r : Int) < last → last ≤ E.length → 0 ≤ reg E r →
    ∃ o, L12v1i106f45a6 N n (r : Int) last A B E C D res = some o ∧ v12 o = mst E r := by
  intro r
  induction r using Nat.strongRecOn with
  | _ r ih =>
    intro n N last res hn hlast hle hreg
    obtain ⟨n, rfl⟩ : ∃ m, n = m + 1 := ⟨n - 1, by omega⟩
    have hr : r < E.length := by omega
    have ek : ((((E.getD ((r : Int).toNat) [])).getD 0 .top).toI) = kd E r := rfl
    have eo : ((((E.getD ((r : Int).toNat) [])).getD 2 .top).toI) = ow E r := rfl
    have e0 : decide ((0 : Int) ≤ (r : Int)) = true := by simp
    have e1 : decide ((r : Int) < last) = true := by simp; omega
    have e2 : decide ((r : Int) < (E.length : Int)) = true := by simp; omega
    obtain ⟨k0, k1⟩ := hE r hr
    obtain ⟨i1, i2⟩ := idx_ok k0 k1
    rw [mst, if_neg (by omega)]
    simp only [L12v1i106f45a6, J12v1i106f45a24, J12v1i106f45a50, e0, e1, e2, Bool.and_self, tst, ek, eo, i1, i2, adds_eq k0 k1]
    by_cases hk : kd E r = 1
    · rw [if_pos (Or.inl hk)]
      simp only [beq_t hk]
      exact ⟨_, rfl, rfl⟩
    · obtain ⟨_, ho, h2, h3⟩ := reg_pos hreg hk
      simp only [beq_f hk]
      rcases h3 with ⟨h3, h4⟩ | ⟨h3, h4⟩
      · have e3 : addS (kd E r) = 1 := by unfold addS; rw [if_pos h3]
        rw [h4, if_neg (by rintro (h | h); exact hk h; cases h), dif_pos ho, e3]
        simp only [beq_f (show (1 : Int) ≠ 0 by decide), beq_f (show (1 : Int) ≠ 2 by decide), e2, Bool.and_self]
        obtain ⟨o, h, h2⟩ := ih (ow E r).toNat (by omega) n N (r : Int) res (by omega) (by omega) (by omega) h2
        rw [show (((ow E r).toNat : Nat) : Int) = ow E r by omega] at h
        exact ⟨o, h, h2⟩
      · have e3 : addS (kd E r) = 2 := by unfold addS; rw [if_neg h3, if_pos h4]
        rw [h4, if_pos (Or.inr rfl), e3]
        simp only [beq_self_eq_true]
        exact ⟨_, rfl, rfl⟩
theorem F12_eqI (A B E C D : List Row) (hE : okE E) (hl : E.length ≤ 200) (x : Int) (N : Nat) (hN : 220 ≤ N) : F12v1 N A B E C D x = some (.r (mstI E x)) := by
  obtain ⟨N, rfl⟩ : ∃ m, N = m + 2 := ⟨N - 2, by omega⟩
  simp only [F12v1, F23v1, F10_eqI A B E C D hE hl x (N + 1) (by omega)]
  by_cases h : 0 ≤ regI E x
  · have hx : 0 ≤ x ∧ x < (E.length : Int) := by
      refine Classical.byContradiction fun hc => ?_
      rw [regI_big hc] at h; omega
    obtain ⟨r, rfl⟩ := Int.eq_ofNat_of_zero_le hx.1
    rw [regI_nat] at h
    obtain ⟨o, h1, h2⟩ := L12_eq A B E C D hE (by omega) r (N + 1) (N + 1) E.length 0 (by omega) (by omega) (by omega) h
    have e2 : v12 o = mstI E (r : Int) := by rw [h2]; unfold mstI; rw [if_pos (by omega)]; rfl
    have e1 : L12v1i106f45a6 (N + 1) (N + 1) (r : Int) (E.length : Int) A B E C D 0 = some o := h1
    rw [regI_nat, decide_eq_true h]
    simp only [e1, ← e2]
    cases o <;> rfl
  · rw [decide_eq_false h, mst_none (by omega)]
end Go.Proofs.YtdennlgnbecojaaDoor

namespace Go.Proofs.YtdennlgnbecojaaDoor
open Go Go.Eng
/-- The level that an entity must have. -/
def lvl (E : List Row) (i : Nat) : Int := if kd E i = 1 then 0 else if ow E i < (i : Int) then regI E (ow E i) else -1
def entOK (A E : List Row) (i : Nat) : Bool :=
  decide (0 ≤ lvl E i ∧ cI E i 9 = lvl E i) && (!(kd E i == 5 && !cB E i 8) || (decide (0 ≤ cI E i 4) && decide (cI E i 4 < (A.length : Int)) && (cI A (cI E i 4).toNat 17 == lvl E i)))
def mayB (A E : List Row) : Bool := (List.range' 0 E.length).all (entOK A E)
theorem lvl_ow (E : List Row) (i : Nat) (hk : ¬ kd E i = 1) (h : ¬ (0 ≤ ow E i ∧ ow E i < (i : Int))) : lvl E i = -1 := by
  unfold lvl regI
  rw [if_neg hk]
  split
  · rw [if_neg (by omega)]
  · rfl
theorem bne_t {x y : Int} (h : x ≠ y) : (x != y) = true := by simp [bne, h]
theorem bne_f {x y : Int} (h : x = y) : (x != y) = false := by simp [bne, h]
theorem lvl_nn {E : List Row} {i : Nat} (h0 : 0 ≤ ow E i) (h1 : ow E i < (i : Int)) (hk : ¬ kd E i = 1) : lvl E i = regI E (ow E i) := by
  unfold lvl
  rw [if_neg hk, if_pos h1]

theorem J15_cases (A B E C D : List Row) (hl : E.length ≤ 200) (i N : Nat) (hN : 210 ≤ N) (c0 : Int) (c1 : ByteArray) (c2 : Int) (c3 : Int) (c4 : Int) (c5 : Int) (c6 : List Row) (c7 : Int) (c8 : Bool) (c9 : Int) (c10 : Int) (c11 : Bool) (c12 : Bool) (c13 : Int) (c14 : Int) (c15 : Int) (c16 : Int) (c17 : Bool) (c18 : Bool) (c19 : Int) (c20 : Int) (c21 : Int) (h0 : c0 = kd E i) (h2 : c2 = ow E i) :
    (J15a1682 N (i : Int) A B E C D c0 c1 c2 c3 c4 c5 c6 c7 c8 c9 c10 c11 c12 c13 c14 c15 c16 c17 c18 c19 c20 c21 = some (.nx A B E C D c0 c1 c2 c3 c4 c5 c6 c7 c8 c9 c10 c11 c12 c13 c14 c15 c16 c17 c18 c19 c20 c21) ∧ 0 ≤ lvl E i ∧ c9 = lvl E i) ∨ (J15a1682 N (i : Int) A B E C D c0 c1 c2 c3 c4 c5 c6 c7 c8 c9 c10 c11 c12 c13 c14 c15 c16 c17 c18 c19 c20 c21 = some (.ret false A B E C D c0 c1 c2 c3 c4 c5 c6 c7 c8 c9 c10 c11 c12 c13 c14 c15 c16 c17 c18 c19 c20 c21) ∧ ¬ (0 ≤ lvl E i ∧ c9 = lvl E i)) := by
  subst h0
  subst h2
  simp only [J15a1682]
  by_cases hk : kd E i = 1
  · have hv : lvl E i = 0 := by unfold lvl; rw [if_pos hk]
    simp only [beq_t hk, hv]
    by_cases h : c9 = 0
    · left
      simp only [bne_f h]
      exact ⟨trivial, by omega, h⟩
    · right
      simp only [bne_t h]
      exact ⟨trivial, fun hc => h hc.2⟩
  · simp only [beq_f hk]
    by_cases o0 : ow E i < 0
    · right
      rw [decide_eq_true o0, lvl_ow E i hk (by omega)]
      exact ⟨rfl, by omega⟩
    · by_cases o1 : (i : Int) ≤ ow E i
      · right
        rw [decide_eq_false o0, decide_eq_true o1, lvl_ow E i hk (by omega)]
        exact ⟨rfl, by omega⟩
      · have hv := lvl_nn (E := E) (i := i) (by omega) (by omega) hk
        rw [decide_eq_false o0, decide_eq_false o1]
        simp only [F11_eqI A B E C D hl (ow E i) N (by omega), ← hv]
        by_cases h : lvl E i < 0
        · right
          rw [decide_eq_true h]
          exact ⟨rfl, by omega⟩
        · rw [decide_eq_false h]
          by_cases h9 : c9 = lvl E i
          · left
            simp only [bne_f h9]
            exact ⟨trivial, by omega, h9⟩
          · right
            simp only [bne_t h9]
            exact ⟨trivial, fun hc => h9 hc.2⟩

def w15 : OL15a26 → Bool
  | .ret b _ _ _ _ _ => b
  | _ => true
theorem L15_eq (A B E C D : List Row) (hl : E.length ≤ 200) : ∀ (k i n N : Nat), i + k = E.length → k < n → 210 ≤ N →
    ∃ o, L15a26 N n (i : Int) A B E C D = some o ∧ w15 o = (List.range' i k).all (entOK A E) := by
  intro k
  induction k with
  | zero =>
    intro i n N hi hn hN
    obtain ⟨n, rfl⟩ : ∃ m, n = m + 1 := ⟨n - 1, by omega⟩
    simp only [L15a26, decide_eq_false (show ¬ ((i : Int) < (E.length : Int)) by omega)]
    exact ⟨_, rfl, rfl⟩
  | succ k ih =>
    intro i n N hi hn hN
    obtain ⟨n, rfl⟩ : ∃ m, n = m + 1 := ⟨n - 1, by omega⟩
    obtain ⟨o, h1, h2⟩ := ih (i + 1) n N (by omega) (by omega) hN
    have e0 : decide ((i : Int) < (E.length : Int)) = true := by simp; omega
    have e1 : decide ((0 : Int) ≤ (i : Int)) = true := by simp
    have e2 : IntKind.wrap .i64 ((i : Int) + 1) = ((i + 1 : Nat) : Int) := by rw [wrap_id (by unfold inI; omega)]; omega
    have c0 : ((((E.getD ((i : Int).toNat) [])).getD 0 .top).toI) = kd E i := rfl
    have c4 : ((((E.getD ((i : Int).toNat) [])).getD 4 .top).toI) = cI E i 4 := rfl
    have c8 : ((((E.getD ((i : Int).toNat) [])).getD 8 .top).toB) = cB E i 8 := rfl
    have c9 : ((((E.getD ((i : Int).toNat) [])).getD 9 .top).toI) = cI E i 9 := rfl
    have ct : ((A.getD (cI E i 4).toNat []).getD 17 .top).toI = cI A (cI E i 4).toNat 17 := rfl
    rcases J15_cases A B E C D hl i N hN ((((E.getD ((i : Int).toNat) [])).getD 0 .top).toI) ((((E.getD ((i : Int).toNat) [])).getD 1 .top).toS) ((((E.getD ((i : Int).toNat) [])).getD 2 .top).toI) ((((E.getD ((i : Int).toNat) [])).getD 3 .top).toI) ((((E.getD ((i : Int).toNat) [])).getD 4 .top).toI) ((((E.getD ((i : Int).toNat) [])).getD 5 .top).toI) ((((E.getD ((i : Int).toNat) [])).getD 6 .top).rows) ((((E.getD ((i : Int).toNat) [])).getD 7 .top).toI) ((((E.getD ((i : Int).toNat) [])).getD 8 .top).toB) ((((E.getD ((i : Int).toNat) [])).getD 9 .top).toI) ((((E.getD ((i : Int).toNat) [])).getD 10 .top).toI) ((((E.getD ((i : Int).toNat) [])).getD 11 .top).toB) ((((E.getD ((i : Int).toNat) [])).getD 12 .top).toB) ((((E.getD ((i : Int).toNat) [])).getD 13 .top).toI) ((((E.getD ((i : Int).toNat) [])).getD 14 .top).toI) ((((E.getD ((i : Int).toNat) [])).getD 15 .top).toI) ((((E.getD ((i : Int).toNat) [])).getD 16 .top).toI) ((((E.getD ((i : Int).toNat) [])).getD 17 .top).toB) ((((E.getD ((i : Int).toNat) [])).getD 18 .top).toB) ((((E.getD ((i : Int).toNat) [])).getD 19 .top).toI) ((((E.getD ((i : Int).toNat) [])).getD 20 .top).toI) ((((E.getD ((i : Int).toNat) [])).getD 21 .top).toI) rfl rfl with ⟨hj, hv, h9⟩ | ⟨hj, hv⟩
    · simp only [L15a26, e0, e1, e2, Bool.and_self, tst, hj, h1]
      simp only [List.range'_succ, List.all_cons, Nat.mul_one, c0, c4, c8, ct]
      rw [c9] at h9
      have hen : entOK A E i = (!(kd E i == 5 && !cB E i 8) || (decide (0 ≤ cI E i 4) && decide (cI E i 4 < (A.length : Int)) && (cI A (cI E i 4).toNat 17 == lvl E i))) := by
        unfold entOK
        rw [decide_eq_true ⟨hv, h9⟩]; rfl
      rw [hen, ← h2, c9, h9]
      by_cases k5 : kd E i = 5
      · rw [beq_t k5]
        cases cB E i 8 with
        | true => exact ⟨o, rfl, rfl⟩
        | false =>
          by_cases t0 : cI E i 4 < 0
          · rw [decide_eq_true t0, decide_eq_false (show ¬ (0 ≤ cI E i 4) by omega)]
            exact ⟨_, rfl, rfl⟩
          · rw [decide_eq_false t0, decide_eq_true (show (0 ≤ cI E i 4) by omega)]
            by_cases t1 : (A.length : Int) ≤ cI E i 4
            · rw [decide_eq_true t1, decide_eq_false (show ¬ (cI E i 4 < (A.length : Int)) by omega)]
              exact ⟨_, rfl, rfl⟩
            · rw [decide_eq_false t1, decide_eq_true (show (cI E i 4 < (A.length : Int)) by omega)]
              by_cases t2 : cI A (cI E i 4).toNat 17 = lvl E i
              · rw [bne_f t2, beq_t t2]
                exact ⟨o, rfl, rfl⟩
              · rw [bne_t t2, beq_f t2]
                exact ⟨_, rfl, rfl⟩
      · rw [beq_f k5]
        exact ⟨o, rfl, rfl⟩
    · simp only [L15a26, e0, e1, e2, Bool.and_self, tst, hj, List.range'_succ, List.all_cons, Nat.mul_one]
      refine ⟨_, rfl, ?_⟩
      have hen : entOK A E i = false := by
        unfold entOK
        rw [c9] at hv
        rw [decide_eq_false hv]; rfl
      rw [hen]; rfl
theorem F15_eq (A B E C D : List Row) (hl : E.length ≤ 200) (N : Nat) (hN : 220 ≤ N) : F15 N A B E C D = some (.r (mayB A E)) := by
  obtain ⟨N, rfl⟩ : ∃ m, N = m + 1 := ⟨N - 1, by omega⟩
  obtain ⟨o, h1, h2⟩ := L15_eq A B E C D hl E.length 0 N N (by omega) (by omega) (by omega)
  have h1' : L15a26 N N 0 A B E C D = some o := h1
  simp only [F15, h1']
  unfold mayB
  rw [← h2]
  cases o <;> rfl

theorem Jg_cases (A B E C D : List Row) (hE : okE E) (hl : E.length ≤ 200) (i N : Nat) (hN : 210 ≤ N) (c0 : Int) (c1 : ByteArray) (c2 : Int) (c3 : Int) (c4 : Int) (c5 : Int) (c6 : List Row) (c7 : Int) (c8 : Bool) (c9 : Int) (c10 : Int) (c11 : Bool) (c12 : Bool) (c13 : Int) (c14 : Int) (c15 : Int) (c16 : Int) (c17 : Bool) (c18 : Bool) (c19 : Int) (c20 : Int) (c21 : Int) (h0 : c0 = kd E i) (h2 : c2 = ow E i) :
    J14v1a6758 N (i : Int) 0 A B E C D c0 c1 c2 c3 c4 c5 c6 c7 c8 c9 c10 c11 c12 c13 c14 c15 c16 c17 c18 c19 c20 c21 = some (.nx (lvl E i) A B E C D c0 c1 c2 c3 c4 c5 c6 c7 c8 c9 c10 c11 c12 c13 c14 c15 c16 c17 c18 c19 c20 c21) := by
  subst h0
  subst h2
  simp only [J14v1a6758]
  by_cases hk : kd E i = 1
  · have hv : lvl E i = 0 := by unfold lvl; rw [if_pos hk]
    rw [bne_f hk, hv]
  · rw [bne_t hk]
    have hv : lvl E i = if ow E i < (i : Int) then regI E (ow E i) else -1 := by unfold lvl; rw [if_neg hk]
    rw [hv]
    by_cases o1 : ow E i < (i : Int)
    · rw [decide_eq_true o1, if_pos o1]
      simp only [F10_eqI A B E C D hE hl (ow E i) N (by omega)]
    · rw [decide_eq_false o1, if_neg o1]
theorem Jh_cases (N : Nat) (v : Int) (c0 : Int) (c1 : ByteArray) (c2 : Int) (c3 : Int) (c4 : Int) (c5 : Int) (c6 : List Row) (c7 : Int) (c8 : Bool) (c9 : Int) (c10 : Int) (c11 : Bool) (c12 : Bool) (c13 : Int) (c14 : Int) (c15 : Int) (c16 : Int) (c17 : Bool) (c18 : Bool) (c19 : Int) (c20 : Int) (c21 : Int) : (J14v1a13518 N v c0 c1 c2 c3 c4 c5 c6 c7 c8 c9 c10 c11 c12 c13 c14 c15 c16 c17 c18 c19 c20 c21 = some (.nx c0 c1 c2 c3 c4 c5 c6 c7 c8 c9 c10 c11 c12 c13 c14 c15 c16 c17 c18 c19 c20 c21) ∧ 0 ≤ v ∧ c9 = v) ∨ (J14v1a13518 N v c0 c1 c2 c3 c4 c5 c6 c7 c8 c9 c10 c11 c12 c13 c14 c15 c16 c17 c18 c19 c20 c21 = some (.ret false c0 c1 c2 c3 c4 c5 c6 c7 c8 c9 c10 c11 c12 c13 c14 c15 c16 c17 c18 c19 c20 c21) ∧ ¬ (0 ≤ v ∧ c9 = v)) := by
  simp only [J14v1a13518]
  by_cases h : v < 0
  · right
    rw [decide_eq_true h]
    exact ⟨rfl, by omega⟩
  · rw [decide_eq_false h]
    by_cases h9 : c9 = v
    · left
      rw [bne_f h9]
      exact ⟨rfl, by omega, h9⟩
    · right
      rw [bne_t h9]
      exact ⟨rfl, fun hc => h9 hc.2⟩
def w14 : OL14v1a26 → Bool
  | .ret b _ _ _ _ _ => b
  | _ => true
theorem L14_eq (A B E C D : List Row) (hE : okE E) (hl : E.length ≤ 200) : ∀ (k i n N : Nat), i + k = E.length → k < n → 210 ≤ N →
    ∃ o, L14v1a26 N n E (E.length : Int) (i : Int) A B E C D = some o ∧ w14 o = (List.range' i k).all (entOK A E) := by
  intro k
  induction k with
  | zero =>
    intro i n N hi hn hN
    obtain ⟨n, rfl⟩ : ∃ m, n = m + 1 := ⟨n - 1, by omega⟩
    simp only [L14v1a26, decide_eq_false (show ¬ ((i : Int) < (E.length : Int)) by omega)]
    exact ⟨_, rfl, rfl⟩
  | succ k ih =>
    intro i n N hi hn hN
    obtain ⟨n, rfl⟩ : ∃ m, n = m + 1 := ⟨n - 1, by omega⟩
    obtain ⟨o, h1, h2⟩ := ih (i + 1) n N (by omega) (by omega) hN
    have e0 : decide ((i : Int) < (E.length : Int)) = true := by simp; omega
    have e1 : decide ((0 : Int) ≤ (i : Int)) = true := by simp
    have e2 : IntKind.wrap .i64 ((i : Int) + 1) = ((i + 1 : Nat) : Int) := by rw [wrap_id (by unfold inI; omega)]; omega
    have c0 : ((((E.getD ((i : Int).toNat) [])).getD 0 .top).toI) = kd E i := rfl
    have c4 : ((((E.getD ((i : Int).toNat) [])).getD 4 .top).toI) = cI E i 4 := rfl
    have c8 : ((((E.getD ((i : Int).toNat) [])).getD 8 .top).toB) = cB E i 8 := rfl
    have c9 : ((((E.getD ((i : Int).toNat) [])).getD 9 .top).toI) = cI E i 9 := rfl
    have ct : ((A.getD (cI E i 4).toNat []).getD 17 .top).toI = cI A (cI E i 4).toNat 17 := rfl
    have hg := Jg_cases A B E C D hE hl i N hN ((((E.getD ((i : Int).toNat) [])).getD 0 .top).toI) ((((E.getD ((i : Int).toNat) [])).getD 1 .top).toS) ((((E.getD ((i : Int).toNat) [])).getD 2 .top).toI) ((((E.getD ((i : Int).toNat) [])).getD 3 .top).toI) ((((E.getD ((i : Int).toNat) [])).getD 4 .top).toI) ((((E.getD ((i : Int).toNat) [])).getD 5 .top).toI) ((((E.getD ((i : Int).toNat) [])).getD 6 .top).rows) ((((E.getD ((i : Int).toNat) [])).getD 7 .top).toI) ((((E.getD ((i : Int).toNat) [])).getD 8 .top).toB) ((((E.getD ((i : Int).toNat) [])).getD 9 .top).toI) ((((E.getD ((i : Int).toNat) [])).getD 10 .top).toI) ((((E.getD ((i : Int).toNat) [])).getD 11 .top).toB) ((((E.getD ((i : Int).toNat) [])).getD 12 .top).toB) ((((E.getD ((i : Int).toNat) [])).getD 13 .top).toI) ((((E.getD ((i : Int).toNat) [])).getD 14 .top).toI) ((((E.getD ((i : Int).toNat) [])).getD 15 .top).toI) ((((E.getD ((i : Int).toNat) [])).getD 16 .top).toI) ((((E.getD ((i : Int).toNat) [])).getD 17 .top).toB) ((((E.getD ((i : Int).toNat) [])).getD 18 .top).toB) ((((E.getD ((i : Int).toNat) [])).getD 19 .top).toI) ((((E.getD ((i : Int).toNat) [])).getD 20 .top).toI) ((((E.getD ((i : Int).toNat) [])).getD 21 .top).toI) rfl rfl
    rcases Jh_cases N (lvl E i) ((((E.getD ((i : Int).toNat) [])).getD 0 .top).toI) ((((E.getD ((i : Int).toNat) [])).getD 1 .top).toS) ((((E.getD ((i : Int).toNat) [])).getD 2 .top).toI) ((((E.getD ((i : Int).toNat) [])).getD 3 .top).toI) ((((E.getD ((i : Int).toNat) [])).getD 4 .top).toI) ((((E.getD ((i : Int).toNat) [])).getD 5 .top).toI) ((((E.getD ((i : Int).toNat) [])).getD 6 .top).rows) ((((E.getD ((i : Int).toNat) [])).getD 7 .top).toI) ((((E.getD ((i : Int).toNat) [])).getD 8 .top).toB) ((((E.getD ((i : Int).toNat) [])).getD 9 .top).toI) ((((E.getD ((i : Int).toNat) [])).getD 10 .top).toI) ((((E.getD ((i : Int).toNat) [])).getD 11 .top).toB) ((((E.getD ((i : Int).toNat) [])).getD 12 .top).toB) ((((E.getD ((i : Int).toNat) [])).getD 13 .top).toI) ((((E.getD ((i : Int).toNat) [])).getD 14 .top).toI) ((((E.getD ((i : Int).toNat) [])).getD 15 .top).toI) ((((E.getD ((i : Int).toNat) [])).getD 16 .top).toI) ((((E.getD ((i : Int).toNat) [])).getD 17 .top).toB) ((((E.getD ((i : Int).toNat) [])).getD 18 .top).toB) ((((E.getD ((i : Int).toNat) [])).getD 19 .top).toI) ((((E.getD ((i : Int).toNat) [])).getD 20 .top).toI) ((((E.getD ((i : Int).toNat) [])).getD 21 .top).toI) with ⟨hj, hv, h9⟩ | ⟨hj, hv⟩
    · simp only [L14v1a26, e0, e1, e2, Bool.and_self, tst, hg, hj, h1]
      simp only [List.range'_succ, List.all_cons, Nat.mul_one, c0, c4, c8, ct]
      rw [c9] at h9
      have hen : entOK A E i = (!(kd E i == 5 && !cB E i 8) || (decide (0 ≤ cI E i 4) && decide (cI E i 4 < (A.length : Int)) && (cI A (cI E i 4).toNat 17 == lvl E i))) := by
        unfold entOK
        rw [decide_eq_true ⟨hv, h9⟩]; rfl
      rw [hen, ← h2]
      by_cases k5 : kd E i = 5
      · rw [beq_t k5]
        cases cB E i 8 with
        | true => exact ⟨o, rfl, rfl⟩
        | false =>
          by_cases t0 : cI E i 4 < 0
          · rw [decide_eq_true t0, decide_eq_false (show ¬ (0 ≤ cI E i 4) by omega)]
            exact ⟨_, rfl, rfl⟩
          · rw [decide_eq_false t0, decide_eq_true (show (0 ≤ cI E i 4) by omega)]
            by_cases t1 : (A.length : Int) ≤ cI E i 4
            · rw [decide_eq_true t1, decide_eq_false (show ¬ (cI E i 4 < (A.length : Int)) by omega)]
              exact ⟨_, rfl, rfl⟩
            · rw [decide_eq_false t1, decide_eq_true (show (cI E i 4 < (A.length : Int)) by omega)]
              by_cases t2 : cI A (cI E i 4).toNat 17 = lvl E i
              · rw [bne_f t2, beq_t t2]
                exact ⟨o, rfl, rfl⟩
              · rw [bne_t t2, beq_f t2]
                exact ⟨_, rfl, rfl⟩
      · rw [beq_f k5]
        exact ⟨o, rfl, rfl⟩
    · simp only [L14v1a26, e0, e1, e2, Bool.and_self, tst, hg, hj, List.range'_succ, List.all_cons, Nat.mul_one]
      refine ⟨_, rfl, ?_⟩
      have hen : entOK A E i = false := by
        unfold entOK
        rw [c9] at hv
        rw [decide_eq_false hv]; rfl
      rw [hen]; rfl
theorem F14_eq (A B E C D : List Row) (hE : okE E) (hl : E.length ≤ 200) (N : Nat) (hN : 220 ≤ N) : F14v1 N A B E C D = some (.r (mayB A E)) := by
  obtain ⟨N, rfl⟩ : ∃ m, N = m + 1 := ⟨N - 1, by omega⟩
  obtain ⟨o, h1, h2⟩ := L14_eq A B E C D hE hl E.length 0 N N (by omega) (by omega) (by omega)
  have h1' : L14v1a26 N N E (E.length : Int) 0 A B E C D = some o := h1
  simp only [F14v1, h1']
  unfold mayB
  rw [← h2]
  cases o <;> rfl
def greatB (A B E : List Row) : Bool := decide (200 < E.length) || decide (60 < A.length) || decide (100 < B.length)
theorem F8_eq (A B E C D : List Row) (N : Nat) (hN : 0 < N) : F8 N A B E C D = some (.r (greatB A B E)) := by
  obtain ⟨N, rfl⟩ : ∃ m, N = m + 1 := ⟨N - 1, by omega⟩
  simp only [F8]
  unfold greatB
  rw [show decide ((200 : Int) < (E.length : Int)) = decide (200 < E.length) by congr 1; simp; omega, show decide ((60 : Int) < (A.length : Int)) = decide (60 < A.length) by congr 1; simp; omega, show decide ((100 : Int) < (B.length : Int)) = decide (100 < B.length) by congr 1; simp; omega]
  cases decide (200 < E.length) <;> cases decide (60 < A.length) <;> rfl
theorem regions_true (A B E C D : List Row) (hE : okE E) (x : Int) : F3 301 A B E C D x = some (.r true) := by
  have hN : (300 : Nat) ≤ 300 := Nat.le_refl _
  simp only [F3, F8_eq A B E C D 300 (by omega), head_true]
  cases hg : greatB A B E with
  | true => rfl
  | false =>
    have hl : E.length ≤ 200 := by
      unfold greatB at hg
      simp only [Bool.or_eq_false_iff, decide_eq_false_iff_not] at hg
      omega
    simp only [F10_eqI A B E C D hE hl x 300 (by omega), F11_eqI A B E C D hl x 300 (by omega), F12_eqI A B E C D hE hl x 300 (by omega), F13_eqI A B E C D hl x 300 (by omega), F14_eq A B E C D hE hl 300 (by omega), F15_eq A B E C D hl 300 (by omega), beq_self_eq_true]
end Go.Proofs.YtdennlgnbecojaaDoor

namespace Go.Proofs.YtdennlgnbecojaaDoor
open Go Go.Eng

/-! ### The walks over a table that is written -/
def v10b : OL10v2i58f45a6 → Int
  | .ret _ _ _ _ _ v _ => v
  | _ => -1
def u10b : OL10v2i58f45a6 → List Row
  | .ret E _ _ _ _ _ _ => E
  | .retw2 E _ _ _ _ _ _ => E
  | .x0 E _ _ _ _ _ _ => E
theorem M10_out (A B E C D : List Row) {N n : Nat} {x last res acc : Int} (h : ¬ (0 ≤ x ∧ x < last)) : ∃ o, L10v2i58f45a6 N (n + 1) x last E A B C D res acc = some o ∧ u10b o = E ∧ v10b o = -1 := by
  refine ⟨.x0 E A B C D res acc, ?_, rfl, rfl⟩
  simp only [L10v2i58f45a6, J10v2i58f45a24]
  by_cases h1 : 0 ≤ x
  · rw [decide_eq_true h1, decide_eq_false (by omega)]
  · rw [decide_eq_false h1]
/-- The walk outwards. -/
theorem M10_eq (A B E C D : List Row) (hE : okE E) (hl : E.length ≤ 100000) : ∀ (r : Nat) (n N : Nat) (last acc res : Int), r + 1 < n → (r : Int) < last → last ≤ E.length → 0 ≤ acc → acc + r ≤ 100000 →
    ∃ o, L10v2i58f45a6 N n (r : Int) last E A B C D res acc = some o ∧ u10b o = E ∧ v10b o = if reg E r < 0 then -1 else acc + reg E r := by
  intro r
  induction r using Nat.strongRecOn with
  | _ r ih =>
    intro n N last acc res hn hlast hle ha hb
    obtain ⟨n, rfl⟩ : ∃ m, n = m + 1 := ⟨n - 1, by omega⟩
    have hr : r < E.length := by omega
    have ek : ((((E.getD ((r : Int).toNat) [])).getD 0 .top).toI) = kd E r := rfl
    have eo : ((((E.getD ((r : Int).toNat) [])).getD 2 .top).toI) = ow E r := rfl
    have e0 : decide ((0 : Int) ≤ (r : Int)) = true := by simp
    have e1 : decide ((r : Int) < last) = true := by simp; omega
    have e2 : decide ((r : Int) < (E.length : Int)) = true := by simp; omega
    have e4 : decide (((r : Int)).toNat < E.length) = true := by simp; omega
    obtain ⟨k0, k1⟩ := hE r hr
    obtain ⟨i1, i2⟩ := idx_ok k0 k1
    have hreg := reg.eq_1 E r
    rw [if_pos hr] at hreg
    simp only [L10v2i58f45a6, J10v2i58f45a24, J10v2i58f45a50, e0, e1, e2, e4, Bool.and_self, tst, ek, eo, i1, i2, adds_eq k0 k1]
    by_cases hk : kd E r = 1
    · rw [if_pos hk] at hreg
      simp only [beq_t hk]
      exact ⟨_, rfl, rfl, by rw [hreg]; simp [v10b]⟩
    · rw [if_neg hk] at hreg
      simp only [beq_f hk]
      rcases addS_cases hk with ⟨e3, h4⟩ | ⟨e3, h4, h5⟩ | ⟨e3, h4, h5⟩
      · rw [e3]
        simp only [beq_f (show (1 : Int) ≠ 0 by decide)]
        have ew : IntKind.wrap .i64 (acc + IntKind.wrap .i64 ((1 : Int) - 1)) = acc := by
          rw [show (1 : Int) - 1 = 0 by decide, wrap_id (n := 0) (by unfold inI; omega), wrap_id (by unfold inI; omega)]; omega
        rw [ew]
        simp only [e2, e4, Bool.and_self, eo]
        by_cases ho : 0 ≤ ow E r ∧ ow E r < (r : Int)
        · rw [dif_pos ho] at hreg
          obtain ⟨o, h, hu, h2⟩ := ih (ow E r).toNat (by omega) n N (r : Int) acc res (by omega) (by omega) (by omega) ha (by omega)
          rw [show (((ow E r).toNat : Nat) : Int) = ow E r by omega] at h
          refine ⟨o, h, hu, ?_⟩
          rw [h2, hreg, if_pos h4]
          split <;> simp_all
        · rw [dif_neg ho] at hreg
          obtain ⟨n, rfl⟩ : ∃ m, n = m + 1 := ⟨n - 1, by omega⟩
          obtain ⟨o, h, hu, h2⟩ := M10_out A B E C D (N := N) (n := n) (res := res) (acc := acc) ho
          refine ⟨o, h, hu, ?_⟩
          rw [h2, hreg]; rfl
      · rw [e3]
        simp only [beq_f (show (2 : Int) ≠ 0 by decide)]
        have ew : IntKind.wrap .i64 (acc + IntKind.wrap .i64 ((2 : Int) - 1)) = acc + 1 := by
          rw [show (2 : Int) - 1 = 1 by decide, wrap_id (n := 1) (by unfold inI; omega), wrap_id (by unfold inI; omega)]
        rw [ew]
        simp only [e2, e4, Bool.and_self, eo]
        by_cases ho : 0 ≤ ow E r ∧ ow E r < (r : Int)
        · rw [dif_pos ho] at hreg
          obtain ⟨o, h, hu, h2⟩ := ih (ow E r).toNat (by omega) n N (r : Int) (acc + 1) res (by omega) (by omega) (by omega) (by omega) (by omega)
          rw [show (((ow E r).toNat : Nat) : Int) = ow E r by omega] at h
          refine ⟨o, h, hu, ?_⟩
          have hb := reg_bd E (ow E r).toNat
          rw [h2, hreg, if_neg h4, if_pos h5]
          by_cases h6 : reg E (ow E r).toNat < 0
          · rw [if_pos h6, if_pos h6]; rfl
          · rw [if_neg h6, if_neg h6, if_neg (by omega)]; omega
        · rw [dif_neg ho] at hreg
          obtain ⟨n, rfl⟩ : ∃ m, n = m + 1 := ⟨n - 1, by omega⟩
          obtain ⟨o, h, hu, h2⟩ := M10_out A B E C D (N := N) (n := n) (res := res) (acc := acc + 1) ho
          refine ⟨o, h, hu, ?_⟩
          rw [h2, hreg]; rfl
      · simp only [e3, beq_self_eq_true]
        refine ⟨_, rfl, rfl, ?_⟩
        rw [if_neg h4, if_neg (show ¬ plain (kd E r) = true by rw [h5]; decide)] at hreg
        rw [if_pos (by rw [hreg]; repeat' split
                       all_goals omega)]
        rfl
theorem G10_eqI (A B E C D : List Row) (hE : okE E) (hl : E.length ≤ 201) (x : Int) (N : Nat) (hN : 210 ≤ N) : F10v2 N A B C D x E = some (.r (regI E x) E) := by
  obtain ⟨N, rfl⟩ : ∃ m, N = m + 2 := ⟨N - 2, by omega⟩
  simp only [F10v2, F23v2]
  by_cases h : 0 ≤ x ∧ x < (E.length : Int)
  · obtain ⟨r, rfl⟩ := Int.eq_ofNat_of_zero_le h.1
    obtain ⟨o, h1, hu, h2⟩ := M10_eq A B E C D hE (by omega) r (N + 1) (N + 1) E.length 0 0 (by omega) (by omega) (by omega) (by omega) (by omega)
    have e1 : L10v2i58f45a6 (N + 1) (N + 1) (r : Int) (E.length : Int) E A B C D 0 0 = some o := h1
    have e2 : v10b o = regI E (r : Int) := by
      rw [h2, regI_nat]
      have := reg_bd E r
      split <;> omega
    rw [e1, ← e2]
    cases o <;> (simp only [u10b] at hu; subst hu; rfl)
  · obtain ⟨o, h1, hu, h2⟩ := M10_out A B E C D (N := N + 1) (n := N) (x := x) (last := E.length) (res := 0) (acc := 0) h
    rw [regI_big h]
    rw [h1, ← h2]
    cases o <;> (simp only [u10b] at hu; subst hu; rfl)
theorem Mg_cases (A B E C D : List Row) (hE : okE E) (hl : E.length ≤ 201) (i N : Nat) (hN : 210 ≤ N) (c0 : Int) (c1 : ByteArray) (c2 : Int) (c3 : Int) (c4 : Int) (c5 : Int) (c6 : List Row) (c7 : Int) (c8 : Bool) (c9 : Int) (c10 : Int) (c11 : Bool) (c12 : Bool) (c13 : Int) (c14 : Int) (c15 : Int) (c16 : Int) (c17 : Bool) (c18 : Bool) (c19 : Int) (c20 : Int) (c21 : Int) (h0 : c0 = kd E i) (h2 : c2 = ow E i) :
    J14v2a6758 N (i : Int) 0 E A B C D c0 c1 c2 c3 c4 c5 c6 c7 c8 c9 c10 c11 c12 c13 c14 c15 c16 c17 c18 c19 c20 c21 = some (.nx (lvl E i) E A B C D c0 c1 c2 c3 c4 c5 c6 c7 c8 c9 c10 c11 c12 c13 c14 c15 c16 c17 c18 c19 c20 c21) := by
  subst h0
  subst h2
  simp only [J14v2a6758]
  by_cases hk : kd E i = 1
  · have hv : lvl E i = 0 := by unfold lvl; rw [if_pos hk]
    rw [bne_f hk, hv]
  · rw [bne_t hk]
    have hv : lvl E i = if ow E i < (i : Int) then regI E (ow E i) else -1 := by unfold lvl; rw [if_neg hk]
    rw [hv]
    by_cases o1 : ow E i < (i : Int)
    · rw [decide_eq_true o1, if_pos o1]
      simp only [G10_eqI A B E C D hE hl (ow E i) N (by omega)]
    · rw [decide_eq_false o1, if_neg o1]
theorem Mh_cases (N : Nat) (v : Int) (E : List Row) (c0 : Int) (c1 : ByteArray) (c2 : Int) (c3 : Int) (c4 : Int) (c5 : Int) (c6 : List Row) (c7 : Int) (c8 : Bool) (c9 : Int) (c10 : Int) (c11 : Bool) (c12 : Bool) (c13 : Int) (c14 : Int) (c15 : Int) (c16 : Int) (c17 : Bool) (c18 : Bool) (c19 : Int) (c20 : Int) (c21 : Int) : (J14v2a13518 N v E c0 c1 c2 c3 c4 c5 c6 c7 c8 c9 c10 c11 c12 c13 c14 c15 c16 c17 c18 c19 c20 c21 = some (.nx E c0 c1 c2 c3 c4 c5 c6 c7 c8 c9 c10 c11 c12 c13 c14 c15 c16 c17 c18 c19 c20 c21) ∧ 0 ≤ v ∧ c9 = v) ∨ (J14v2a13518 N v E c0 c1 c2 c3 c4 c5 c6 c7 c8 c9 c10 c11 c12 c13 c14 c15 c16 c17 c18 c19 c20 c21 = some (.ret false E c0 c1 c2 c3 c4 c5 c6 c7 c8 c9 c10 c11 c12 c13 c14 c15 c16 c17 c18 c19 c20 c21) ∧ ¬ (0 ≤ v ∧ c9 = v)) := by
  simp only [J14v2a13518]
  by_cases h : v < 0
  · right
    rw [decide_eq_true h]
    exact ⟨rfl, by omega⟩
  · rw [decide_eq_false h]
    by_cases h9 : c9 = v
    · left
      rw [bne_f h9]
      exact ⟨rfl, by omega, h9⟩
    · right
      rw [bne_t h9]
      exact ⟨rfl, fun hc => h9 hc.2⟩
def w14b : OL14v2a26 → Bool
  | .ret b _ _ _ _ _ => b
  | _ => true
def u14b : OL14v2a26 → List Row
  | .ret _ E _ _ _ _ => E
  | .x0 E _ _ _ _ => E
theorem M14_eq (A B E C D : List Row) (hE : okE E) (hl : E.length ≤ 201) : ∀ (k i n N : Nat), i + k = E.length → k < n → 210 ≤ N →
    ∃ o, L14v2a26 N n (E.length : Int) (i : Int) E A B C D = some o ∧ u14b o = E ∧ w14b o = (List.range' i k).all (entOK A E) := by
  intro k
  induction k with
  | zero =>
    intro i n N hi hn hN
    obtain ⟨n, rfl⟩ : ∃ m, n = m + 1 := ⟨n - 1, by omega⟩
    simp only [L14v2a26, decide_eq_false (show ¬ ((i : Int) < (E.length : Int)) by omega)]
    exact ⟨_, rfl, rfl, rfl⟩
  | succ k ih =>
    intro i n N hi hn hN
    obtain ⟨n, rfl⟩ : ∃ m, n = m + 1 := ⟨n - 1, by omega⟩
    obtain ⟨o, h1, hu, h2⟩ := ih (i + 1) n N (by omega) (by omega) hN
    have e0 : decide ((i : Int) < (E.length : Int)) = true := by simp; omega
    have e1 : decide ((0 : Int) ≤ (i : Int)) = true := by simp
    have e4 : decide (((i : Int)).toNat < E.length) = true := by simp; omega
    have e2 : IntKind.wrap .i64 ((i : Int) + 1) = ((i + 1 : Nat) : Int) := by rw [wrap_id (by unfold inI; omega)]; omega
    have c0 : ((((E.getD ((i : Int).toNat) [])).getD 0 .top).toI) = kd E i := rfl
    have c4 : ((((E.getD ((i : Int).toNat) [])).getD 4 .top).toI) = cI E i 4 := rfl
    have c8 : ((((E.getD ((i : Int).toNat) [])).getD 8 .top).toB) = cB E i 8 := rfl
    have c9 : ((((E.getD ((i : Int).toNat) [])).getD 9 .top).toI) = cI E i 9 := rfl
    have ct : ((A.getD (cI E i 4).toNat []).getD 17 .top).toI = cI A (cI E i 4).toNat 17 := rfl
    have hg := Mg_cases A B E C D hE hl i N hN ((((E.getD ((i : Int).toNat) [])).getD 0 .top).toI) ((((E.getD ((i : Int).toNat) [])).getD 1 .top).toS) ((((E.getD ((i : Int).toNat) [])).getD 2 .top).toI) ((((E.getD ((i : Int).toNat) [])).getD 3 .top).toI) ((((E.getD ((i : Int).toNat) [])).getD 4 .top).toI) ((((E.getD ((i : Int).toNat) [])).getD 5 .top).toI) ((((E.getD ((i : Int).toNat) [])).getD 6 .top).rows) ((((E.getD ((i : Int).toNat) [])).getD 7 .top).toI) ((((E.getD ((i : Int).toNat) [])).getD 8 .top).toB) ((((E.getD ((i : Int).toNat) [])).getD 9 .top).toI) ((((E.getD ((i : Int).toNat) [])).getD 10 .top).toI) ((((E.getD ((i : Int).toNat) [])).getD 11 .top).toB) ((((E.getD ((i : Int).toNat) [])).getD 12 .top).toB) ((((E.getD ((i : Int).toNat) [])).getD 13 .top).toI) ((((E.getD ((i : Int).toNat) [])).getD 14 .top).toI) ((((E.getD ((i : Int).toNat) [])).getD 15 .top).toI) ((((E.getD ((i : Int).toNat) [])).getD 16 .top).toI) ((((E.getD ((i : Int).toNat) [])).getD 17 .top).toB) ((((E.getD ((i : Int).toNat) [])).getD 18 .top).toB) ((((E.getD ((i : Int).toNat) [])).getD 19 .top).toI) ((((E.getD ((i : Int).toNat) [])).getD 20 .top).toI) ((((E.getD ((i : Int).toNat) [])).getD 21 .top).toI) rfl rfl
    rcases Mh_cases N (lvl E i) E ((((E.getD ((i : Int).toNat) [])).getD 0 .top).toI) ((((E.getD ((i : Int).toNat) [])).getD 1 .top).toS) ((((E.getD ((i : Int).toNat) [])).getD 2 .top).toI) ((((E.getD ((i : Int).toNat) [])).getD 3 .top).toI) ((((E.getD ((i : Int).toNat) [])).getD 4 .top).toI) ((((E.getD ((i : Int).toNat) [])).getD 5 .top).toI) ((((E.getD ((i : Int).toNat) [])).getD 6 .top).rows) ((((E.getD ((i : Int).toNat) [])).getD 7 .top).toI) ((((E.getD ((i : Int).toNat) [])).getD 8 .top).toB) ((((E.getD ((i : Int).toNat) [])).getD 9 .top).toI) ((((E.getD ((i : Int).toNat) [])).getD 10 .top).toI) ((((E.getD ((i : Int).toNat) [])).getD 11 .top).toB) ((((E.getD ((i : Int).toNat) [])).getD 12 .top).toB) ((((E.getD ((i : Int).toNat) [])).getD 13 .top).toI) ((((E.getD ((i : Int).toNat) [])).getD 14 .top).toI) ((((E.getD ((i : Int).toNat) [])).getD 15 .top).toI) ((((E.getD ((i : Int).toNat) [])).getD 16 .top).toI) ((((E.getD ((i : Int).toNat) [])).getD 17 .top).toB) ((((E.getD ((i : Int).toNat) [])).getD 18 .top).toB) ((((E.getD ((i : Int).toNat) [])).getD 19 .top).toI) ((((E.getD ((i : Int).toNat) [])).getD 20 .top).toI) ((((E.getD ((i : Int).toNat) [])).getD 21 .top).toI) with ⟨hj, hv, h9⟩ | ⟨hj, hv⟩
    · simp only [L14v2a26, e0, e1, e2, e4, Bool.and_self, tst, hg, hj, h1]
      simp only [List.range'_succ, List.all_cons, Nat.mul_one, c0, c4, c8, ct]
      rw [c9] at h9
      have hen : entOK A E i = (!(kd E i == 5 && !cB E i 8) || (decide (0 ≤ cI E i 4) && decide (cI E i 4 < (A.length : Int)) && (cI A (cI E i 4).toNat 17 == lvl E i))) := by
        unfold entOK
        rw [decide_eq_true ⟨hv, h9⟩]; rfl
      rw [hen, ← h2]
      by_cases k5 : kd E i = 5
      · rw [beq_t k5]
        cases cB E i 8 with
        | true => exact ⟨o, rfl, hu, rfl⟩
        | false =>
          by_cases t0 : cI E i 4 < 0
          · rw [decide_eq_true t0, decide_eq_false (show ¬ (0 ≤ cI E i 4) by omega)]
            exact ⟨_, rfl, rfl, rfl⟩
          · rw [decide_eq_false t0, decide_eq_true (show (0 ≤ cI E i 4) by omega)]
            by_cases t1 : (A.length : Int) ≤ cI E i 4
            · rw [decide_eq_true t1, decide_eq_false (show ¬ (cI E i 4 < (A.length : Int)) by omega)]
              exact ⟨_, rfl, rfl, rfl⟩
            · rw [decide_eq_false t1, decide_eq_true (show (cI E i 4 < (A.length : Int)) by omega)]
              by_cases t2 : cI A (cI E i 4).toNat 17 = lvl E i
              · rw [bne_f t2, beq_t t2]
                exact ⟨o, rfl, hu, rfl⟩
              · rw [bne_t t2, beq_f t2]
                exact ⟨_, rfl, rfl, rfl⟩
      · rw [beq_f k5]
        exact ⟨o, rfl, hu, rfl⟩
    · simp only [L14v2a26, e0, e1, e2, e4, Bool.and_self, tst, hg, hj, List.range'_succ, List.all_cons, Nat.mul_one]
      refine ⟨_, rfl, rfl, ?_⟩
      have hen : entOK A E i = false := by
        unfold entOK
        rw [c9] at hv
        rw [decide_eq_false hv]; rfl
      rw [hen]; rfl
theorem G14_eq (A B E C D : List Row) (hE : okE E) (hl : E.length ≤ 201) (N : Nat) (hN : 220 ≤ N) : F14v2 N A B C D E = some (.r (mayB A E) E) := by
  obtain ⟨N, rfl⟩ : ∃ m, N = m + 1 := ⟨N - 1, by omega⟩
  obtain ⟨o, h1, hu, h2⟩ := M14_eq A B E C D hE hl E.length 0 N N (by omega) (by omega) (by omega)
  have h1' : L14v2a26 N N (E.length : Int) 0 E A B C D = some o := h1
  simp only [F14v2, h1']
  unfold mayB
  rw [← h2]
  cases o <;> (simp only [u14b] at hu; subst hu; rfl)

/-! ### An entity more -/
theorem great_no {A B E : List Row} (h : greatB A B E = false) : E.length ≤ 200 ∧ A.length ≤ 60 ∧ B.length ≤ 100 := by
  unfold greatB at h
  simp only [Bool.or_eq_false_iff, decide_eq_false_iff_not] at h
  omega
theorem getD_lt {E : List Row} {i : Nat} (h : i < E.length) (x : Row) : (E ++ [x]).getD i [] = E.getD i [] := by
  simp [List.getD, List.getElem?_append_left h]
theorem getD_last (E : List Row) (x : Row) : (E ++ [x]).getD E.length [] = x := by
  simp [List.getD]
theorem cI_lt {E : List Row} {i : Nat} (h : i < E.length) (x : Row) (c : Nat) : cI (E ++ [x]) i c = cI E i c := by unfold cI; rw [getD_lt h]
theorem cB_lt {E : List Row} {i : Nat} (h : i < E.length) (x : Row) (c : Nat) : cB (E ++ [x]) i c = cB E i c := by unfold cB; rw [getD_lt h]
theorem reg_lt' {E : List Row} (x : Row) : ∀ {r : Nat}, r < E.length → reg (E ++ [x]) r = reg E r := by
  intro r
  induction r using Nat.strongRecOn with
  | _ r ih =>
    intro hr
    have h1 : kd (E ++ [x]) r = kd E r := cI_lt hr x 0
    have h2 : ow (E ++ [x]) r = ow E r := cI_lt hr x 2
    rw [reg.eq_1 (E ++ [x]) r, reg.eq_1 E r, if_pos (show r < (E ++ [x]).length by simp; omega), if_pos hr, h1, h2]
    split
    · rfl
    · split
      · rw [ih _ (by omega) (by omega)]
      · rfl
theorem lvl_lt' {E : List Row} (x : Row) {i : Nat} (hi : i < E.length) : lvl (E ++ [x]) i = lvl E i := by
  unfold lvl
  have h1 : kd (E ++ [x]) i = kd E i := cI_lt hi x 0
  have h2 : ow (E ++ [x]) i = ow E i := cI_lt hi x 2
  rw [h1, h2]
  split
  · rfl
  · split
    · unfold regI
      split
      · rw [reg_lt' x (by omega)]
      · rfl
    · rfl
theorem may_add (A E : List Row) (x : Row) : mayB A (E ++ [x]) = (mayB A E && entOK A (E ++ [x]) E.length) := by
  unfold mayB
  rw [List.length_append, List.length_singleton, List.range'_concat, List.all_append]
  simp only [Nat.zero_add, Nat.one_mul, List.all_cons, List.all_nil, Bool.and_true]
  congr 1
  rw [Bool.eq_iff_iff, List.all_eq_true, List.all_eq_true]
  have e : ∀ i ∈ List.range' 0 E.length, entOK A (E ++ [x]) i = entOK A E i := by
    intro i hi
    have hi : i < E.length := by rw [List.mem_range'] at hi; obtain ⟨j, h1, h2⟩ := hi; omega
    unfold entOK
    rw [lvl_lt' x hi, cI_lt hi, cI_lt hi, cB_lt hi, show kd (E ++ [x]) i = kd E i from cI_lt hi x 0]
  constructor
  · intro h i hi; rw [← e i hi]; exact h i hi
  · intro h i hi; rw [e i hi]; exact h i hi
theorem ent_last (A E : List Row) (x : Row) (h1 : (x.getD 0 .top).toI ≠ 1) (h5 : (x.getD 0 .top).toI ≠ 5) : entOK A (E ++ [x]) E.length = decide (0 ≤ regI E (x.getD 2 .top).toI ∧ (x.getD 9 .top).toI = regI E (x.getD 2 .top).toI) := by
  have e0 : kd (E ++ [x]) E.length = (x.getD 0 .top).toI := by unfold kd cI; rw [getD_last]
  have e2 : ow (E ++ [x]) E.length = (x.getD 2 .top).toI := by unfold ow cI; rw [getD_last]
  have e9 : cI (E ++ [x]) E.length 9 = (x.getD 9 .top).toI := by unfold cI; rw [getD_last]
  have el : lvl (E ++ [x]) E.length = regI E (x.getD 2 .top).toI := by
    unfold lvl
    rw [e0, e2, if_neg h1]
    by_cases h : 0 ≤ (x.getD 2 .top).toI ∧ (x.getD 2 .top).toI < (E.length : Int)
    · rw [if_pos h.2]
      unfold regI
      rw [if_pos h.1, if_pos h.1, reg_lt' x (by omega)]
    · rw [regI_big h]
      split
      · unfold regI
        rw [if_neg (by omega)]
      · rfl
  unfold entOK
  rw [el, e9, e0, beq_f h5]
  simp
theorem okE_add {E : List Row} (hE : okE E) (x : Row) (h : 0 ≤ (x.getD 0 .top).toI ∧ (x.getD 0 .top).toI ≤ 255) : okE (E ++ [x]) := by
  intro i hi
  by_cases h1 : i < E.length
  · rw [show kd (E ++ [x]) i = kd E i from cI_lt h1 x 0]
    exact hE i h1
  · have : i = E.length := by simp at hi; omega
    subst this
    have e0 : kd (E ++ [x]) E.length = (x.getD 0 .top).toI := by unfold kd cI; rw [getD_last]
    rw [e0]; exact h
theorem adds_true (A B E C D : List Row) (hE : okE E) (e0 : Int) (e1 : ByteArray) (e2 : Int) (e3 : Int) (e4 : Int) (e5 : Int) (e6 : List Row) (e7 : Int) (e8 : Bool) (e9 : Int) (e10 : Int) (e11 : Bool) (e12 : Bool) (e13 : Int) (e14 : Int) (e15 : Int) (e16 : Int) (e17 : Bool) (e18 : Bool) (e19 : Int) (e20 : Int) (e21 : Int) (q0 : 0 ≤ e0 ∧ e0 ≤ 255) (q2 : True) (y : Int) : F7 301 A B E C D e0 e1 e2 e3 e4 e5 e6 e7 e8 e9 e10 e11 e12 e13 e14 e15 e16 e17 e18 e19 e20 e21 y = some (.r true) := by
  simp only [F7, J7a6, F8_eq A B E C D 300 (by omega), head_true]
  cases hg : greatB A B E with
  | true => rfl
  | false =>
    obtain ⟨hl, _, _⟩ := great_no hg
    simp only [F15_eq A B E C D hl 300 (by omega)]
    cases hm : mayB A E with
    | false => rfl
    | true =>
      simp only [Bool.not_true]
      by_cases k1 : e0 = 1
      · rw [beq_t k1]
      · rw [beq_f k1]
        by_cases k5 : e0 = 5
        · rw [beq_t k5]
        · rw [beq_f k5]
          have t1 : decide (((0 + E.length) * 176) ≤ 140737488355328) = true := by simp; omega
          have t2 : decide (((E.length + 1) * 176) ≤ 140737488355328) = true := by simp; omega
          simp only [t1, tst, F10_eqI A B E C D hE hl e2 300 (by omega), List.nil_append]
          have hok : ∀ v : Int, okE (E ++ [([.int .u8 e0, .str e1, .int .i64 e2, .int .u8 e3, .int .i64 e4, .int .i64 e5, .list 90 e6, .int .i64 e7, .bool e8, .int .i64 v, .int .i64 e10, .bool e11, .bool e12, .int .u8 e13, .int .i64 e14, .int .i64 e15, .int .i64 e16, .bool e17, .bool e18, .int .i64 e19, .int .i64 e20, .int .i64 e21] : Row)]) := fun v => okE_add hE _ q0
          have hF : ∀ v : Int, F14v2 300 A B C D (E ++ [([.int .u8 e0, .str e1, .int .i64 e2, .int .u8 e3, .int .i64 e4, .int .i64 e5, .list 90 e6, .int .i64 e7, .bool e8, .int .i64 v, .int .i64 e10, .bool e11, .bool e12, .int .u8 e13, .int .i64 e14, .int .i64 e15, .int .i64 e16, .bool e17, .bool e18, .int .i64 e19, .int .i64 e20, .int .i64 e21] : Row)]) = some (.r (decide (0 ≤ regI E e2 ∧ v = regI E e2)) (E ++ [([.int .u8 e0, .str e1, .int .i64 e2, .int .u8 e3, .int .i64 e4, .int .i64 e5, .list 90 e6, .int .i64 e7, .bool e8, .int .i64 v, .int .i64 e10, .bool e11, .bool e12, .int .u8 e13, .int .i64 e14, .int .i64 e15, .int .i64 e16, .bool e17, .bool e18, .int .i64 e19, .int .i64 e20, .int .i64 e21] : Row)])) := by
            intro v
            have g := G14_eq A B (E ++ [([.int .u8 e0, .str e1, .int .i64 e2, .int .u8 e3, .int .i64 e4, .int .i64 e5, .list 90 e6, .int .i64 e7, .bool e8, .int .i64 v, .int .i64 e10, .bool e11, .bool e12, .int .u8 e13, .int .i64 e14, .int .i64 e15, .int .i64 e16, .bool e17, .bool e18, .int .i64 e19, .int .i64 e20, .int .i64 e21] : Row)]) C D (hok v) (by simp; omega) 300 (by omega)
            have a := may_add A E ([.int .u8 e0, .str e1, .int .i64 e2, .int .u8 e3, .int .i64 e4, .int .i64 e5, .list 90 e6, .int .i64 e7, .bool e8, .int .i64 v, .int .i64 e10, .bool e11, .bool e12, .int .u8 e13, .int .i64 e14, .int .i64 e15, .int .i64 e16, .bool e17, .bool e18, .int .i64 e19, .int .i64 e20, .int .i64 e21] : Row)
            have l := ent_last A E ([.int .u8 e0, .str e1, .int .i64 e2, .int .u8 e3, .int .i64 e4, .int .i64 e5, .list 90 e6, .int .i64 e7, .bool e8, .int .i64 v, .int .i64 e10, .bool e11, .bool e12, .int .u8 e13, .int .i64 e14, .int .i64 e15, .int .i64 e16, .bool e17, .bool e18, .int .i64 e19, .int .i64 e20, .int .i64 e21] : Row) k1 k5
            rw [hm, Bool.true_and, l] at a
            rw [g, a]
            rfl
          have hF2 := hF (regI E e2)
          by_cases o1 : e2 < 0
          · have hb : regI E e2 = -1 := regI_big (by omega)
            rw [hb] at hF2
            simp only [J7a254, decide_eq_true o1, t2, tst, hb, hF2, head_true, beq_self_eq_true]
            rfl
          · by_cases o2 : (E.length : Int) ≤ e2
            · have hb : regI E e2 = -1 := regI_big (by omega)
              rw [hb] at hF2
              simp only [J7a254, decide_eq_false o1, decide_eq_true o2, t2, tst, hb, hF2, head_true, beq_self_eq_true]
              rfl
            · simp only [J7a254, decide_eq_false o1, decide_eq_false o2, t2, tst, hF2]
              have d3 : decide (0 ≤ regI E e2 ∧ regI E e2 = regI E e2) = decide (0 ≤ regI E e2) := by simp
              have t3 : (decide ((0 : Int) ≤ (E.length : Int)) && decide ((E.length : Int) < (((E ++ [([.int .u8 e0, .str e1, .int .i64 e2, .int .u8 e3, .int .i64 e4, .int .i64 e5, .list 90 e6, .int .i64 e7, .bool e8, .int .i64 (regI E e2), .int .i64 e10, .bool e11, .bool e12, .int .u8 e13, .int .i64 e14, .int .i64 e15, .int .i64 e16, .bool e17, .bool e18, .int .i64 e19, .int .i64 e20, .int .i64 e21] : Row)]).length : Nat) : Int))) = true := by simp; omega
              have t4 : decide (((E.length : Int)).toNat < (E ++ [([.int .u8 e0, .str e1, .int .i64 e2, .int .u8 e3, .int .i64 e4, .int .i64 e5, .list 90 e6, .int .i64 e7, .bool e8, .int .i64 (regI E e2), .int .i64 e10, .bool e11, .bool e12, .int .u8 e13, .int .i64 e14, .int .i64 e15, .int .i64 e16, .bool e17, .bool e18, .int .i64 e19, .int .i64 e20, .int .i64 e21] : Row)]).length) = true := by simp
              simp only [d3, and_true, beq_self_eq_true, Bool.not_true, t3, t4]
              by_cases hy : y = regI E e2
              · rw [beq_t hy]
              · rw [beq_f hy]
                have hset : (E ++ [([.int .u8 e0, .str e1, .int .i64 e2, .int .u8 e3, .int .i64 e4, .int .i64 e5, .list 90 e6, .int .i64 e7, .bool e8, .int .i64 (regI E e2), .int .i64 e10, .bool e11, .bool e12, .int .u8 e13, .int .i64 e14, .int .i64 e15, .int .i64 e16, .bool e17, .bool e18, .int .i64 e19, .int .i64 e20, .int .i64 e21] : Row)]).set ((E.length : Int)).toNat (Eng.setAt ((E ++ [([.int .u8 e0, .str e1, .int .i64 e2, .int .u8 e3, .int .i64 e4, .int .i64 e5, .list 90 e6, .int .i64 e7, .bool e8, .int .i64 (regI E e2), .int .i64 e10, .bool e11, .bool e12, .int .u8 e13, .int .i64 e14, .int .i64 e15, .int .i64 e16, .bool e17, .bool e18, .int .i64 e19, .int .i64 e20, .int .i64 e21] : Row)]).getD ((E.length : Int)).toNat []) 9 [.int .i64 y]) = E ++ [([.int .u8 e0, .str e1, .int .i64 e2, .int .u8 e3, .int .i64 e4, .int .i64 e5, .list 90 e6, .int .i64 e7, .bool e8, .int .i64 y, .int .i64 e10, .bool e11, .bool e12, .int .u8 e13, .int .i64 e14, .int .i64 e15, .int .i64 e16, .bool e17, .bool e18, .int .i64 e19, .int .i64 e20, .int .i64 e21] : Row)] := by
                  rw [show ((E.length : Int)).toNat = E.length from rfl, getD_last]
                  simp [Eng.setAt]
                have hF3 := hF y
                rw [decide_eq_false (fun h => hy h.2)] at hF3
                rw [hset]
                simp only [hF3]
                rfl
end Go.Proofs.YtdennlgnbecojaaDoor

namespace Go.Proofs.YtdennlgnbecojaaDoor
open Go Go.Eng Go.ChangeShapes Go.WideShapes Go.ChangeAt Go.RowKit

theorem own : ownKnob Tryd.prog.godebug = none := by kernel_rfl
theorem laidOut : laidOutB Tryd.prog = true := by kernel_rfl
theorem rdS_ok : rdS CX rdL = true := by kernel_rfl

theorem wf_i64 {v : Int} (h : (Lit.int .i64 v).wf = true) : inI v := by
  simp only [Lit.wf, IntKind.min, IntKind.max, IntKind.signed, IntKind.bits, Bool.and_eq_true, decide_eq_true_eq, if_true] at h
  unfold inI; omega
theorem wf_u8 {v : Int} (h : (Lit.int .u8 v).wf = true) : 0 ≤ v ∧ v ≤ 255 := by
  simp only [Lit.wf, IntKind.min, IntKind.max, IntKind.signed, IntKind.bits, Bool.and_eq_true, decide_eq_true_eq, Bool.false_eq_true, if_false] at h
  omega
theorem int_of_arg {k : IntKind} {t : TypeId} {x : AV} (ha : (CX.ti t).u.agg = false) (hk : (CX.ti t).ks = [.int k]) (h : ArgAV CX t x) : ∃ v, x = .int k v ∧ (Lit.int k v).wf = true := by
  rcases h with ⟨h1, _⟩ | ⟨_, h2, h3⟩
  · rw [ha] at h1; cases h1
  · rw [hk] at h2
    simp only [koks, Bool.and_true] at h2
    cases x <;> simp only [kok, Bool.false_eq_true] at h2
    have e := eq_of_beq h2
    subst e
    cases h3 with
    | int _ _ h => exact ⟨_, rfl, h⟩
theorem cell_of {ks : List Kind} {row : Row} (h2 : koks ks row = true) (h3 : WfL CX.K row) {j : Nat} {k : IntKind} (hk : ks[j]? = some (.int k)) : ∃ n, row.getD j .top = .int k n ∧ (Lit.int k n).wf = true := by
  have hl := koks_length h2
  have hj : j < row.length := by
    have := (List.getElem?_eq_some_iff.1 hk).1; omega
  have h4 := koks_get h2 hk (List.getElem?_eq_getElem hj)
  have h5 := h3 _ (List.getElem_mem hj)
  have h6 : row.getD j .top = row[j] := by simp [List.getD, hj]
  rw [h6]
  generalize row[j] = x at h4 h5
  cases x <;> simp only [kok, Bool.false_eq_true] at h4
  have e := eq_of_beq h4
  subst e
  cases h5 with
  | int _ _ h => exact ⟨_, rfl, h⟩
theorem list_of {t : TypeId} {x : AV} (h : kok (.slice t) x = true) (hw : Wf CX.K x) : ∃ T, x = .list t T ∧ T.length ≤ maxLen ∧ ∀ row ∈ T, koks (CX.K t) row = true ∧ WfL CX.K row := by
  cases x <;> simp only [kok, Bool.false_eq_true] at h
  have e := eq_of_beq h
  subst e
  cases hw with
  | list _ _ hl hk h => exact ⟨_, rfl, hl, fun row hr => ⟨hk row hr, fun x hx => h row hr x hx⟩⟩
theorem okE_of {E : List Row} (h : ∀ row ∈ E, koks (CX.K 45) row = true ∧ WfL CX.K row) (h0 : (CX.K 45)[0]? = some (.int .u8)) : okE E := by
  intro i hi
  obtain ⟨h1, h2⟩ := h _ (List.getElem_mem hi)
  obtain ⟨n, h3, h4⟩ := cell_of h1 h2 h0
  have e : kd E i = n := by
    unfold kd cI
    rw [show E.getD i [] = E[i] by simp [List.getD, hi], h3]
    rfl
  rw [e]
  exact wf_u8 h4
theorem tab_of_arg {x : AV} (ha : (CX.ti 28).u.agg = true) (hk : (CX.ti 28).ks = [.slice 58, .slice 74, .slice 45, .slice 113, .slice 117]) (h : ArgAV CX 28 x) : ∃ A B E C D, x = .agg [.list 58 A, .list 74 B, .list 45 E, .list 113 C, .list 117 D] ∧ okE E := by
  rcases h with ⟨_, row, rfl, h2, h3⟩ | ⟨h1, _⟩
  · rw [hk] at h2
    match row, h2, h3 with
    | [a, b, c, d, e], h2, h3 =>
      simp only [koks, Bool.and_eq_true] at h2
      obtain ⟨k1, k2, k3, k4, k5, _⟩ := h2
      obtain ⟨A, rfl, _⟩ := list_of k1 (h3 _ (by simp))
      obtain ⟨B, rfl, _⟩ := list_of k2 (h3 _ (by simp))
      obtain ⟨E, rfl, _, hE⟩ := list_of k3 (h3 _ (by simp))
      obtain ⟨C, rfl, _⟩ := list_of k4 (h3 _ (by simp))
      obtain ⟨D, rfl, _⟩ := list_of k5 (h3 _ (by simp))
      exact ⟨A, B, E, C, D, rfl, okE_of hE (by kernel_rfl)⟩
    | [], h2, _ => simp [koks] at h2
    | [_], h2, _ => simp [koks] at h2
    | [_, _], h2, _ => simp [koks] at h2
    | [_, _, _], h2, _ => simp [koks] at h2
    | [_, _, _, _], h2, _ => simp [koks] at h2
    | _ :: _ :: _ :: _ :: _ :: _ :: _, h2, _ => simp [koks] at h2
  · rw [ha] at h1; cases h1

theorem uncons {k : Kind} {ks : List Kind} {row : Row} (h : koks (k :: ks) row = true) : ∃ a r, row = a :: r ∧ kok k a = true ∧ koks ks r = true := by
  match row, h with
  | [], h => simp [koks] at h
  | a :: r, h =>
    simp only [koks, Bool.and_eq_true] at h
    exact ⟨a, r, rfl, h.1, h.2⟩
theorem is_int {k : IntKind} {a : AV} (h : kok (.int k) a = true) : ∃ n, a = .int k n := by
  cases a <;> simp only [kok, Bool.false_eq_true] at h
  have e := eq_of_beq h
  subst e
  exact ⟨_, rfl⟩
theorem is_bool {a : AV} (h : kok .bool a = true) : ∃ n, a = .bool n := by
  cases a <;> simp only [kok, Bool.false_eq_true] at h
  exact ⟨_, rfl⟩
theorem is_str {a : AV} (h : kok .str a = true) : ∃ n, a = .str n := by
  cases a <;> simp only [kok, Bool.false_eq_true] at h
  exact ⟨_, rfl⟩
theorem is_list {t : TypeId} {a : AV} (h : kok (.slice t) a = true) : ∃ n, a = .list t n := by
  cases a <;> simp only [kok, Bool.false_eq_true] at h
  have e := eq_of_beq h
  subst e
  exact ⟨_, rfl⟩
theorem ent_of_arg {x : AV} (ha : (CX.ti 45).u.agg = true) (hk : (CX.ti 45).ks = [.int .u8, .str, .int .i64, .int .u8, .int .i64, .int .i64, .slice 90, .int .i64, .bool, .int .i64, .int .i64, .bool, .bool, .int .u8, .int .i64, .int .i64, .int .i64, .bool, .bool, .int .i64, .int .i64, .int .i64]) (h : ArgAV CX 45 x) : ∃ e0 e1 e2 e3 e4 e5 e6 e7 e8 e9 e10 e11 e12 e13 e14 e15 e16 e17 e18 e19 e20 e21, x = .agg [.int .u8 e0, .str e1, .int .i64 e2, .int .u8 e3, .int .i64 e4, .int .i64 e5, .list 90 e6, .int .i64 e7, .bool e8, .int .i64 e9, .int .i64 e10, .bool e11, .bool e12, .int .u8 e13, .int .i64 e14, .int .i64 e15, .int .i64 e16, .bool e17, .bool e18, .int .i64 e19, .int .i64 e20, .int .i64 e21] ∧ (0 ≤ e0 ∧ e0 ≤ 255) := by
  rcases h with ⟨_, row, rfl, h2, h3⟩ | ⟨h1, _⟩
  · rw [hk] at h2
    obtain ⟨a0, r0, rfl, k0, g0⟩ := uncons h2
    obtain ⟨a1, r1, rfl, k1, g1⟩ := uncons g0
    obtain ⟨a2, r2, rfl, k2, g2⟩ := uncons g1
    obtain ⟨a3, r3, rfl, k3, g3⟩ := uncons g2
    obtain ⟨a4, r4, rfl, k4, g4⟩ := uncons g3
    obtain ⟨a5, r5, rfl, k5, g5⟩ := uncons g4
    obtain ⟨a6, r6, rfl, k6, g6⟩ := uncons g5
    obtain ⟨a7, r7, rfl, k7, g7⟩ := uncons g6
    obtain ⟨a8, r8, rfl, k8, g8⟩ := uncons g7
    obtain ⟨a9, r9, rfl, k9, g9⟩ := uncons g8
    obtain ⟨a10, r10, rfl, k10, g10⟩ := uncons g9
    obtain ⟨a11, r11, rfl, k11, g11⟩ := uncons g10
    obtain ⟨a12, r12, rfl, k12, g12⟩ := uncons g11
    obtain ⟨a13, r13, rfl, k13, g13⟩ := uncons g12
    obtain ⟨a14, r14, rfl, k14, g14⟩ := uncons g13
    obtain ⟨a15, r15, rfl, k15, g15⟩ := uncons g14
    obtain ⟨a16, r16, rfl, k16, g16⟩ := uncons g15
    obtain ⟨a17, r17, rfl, k17, g17⟩ := uncons g16
    obtain ⟨a18, r18, rfl, k18, g18⟩ := uncons g17
    obtain ⟨a19, r19, rfl, k19, g19⟩ := uncons g18
    obtain ⟨a20, r20, rfl, k20, g20⟩ := uncons g19
    obtain ⟨a21, r21, rfl, k21, g21⟩ := uncons g20
    obtain ⟨e0, rfl⟩ := is_int k0
    obtain ⟨e1, rfl⟩ := is_str k1
    obtain ⟨e2, rfl⟩ := is_int k2
    obtain ⟨e3, rfl⟩ := is_int k3
    obtain ⟨e4, rfl⟩ := is_int k4
    obtain ⟨e5, rfl⟩ := is_int k5
    obtain ⟨e6, rfl⟩ := is_list k6
    obtain ⟨e7, rfl⟩ := is_int k7
    obtain ⟨e8, rfl⟩ := is_bool k8
    obtain ⟨e9, rfl⟩ := is_int k9
    obtain ⟨e10, rfl⟩ := is_int k10
    obtain ⟨e11, rfl⟩ := is_bool k11
    obtain ⟨e12, rfl⟩ := is_bool k12
    obtain ⟨e13, rfl⟩ := is_int k13
    obtain ⟨e14, rfl⟩ := is_int k14
    obtain ⟨e15, rfl⟩ := is_int k15
    obtain ⟨e16, rfl⟩ := is_int k16
    obtain ⟨e17, rfl⟩ := is_bool k17
    obtain ⟨e18, rfl⟩ := is_bool k18
    obtain ⟨e19, rfl⟩ := is_int k19
    obtain ⟨e20, rfl⟩ := is_int k20
    obtain ⟨e21, rfl⟩ := is_int k21
    have hr : r21 = [] := List.eq_nil_of_length_eq_zero (koks_length g21)
    subst hr
    have hw := h3 _ (List.mem_cons_self)
    cases hw with
    | int _ _ hw => exact ⟨e0, e1, e2, e3, e4, e5, e6, e7, e8, e9, e10, e11, e12, e13, e14, e15, e16, e17, e18, e19, e20, e21, rfl, wf_u8 hw⟩
  · rw [ha] at h1; cases h1

theorem gAdds : Tryd.prog.globalNamed "ceiling/level.adds" = some 0 := by kernel_rfl
theorem tAdds : (Tryd.prog.globals[0]?).map (·.type) = some 51 := by kernel_rfl
theorem laid_eq : (Rows.laid_ceiling_level_adds : DataW Unit) = Lib.tabData .i64 (gl0.map AV.toI) := by kernel_rfl
theorem gl0_all : (gl0.all fun x => match x with | .int .i64 _ => true | _ => false) = true := by kernel_rfl
theorem plain_laid : (Rows.levelAddsRow.laid.all fun x => x.2.handleName?.isNone) = true := by kernel_rfl
/-- The pointer to the table, in a world where it is laid. -/
theorem glob_rep {W : World} (h : laidMetH Tryd.prog Rows.levelAddsRow.laid W) : ∀ g, Rep CX.K [] (there W) W (CX.glob g) (.pointer (some ⟨g, 0, none⟩)) := by
  intro g
  rw [MakeChecks.laidMetH_plain _ _ _ plain_laid] at h
  have h' : laidMet Tryd.prog (("ceiling/level.adds", Lib.tabData .i64 (gl0.map AV.toI)) :: []) W := by rw [← laid_eq]; exact h
  have hT := Lib.tabIs_of_head (k := .i64) (n := 256) (t := 51) (e := 3) gAdds tAdds (by kernel_rfl) (by kernel_rfl) (by kernel_rfl) (by kernel_rfl) h'
  match g with
  | 0 =>
    refine rep_table (X := CX) (t := 51) (row := gl0) (g := 0) (by kernel_rfl) (fun j x hx => ?_) ?_
    · have hj := (List.getElem?_eq_some_iff.1 hx).1
      have h1 := hT.cell gAdds j (by simpa using hj)
      have h2 := List.all_eq_true.1 gl0_all x (List.mem_of_getElem? hx)
      have h3 : (gl0.map AV.toI).getD j 0 = x.toI := by simp [List.getD, List.getElem?_map, hx]
      rw [h3] at h1
      cases x with
      | int k n =>
        cases k <;> first | exact ⟨_, _, rfl, h1⟩ | cases h2
      | _ => cases h2
    · exact World.block_lt_of_cell? W _ (hT.cell gAdds 0 (Nat.lt_of_lt_of_eq (by decide : 0 < 256) (by kernel_rfl)))
  | g + 1 => exact .top _
theorem door_met (os : Os) (args : Array Value) : laidMetH Tryd.prog Rows.levelAddsRow.laid ((World.doorLaid Tryd.prog 400 os).forCall (fun _ _ => 0) ⟨#[], args, []⟩).memory :=
  laidMetH_of_parts3 (fuel := 8) (laidMet_of_run' 8 (by kernel_rfl) (by kernel_rfl)) (by kernel_rfl) (by kernel_rfl)

theorem law7 (xs : List AV) (h : ArgsAV CX [28, 45, 3] xs) : ∃ m M', FCalls CX 7 m xs [] (.bool true) M' := by
  match xs, h with
  | [x0, x1, x2], ⟨hx0, hx1, hx2, _⟩ =>
    obtain ⟨A, B, E, C, D, rfl, tE⟩ := tab_of_arg (by kernel_rfl) (by kernel_rfl) hx0
    obtain ⟨e0, e1, e2, e3, e4, e5, e6, e7, e8, e9, e10, e11, e12, e13, e14, e15, e16, e17, e18, e19, e20, e21, rfl, q0⟩ := ent_of_arg (by kernel_rfl) (by kernel_rfl) hx1
    obtain ⟨v2, rfl, p2⟩ := int_of_arg (k := .i64) (by kernel_rfl) (by kernel_rfl) hx2
    exact ⟨_, _, soundF7 301 (fun i => match i with | 0 => .agg [.list 58 A, .list 74 B, .list 45 E, .list 113 C, .list 117 D] | 1 => .agg [.int .u8 e0, .str e1, .int .i64 e2, .int .u8 e3, .int .i64 e4, .int .i64 e5, .list 90 e6, .int .i64 e7, .bool e8, .int .i64 e9, .int .i64 e10, .bool e11, .bool e12, .int .u8 e13, .int .i64 e14, .int .i64 e15, .int .i64 e16, .bool e17, .bool e18, .int .i64 e19, .int .i64 e20, .int .i64 e21] | _ => .int .i64 v2) [] (.r true) (adds_true A B E C D tE e0 e1 e2 e3 e4 e5 e6 e7 e8 e9 e10 e11 e12 e13 e14 e15 e16 e17 e18 e19 e20 e21 q0 trivial _)⟩

set_option maxRecDepth 100000 in
theorem lifted7 (os : Os) (started : os.Started) (H : Type) (enc : TypeId × Value → H) :
    ReturnsInHanded {} Tryd.checked os 7 .any (fun w args => (Rows.levelAddsSpec.pre enc Tryd.prog Tryd.f7 [] false w args ∧ laidMetH Tryd.prog Rows.levelAddsRow.laid w) ∧ sizedMet enc Tryd.prog Tryd.f7 (OpenSpec.ofChange Rows.levelAddsSpec) false w args)
      (Rows.levelAddsSpec.post enc Tryd.prog Tryd.f7 false true false false) := by
  refine returnsInHanded_of_change_and (C := Tryd.checked) (X := fun w _ => laidMetH Tryd.prog Rows.levelAddsRow.laid w) (fun _ _ _ hh h => h.of_heap hh) own started (by kernel_rfl) Tryd.func7
    (ChangeSpec.witness_shaped (enc := enc) (C := Tryd.checked) (os := os) (X := fun w _ => laidMetH Tryd.prog Rows.levelAddsRow.laid w) false (World.doorLaid Tryd.prog 400 os) #[.agg #[.slice none 0 0, .slice none 0 0, .slice none 0 0, .slice none 0 0, .slice none 0 0], .agg #[.int .u8 0, .string ByteArray.empty, .int .i64 0, .int .u8 0, .int .i64 0, .int .i64 0, .slice none 0 0, .int .i64 0, .bool false, .int .i64 0, .int .i64 0, .bool false, .bool false, .int .u8 0, .int .i64 0, .int .i64 0, .int .i64 0, .bool false, .bool false, .int .i64 0, .int .i64 0, .int .i64 0], .int .i64 0] 8 rfl (World.shaped_of_RefB (by kernel_rfl) (by kernel_rfl)) (by kernel_rfl) (by kernel_rfl) (by kernel_rfl) (door_met os _)) ?_
  intro W base args ds gs before hval hW _ _ hL _
  exact law_contract' (X := CX) hX laidOut (ts := [28, 45, 3]) (tb := 4) (S := rdL) (by kernel_rfl) (by kernel_rfl) Tryd.underlying4 rdS_ok (by kernel_rfl) (by kernel_rfl) rfl
    (fun ds hds => by match ds, hds with | [d0, d1, d2], _ => rfl) law7 W (glob_rep hL) base args ds gs before hval hW

theorem levelAddsSaid_holds : Rows.LevelAddsSaid :=
  OpenClaim.holds_of_wide 7 Tryd.f7 rfl rfl rfl rfl rfl rfl rfl ⟨rfl, rfl, rfl, rfl, rfl⟩ rfl rfl rfl rfl rfl (by kernel_rfl) Tryd.func7 (by kernel_rfl)
    (of_decide_eq_true (by kernel_rfl)) (by unfold Func.isWrapper; first | (rw [if_pos (by decide +kernel)]; kernel_rfl) | (rw [if_neg (by decide +kernel)]; exact ⟨rfl, rfl⟩))
    (fun os started H enc _ => lifted7 os started H enc)

theorem levelAdds_holds : Rows.LevelAddsCardSaid :=
  Claim7.holds_tied_plain_at .later [] [.data] true (true, "35c39ec9600e20088838671d6c4fa4e0c5eb404779fbb072620c376af2f2eb37") false
    levelAddsSaid_holds (fun _ h => by cases h) (by kernel_rfl) (fun _ h => by cases h) levelAdds_row_tie rfl ⟨rfl, rfl⟩ (by kernel_rfl) rfl
    (fun f fn hf hfn => by
      obtain rfl : f = 7 := Option.some.inj ((show Tryd.prog.funcNamed "ceiling/ceilinglaw12.LevelAdds" = some 7 by kernel_rfl).symm.trans hf) |>.symm
      obtain rfl : fn = Tryd.f7 := (Option.some.inj (Tryd.func7.symm.trans hfn)).symm
      exact ⟨by kernel_rfl, fun j t ht => by
        rw [Tryd.params7] at ht
        have hm : t ∈ [28, 45, 3] := by simpa using Array.mem_of_getElem? ht
        have hall : ([28, 45, 3].all fun u => !Tryd.prog.wantsStandIn u) = true := by kernel_rfl
        exact (show Tryd.prog.wantsStandIn t = false by simpa using List.all_eq_true.1 hall t hm)⟩)
    (by kernel_rfl)

#print axioms levelAdds_holds
end Go.Proofs.YtdennlgnbecojaaDoor
