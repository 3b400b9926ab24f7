/-
  The functions of the code as typed functions, and that the code runs so. Printed by gen2.py.
  The functions of the code as typed functions, and that the code runs so. Printed by gen2.py.
  The functions of the code as typed functions, and that the code runs so. Printed by gen2.py.
  The functions of the code as typed functions, and that the code runs so. Printed by gen2.py.
  Plain laws of chapter 39: when a task set is right (both texts).
  Plain laws of chapter 39: blocking, demand.
  Plain laws of chapter 39: response times.
  Plain laws of chapter 39: RespMore, what lies behind it: less work, no greater response time.
  Plain laws of chapter 39: response times, errors, large task sets.
  Plain laws of chapter 39: RespMore.
  Plain laws of chapter 39: the examples.
  What is proved: ceilinglaw39.RespMore returns true for every input, and leaves its arguments as they were. No condition.
-/
import Derived.Test.YtbgdiljnmifakaaMo4
import Derived.Test.YtbgdiljnmifakaaMo5
import Derived.KernelRfl
import Derived.Test.YtbgdiljnmifakaaRows
import Derived.WalkKit
import Derived.ProofKit
import Derived.OpenShut
set_option linter.all false
set_option linter.deprecated false
namespace Go.Proofs.Ytbgdiljnmifakaa
open Go Go.Eng
set_option maxRecDepth 100000
noncomputable section
inductive R29 where
  | r (x0 : Int) (x1 : Bool)
abbrev TF29 := List Row → List Row → Int → Int → Int → Option R29
def sgF29 : LSh := ⟨[(0, .agg [.cell (.slice 38), .cell (.slice 3), .cell (.int .i64), .cell (.int .i64)]), (1, .one (.cell (.int .i64)))], []⟩
def FFF29 (Fx : TF29) (s : St) : Option R29 := Fx (((Eng.look s.env 0).cells.getD 0 .top).rows) (((Eng.look s.env 0).cells.getD 1 .top).rows) (((Eng.look s.env 0).cells.getD 2 .top).toI) (((Eng.look s.env 0).cells.getD 3 .top).toI) ((Eng.look s.env 1).toI)
def valF29 (o : R29) : AV := match o with | .r x0 x1 => .tup [.int .i64 x0, .bool x1]
def memF29 (o : R29) : List Blk := match o with | .r x0 x1 => []
def elF29 {R : Type} (o : R29) (k : AV → List Blk → Option R) : Option R := match o with | .r x0 x1 => k (.tup [.int .i64 x0, .bool x1]) []
def RecOkF29 (Fx : TF29) : Prop := ∀ lk M o, FFF29 Fx (canS sgF29 lk M) = some o → FCalls CX 29 0 (argsE 2 (canS sgF29 lk M).env) (canS sgF29 lk M).mem (valF29 o) (memF29 o)
noncomputable def csF29 (N : Nat) (R : Type) : List (CE R) := [ce30n0 (F30 N) R (fun _ _ => true), ce41n0 (F41 N) R (fun _ _ => true)]
theorem hcsF29 (N : Nat) (R : Type) : AllE (CeOk CX) (csF29 N R) := ⟨okce30n0 (F30 N) (soundF30 N) R (fun _ _ => true), okce41n0 (F41 N) (soundF41 N) R (fun _ _ => true), trivial⟩
inductive OL29a124 where
  | ret (x4 : Int) (x5 : Bool) (b0c0 : List Row) (b0c1 : List Row) (b0c2 : Int) (b0c3 : Int) (b1c0 : Int) (b1c1 : Int) (b1c2 : Int) (b1c3 : Int) (b1c4 : Int) (b1c5 : Int) (b1c6 : List Row)
  | x0 (b0c0 : List Row) (b0c1 : List Row) (b0c2 : Int) (b0c3 : Int) (b1c0 : Int) (b1c1 : Int) (b1c2 : Int) (b1c3 : Int) (b1c4 : Int) (b1c5 : Int) (b1c6 : List Row)
def L29a124 (N : Nat) : Nat → Int → Int → Int → List Row → List Row → Int → Int → Int → Int → Int → Int → Int → Int → List Row → Option OL29a124
  | 0 => fun _ _ _ _ _ _ _ _ _ _ _ _ _ _ => none
  | n + 1 => fun x1 x7 x8 b0c0 b0c1 b0c2 b0c3 b1c0 b1c1 b1c2 b1c3 b1c4 b1c5 b1c6 =>
    match decide (x8 ≤ b1c3) with
    | true =>
      match F41 N b0c0 b0c1 b0c2 b0c3 x1 x8 with
      | none => none
      | some (.r rx0v2 rx1v2) =>
        match !rx1v2 with
        | true =>
          some (.ret 0 false b0c0 b0c1 b0c2 b0c3 b1c0 b1c1 b1c2 b1c3 b1c4 b1c5 b1c6)
        | false =>
          match decide (b1c3 < (IntKind.wrap .i64 (x7 + rx0v2))) with
          | true =>
            some (.ret 0 false b0c0 b0c1 b0c2 b0c3 b1c0 b1c1 b1c2 b1c3 b1c4 b1c5 b1c6)
          | false =>
            match (IntKind.wrap .i64 (x7 + rx0v2)) == x8 with
            | true =>
              some (.ret x8 true b0c0 b0c1 b0c2 b0c3 b1c0 b1c1 b1c2 b1c3 b1c4 b1c5 b1c6)
            | false =>
              L29a124 N n x1 x7 (IntKind.wrap .i64 (x7 + rx0v2)) b0c0 b0c1 b0c2 b0c3 b1c0 b1c1 b1c2 b1c3 b1c4 b1c5 b1c6
    | false =>
      some (.x0 b0c0 b0c1 b0c2 b0c3 b1c0 b1c1 b1c2 b1c3 b1c4 b1c5 b1c6)
def LFL29a124 (N : Nat) (n : Nat) (s : St) : Option OL29a124 := L29a124 N n ((Eng.look s.env 1).toI) ((Eng.look s.env 7).toI) ((Eng.look s.env 8).toI) (((s.mem.getD 0 .dead).cells.getD 0 .top).rows) (((s.mem.getD 0 .dead).cells.getD 1 .top).rows) (((s.mem.getD 0 .dead).cells.getD 2 .top).toI) (((s.mem.getD 0 .dead).cells.getD 3 .top).toI) (((s.mem.getD 1 .dead).cells.getD 0 .top).toI) (((s.mem.getD 1 .dead).cells.getD 1 .top).toI) (((s.mem.getD 1 .dead).cells.getD 2 .top).toI) (((s.mem.getD 1 .dead).cells.getD 3 .top).toI) (((s.mem.getD 1 .dead).cells.getD 4 .top).toI) (((s.mem.getD 1 .dead).cells.getD 5 .top).toI) (((s.mem.getD 1 .dead).cells.getD 6 .top).rows)
def sgL29a124 : LSh := ⟨[(1, .one (.cell (.int .i64))), (2, .one (.ptr 0 0 0)), (6, .one (.ptr 1 0 0)), (7, .one (.cell (.int .i64))), (8, .one (.cell (.int .i64)))], [.var [.any, .any, .int .i64, .int .i64] [.cell (.slice 38), .cell (.slice 3), .cell (.int .i64), .cell (.int .i64)], .var [.int .i64, .int .i64, .int .i64, .int .i64, .int .i64, .int .i64, .any] [.cell (.int .i64), .cell (.int .i64), .cell (.int .i64), .cell (.int .i64), .cell (.int .i64), .cell (.int .i64), .cell (.slice 55)]]⟩
def ceL29a124 : List Cv := []
def seL29a124 : St → List Nat := fun st => [(Eng.look st.env 2).id, (Eng.look st.env 6).id]
def xL29a124wret : XSh OL29a124 := ⟨[], ⟨[(4, .one (.cell (.int .i64))), (5, .one (.cell (.bool)))], [.var [.any, .any, .int .i64, .int .i64] [.cell (.slice 38), .cell (.slice 3), .cell (.int .i64), .cell (.int .i64)], .var [.int .i64, .int .i64, .int .i64, .int .i64, .int .i64, .int .i64, .any] [.cell (.int .i64), .cell (.int .i64), .cell (.int .i64), .cell (.int .i64), .cell (.int .i64), .cell (.int .i64), .cell (.slice 55)]]⟩, fun st => [0, 1], fun s => .ret ((Eng.look s.env 4).toI) ((Eng.look s.env 5).toB) (((s.mem.getD 0 .dead).cells.getD 0 .top).rows) (((s.mem.getD 0 .dead).cells.getD 1 .top).rows) (((s.mem.getD 0 .dead).cells.getD 2 .top).toI) (((s.mem.getD 0 .dead).cells.getD 3 .top).toI) (((s.mem.getD 1 .dead).cells.getD 0 .top).toI) (((s.mem.getD 1 .dead).cells.getD 1 .top).toI) (((s.mem.getD 1 .dead).cells.getD 2 .top).toI) (((s.mem.getD 1 .dead).cells.getD 3 .top).toI) (((s.mem.getD 1 .dead).cells.getD 4 .top).toI) (((s.mem.getD 1 .dead).cells.getD 5 .top).toI) (((s.mem.getD 1 .dead).cells.getD 6 .top).rows)⟩
def xL29a124wx0 : XSh OL29a124 := ⟨[], ⟨[], [.var [.any, .any, .int .i64, .int .i64] [.cell (.slice 38), .cell (.slice 3), .cell (.int .i64), .cell (.int .i64)], .var [.int .i64, .int .i64, .int .i64, .int .i64, .int .i64, .int .i64, .any] [.cell (.int .i64), .cell (.int .i64), .cell (.int .i64), .cell (.int .i64), .cell (.int .i64), .cell (.int .i64), .cell (.slice 55)]]⟩, fun st => [0, 1], fun s => .x0 (((s.mem.getD 0 .dead).cells.getD 0 .top).rows) (((s.mem.getD 0 .dead).cells.getD 1 .top).rows) (((s.mem.getD 0 .dead).cells.getD 2 .top).toI) (((s.mem.getD 0 .dead).cells.getD 3 .top).toI) (((s.mem.getD 1 .dead).cells.getD 0 .top).toI) (((s.mem.getD 1 .dead).cells.getD 1 .top).toI) (((s.mem.getD 1 .dead).cells.getD 2 .top).toI) (((s.mem.getD 1 .dead).cells.getD 3 .top).toI) (((s.mem.getD 1 .dead).cells.getD 4 .top).toI) (((s.mem.getD 1 .dead).cells.getD 5 .top).toI) (((s.mem.getD 1 .dead).cells.getD 6 .top).rows)⟩
def xsL29a124 : Ex → St → Option (XSh OL29a124) := fun e st => match e with
  | .ret => some xL29a124wret
  | .exit 0 => some xL29a124wx0
  | _ => none
def exL29a124 (o : OL29a124) : Ex := match o with | .ret x4 x5 b0c0 b0c1 b0c2 b0c3 b1c0 b1c1 b1c2 b1c3 b1c4 b1c5 b1c6 => .ret | .x0 b0c0 b0c1 b0c2 b0c3 b1c0 b1c1 b1c2 b1c3 b1c4 b1c5 b1c6 => (.exit 0)
def stL29a124 (o : OL29a124) : St := match o with | .ret x4 x5 b0c0 b0c1 b0c2 b0c3 b1c0 b1c1 b1c2 b1c3 b1c4 b1c5 b1c6 => ⟨[(4, .int .i64 x4), (5, .bool x5)], [.var [.any, .any, .int .i64, .int .i64] [.list 38 b0c0, .list 3 b0c1, .int .i64 b0c2, .int .i64 b0c3], .var [.int .i64, .int .i64, .int .i64, .int .i64, .int .i64, .int .i64, .any] [.int .i64 b1c0, .int .i64 b1c1, .int .i64 b1c2, .int .i64 b1c3, .int .i64 b1c4, .int .i64 b1c5, .list 55 b1c6]], [], .unk⟩ | .x0 b0c0 b0c1 b0c2 b0c3 b1c0 b1c1 b1c2 b1c3 b1c4 b1c5 b1c6 => ⟨[], [.var [.any, .any, .int .i64, .int .i64] [.list 38 b0c0, .list 3 b0c1, .int .i64 b0c2, .int .i64 b0c3], .var [.int .i64, .int .i64, .int .i64, .int .i64, .int .i64, .int .i64, .any] [.int .i64 b1c0, .int .i64 b1c1, .int .i64 b1c2, .int .i64 b1c3, .int .i64 b1c4, .int .i64 b1c5, .list 55 b1c6]], [], .unk⟩
def elL29a124 {R : Type} (o : OL29a124) (k : Ex → St → Option R) : Option R := match o with | .ret x4 x5 b0c0 b0c1 b0c2 b0c3 b1c0 b1c1 b1c2 b1c3 b1c4 b1c5 b1c6 => k .ret ⟨[(4, .int .i64 x4), (5, .bool x5)], [.var [.any, .any, .int .i64, .int .i64] [.list 38 b0c0, .list 3 b0c1, .int .i64 b0c2, .int .i64 b0c3], .var [.int .i64, .int .i64, .int .i64, .int .i64, .int .i64, .int .i64, .any] [.int .i64 b1c0, .int .i64 b1c1, .int .i64 b1c2, .int .i64 b1c3, .int .i64 b1c4, .int .i64 b1c5, .list 55 b1c6]], [], .unk⟩ | .x0 b0c0 b0c1 b0c2 b0c3 b1c0 b1c1 b1c2 b1c3 b1c4 b1c5 b1c6 => k (.exit 0) ⟨[], [.var [.any, .any, .int .i64, .int .i64] [.list 38 b0c0, .list 3 b0c1, .int .i64 b0c2, .int .i64 b0c3], .var [.int .i64, .int .i64, .int .i64, .int .i64, .int .i64, .int .i64, .any] [.int .i64 b1c0, .int .i64 b1c1, .int .i64 b1c2, .int .i64 b1c3, .int .i64 b1c4, .int .i64 b1c5, .list 55 b1c6]], [], .unk⟩
theorem heL29a124 {R : Type} (o : OL29a124) (k : Ex → St → Option R) : elL29a124 o k = k (exL29a124 o) (stL29a124 o) := by cases o <;> rfl
theorem hxL29a124 : ∀ e st x, xsL29a124 e st = some x → outOk x e exL29a124 stL29a124 := by
  intro e st x h
  unfold xsL29a124 at h
  repeat' split at h
  all_goals first
    | (injection h with h; subst h; exact fun lk M => ⟨rfl, rfl⟩)
    | cases h
noncomputable def T29ul124 (N : Nat) (R : Type) : LTab R := mkTab ⟨53, 9007199246354224⟩ (csF29 N R) (noY) [] [] []
theorem okT29ul124 (N : Nat) (R : Type) : (T29ul124 N R).Ok CX code29 := mkTab_ok (hcsF29 N R) (noY_ok) (trivial) (trivial) (trivial)
noncomputable def bdL29a124 : Code := match codeAt code29 [false, false, true, true, true, true] with | some (.loop c) => c | _ => .skip
theorem hsL29a124 (N : Nat) : ∀ (n : Nat) (lk : Nat → AV) (M : List Blk), LFL29a124 N (n + 1) (canS sgL29a124 lk M) = evk CX (T29ul124 N OL29a124) bdL29a124 (2 * 124) (canS sgL29a124 lk M) (kont CX 2 [] sgL29a124 (fun st => [0, 1]) xsL29a124 (LFL29a124 N n)) := by intro n lk M; kernel_rfl
noncomputable def T29ur1 (N : Nat) (R : Type) : LTab R := mkTab ⟨53, 9007199254740991⟩ (csF29 N R) (noY) [(124, fun st k => callLoop CX 2 9007199246354224 ceL29a124 sgL29a124 seL29a124 ⟨53, 9007199254740991⟩ (LFL29a124 N N) elL29a124 st k)] [] []
theorem okT29ur1 (N : Nat) (R : Type) : (T29ur1 N R).Ok CX code29 := mkTab_ok (hcsF29 N R) (noY_ok) (⟨loop_ok hX (path := [false, false, true, true, true, true]) (by kernel_rfl) (by rfl) (okT29ul124 N OL29a124) (fun _ _ => rfl) (hsL29a124 N) hxL29a124 rfl heL29a124, trivial⟩) (trivial) (trivial)
def rsF29 : List ResultVar := [.tmp 4, .tmp 5]
def F29 : Nat → TF29
  | 0 => fun _ _ _ _ _ => none
  | N + 1 => fun x0c0 x0c1 x0c2 x0c3 x1 =>
    tst (decide ((0 : Int) ≤ x1) && decide (x1 < ((x0c0.length : Int)))) <|
    match F30 N x0c0 x0c1 x0c2 x0c3 x1 with
    | none => none
    | some (.r rx0v1) =>
      match L29a124 N N x1 (IntKind.wrap .i64 (((((x0c0.getD x1.toNat [])).getD 5 .top).toI) + rx0v1)) (IntKind.wrap .i64 (((((x0c0.getD x1.toNat [])).getD 5 .top).toI) + rx0v1)) x0c0 x0c1 x0c2 x0c3 ((((x0c0.getD x1.toNat [])).getD 0 .top).toI) ((((x0c0.getD x1.toNat [])).getD 1 .top).toI) ((((x0c0.getD x1.toNat [])).getD 2 .top).toI) ((((x0c0.getD x1.toNat [])).getD 3 .top).toI) ((((x0c0.getD x1.toNat [])).getD 4 .top).toI) ((((x0c0.getD x1.toNat [])).getD 5 .top).toI) ((((x0c0.getD x1.toNat [])).getD 6 .top).rows) with
      | none => none
      | some (.ret x4v3 x5v3 b0c0v3 b0c1v3 b0c2v3 b0c3v3 b1c0v3 b1c1v3 b1c2v3 b1c3v3 b1c4v3 b1c5v3 b1c6v3) =>
        some (.r x4v3 x5v3)
      | some (.x0 b0c0v4 b0c1v4 b0c2v4 b0c3v4 b1c0v4 b1c1v4 b1c2v4 b1c3v4 b1c4v4 b1c5v4 b1c6v4) =>
        some (.r 0 false)
def xRF29 : XSh R29 := ⟨[], ⟨[(0, .one (.cell (.int .i64))), (1, .one (.cell (.bool)))], []⟩, fun _ => [], fun s => .r ((Eng.look s.env 0).toI) ((Eng.look s.env 1).toB)⟩
theorem fsF29 : ∀ (N : Nat) (lk : Nat → AV) (M : List Blk), FFF29 (F29 (N + 1)) (canS sgF29 lk M) = evfn CX (T29ur1 N R29) code29 rsF29 (argsE 2 (canS sgF29 lk M).env) (canS sgF29 lk M).mem (goRt CX 0 2 (fun _ => some xRF29)) := by intro N lk M; kernel_rfl
theorem soundF29 : ∀ N, RecOkF29 (F29 N)
  | 0, lk, M, o, h => by cases h
  | N + 1, lk, M, o, h => fn_soundt hX (okT29ur1 N R29) Try.func29 hb29 rfl en29 (by kernel_rfl) (ys := fun _ => some xRF29) (fun st y h => by injection h with h; subst h; exact fun lk M => ⟨rfl, rfl⟩) ((fsF29 N lk M).symm.trans h)
def cvce29n0 : List Cv := []
def selce29n0 : St → List Nat := fun _ => []
noncomputable def ce29n0 (Fx : TF29) (R : Type) (test : List AV → List Blk → Bool) : CE R := ⟨29, test, fun args M => some (selce29n0 ⟨argEnv 0 args, M, [], .unk⟩), fun args M k => tst (Nat.beq args.length 2) (callFn CX 0 cvce29n0 sgF29 selce29n0 (FFF29 Fx) elF29 args M k)⟩
theorem okce29n0 (Fx : TF29) (h : RecOkF29 Fx) (R : Type) (test : List AV → List Blk → Bool) : CeOk CX (ce29n0 Fx R test) := ce_ok hX (fun o k => by cases o; rfl) h en29 (fun args M ids h => by injection h with h; exact ⟨rfl, h.symm⟩)
end
end Go.Proofs.Ytbgdiljnmifakaa

namespace Go.Proofs.Ytbgdiljnmifakaa
open Go Go.Eng
set_option maxRecDepth 100000
noncomputable section
inductive R23 where
  | r (x0 : Int) (x1 : Bool) (x2 : Int)
abbrev TF23 := List Row → List Row → Int → Int → Int → Option R23
def sgF23 : LSh := ⟨[(0, .agg [.cell (.slice 38), .cell (.slice 3), .cell (.int .i64), .cell (.int .i64)]), (1, .one (.cell (.int .i64)))], []⟩
def FFF23 (Fx : TF23) (s : St) : Option R23 := Fx (((Eng.look s.env 0).cells.getD 0 .top).rows) (((Eng.look s.env 0).cells.getD 1 .top).rows) (((Eng.look s.env 0).cells.getD 2 .top).toI) (((Eng.look s.env 0).cells.getD 3 .top).toI) ((Eng.look s.env 1).toI)
def valF23 (o : R23) : AV := match o with | .r x0 x1 x2 => .tup [.int .i64 x0, .bool x1, .int .i64 x2]
def memF23 (o : R23) : List Blk := match o with | .r x0 x1 x2 => []
def elF23 {R : Type} (o : R23) (k : AV → List Blk → Option R) : Option R := match o with | .r x0 x1 x2 => k (.tup [.int .i64 x0, .bool x1, .int .i64 x2]) []
def RecOkF23 (Fx : TF23) : Prop := ∀ lk M o, FFF23 Fx (canS sgF23 lk M) = some o → FCalls CX 23 0 (argsE 2 (canS sgF23 lk M).env) (canS sgF23 lk M).mem (valF23 o) (memF23 o)
noncomputable def csF23 (N : Nat) (R : Type) : List (CE R) := [ce29n0 (F29 N) R (fun _ _ => true), ce39n0 (F39 N) R (fun _ _ => true)]
theorem hcsF23 (N : Nat) (R : Type) : AllE (CeOk CX) (csF23 N R) := ⟨okce29n0 (F29 N) (soundF29 N) R (fun _ _ => true), okce39n0 (F39 N) (soundF39 N) R (fun _ _ => true), trivial⟩
noncomputable def T23ur1 (N : Nat) (R : Type) : LTab R := mkTab ⟨24, 16777215⟩ (csF23 N R) (noY) [] [] []
theorem okT23ur1 (N : Nat) (R : Type) : (T23ur1 N R).Ok CX code23 := mkTab_ok (hcsF23 N R) (noY_ok) (trivial) (trivial) (trivial)
def rsF23 : List ResultVar := [.tmp 4, .tmp 5, .tmp 6]
def F23 : Nat → TF23
  | 0 => fun _ _ _ _ _ => none
  | N + 1 => fun x0c0 x0c1 x0c2 x0c3 x1 =>
    match F39 N x0c0 x0c1 x0c2 x0c3 x1 with
    | none => none
    | some (.r rx0v1) =>
      match rx0v1 != (0 : Int) with
      | true =>
        some (.r 0 false rx0v1)
      | false =>
        match F29 N x0c0 x0c1 x0c2 x0c3 x1 with
        | none => none
        | some (.r rx0v2 rx1v2) =>
          some (.r rx0v2 rx1v2 0)
def xRF23 : XSh R23 := ⟨[], ⟨[(0, .one (.cell (.int .i64))), (1, .one (.cell (.bool))), (2, .one (.cell (.int .i64)))], []⟩, fun _ => [], fun s => .r ((Eng.look s.env 0).toI) ((Eng.look s.env 1).toB) ((Eng.look s.env 2).toI)⟩
theorem fsF23 : ∀ (N : Nat) (lk : Nat → AV) (M : List Blk), FFF23 (F23 (N + 1)) (canS sgF23 lk M) = evfn CX (T23ur1 N R23) code23 rsF23 (argsE 2 (canS sgF23 lk M).env) (canS sgF23 lk M).mem (goRt CX 0 3 (fun _ => some xRF23)) := by intro N lk M; kernel_rfl
theorem soundF23 : ∀ N, RecOkF23 (F23 N)
  | 0, lk, M, o, h => by cases h
  | N + 1, lk, M, o, h => fn_soundt hX (okT23ur1 N R23) Try.func23 hb23 rfl en23 (by kernel_rfl) (ys := fun _ => some xRF23) (fun st y h => by injection h with h; subst h; exact fun lk M => ⟨rfl, rfl⟩) ((fsF23 N lk M).symm.trans h)
def cvce23n0 : List Cv := []
def selce23n0 : St → List Nat := fun _ => []
noncomputable def ce23n0 (Fx : TF23) (R : Type) (test : List AV → List Blk → Bool) : CE R := ⟨23, test, fun args M => some (selce23n0 ⟨argEnv 0 args, M, [], .unk⟩), fun args M k => tst (Nat.beq args.length 2) (callFn CX 0 cvce23n0 sgF23 selce23n0 (FFF23 Fx) elF23 args M k)⟩
theorem okce23n0 (Fx : TF23) (h : RecOkF23 Fx) (R : Type) (test : List AV → List Blk → Bool) : CeOk CX (ce23n0 Fx R test) := ce_ok hX (fun o k => by cases o; rfl) h en23 (fun args M ids h => by injection h with h; exact ⟨rfl, h.symm⟩)
end
end Go.Proofs.Ytbgdiljnmifakaa

namespace Go.Proofs.Ytbgdiljnmifakaa
open Go Go.Eng
set_option maxRecDepth 100000
noncomputable section
inductive R18 where
  | r (x0c1 : List Row) (x0c2 : Int) (x0c3 : Int) (b0 : List Row)
abbrev TF18 := List Row → List Row → Int → Int → Option R18
def sgF18 : LSh := ⟨[(0, .agg [.cell (.slice 38), .cell (.slice 3), .cell (.int .i64), .cell (.int .i64)])], []⟩
def FFF18 (Fx : TF18) (s : St) : Option R18 := Fx (((Eng.look s.env 0).cells.getD 0 .top).rows) (((Eng.look s.env 0).cells.getD 1 .top).rows) (((Eng.look s.env 0).cells.getD 2 .top).toI) (((Eng.look s.env 0).cells.getD 3 .top).toI)
def valF18 (o : R18) : AV := match o with | .r x0c1 x0c2 x0c3 b0 => .agg [.own 0, .list 3 x0c1, .int .i64 x0c2, .int .i64 x0c3]
def memF18 (o : R18) : List Blk := match o with | .r x0c1 x0c2 x0c3 b0 => [.nst 38 b0 none]
def elF18 {R : Type} (o : R18) (k : AV → List Blk → Option R) : Option R := match o with | .r x0c1 x0c2 x0c3 b0 => k (.agg [.own 0, .list 3 x0c1, .int .i64 x0c2, .int .i64 x0c3]) [.nst 38 b0 none]
def RecOkF18 (Fx : TF18) : Prop := ∀ lk M o, FFF18 Fx (canS sgF18 lk M) = some o → FCalls CX 18 0 (argsE 1 (canS sgF18 lk M).env) (canS sgF18 lk M).mem (valF18 o) (memF18 o)
noncomputable def csF18 (N : Nat) (R : Type) : List (CE R) := []
theorem hcsF18 (N : Nat) (R : Type) : AllE (CeOk CX) (csF18 N R) := trivial
inductive OL18a58 where
  | x0 (b0c1 : List Row) (b0c2 : Int) (b0c3 : Int) (b1 : List Row)
def L18a58 (N : Nat) : Nat → Int → Int → List Row → Int → Int → List Row → Option OL18a58
  | 0 => fun _ _ _ _ _ _ => none
  | n + 1 => fun x11 x12 b0c1 b0c2 b0c3 b1 =>
    match decide (x12 < x11) with
    | true =>
      tst (decide ((0 : Int) ≤ x12) && decide (x12 < ((b1.length : Int)))) <|
      tst (decide (x12.toNat < b1.length)) <|
      tst ((((b1.getD x12.toNat [])).getD 6 .top).isLst) <|
      tst (decide (((0 + ((((b1.getD x12.toNat [])).getD 6 .top).rows).length) * 16) ≤ 140737488355328)) <|
      tst (decide ((0 : Int) ≤ x12) && decide (x12 < ((b1.length : Int)))) <|
      tst (decide (x12.toNat < b1.length) && true) <|
      L18a58 N n x11 (IntKind.wrap .i64 (x12 + (1 : Int))) b0c1 b0c2 b0c3 (b1.set x12.toNat (((b1.getD x12.toNat [])).set 6 (.sub 55 ((([] : List Row)) ++ ((((b1.getD x12.toNat [])).getD 6 .top).rows)))))
    | false =>
      some (.x0 b0c1 b0c2 b0c3 b1)
def LFL18a58 (N : Nat) (n : Nat) (s : St) : Option OL18a58 := L18a58 N n ((Eng.look s.env 11).toI) ((Eng.look s.env 12).toI) (((s.mem.getD 0 .dead).cells.getD 1 .top).rows) (((s.mem.getD 0 .dead).cells.getD 2 .top).toI) (((s.mem.getD 0 .dead).cells.getD 3 .top).toI) ((s.mem.getD 1 .dead).rows)
def sgL18a58 : LSh := ⟨[(1, .one (.ptr 0 0 0)), (11, .one (.cell (.int .i64))), (12, .one (.cell (.int .i64)))], [.var [.any, .any, .int .i64, .int .i64] [.own 1, .cell (.slice 3), .cell (.int .i64), .cell (.int .i64)], .nst 38]⟩
def ceL18a58 : List Cv := []
def seL18a58 : St → List Nat := fun st => [(Eng.look st.env 1).id, ((st.mem.getD ((Eng.look st.env 1).id) .dead).cells.getD 0 .top).id]
def xL18a58wx0 : XSh OL18a58 := ⟨[], ⟨[], [.var [.any, .any, .int .i64, .int .i64] [.own 1, .cell (.slice 3), .cell (.int .i64), .cell (.int .i64)], .nst 38]⟩, fun st => [0, ((st.mem.getD 0 .dead).cells.getD 0 .top).id], fun s => .x0 (((s.mem.getD 0 .dead).cells.getD 1 .top).rows) (((s.mem.getD 0 .dead).cells.getD 2 .top).toI) (((s.mem.getD 0 .dead).cells.getD 3 .top).toI) ((s.mem.getD 1 .dead).rows)⟩
def xsL18a58 : Ex → St → Option (XSh OL18a58) := fun e st => match e with
  | .exit 0 => some xL18a58wx0
  | _ => none
def exL18a58 (o : OL18a58) : Ex := match o with | .x0 b0c1 b0c2 b0c3 b1 => (.exit 0)
def stL18a58 (o : OL18a58) : St := match o with | .x0 b0c1 b0c2 b0c3 b1 => ⟨[], [.var [.any, .any, .int .i64, .int .i64] [.own 1, .list 3 b0c1, .int .i64 b0c2, .int .i64 b0c3], .nst 38 b1 none], [], .unk⟩
def elL18a58 {R : Type} (o : OL18a58) (k : Ex → St → Option R) : Option R := match o with | .x0 b0c1 b0c2 b0c3 b1 => k (.exit 0) ⟨[], [.var [.any, .any, .int .i64, .int .i64] [.own 1, .list 3 b0c1, .int .i64 b0c2, .int .i64 b0c3], .nst 38 b1 none], [], .unk⟩
theorem heL18a58 {R : Type} (o : OL18a58) (k : Ex → St → Option R) : elL18a58 o k = k (exL18a58 o) (stL18a58 o) := by cases o <;> rfl
theorem hxL18a58 : ∀ e st x, xsL18a58 e st = some x → outOk x e exL18a58 stL18a58 := by
  intro e st x h
  unfold xsL18a58 at h
  repeat' split at h
  all_goals first
    | (injection h with h; subst h; exact fun lk M => ⟨rfl, rfl⟩)
    | cases h
noncomputable def T18ul58 (N : Nat) (R : Type) : LTab R := withGh [(1, ([], [.nest (.cell 1 0)])), (5, ([], [.close (.cell 1 0)]))] (mkTab ⟨30, 536866824⟩ (csF18 N R) (noY) [] [] [])
theorem okT18ul58 (N : Nat) (R : Type) : (T18ul58 N R).Ok CX code18 := withGh_ok _ (mkTab_ok (hcsF18 N R) (noY_ok) (trivial) (trivial) (trivial))
noncomputable def bdL18a58 : Code := match codeAt code18 [false, true, false, true, true] with | some (.loop c) => c | _ => .skip
theorem hsL18a58 (N : Nat) : ∀ (n : Nat) (lk : Nat → AV) (M : List Blk), LFL18a58 N (n + 1) (canS sgL18a58 lk M) = evk CX (T18ul58 N OL18a58) bdL18a58 (2 * 58) (canS sgL18a58 lk M) (kont CX 1 [] sgL18a58 (fun st => [0, ((st.mem.getD 0 .dead).cells.getD 0 .top).id]) xsL18a58 (LFL18a58 N n)) := by intro n lk M; kernel_rfl
noncomputable def T18ur1 (N : Nat) (R : Type) : LTab R := withGh [(1, ([], [.nest (.cell 1 0)])), (5, ([], [.close (.cell 1 0)]))] (mkTab ⟨30, 1073741823⟩ (csF18 N R) (noY) [(58, fun st k => callLoop CX 1 536866824 ceL18a58 sgL18a58 seL18a58 ⟨30, 1073741823⟩ (LFL18a58 N N) elL18a58 st k)] [] [])
theorem okT18ur1 (N : Nat) (R : Type) : (T18ur1 N R).Ok CX code18 := withGh_ok _ (mkTab_ok (hcsF18 N R) (noY_ok) (⟨loop_ok hX (path := [false, true, false, true, true]) (by kernel_rfl) (by rfl) (okT18ul58 N OL18a58) (fun _ _ => rfl) (hsL18a58 N) hxL18a58 rfl heL18a58, trivial⟩) (trivial) (trivial))
def rsF18 : List ResultVar := [.cell 2 25]
def F18 : Nat → TF18
  | 0 => fun _ _ _ _ => none
  | N + 1 => fun x0c0 x0c1 x0c2 x0c3 =>
    tst (decide (((0 + x0c0.length) * 72) ≤ 140737488355328)) <|
    match L18a58 N N ((((([] : List Row)) ++ x0c0).length : Int)) 0 x0c1 x0c2 x0c3 ((([] : List Row)) ++ x0c0) with
    | none => none
    | some (.x0 b0c1v1 b0c2v1 b0c3v1 b1v1) =>
      some (.r b0c1v1 b0c2v1 b0c3v1 b1v1)
def xRF18 : XSh R18 := ⟨[], ⟨[(0, .agg [.own 0, .cell (.slice 3), .cell (.int .i64), .cell (.int .i64)])], [.nst 38]⟩, fun st => [((Eng.look st.env 0).cells.getD 0 .top).id], fun s => .r (((Eng.look s.env 0).cells.getD 1 .top).rows) (((Eng.look s.env 0).cells.getD 2 .top).toI) (((Eng.look s.env 0).cells.getD 3 .top).toI) ((s.mem.getD 0 .dead).rows)⟩
theorem fsF18 : ∀ (N : Nat) (lk : Nat → AV) (M : List Blk), FFF18 (F18 (N + 1)) (canS sgF18 lk M) = evfn CX (T18ur1 N R18) code18 rsF18 (argsE 1 (canS sgF18 lk M).env) (canS sgF18 lk M).mem (goR CX 0 (fun _ => some xRF18)) := by intro N lk M; kernel_rfl
theorem soundF18 : ∀ N, RecOkF18 (F18 N)
  | 0, lk, M, o, h => by cases h
  | N + 1, lk, M, o, h => fn_sound hX (okT18ur1 N R18) Try.func18 hb18 rfl en18 (by kernel_rfl) (ys := fun _ => some xRF18) (fun st y h => by injection h with h; subst h; exact fun lk M => ⟨rfl, rfl⟩) ((fsF18 N lk M).symm.trans h)
def cvce18n0 : List Cv := []
def selce18n0 : St → List Nat := fun _ => []
noncomputable def ce18n0 (Fx : TF18) (R : Type) (test : List AV → List Blk → Bool) : CE R := ⟨18, test, fun args M => some (selce18n0 ⟨argEnv 0 args, M, [], .unk⟩), fun args M k => tst (Nat.beq args.length 1) (callFn CX 0 cvce18n0 sgF18 selce18n0 (FFF18 Fx) elF18 args M k)⟩
theorem okce18n0 (Fx : TF18) (h : RecOkF18 Fx) (R : Type) (test : List AV → List Blk → Bool) : CeOk CX (ce18n0 Fx R test) := ce_ok hX (fun o k => by cases o; rfl) h en18 (fun args M ids h => by injection h with h; exact ⟨rfl, h.symm⟩)
end
end Go.Proofs.Ytbgdiljnmifakaa

namespace Go.Proofs.Ytbgdiljnmifakaa
open Go Go.Eng
set_option maxRecDepth 100000
noncomputable section
inductive R5 where
  | r (x0 : Bool)
abbrev TF5 := List Row → List Row → Int → Int → Int → Int → Int → Option R5
def sgF5 : LSh := ⟨[(0, .agg [.cell (.slice 38), .cell (.slice 3), .cell (.int .i64), .cell (.int .i64)]), (1, .one (.cell (.int .i64))), (2, .one (.cell (.int .i64))), (3, .one (.cell (.int .u8)))], []⟩
def FFF5 (Fx : TF5) (s : St) : Option R5 := Fx (((Eng.look s.env 0).cells.getD 0 .top).rows) (((Eng.look s.env 0).cells.getD 1 .top).rows) (((Eng.look s.env 0).cells.getD 2 .top).toI) (((Eng.look s.env 0).cells.getD 3 .top).toI) ((Eng.look s.env 1).toI) ((Eng.look s.env 2).toI) ((Eng.look s.env 3).toI)
def valF5 (o : R5) : AV := match o with | .r x0 => .bool x0
def memF5 (o : R5) : List Blk := match o with | .r x0 => []
def elF5 {R : Type} (o : R5) (k : AV → List Blk → Option R) : Option R := match o with | .r x0 => k (.bool x0) []
def RecOkF5 (Fx : TF5) : Prop := ∀ lk M o, FFF5 Fx (canS sgF5 lk M) = some o → FCalls CX 5 0 (argsE 4 (canS sgF5 lk M).env) (canS sgF5 lk M).mem (valF5 o) (memF5 o)
noncomputable def csF5 (N : Nat) (R : Type) : List (CE R) := [ce9n0 (F9 N) R (testV CX cvce9n0 sgF9 selce9n0), ce9n1 (F9 N) R (testV CX cvce9n1 sgF9 selce9n1), ce10n0 (F10 N) R (fun _ _ => true), ce17n0 (F17 N) R (testV CX cvce17n0 sgF17 selce17n0), ce17n1 (F17 N) R (testV CX cvce17n1 sgF17 selce17n1), ce18n0 (F18 N) R (fun _ _ => true)]
theorem hcsF5 (N : Nat) (R : Type) : AllE (CeOk CX) (csF5 N R) := ⟨okce9n0 (F9 N) (soundF9 N) R (testV CX cvce9n0 sgF9 selce9n0), okce9n1 (F9 N) (soundF9 N) R (testV CX cvce9n1 sgF9 selce9n1), okce10n0 (F10 N) (soundF10 N) R (fun _ _ => true), okce17n0 (F17 N) (soundF17 N) R (testV CX cvce17n0 sgF17 selce17n0), okce17n1 (F17 N) (soundF17 N) R (testV CX cvce17n1 sgF17 selce17n1), okce18n0 (F18 N) (soundF18 N) R (fun _ _ => true), trivial⟩
inductive OL5a65366 where
  | x1 (b0 : List Row)
def L5a65366 (N : Nat) : Nat → Nat → Int → Int → List Row → Option OL5a65366
  | 0 => fun _ _ _ _ => none
  | n + 1 => fun x14i x76 x77 b0 =>
    match decide (x77 < x76) with
    | true =>
      tst (decide (x14i < b0.length) && true && (((b0.getD x14i [])).getD 6 .top).isSub) <|
      tst (decide (x14i < b0.length)) <|
      tst (Nat.beq x14i x14i) <|
      tst (decide (x14i < b0.length)) <|
      tst (Nat.beq x14i x14i) <|
      tst (decide ((0 : Int) ≤ x77) && decide (x77 < ((((((b0.getD x14i [])).getD 6 .top).rows).length : Int)))) <|
      tst (decide (x77.toNat < (((((b0.getD x14i [])).getD 6 .top).rows).length))) <|
      tst (decide (x14i < b0.length)) <|
      tst (decide ((0 : Int) ≤ x77) && decide (x77 < ((((((b0.getD x14i [])).getD 6 .top).rows).length : Int)))) <|
      tst (decide (x77.toNat < (((((b0.getD x14i [])).getD 6 .top).rows).length))) <|
      L5a65366 N n x14i x76 (IntKind.wrap .i64 (x77 + (1 : Int))) (b0.set x14i (((b0.getD x14i [])).set 6 (.sub 55 (((((b0.getD x14i [])).getD 6 .top).rows).set x77.toNat (Eng.setAt ((((((b0.getD x14i [])).getD 6 .top).rows).getD x77.toNat [])) 1 [.int .i64 (Eng.imin ((((((((b0.getD x14i [])).getD 6 .top).rows).getD x77.toNat [])).getD 1 .top).toI) ((((b0.getD x14i [])).getD 5 .top).toI))])))))
    | false =>
      some (.x1 b0)
def LFL5a65366 (N : Nat) (n : Nat) (s : St) : Option OL5a65366 := L5a65366 N n ((Eng.look s.env 14).pi) ((Eng.look s.env 76).toI) ((Eng.look s.env 77).toI) ((s.mem.getD 0 .dead).rows)
def sgL5a65366 : LSh := ⟨[(14, .one (.ptrs 0 0)), (76, .one (.cell (.int .i64))), (77, .one (.cell (.int .i64)))], [.nst 38]⟩
def ceL5a65366 : List Cv := []
def seL5a65366 : St → List Nat := fun st => [(Eng.look st.env 14).id]
def xL5a65366wx1 : XSh OL5a65366 := ⟨[], ⟨[], [.nst 38]⟩, fun st => [0], fun s => .x1 ((s.mem.getD 0 .dead).rows)⟩
def xsL5a65366 : Ex → St → Option (XSh OL5a65366) := fun e st => match e with
  | .exit 1 => some xL5a65366wx1
  | _ => none
def exL5a65366 (o : OL5a65366) : Ex := match o with | .x1 b0 => (.exit 1)
def stL5a65366 (o : OL5a65366) : St := match o with | .x1 b0 => ⟨[], [.nst 38 b0 none], [], .unk⟩
def elL5a65366 {R : Type} (o : OL5a65366) (k : Ex → St → Option R) : Option R := match o with | .x1 b0 => k (.exit 1) ⟨[], [.nst 38 b0 none], [], .unk⟩
theorem heL5a65366 {R : Type} (o : OL5a65366) (k : Ex → St → Option R) : elL5a65366 o k = k (exL5a65366 o) (stL5a65366 o) := by cases o <;> rfl
theorem hxL5a65366 : ∀ e st x, xsL5a65366 e st = some x → outOk x e exL5a65366 stL5a65366 := by
  intro e st x h
  unfold xsL5a65366 at h
  repeat' split at h
  all_goals first
    | (injection h with h; subst h; exact fun lk M => ⟨rfl, rfl⟩)
    | cases h
noncomputable def T5ul65366 (N : Nat) (R : Type) : LTab R := withGh [(13, ([.opnp 14 6], [.close (.cell 12 0)])), (16, ([.opnp 14 6], [.close (.cell 12 0)])), (21, ([.flat (.cell 12 0)], [.nest (.cell 12 0)])), (30, ([.flat (.cell 12 0)], []))] (mkTab ⟨168, 2535301049340731351164759605248⟩ (csF5 N R) (noY) [] [] [])
theorem okT5ul65366 (N : Nat) (R : Type) : (T5ul65366 N R).Ok CX code5 := withGh_ok _ (mkTab_ok (hcsF5 N R) (noY_ok) (trivial) (trivial) (trivial))
noncomputable def bdL5a65366 : Code := match codeAt code5 [false, true, true, false, true, false, true, false, true, true, true, true, true, true, true] with | some (.loop c) => c | _ => .skip
theorem hsL5a65366 (N : Nat) : ∀ (n : Nat) (lk : Nat → AV) (M : List Blk), LFL5a65366 N (n + 1) (canS sgL5a65366 lk M) = evk CX (T5ul65366 N OL5a65366) bdL5a65366 (2 * 65366) (canS sgL5a65366 lk M) (kont CX 1 [.gh (.close (.tmp 14))] sgL5a65366 (fun st => [0]) xsL5a65366 (LFL5a65366 N n)) := by intro n lk M; kernel_rfl
noncomputable def T5ur1 (N : Nat) (R : Type) : LTab R := withGh [(13, ([.opnp 14 6], [.close (.cell 12 0)])), (16, ([.opnp 14 6], [.close (.cell 12 0)])), (21, ([.flat (.cell 12 0)], [.nest (.cell 12 0)])), (30, ([.flat (.cell 12 0)], []))] (mkTab ⟨168, 374144419156711147060143317175368453031918731001855⟩ (csF5 N R) (noY) [(65366, fun st k => callLoop CX 1 2535301049340731351164759605248 ceL5a65366 sgL5a65366 seL5a65366 ⟨168, 374144419156711147060143317175368453031918731001855⟩ (LFL5a65366 N N) elL5a65366 st k)] [] [])
theorem okT5ur1 (N : Nat) (R : Type) : (T5ur1 N R).Ok CX code5 := withGh_ok _ (mkTab_ok (hcsF5 N R) (noY_ok) (⟨loop_ok hX (path := [false, true, true, false, true, false, true, false, true, true, true, true, true, true, true]) (by kernel_rfl) (by rfl) (okT5ul65366 N OL5a65366) (fun _ _ => rfl) (hsL5a65366 N) hxL5a65366 rfl heL5a65366, trivial⟩) (trivial) (trivial))
def rsF5 : List ResultVar := [.tmp 8]
def F5 : Nat → TF5
  | 0 => fun _ _ _ _ _ _ _ => none
  | N + 1 => fun x0c0 x0c1 x0c2 x0c3 x1 x2 x3 =>
    match F9 N x0c0 x0c1 x0c2 x0c3 with
    | none => none
    | some (.r rx0v1) =>
      match rx0v1 with
      | true =>
        match F10 N  with
        | none => none
        | some (.r rx0v2) =>
          some (.r rx0v2)
      | false =>
        match F17 N x0c0 x0c1 x0c2 x0c3 x1 with
        | none => none
        | some (.r rx0v3 rx1v3 rx2v3) =>
          match rx2v3 != (0 : Int) with
          | true =>
            match F10 N  with
            | none => none
            | some (.r rx0v4) =>
              some (.r rx0v4)
          | false =>
            match !rx1v3 with
            | true =>
              match F10 N  with
              | none => none
              | some (.r rx0v5) =>
                some (.r rx0v5)
            | false =>
              match decide (x2 < (0 : Int)) with
              | true =>
                match F10 N  with
                | none => none
                | some (.r rx0v6) =>
                  some (.r rx0v6)
              | false =>
                match decide (((x0c0.length : Int)) ≤ x2) with
                | true =>
                  match F10 N  with
                  | none => none
                  | some (.r rx0v7) =>
                    some (.r rx0v7)
                | false =>
                  match F18 N x0c0 x0c1 x0c2 x0c3 with
                  | none => none
                  | some (.r rx0c1v8 rx0c2v8 rx0c3v8 rb0v8) =>
                    tst (decide ((0 : Int) ≤ x2) && decide (x2 < ((rb0v8.length : Int)))) <|
                    match (Int.tmod x3 (5 : Int)) == (0 : Int) with
                    | true =>
                      tst (decide (x2.toNat < rb0v8.length)) <|
                      tst (decide (x2.toNat < rb0v8.length) && true) <|
                      tst (decide (x2.toNat < ((rb0v8.set x2.toNat (Eng.setAt ((rb0v8.getD x2.toNat [])) 5 [.int .i64 (IntKind.wrap .i64 (Int.tdiv (IntKind.wrap .i64 (((((rb0v8.getD x2.toNat [])).getD 5 .top).toI) + (1 : Int))) (2 : Int)))])).length)) && true && ((((rb0v8.set x2.toNat (Eng.setAt ((rb0v8.getD x2.toNat [])) 5 [.int .i64 (IntKind.wrap .i64 (Int.tdiv (IntKind.wrap .i64 (((((rb0v8.getD x2.toNat [])).getD 5 .top).toI) + (1 : Int))) (2 : Int)))])).getD x2.toNat [])).getD 6 .top).isSub) <|
                      tst (decide (x2.toNat < ((rb0v8.set x2.toNat (Eng.setAt ((rb0v8.getD x2.toNat [])) 5 [.int .i64 (IntKind.wrap .i64 (Int.tdiv (IntKind.wrap .i64 (((((rb0v8.getD x2.toNat [])).getD 5 .top).toI) + (1 : Int))) (2 : Int)))])).length))) <|
                      tst (Nat.beq x2.toNat x2.toNat) <|
                      match L5a65366 N N x2.toNat (((((((rb0v8.set x2.toNat (Eng.setAt ((rb0v8.getD x2.toNat [])) 5 [.int .i64 (IntKind.wrap .i64 (Int.tdiv (IntKind.wrap .i64 (((((rb0v8.getD x2.toNat [])).getD 5 .top).toI) + (1 : Int))) (2 : Int)))])).getD x2.toNat [])).getD 6 .top).rows).length : Int)) 0 ((rb0v8.set x2.toNat (Eng.setAt ((rb0v8.getD x2.toNat [])) 5 [.int .i64 (IntKind.wrap .i64 (Int.tdiv (IntKind.wrap .i64 (((((rb0v8.getD x2.toNat [])).getD 5 .top).toI) + (1 : Int))) (2 : Int)))])).set x2.toNat ((((rb0v8.set x2.toNat (Eng.setAt ((rb0v8.getD x2.toNat [])) 5 [.int .i64 (IntKind.wrap .i64 (Int.tdiv (IntKind.wrap .i64 (((((rb0v8.getD x2.toNat [])).getD 5 .top).toI) + (1 : Int))) (2 : Int)))])).getD x2.toNat [])).set 6 (.sub 55 (((((rb0v8.set x2.toNat (Eng.setAt ((rb0v8.getD x2.toNat [])) 5 [.int .i64 (IntKind.wrap .i64 (Int.tdiv (IntKind.wrap .i64 (((((rb0v8.getD x2.toNat [])).getD 5 .top).toI) + (1 : Int))) (2 : Int)))])).getD x2.toNat [])).getD 6 .top).rows)))) with
                      | none => none
                      | some (.x1 b0v9) =>
                        match F9 N (b0v9.map (fun r => r.map Eng.AV.froz)) rx0c1v8 rx0c2v8 rx0c3v8 with
                        | none => none
                        | some (.r rx0v10) =>
                          match rx0v10 with
                          | true =>
                            match F10 N  with
                            | none => none
                            | some (.r rx0v11) =>
                              some (.r rx0v11)
                          | false =>
                            match F17 N (b0v9.map (fun r => r.map Eng.AV.froz)) rx0c1v8 rx0c2v8 rx0c3v8 x1 with
                            | none => none
                            | some (.r rx0v12 rx1v12 rx2v12) =>
                              match rx2v12 == (0 : Int) with
                              | true =>
                                match rx1v12 with
                                | true =>
                                  match decide (rx0v12 ≤ rx0v3) with
                                  | true =>
                                    match F10 N  with
                                    | none => none
                                    | some (.r rx0v13) =>
                                      some (.r rx0v13)
                                  | false =>
                                    some (.r false)
                                | false =>
                                  some (.r false)
                              | false =>
                                some (.r false)
                    | false =>
                      match (Int.tmod x3 (5 : Int)) == (1 : Int) with
                      | true =>
                        match x2 == x1 with
                        | true =>
                          match F10 N  with
                          | none => none
                          | some (.r rx0v14) =>
                            some (.r rx0v14)
                        | false =>
                          tst (decide ((0 : Int) ≤ x2) && decide (x2 ≤ x2) && decide (x2 ≤ (((rb0v8.map (fun r => r.map Eng.AV.froz)).length : Int)))) <|
                          tst (decide ((0 : Int) ≤ (IntKind.wrap .i64 (x2 + (1 : Int)))) && decide ((IntKind.wrap .i64 (x2 + (1 : Int))) ≤ ((x0c0.length : Int))) && decide ((x0c0.length : Int) ≤ ((x0c0.length : Int))) && decide ((x0c0.length : Int) ≤ ((x0c0.length : Int)))) <|
                          tst (decide (((((rb0v8.map (fun r => r.map Eng.AV.froz)).take x2.toNat).length + (x0c0.drop ((IntKind.wrap .i64 (x2 + (1 : Int))).toNat)).length) * 72) ≤ 140737488355328)) <|
                          match decide (x2 < x1) with
                          | true =>
                            match F9 N ((((rb0v8.map (fun r => r.map Eng.AV.froz)).take x2.toNat) ++ (x0c0.drop ((IntKind.wrap .i64 (x2 + (1 : Int))).toNat))).map (fun r => r.map Eng.AV.froz)) rx0c1v8 rx0c2v8 rx0c3v8 with
                            | none => none
                            | some (.r rx0v15) =>
                              match rx0v15 with
                              | true =>
                                match F10 N  with
                                | none => none
                                | some (.r rx0v16) =>
                                  some (.r rx0v16)
                              | false =>
                                match F17 N ((((rb0v8.map (fun r => r.map Eng.AV.froz)).take x2.toNat) ++ (x0c0.drop ((IntKind.wrap .i64 (x2 + (1 : Int))).toNat))).map (fun r => r.map Eng.AV.froz)) rx0c1v8 rx0c2v8 rx0c3v8 (IntKind.wrap .i64 (x1 - (1 : Int))) with
                                | none => none
                                | some (.r rx0v17 rx1v17 rx2v17) =>
                                  match rx2v17 == (0 : Int) with
                                  | true =>
                                    match rx1v17 with
                                    | true =>
                                      match decide (rx0v17 ≤ rx0v3) with
                                      | true =>
                                        match F10 N  with
                                        | none => none
                                        | some (.r rx0v18) =>
                                          some (.r rx0v18)
                                      | false =>
                                        some (.r false)
                                    | false =>
                                      some (.r false)
                                  | false =>
                                    some (.r false)
                          | false =>
                            match F9 N ((((rb0v8.map (fun r => r.map Eng.AV.froz)).take x2.toNat) ++ (x0c0.drop ((IntKind.wrap .i64 (x2 + (1 : Int))).toNat))).map (fun r => r.map Eng.AV.froz)) rx0c1v8 rx0c2v8 rx0c3v8 with
                            | none => none
                            | some (.r rx0v19) =>
                              match rx0v19 with
                              | true =>
                                match F10 N  with
                                | none => none
                                | some (.r rx0v20) =>
                                  some (.r rx0v20)
                              | false =>
                                match F17 N ((((rb0v8.map (fun r => r.map Eng.AV.froz)).take x2.toNat) ++ (x0c0.drop ((IntKind.wrap .i64 (x2 + (1 : Int))).toNat))).map (fun r => r.map Eng.AV.froz)) rx0c1v8 rx0c2v8 rx0c3v8 x1 with
                                | none => none
                                | some (.r rx0v21 rx1v21 rx2v21) =>
                                  match rx2v21 == (0 : Int) with
                                  | true =>
                                    match rx1v21 with
                                    | true =>
                                      match decide (rx0v21 ≤ rx0v3) with
                                      | true =>
                                        match F10 N  with
                                        | none => none
                                        | some (.r rx0v22) =>
                                          some (.r rx0v22)
                                      | false =>
                                        some (.r false)
                                    | false =>
                                      some (.r false)
                                  | false =>
                                    some (.r false)
                      | false =>
                        match (Int.tmod x3 (5 : Int)) == (2 : Int) with
                        | true =>
                          match x2 == x1 with
                          | true =>
                            match F10 N  with
                            | none => none
                            | some (.r rx0v23) =>
                              some (.r rx0v23)
                          | false =>
                            tst (decide (x2.toNat < rb0v8.length)) <|
                            tst (decide (x2.toNat < rb0v8.length) && true) <|
                            match F9 N ((rb0v8.set x2.toNat (Eng.setAt ((rb0v8.getD x2.toNat [])) 2 [.int .i64 (Eng.imin (IntKind.wrap .i64 ((2 : Int) * ((((rb0v8.getD x2.toNat [])).getD 2 .top).toI))) 2147483647)])).map (fun r => r.map Eng.AV.froz)) rx0c1v8 rx0c2v8 rx0c3v8 with
                            | none => none
                            | some (.r rx0v24) =>
                              match rx0v24 with
                              | true =>
                                match F10 N  with
                                | none => none
                                | some (.r rx0v25) =>
                                  some (.r rx0v25)
                              | false =>
                                match F17 N ((rb0v8.set x2.toNat (Eng.setAt ((rb0v8.getD x2.toNat [])) 2 [.int .i64 (Eng.imin (IntKind.wrap .i64 ((2 : Int) * ((((rb0v8.getD x2.toNat [])).getD 2 .top).toI))) 2147483647)])).map (fun r => r.map Eng.AV.froz)) rx0c1v8 rx0c2v8 rx0c3v8 x1 with
                                | none => none
                                | some (.r rx0v26 rx1v26 rx2v26) =>
                                  match rx2v26 == (0 : Int) with
                                  | true =>
                                    match rx1v26 with
                                    | true =>
                                      match decide (rx0v26 ≤ rx0v3) with
                                      | true =>
                                        match F10 N  with
                                        | none => none
                                        | some (.r rx0v27) =>
                                          some (.r rx0v27)
                                      | false =>
                                        some (.r false)
                                    | false =>
                                      some (.r false)
                                  | false =>
                                    some (.r false)
                        | false =>
                          match (Int.tmod x3 (5 : Int)) == (3 : Int) with
                          | true =>
                            match F9 N (rb0v8.map (fun r => r.map Eng.AV.froz)) rx0c1v8 (IntKind.wrap .i64 (Int.tdiv rx0c2v8 (2 : Int))) rx0c3v8 with
                            | none => none
                            | some (.r rx0v28) =>
                              match rx0v28 with
                              | true =>
                                match F10 N  with
                                | none => none
                                | some (.r rx0v29) =>
                                  some (.r rx0v29)
                              | false =>
                                match F17 N (rb0v8.map (fun r => r.map Eng.AV.froz)) rx0c1v8 (IntKind.wrap .i64 (Int.tdiv rx0c2v8 (2 : Int))) rx0c3v8 x1 with
                                | none => none
                                | some (.r rx0v30 rx1v30 rx2v30) =>
                                  match rx2v30 == (0 : Int) with
                                  | true =>
                                    match rx1v30 with
                                    | true =>
                                      match decide (rx0v30 ≤ rx0v3) with
                                      | true =>
                                        match F10 N  with
                                        | none => none
                                        | some (.r rx0v31) =>
                                          some (.r rx0v31)
                                      | false =>
                                        some (.r false)
                                    | false =>
                                      some (.r false)
                                  | false =>
                                    some (.r false)
                          | false =>
                            match F9 N (rb0v8.map (fun r => r.map Eng.AV.froz)) rx0c1v8 rx0c2v8 (IntKind.wrap .i64 (Int.tdiv (IntKind.wrap .i64 (rx0c3v8 + (1 : Int))) (2 : Int))) with
                            | none => none
                            | some (.r rx0v32) =>
                              match rx0v32 with
                              | true =>
                                match F10 N  with
                                | none => none
                                | some (.r rx0v33) =>
                                  some (.r rx0v33)
                              | false =>
                                match F17 N (rb0v8.map (fun r => r.map Eng.AV.froz)) rx0c1v8 rx0c2v8 (IntKind.wrap .i64 (Int.tdiv (IntKind.wrap .i64 (rx0c3v8 + (1 : Int))) (2 : Int))) x1 with
                                | none => none
                                | some (.r rx0v34 rx1v34 rx2v34) =>
                                  match rx2v34 == (0 : Int) with
                                  | true =>
                                    match rx1v34 with
                                    | true =>
                                      match decide (rx0v34 ≤ rx0v3) with
                                      | true =>
                                        match F10 N  with
                                        | none => none
                                        | some (.r rx0v35) =>
                                          some (.r rx0v35)
                                      | false =>
                                        some (.r false)
                                    | false =>
                                      some (.r false)
                                  | false =>
                                    some (.r false)
def xRF5 : XSh R5 := ⟨[], ⟨[(0, .one (.cell (.bool)))], []⟩, fun _ => [], fun s => .r ((Eng.look s.env 0).toB)⟩
theorem fsF5 : ∀ (N : Nat) (lk : Nat → AV) (M : List Blk), FFF5 (F5 (N + 1)) (canS sgF5 lk M) = evfn CX (T5ur1 N R5) code5 rsF5 (argsE 4 (canS sgF5 lk M).env) (canS sgF5 lk M).mem (goR CX 0 (fun _ => some xRF5)) := by intro N lk M; kernel_rfl
theorem soundF5 : ∀ N, RecOkF5 (F5 N)
  | 0, lk, M, o, h => by cases h
  | N + 1, lk, M, o, h => fn_sound hX (okT5ur1 N R5) Try.func5 hb5 rfl en5 (by kernel_rfl) (ys := fun _ => some xRF5) (fun st y h => by injection h with h; subst h; exact fun lk M => ⟨rfl, rfl⟩) ((fsF5 N lk M).symm.trans h)
end
end Go.Proofs.Ytbgdiljnmifakaa

namespace Go.Proofs.Ytbgdiljnmifakaa
open Go Go.Eng
def cI (l : List Row) (i : Int) (c : Nat) : Int := ((l.getD i.toNat []).getD c .top).toI
def cL (l : List Row) (i : Int) (c : Nat) : List Row := ((l.getD i.toNat []).getD c .top).rows
theorem wrap_id {n : Int} (h0 : -9223372036854775808 ≤ n) (h1 : n ≤ 9223372036854775807) : IntKind.wrap .i64 n = n := by
  simp [IntKind.wrap, IntKind.bits, IntKind.signed]
  split <;> omega
theorem wrap_succ {i : Nat} (h : i ≤ 1000000) : IntKind.wrap .i64 ((i : Int) + 1) = ((i + 1 : Nat) : Int) := by
  rw [wrap_id (by omega) (by omega)]; omega
theorem dlt {i n : Nat} (h : i < n) : decide ((i : Int) < (n : Int)) = true := decide_eq_true (by omega)
theorem dge {i n : Nat} (h : n ≤ i) : decide ((i : Int) < (n : Int)) = false := decide_eq_false (by omega)
theorem dz (i : Nat) : decide ((0 : Int) ≤ (i : Int)) = true := decide_eq_true (by omega)
def allF (p : Nat → Bool) : Nat → Nat → Bool
  | _, 0 => true
  | i, k + 1 => p i && allF p (i + 1) k
theorem allF_iff {p : Nat → Bool} : ∀ {k i : Nat}, allF p i k = true ↔ ∀ j, i ≤ j → j < i + k → p j = true
  | 0, i => by simp only [allF, true_iff]; intro j h1 h2; omega
  | k + 1, i => by
    simp only [allF, Bool.and_eq_true, allF_iff (k := k) (i := i + 1)]
    constructor
    · rintro ⟨h1, h2⟩ j h3 h4
      by_cases e : j = i
      · subst e; exact h1
      · exact h2 j (by omega) (by omega)
    · intro h
      exact ⟨h i (Nat.le_refl _) (by omega), fun j h1 h2 => h j (by omega) (by omega)⟩
def inR (v lo hi : Int) : Bool := decide (lo ≤ v) && decide (v ≤ hi)
theorem inR_iff {v lo hi : Int} : inR v lo hi = true ↔ lo ≤ v ∧ v ≤ hi := by simp [inR]
theorem F35_eq (N : Nat) (v lo hi : Int) : F35 (N + 1) v lo hi = some (.r (inR v lo hi)) := by
  show (match decide (lo ≤ v) with | true => _ | false => _) = _
  unfold inR
  cases decide (lo ≤ v) <;> rfl
theorem F31_eq (N : Nat) (v lo hi : Int) : F31 (N + 1) v lo hi = some (.r (inR v lo hi)) := by
  show (match decide (lo ≤ v) with | true => _ | false => _) = _
  unfold inR
  cases decide (lo ≤ v) <;> rfl
def useF (C : List Row) (cost prio : Int) (us : List Row) : Nat → Nat → Int → Bool
  | _, 0, _ => true
  | i, k + 1, last => !decide (cI us i 0 ≤ last) && (!decide ((C.length : Int) ≤ cI us i 0) && (inR (cI us i 1) 1 cost && (!decide (cI C (cI us i 0) 0 < prio) && useF C cost prio us (i + 1) k (cI us i 0))))
theorem useF_iff {C : List Row} {cost prio : Int} {us : List Row} : ∀ {k i : Nat} {last : Int}, -1 ≤ last → useF C cost prio us i k last = true → ∀ j : Nat, i ≤ j → j < i + k → 0 ≤ cI us j 0 ∧ cI us j 0 < C.length ∧ 1 ≤ cI us j 1 ∧ cI us j 1 ≤ cost ∧ prio ≤ cI C (cI us j 0) 0
  | 0, i, _, _, _, j, h1, h2 => by omega
  | k + 1, i, last, hl, h, j, h1, h2 => by
    simp only [useF, Bool.and_eq_true, Bool.not_eq_true', decide_eq_false_iff_not, inR_iff] at h
    obtain ⟨a1, a2, a3, a4, a5⟩ := h
    by_cases e : j = i
    · subst e; exact ⟨by omega, by omega, a3.1, a3.2, by omega⟩
    · exact useF_iff (by omega) a5 j (by omega) (by omega)
theorem L36_all (N : Nat) (T C : List Row) (sw ins c0 prio c2 c3 c4 cost : Int) (us : List Row) (hu : us.length ≤ 1000) : ∀ (k n i : Nat) (last : Int), -1 ≤ last → i + k = us.length → k < n →
    L36a122 (N + 1) n last i T C sw ins c0 prio c2 c3 c4 cost us = match useF C cost prio us i k last with | true => some (.x0 T C sw ins c0 prio c2 c3 c4 cost us) | false => some (.ret false T C sw ins c0 prio c2 c3 c4 cost us)
  | 0, n + 1, i, last, _, h, _ => by
    show (match decide ((i : Int) < (us.length : Int)) with | true => _ | false => _) = _
    rw [dge (show us.length ≤ i by omega)]; rfl
  | k + 1, n + 1, i, last, hl, h, hn => by
    show (match decide ((i : Int) < (us.length : Int)) with | true => _ | false => _) = _
    simp only [dlt (show i < us.length by omega), dz, Bool.and_self, tst, ← cI.eq_1, F35_eq]
    rw [wrap_succ (by omega)]
    unfold useF
    cases h1 : decide (cI us i 0 ≤ last) with
    | true => rfl
    | false =>
      have h1' := of_decide_eq_false h1
      cases h2 : decide ((C.length : Int) ≤ cI us i 0) with
      | true => rfl
      | false =>
        have h2' := of_decide_eq_false h2
        have e1 : decide ((0 : Int) ≤ cI us i 0) = true := decide_eq_true (by omega)
        have e2 : decide (cI us i 0 < (C.length : Int)) = true := decide_eq_true (by omega)
        simp only [e1, e2, Bool.and_self]
        cases inR (cI us i 1) 1 cost with
        | false => rfl
        | true =>
          cases h3 : decide (cI C (cI us i 0) 0 < prio) with
          | true => rfl
          | false =>
            simp only [Bool.not_false, Bool.not_true, Bool.true_and]
            exact L36_all N T C sw ins c0 prio c2 c3 c4 cost us hu k n (i + 1) _ (by omega) (by omega) (by omega)
  | _, 0, _, _, _, _, h => by omega
theorem L34_all (N : Nat) (T C : List Row) (sw ins c0 prio c2 c3 c4 cost : Int) (us : List Row) (hu : us.length ≤ 1000) : ∀ (k n i : Nat) (last : Int), -1 ≤ last → i + k = us.length → k < n →
    L34a58 (N + 1) n last us us.length i T C sw ins c0 prio c2 c3 c4 cost us = match useF C cost prio us i k last with | true => some (.x0 T C sw ins c0 prio c2 c3 c4 cost us) | false => some (.ret false T C sw ins c0 prio c2 c3 c4 cost us)
  | 0, n + 1, i, last, _, h, _ => by
    show (match decide ((i : Int) < (us.length : Int)) with | true => _ | false => _) = _
    rw [dge (show us.length ≤ i by omega)]; rfl
  | k + 1, n + 1, i, last, hl, h, hn => by
    show (match decide ((i : Int) < (us.length : Int)) with | true => _ | false => _) = _
    simp only [dlt (show i < us.length by omega), dz, Bool.and_self, tst, ← cI.eq_1, F31_eq]
    rw [wrap_succ (by omega)]
    unfold useF
    cases h1 : decide (cI us i 0 ≤ last) with
    | true => rfl
    | false =>
      have h1' := of_decide_eq_false h1
      cases h2 : decide ((C.length : Int) ≤ cI us i 0) with
      | true => rfl
      | false =>
        have h2' := of_decide_eq_false h2
        have e1 : decide ((0 : Int) ≤ cI us i 0) = true := decide_eq_true (by omega)
        have e2 : decide (cI us i 0 < (C.length : Int)) = true := decide_eq_true (by omega)
        simp only [e1, e2, Bool.and_self]
        cases inR (cI us i 1) 1 cost with
        | false => rfl
        | true =>
          cases h3 : decide (cI C (cI us i 0) 0 < prio) with
          | true => rfl
          | false =>
            simp only [Bool.not_false, Bool.not_true, Bool.true_and]
            exact L34_all N T C sw ins c0 prio c2 c3 c4 cost us hu k n (i + 1) _ (by omega) (by omega) (by omega)
  | _, 0, _, _, _, _, h => by omega
def numOk (c0 prio per dl off cost : Int) : Bool :=
  !decide (c0 < 0) && (!decide (prio < 0) && (!decide (31 < prio) && (inR per 1 2147483647 && (inR dl 1 per && (inR off 0 2147483647 && inR cost 1 1073741824)))))
def tkOk (C : List Row) (c0 prio per dl off cost : Int) (us : List Row) : Bool := numOk c0 prio per dl off cost && useF C cost prio us 0 us.length (-1)
theorem F36_eq {N : Nat} (hN : 1100 ≤ N) (T C : List Row) (sw ins c0 prio per dl off cost : Int) (us : List Row) (hu : us.length ≤ 1000) : F36 N T C sw ins c0 prio per dl off cost us = some (.r (tkOk C c0 prio per dl off cost us)) := by
  obtain ⟨M, rfl⟩ : ∃ M, N = M + 2 := ⟨N - 2, by omega⟩
  have hJ : J36a6 (M + 1) c0 prio per dl off cost us = match numOk c0 prio per dl off cost with | true => some (.nx c0 prio per dl off cost us) | false => some (.ret false c0 prio per dl off cost us) := by
    unfold J36a6 numOk
    simp only [F35_eq]
    cases decide (c0 < 0) <;> cases decide (prio < 0) <;> cases decide (31 < prio) <;> cases inR per 1 2147483647 <;> cases inR dl 1 per <;> cases inR off 0 2147483647 <;> cases inR cost 1 1073741824 <;> rfl
  show (match J36a6 (M + 1) c0 prio per dl off cost us with | none => (none : Option R36) | some (.nx a b c d e f g) => _ | some (.ret x _ _ _ _ _ _ _) => some (.r x)) = _
  rw [hJ]
  unfold tkOk
  cases numOk c0 prio per dl off cost with
  | false => rfl
  | true =>
    simp only [Bool.true_and]
    have := L36_all M T C sw ins c0 prio per dl off cost us hu us.length (M + 1) 0 (-1) (by omega) (by omega) (by omega)
    rw [show ((0 : Nat) : Int) = (0 : Int) from rfl] at this
    rw [this]
    cases useF C cost prio us 0 us.length (-1) <;> rfl
theorem F34_eq {N : Nat} (hN : 1100 ≤ N) (T C : List Row) (sw ins c0 prio per dl off cost : Int) (us : List Row) (hu : us.length ≤ 1000) : F34 N T C sw ins c0 prio per dl off cost us = some (.r (useF C cost prio us 0 us.length (-1))) := by
  obtain ⟨M, rfl⟩ : ∃ M, N = M + 2 := ⟨N - 2, by omega⟩
  show (match L34a58 (M + 1) (M + 1) (-1) us us.length 0 T C sw ins c0 prio per dl off cost us with | none => (none : Option R34) | some (.ret x _ _ _ _ _ _ _ _ _ _ _) => some (.r x) | some (.x0 _ _ _ _ _ _ _ _ _ _ _) => some (.r true)) = _
  have := L34_all M T C sw ins c0 prio per dl off cost us hu us.length (M + 1) 0 (-1) (by omega) (by omega) (by omega)
  rw [show ((0 : Nat) : Int) = (0 : Int) from rfl] at this
  rw [this]
  cases useF C cost prio us 0 us.length (-1) <;> rfl
def tk (T C : List Row) (i : Nat) : Bool := tkOk C (cI T i 0) (cI T i 1) (cI T i 2) (cI T i 3) (cI T i 4) (cI T i 5) (cL T i 6)
def dist (T : List Row) (i : Nat) : Bool := allF (fun k => !(cI T k 0 == cI T i 0)) 0 i
def ceilOk (C : List Row) (i : Nat) : Bool := !decide (cI C i 0 < 0) && !decide (31 < cI C i 0)
def head (T C : List Row) (sw ins : Int) : Bool := !decide ((32 : Int) < T.length) && (!decide ((32 : Int) < C.length) && (inR sw 0 268435456 && inR ins 1 1048576))
def may (T C : List Row) (sw ins : Int) : Bool := head T C sw ins && (allF (ceilOk C) 0 C.length && allF (fun i => tk T C i && dist T i) 0 T.length)
structure Small (T C : List Row) : Prop where
  t : T.length ≤ 40
  c : C.length ≤ 40
  u : ∀ i : Nat, i < T.length → (cL T i 6).length ≤ 40
theorem J14_eq (N : Nat) (T C : List Row) (sw ins : Int) : J14a6 (N + 1) T C sw ins = match head T C sw ins with | true => some (.nx T C sw ins) | false => some (.ret false T C sw ins) := by
  unfold J14a6 head
  simp only [F35_eq]
  cases decide ((32 : Int) < T.length) <;> cases decide ((32 : Int) < C.length) <;> cases inR sw 0 268435456 <;> cases inR ins 1 1048576 <;> rfl
theorem L14c_all (N : Nat) (T C : List Row) (sw ins : Int) (hC : C.length ≤ 1000) : ∀ (k n i : Nat), i + k = C.length → k < n → L14a58 N n i T C sw ins = match allF (ceilOk C) i k with | true => some (.x0 T C sw ins) | false => some (.ret false T C sw ins)
  | 0, n + 1, i, h, _ => by
    show (match decide ((i : Int) < (C.length : Int)) with | true => _ | false => _) = _
    rw [dge (show C.length ≤ i by omega)]; rfl
  | k + 1, n + 1, i, h, hn => by
    show (match decide ((i : Int) < (C.length : Int)) with | true => _ | false => _) = _
    simp only [dlt (show i < C.length by omega), dz, Bool.and_self, tst, ← cI.eq_1]
    rw [wrap_succ (by omega)]
    unfold allF ceilOk
    cases decide (cI C i 0 < 0) with
    | true => rfl
    | false =>
      cases decide (31 < cI C i 0) with
      | true => rfl
      | false =>
        simp only [Bool.not_false, Bool.and_self, Bool.true_and]
        exact L14c_all N T C sw ins hC k n (i + 1) (by omega) (by omega)
  | _, 0, _, _, h => by omega
theorem L14d_all (N : Nat) (T C : List Row) (sw ins : Int) (hT : T.length ≤ 1000) (t : Nat) (ht : t < T.length) : ∀ (k n i : Nat), i + k = t → k < n → L14a15654 N n t i T C sw ins = match allF (fun k => !(cI T k 0 == cI T t 0)) i k with | true => some (.x4 T C sw ins) | false => some (.ret false T C sw ins)
  | 0, n + 1, i, h, _ => by
    show (match decide ((i : Int) < (t : Int)) with | true => _ | false => _) = _
    rw [dge (show t ≤ i by omega)]; rfl
  | k + 1, n + 1, i, h, hn => by
    show (match decide ((i : Int) < (t : Int)) with | true => _ | false => _) = _
    simp only [dlt (show i < t by omega), dlt (show i < T.length by omega), dlt ht, dz, Bool.and_self, tst, ← cI.eq_1]
    rw [wrap_succ (by omega)]
    unfold allF
    cases cI T i 0 == cI T t 0 with
    | true => rfl
    | false =>
      simp only [Bool.not_false, Bool.true_and]
      exact L14d_all N T C sw ins hT t ht k n (i + 1) (by omega) (by omega)
  | _, 0, _, _, h => by omega
theorem L14_all {T C : List Row} (hS : Small T C) (N : Nat) (hN : 1200 ≤ N) (sw ins : Int) : ∀ (k n i : Nat), i + k = T.length → k < n → L14a122 N n i T C sw ins = match allF (fun i => tk T C i && dist T i) i k with | true => some (.x2 T C sw ins) | false => some (.ret false T C sw ins)
  | 0, n + 1, i, h, _ => by
    show (match decide ((i : Int) < (T.length : Int)) with | true => _ | false => _) = _
    rw [dge (show T.length ≤ i by omega)]; rfl
  | k + 1, n + 1, i, h, hn => by
    have hu := hS.u i (by omega)
    have ht := hS.t
    show (match decide ((i : Int) < (T.length : Int)) with | true => _ | false => _) = _
    simp only [dlt (show i < T.length by omega), dz, Bool.and_self, tst, ← cI.eq_1, ← cL.eq_1]
    rw [F36_eq (by omega) T C sw ins _ _ _ _ _ _ _ (by omega), wrap_succ (by omega)]
    unfold allF
    rw [show tkOk C (cI T i 0) (cI T i 1) (cI T i 2) (cI T i 3) (cI T i 4) (cI T i 5) (cL T i 6) = tk T C i from rfl]
    cases tk T C i with
    | false => rfl
    | true =>
      simp only [Bool.not_true, Bool.true_and]
      have hd := L14d_all N T C sw ins (by omega) i (by omega) i N 0 (by omega) (by omega)
      rw [show ((0 : Nat) : Int) = (0 : Int) from rfl] at hd
      rw [hd, show allF (fun k => !(cI T k 0 == cI T i 0)) 0 i = dist T i from rfl]
      cases dist T i with
      | false => rfl
      | true => exact L14_all hS N hN sw ins k n (i + 1) (by omega) (by omega)
  | _, 0, _, _, h => by omega
theorem F14_eq {T C : List Row} (hS : Small T C) {N : Nat} (hN : 1300 ≤ N) (sw ins : Int) : F14 N T C sw ins = some (.r (may T C sw ins)) := by
  obtain ⟨M, rfl⟩ : ∃ M, N = M + 2 := ⟨N - 2, by omega⟩
  have h1 := hS.t
  have h2 := hS.c
  show (match J14a6 (M + 1) T C sw ins with | none => (none : Option R14) | some (.nx _ _ _ _) => _ | some (.ret x _ _ _ _) => some (.r x)) = _
  rw [J14_eq]
  unfold may
  cases head T C sw ins with
  | false => rfl
  | true =>
    simp only [Bool.true_and]
    have hc := L14c_all (M + 1) T C sw ins (by omega) C.length (M + 1) 0 (by omega) (by omega)
    have ht := L14_all hS (M + 1) (by omega) sw ins T.length (M + 1) 0 (by omega) (by omega)
    rw [show ((0 : Nat) : Int) = (0 : Int) from rfl] at hc ht
    unfold J14a14
    rw [hc]
    cases allF (ceilOk C) 0 C.length with
    | false => rfl
    | true =>
      simp only [Bool.true_and]
      rw [ht]
      cases allF (fun i => tk T C i && dist T i) 0 T.length <;> rfl
theorem J13_eq (N : Nat) (T C : List Row) (sw ins : Int) : J13a6 (N + 1) T C sw ins = match head T C sw ins with | true => some (.nx T C sw ins) | false => some (.ret false T C sw ins) := by
  unfold J13a6 head
  simp only [F31_eq]
  cases decide ((32 : Int) < T.length) <;> cases decide ((32 : Int) < C.length) <;> cases inR sw 0 268435456 <;> cases inR ins 1 1048576 <;> rfl
theorem F33_eq (N : Nat) (v : Int) : F33 (N + 1) v = some (.r (decide (v < 0) || decide (31 < v))) := by
  show (match decide (v < 0) with | true => _ | false => _) = _
  cases decide (v < 0) <;> rfl
theorem L45_all (N : Nat) (C : List Row) (hC : C.length ≤ 1000) : ∀ (k n i : Nat), i + k = C.length → k < n → (match allF (ceilOk C) i k with | true => L45a26 (N + 1) n C C.length i = some .x0 | false => ∃ j : Nat, L45a26 (N + 1) n C C.length i = some (.ret j))
  | 0, n + 1, i, h, _ => by
    show (match decide ((i : Int) < (C.length : Int)) with | true => _ | false => _) = _
    rw [dge (show C.length ≤ i by omega)]
  | k + 1, n + 1, i, h, hn => by
    have ih := L45_all N C hC k n (i + 1) (by omega) (by omega)
    have e : L45a26 (N + 1) (n + 1) C C.length i = match decide (cI C i 0 < 0) || decide (31 < cI C i 0) with | true => some (.ret i) | false => L45a26 (N + 1) n C C.length ((i + 1 : Nat) : Int) := by
      show (match decide ((i : Int) < (C.length : Int)) with | true => _ | false => _) = _
      simp only [dlt (show i < C.length by omega), dz, Bool.and_self, tst, ← cI.eq_1, F33_eq]
      rw [wrap_succ (by omega)]
      cases decide (cI C i 0 < 0) || decide (31 < cI C i 0) <;> rfl
    rw [e]
    unfold allF ceilOk
    cases decide (cI C i 0 < 0) with
    | true => exact ⟨i, rfl⟩
    | false =>
      cases decide (31 < cI C i 0) with
      | true => exact ⟨i, rfl⟩
      | false =>
        simp only [Bool.not_false, Bool.and_self, Bool.true_and, Bool.or_self]
        exact ih
  | _, 0, _, _, h => by omega
theorem F32_eq {N : Nat} (hN : 1100 ≤ N) (C : List Row) (hC : C.length ≤ 1000) : F32 N C = some (.r (!allF (ceilOk C) 0 C.length)) := by
  obtain ⟨M, rfl⟩ : ∃ M, N = M + 3 := ⟨N - 3, by omega⟩
  have h := L45_all (M) C hC C.length (M + 1) 0 (by omega) (by omega)
  rw [show ((0 : Nat) : Int) = (0 : Int) from rfl] at h
  show (match (match L45a26 (M + 1) (M + 1) C C.length 0 with | none => (none : Option R45) | some (.ret x) => some (.r x) | some .x0 => some (.r (-1))) with | none => none | some (.r x) => some (R32.r (decide ((0 : Int) ≤ x)))) = _
  revert h
  cases allF (ceilOk C) 0 C.length with
  | true => intro h; simp only at h; rw [h]; rfl
  | false => rintro ⟨j, h⟩; rw [h]; simp
def seen (T : List Row) : Nat → List (AV × AV)
  | 0 => []
  | i + 1 => Eng.mput (seen T i) (.int .i64 (cI T i 0)) (.bool true)
theorem mfind_mput (es : List (AV × AV)) (a b : Int) (v : AV) : Eng.mfind (Eng.mput es (.int .i64 a) v) (.int .i64 b) = if b = a then some v else Eng.mfind es (.int .i64 b) := by
  induction es with
  | nil =>
    simp only [Eng.mput, Eng.mfind, Eng.keq]
    by_cases h : b = a
    · subst h; simp
    · have : (b == a) = false := by simpa using h
      simp [h, this]
  | cons e es ih =>
    obtain ⟨x, y⟩ := e
    simp only [Eng.mput]
    cases hk : Eng.keq (.int .i64 a) x with
    | true =>
      simp only [Eng.mfind]
      rw [show Eng.keq (.int .i64 b) (.int .i64 a) = (b == a) from rfl]
      by_cases h : b = a
      · subst h; simp
      · have h2 : (b == a) = false := by simpa using h
        have h3 : Eng.keq (.int .i64 b) x = false := by
          cases x <;> simp only [Eng.keq] at hk ⊢ <;> try cases hk
          have := eq_of_beq hk
          subst this
          exact h2
        simp [h, h2, h3]
    | false =>
      simp only [Eng.mfind]
      rw [ih]
      by_cases h : b = a
      · subst h; simp [hk]
      · simp [h]
theorem seen_find (T : List Row) (v : Int) : ∀ i : Nat, Eng.mfind (seen T i) (.int .i64 v) = if allF (fun k => !(cI T k 0 == v)) 0 i = true then none else some (.bool true)
  | 0 => by simp [seen, Eng.mfind, allF]
  | i + 1 => by
    rw [seen, mfind_mput, seen_find T v i]
    by_cases h : v = cI T i 0
    · subst h
      rw [if_pos rfl, if_neg]
      intro h2
      have := allF_iff.1 h2 i (by omega) (by omega)
      simp at this
    · rw [if_neg h]
      have e : allF (fun k => !(cI T k 0 == v)) 0 (i + 1) = allF (fun k => !(cI T k 0 == v)) 0 i := by
        rw [Bool.eq_iff_iff, allF_iff, allF_iff]
        constructor
        · intro h1 j h2 h3; exact h1 j h2 (by omega)
        · intro h1 j h2 h3
          by_cases e : j = i
          · subst e; simp; exact fun e => h e.symm
          · exact h1 j h2 (by omega)
      rw [e]
def times (per dl off cost : Int) : Bool := inR per 1 2147483647 && (inR dl 1 per && (inR off 0 2147483647 && inR cost 1 1073741824))
theorem J13b_eq (N : Nat) (c0 prio per dl off cost : Int) (us : List Row) : J13a32050 (N + 1) c0 prio per dl off cost us = some (.nx (times per dl off cost) c0 prio per dl off cost us) := by
  unfold J13a32050 times
  simp only [F31_eq]
  cases inR per 1 2147483647 <;> cases inR dl 1 per <;> cases inR off 0 2147483647 <;> cases inR cost 1 1073741824 <;> rfl
theorem J13c_eq {N : Nat} (hN : 1100 ≤ N) (T C : List Row) (sw ins c0 prio per dl off cost : Int) (us : List Row) (hu : us.length ≤ 1000) (i : Nat) :
    J13a64102 N (times per dl off cost) T C sw ins (seen T i) c0 prio per dl off cost us = match tkOk C c0 prio per dl off cost us && allF (fun k => !(cI T k 0 == c0)) 0 i with
      | true => some (.nx T C sw ins (seen T i) c0 prio per dl off cost us)
      | false => some (.ret false T C sw ins (seen T i) c0 prio per dl off cost us) := by
  unfold J13a64102
  simp only [seen_find, F34_eq hN T C sw ins c0 prio per dl off cost us hu]
  unfold tkOk numOk
  rw [show (inR per 1 2147483647 && (inR dl 1 per && (inR off 0 2147483647 && inR cost 1 1073741824))) = times per dl off cost from rfl]
  cases times per dl off cost with
  | false => cases decide (c0 < 0) <;> cases decide (prio < 0) <;> cases decide (31 < prio) <;> rfl
  | true =>
    cases decide (c0 < 0) with
    | true => rfl
    | false =>
      cases hs : allF (fun k => !(cI T k 0 == c0)) 0 i with
      | false => simp [AV.toB]
      | true =>
        simp only [if_true]
        cases decide (prio < 0) <;> cases decide (31 < prio) <;> cases useF C cost prio us 0 us.length (-1) <;> rfl
theorem L13_all {T C : List Row} (hS : Small T C) (N : Nat) (hN : 1200 ≤ N) (sw ins : Int) : ∀ (k n i : Nat), i + k = T.length → k < n → (match allF (fun i => tk T C i && dist T i) i k with | true => ∃ b, L13a250 N n T T.length i T C sw ins (seen T i) = some (.x0 T C sw ins b) | false => ∃ b, L13a250 N n T T.length i T C sw ins (seen T i) = some (.ret false T C sw ins b))
  | 0, n + 1, i, h, _ => by
    refine ⟨seen T i, ?_⟩
    show (match decide ((i : Int) < (T.length : Int)) with | true => _ | false => _) = _
    rw [dge (show T.length ≤ i by omega)]
  | k + 1, n + 1, i, h, hn => by
    have hu := hS.u i (by omega)
    have ht := hS.t
    have ih := L13_all hS N hN sw ins k n (i + 1) (by omega) (by omega)
    have e : L13a250 N (n + 1) T T.length i T C sw ins (seen T i) = match tk T C i && dist T i with | true => L13a250 N n T T.length ((i + 1 : Nat) : Int) T C sw ins (seen T (i + 1)) | false => some (.ret false T C sw ins (seen T i)) := by
      obtain ⟨M, rfl⟩ : ∃ M, N = M + 1 := ⟨N - 1, by omega⟩
      show (match decide ((i : Int) < (T.length : Int)) with | true => _ | false => _) = _
      simp only [dlt (show i < T.length by omega), dz, Bool.and_self, tst, ← cI.eq_1, ← cL.eq_1, J13b_eq]
      rw [J13c_eq (by omega) T C sw ins _ _ _ _ _ _ _ (by omega), wrap_succ (by omega)]
      rw [show tkOk C (cI T i 0) (cI T i 1) (cI T i 2) (cI T i 3) (cI T i 4) (cI T i 5) (cL T i 6) = tk T C i from rfl, show allF (fun k => !(cI T k 0 == cI T i 0)) 0 i = dist T i from rfl]
      cases tk T C i && dist T i <;> rfl
    rw [e]
    unfold allF
    cases tk T C i && dist T i with
    | false => exact ⟨_, rfl⟩
    | true => simp only [Bool.true_and]; exact ih
  | _, 0, _, _, h => by omega
theorem F13_eq {T C : List Row} (hS : Small T C) {N : Nat} (hN : 1300 ≤ N) (sw ins : Int) : F13 N T C sw ins = some (.r (may T C sw ins)) := by
  obtain ⟨M, rfl⟩ : ∃ M, N = M + 2 := ⟨N - 2, by omega⟩
  have h1 := hS.t
  have h2 := hS.c
  show (match J13a6 (M + 1) T C sw ins with | none => (none : Option R13) | some (.nx _ _ _ _) => _ | some (.ret x _ _ _ _) => some (.r x)) = _
  rw [J13_eq]
  unfold may
  cases head T C sw ins with
  | false => rfl
  | true =>
    simp only [Bool.true_and]
    rw [F32_eq (by omega) C (by omega)]
    cases allF (ceilOk C) 0 C.length with
    | false => rfl
    | true =>
      simp only [Bool.not_true, Bool.true_and]
      have ht := L13_all hS (M + 1) (by omega) sw ins T.length (M + 1) 0 (by omega) (by omega)
      rw [show ((0 : Nat) : Int) = (0 : Int) from rfl, show seen T 0 = [] from rfl] at ht
      revert ht
      cases allF (fun i => tk T C i && dist T i) 0 T.length with
      | true => rintro ⟨b, h⟩; rw [h]
      | false => rintro ⟨b, h⟩; rw [h]
end Go.Proofs.Ytbgdiljnmifakaa

namespace Go.Proofs.Ytbgdiljnmifakaa
open Go Go.Eng
structure TaskF (T C : List Row) (i : Nat) : Prop where
  p0 : 0 ≤ cI T i 1
  per0 : 1 ≤ cI T i 2
  per1 : cI T i 2 ≤ 2147483647
  dl0 : 1 ≤ cI T i 3
  dl1 : cI T i 3 ≤ cI T i 2
  cost0 : 1 ≤ cI T i 5
  cost1 : cI T i 5 ≤ 1073741824
  use : ∀ j : Nat, j < (cL T i 6).length → 0 ≤ cI (cL T i 6) j 0 ∧ cI (cL T i 6) j 0 < C.length ∧ 1 ≤ cI (cL T i 6) j 1 ∧ cI (cL T i 6) j 1 ≤ 1073741824
structure MayF (T C : List Row) (sw ins : Int) : Prop where
  t : T.length ≤ 32
  c : C.length ≤ 32
  sw0 : 0 ≤ sw
  sw1 : sw ≤ 268435456
  ins0 : 1 ≤ ins
  ins1 : ins ≤ 1048576
  task : ∀ i, i < T.length → TaskF T C i
theorem may_f {T C : List Row} {sw ins : Int} (h : may T C sw ins = true) : MayF T C sw ins := by
  simp only [may, head, Bool.and_eq_true, Bool.not_eq_true', decide_eq_false_iff_not, inR_iff, allF_iff] at h
  obtain ⟨⟨h1, h2, h3, h4⟩, h5, h6⟩ := h
  refine ⟨by omega, by omega, h3.1, h3.2, h4.1, h4.2, fun i hi => ?_⟩
  have := (h6 i (by omega) (by omega)).1
  simp only [tk, tkOk, numOk, Bool.and_eq_true, Bool.not_eq_true', decide_eq_false_iff_not, inR_iff] at this
  obtain ⟨⟨a1, a2, a3, a4, a5, a6, a7⟩, a8⟩ := this
  refine ⟨by omega, a4.1, a4.2, a5.1, a5.2, a7.1, a7.2, fun j hj => ?_⟩
  have := useF_iff (by omega) a8 j (by omega) (by omega)
  exact ⟨this.1, this.2.1, this.2.2.1, by omega⟩
def ub (C : List Row) (p : Int) (us : List Row) : Nat → Nat → Int → Int
  | _, 0, a => a
  | i, k + 1, a => ub C p us (i + 1) k (match decide (p ≤ cI C (cI us i 0) 0) with | true => Eng.imax a (cI us i 1) | false => a)
def tb (T C : List Row) (p : Int) : Nat → Nat → Int → Int
  | _, 0, a => a
  | i, k + 1, a => tb T C p (i + 1) k (match decide (cI T i 1 < p) with | true => ub C p (cL T i 6) 0 (cL T i 6).length a | false => a)
def blk (T C : List Row) (ins : Int) (t : Nat) : Int := tb T C (cI T t 1) 0 T.length (ins - 1)
theorem L30u_all (N : Nat) {T C : List Row} (t : Nat) (ht : t < T.length) (sw ins b0 b1 b2 b3 b4 b5 : Int) (us : List Row) (hu : us.length ≤ 1000) (hp : ∀ j : Nat, j < us.length → 0 ≤ cI us j 0 ∧ cI us j 0 < C.length) : ∀ (k n i : Nat) (a : Int), i + k = us.length → k < n →
    L30a7462 N n t a i T C sw ins b0 b1 b2 b3 b4 b5 us = some (.x2 (match decide (b1 < cI T t 1) with | true => ub C (cI T t 1) us i k a | false => a) T C sw ins b0 b1 b2 b3 b4 b5 us)
  | 0, n + 1, i, a, h, _ => by
    show (match decide ((i : Int) < (us.length : Int)) with | true => _ | false => _) = _
    rw [dge (show us.length ≤ i by omega)]
    cases decide (b1 < cI T t 1) <;> rfl
  | k + 1, n + 1, i, a, h, hn => by
    obtain ⟨h1, h2⟩ := hp i (by omega)
    have e1 : decide ((0 : Int) ≤ cI us i 0) = true := decide_eq_true h1
    have e2 : decide (cI us i 0 < (C.length : Int)) = true := decide_eq_true h2
    have ih := fun a => L30u_all N t ht sw ins b0 b1 b2 b3 b4 b5 us hu hp k n (i + 1) a (by omega) (by omega)
    show (match decide ((i : Int) < (us.length : Int)) with | true => _ | false => _) = _
    simp only [dlt (show i < us.length by omega), dlt ht, dz, Bool.and_self, tst, ← cI.eq_1, e1, e2]
    rw [wrap_succ (by omega)]
    simp only [ih]
    cases decide (b1 < cI T t 1) with
    | false => rfl
    | true =>
      simp only [ub]
      cases decide (cI T t 1 ≤ cI C (cI us i 0) 0) <;> rfl
  | _, 0, _, _, _, h => by omega
theorem L30_all {T C : List Row} {sw ins : Int} (hS : Small T C) (hM : MayF T C sw ins) (N : Nat) (hN : 100 ≤ N) (t : Nat) (ht : t < T.length) : ∀ (k n i : Nat) (a : Int), i + k = T.length → k < n →
    L30a58 N n t a i T C sw ins = some (.x0 (tb T C (cI T t 1) i k a) T C sw ins)
  | 0, n + 1, i, a, h, _ => by
    show (match decide ((i : Int) < (T.length : Int)) with | true => _ | false => _) = _
    rw [dge (show T.length ≤ i by omega)]; rfl
  | k + 1, n + 1, i, a, h, hn => by
    have hl := hM.t
    have hu := hS.u i (by omega)
    have hf := (hM.task i (by omega)).use
    have hi := L30u_all N t ht sw ins (cI T i 0) (cI T i 1) (cI T i 2) (cI T i 3) (cI T i 4) (cI T i 5) (cL T i 6) (C := C) (by omega) (fun j hj => ⟨(hf j hj).1, (hf j hj).2.1⟩) (cL T i 6).length N 0 a (by omega) (by omega)
    rw [show ((0 : Nat) : Int) = (0 : Int) from rfl] at hi
    show (match decide ((i : Int) < (T.length : Int)) with | true => _ | false => _) = _
    simp only [dlt (show i < T.length by omega), dz, Bool.and_self, tst, ← cI.eq_1, ← cL.eq_1]
    rw [hi, wrap_succ (by omega)]
    exact L30_all hS hM N hN t ht k n (i + 1) _ (by omega) (by omega)
  | _, 0, _, _, _, h => by omega
theorem F30_eq {T C : List Row} {sw ins : Int} (hS : Small T C) (hM : MayF T C sw ins) {N : Nat} (hN : 200 ≤ N) (t : Nat) (ht : t < T.length) : F30 N T C sw ins t = some (.r (blk T C ins t)) := by
  obtain ⟨M, rfl⟩ : ∃ M, N = M + 1 := ⟨N - 1, by omega⟩
  have h0 := hM.ins0
  have h1 := hM.ins1
  have hl := hM.t
  show (match L30a58 M M t (IntKind.wrap .i64 (ins - 1)) 0 T C sw ins with | none => (none : Option R30) | some (.x0 a _ _ _ _) => some (.r a)) = _
  have := L30_all hS hM M (by omega) t ht T.length M 0 (ins - 1) (by omega) (by omega)
  rw [show ((0 : Nat) : Int) = (0 : Int) from rfl] at this
  rw [wrap_id (by omega) (by omega), this]
  rfl
def rowsI (xs : List Int) : List Row := xs.map fun v => [AV.int .i64 v]
theorem rowsI_length (xs : List Int) : (rowsI xs).length = xs.length := by simp [rowsI]
theorem rowsI_append (xs : List Int) (v : Int) : rowsI xs ++ [[AV.int .i64 v]] = rowsI (xs ++ [v]) := by simp [rowsI]
theorem rowsI_get {xs : List Int} {i : Nat} (h : i < xs.length) : cI (rowsI xs) i 0 = xs[i] := by
  unfold cI
  rw [Int.toNat_natCast]
  simp [rowsI, List.getD, List.getElem?_map, List.getElem?_eq_getElem h, AV.toI]
def ul (C : List Row) (p : Int) (us : List Row) : Nat → Nat → List Int
  | _, 0 => []
  | i, k + 1 => match decide (p ≤ cI C (cI us i 0) 0) with | true => cI us i 1 :: ul C p us (i + 1) k | false => ul C p us (i + 1) k
def tl (T C : List Row) (p : Int) : Nat → Nat → List Int
  | _, 0 => []
  | i, k + 1 => match decide (p ≤ cI T i 1) with | true => tl T C p (i + 1) k | false => ul C p (cL T i 6) 0 (cL T i 6).length ++ tl T C p (i + 1) k
theorem ul_len (C : List Row) (p : Int) (us : List Row) : ∀ (k i : Nat), (ul C p us i k).length ≤ k
  | 0, _ => by simp [ul]
  | k + 1, i => by
    have := ul_len C p us k (i + 1)
    simp only [ul]
    cases decide (p ≤ cI C (cI us i 0) 0) <;> simp <;> omega
theorem ul_fold (C : List Row) (p : Int) (us : List Row) : ∀ (k i : Nat) (a : Int), (ul C p us i k).foldl Eng.imax a = ub C p us i k a
  | 0, _, _ => rfl
  | k + 1, i, a => by
    simp only [ul, ub]
    cases decide (p ≤ cI C (cI us i 0) 0) with
    | true => exact ul_fold C p us k (i + 1) _
    | false => exact ul_fold C p us k (i + 1) _
theorem tl_fold (T C : List Row) (p : Int) : ∀ (k i : Nat) (a : Int), (tl T C p i k).foldl Eng.imax a = tb T C p i k a
  | 0, _, _ => rfl
  | k + 1, i, a => by
    simp only [tl, tb]
    by_cases h : p ≤ cI T i 1
    · have e : decide (cI T i 1 < p) = false := decide_eq_false (by omega)
      rw [decide_eq_true h, e]
      exact tl_fold T C p k (i + 1) a
    · have e : decide (cI T i 1 < p) = true := decide_eq_true (by omega)
      rw [decide_eq_false h, e]
      simp only [List.foldl_append, ul_fold]
      exact tl_fold T C p k (i + 1) _
theorem L47u_all (N : Nat) (T C : List Row) (sw ins p : Int) (us : List Row) (hu : us.length ≤ 1000) (hp : ∀ j : Nat, j < us.length → 0 ≤ cI us j 0 ∧ cI us j 0 < C.length) : ∀ (k n i : Nat) (acc : List Int), i + k = us.length → k < n → acc.length ≤ 100000 + i →
    L47i26f48a3278 N n us us.length i T C sw ins p (rowsI acc) = some (.x2 T C sw ins p (rowsI (acc ++ ul C p us i k)))
  | 0, n + 1, i, acc, h, _, _ => by
    show (match decide ((i : Int) < (us.length : Int)) with | true => _ | false => _) = _
    rw [dge (show us.length ≤ i by omega)]; simp [ul]
  | k + 1, n + 1, i, acc, h, hn, ha => by
    obtain ⟨h1, h2⟩ := hp i (by omega)
    have e1 : decide ((0 : Int) ≤ cI us i 0) = true := decide_eq_true h1
    have e2 : decide (cI us i 0 < (C.length : Int)) = true := decide_eq_true h2
    have e4 : decide (((rowsI acc).length + 1) * 8 ≤ 140737488355328) = true := by rw [rowsI_length]; exact decide_eq_true (by omega)
    have ih := L47u_all N T C sw ins p us hu hp k n (i + 1)
    show (match decide ((i : Int) < (us.length : Int)) with | true => _ | false => _) = _
    simp only [dlt (show i < us.length by omega), dz, Bool.and_self, tst, ← cI.eq_1, e1, e2, e4]
    rw [wrap_succ (by omega)]
    unfold ul
    cases decide (p ≤ cI C (cI us i 0) 0) with
    | false => exact ih acc (by omega) (by omega) (by omega)
    | true =>
      simp only
      rw [rowsI_append, ih (acc ++ [cI us i 1]) (by omega) (by omega) (by simp; omega)]
      simp
  | _, 0, _, _, _, h, _ => by omega
theorem L47_all {T C : List Row} {sw ins : Int} (hS : Small T C) (hM : MayF T C sw ins) (N : Nat) (hN : 100 ≤ N) (p : Int) : ∀ (k n i : Nat) (acc : List Int), i + k = T.length → k < n → acc.length ≤ 40 * i →
    L47i26f48a6 N n T T.length i T C sw ins p (rowsI acc) = some (.x0 T C sw ins p (rowsI (acc ++ tl T C p i k)))
  | 0, n + 1, i, acc, h, _, _ => by
    show (match decide ((i : Int) < (T.length : Int)) with | true => _ | false => _) = _
    rw [dge (show T.length ≤ i by omega)]; simp [tl]
  | k + 1, n + 1, i, acc, h, hn, ha => by
    have hl := hM.t
    have hu := hS.u i (by omega)
    have hf := (hM.task i (by omega)).use
    have hul := ul_len C p (cL T i 6) (cL T i 6).length 0
    have ih := L47_all hS hM N hN p k n (i + 1)
    have hi := L47u_all N T C sw ins p (cL T i 6) (by omega) (fun j hj => ⟨(hf j hj).1, (hf j hj).2.1⟩) (cL T i 6).length N 0 acc (by omega) (by omega) (by omega)
    rw [show ((0 : Nat) : Int) = (0 : Int) from rfl] at hi
    show (match decide ((i : Int) < (T.length : Int)) with | true => _ | false => _) = _
    simp only [dlt (show i < T.length by omega), dz, Bool.and_self, tst, ← cI.eq_1, ← cL.eq_1]
    rw [hi, wrap_succ (by omega)]
    unfold tl
    cases decide (p ≤ cI T i 1) with
    | true => exact ih acc (by omega) (by omega) (by omega)
    | false =>
      simp only
      rw [ih (acc ++ ul C p (cL T i 6) 0 (cL T i 6).length) (by omega) (by omega) (by simp; omega)]
      simp
  | _, 0, _, _, _, h, _ => by omega
theorem tl_len {T C : List Row} (hS : Small T C) (p : Int) : ∀ (k i : Nat), i + k ≤ T.length → (tl T C p i k).length ≤ 40 * k
  | 0, _, _ => by simp [tl]
  | k + 1, i, h => by
    have ih := tl_len hS p k (i + 1) (by omega)
    have hu := hS.u i (by omega)
    have hul := ul_len C p (cL T i 6) (cL T i 6).length 0
    simp only [tl]
    cases decide (p ≤ cI T i 1) <;> simp <;> omega
theorem L42_all (N : Nat) (xs : List Int) (hx : xs.length ≤ 100000) : ∀ (k n i : Nat) (a : Int), i + k = xs.length → k < n → L42a26 N n a (rowsI xs) xs.length i = some (.x0 ((xs.drop i).foldl Eng.imax a))
  | 0, n + 1, i, a, h, _ => by
    show (match decide ((i : Int) < (xs.length : Int)) with | true => _ | false => _) = _
    rw [dge (show xs.length ≤ i by omega), List.drop_eq_nil_of_le (by omega)]; rfl
  | k + 1, n + 1, i, a, h, hn => by
    have hi : i < xs.length := by omega
    have e2 : decide ((i : Int) < ((rowsI xs).length : Int)) = true := by rw [rowsI_length]; exact dlt hi
    show (match decide ((i : Int) < (xs.length : Int)) with | true => _ | false => _) = _
    simp only [dlt hi, e2, dz, Bool.and_self, tst, ← cI.eq_1, rowsI_get hi]
    rw [wrap_succ (by omega), List.drop_eq_getElem_cons hi, List.foldl_cons]
    exact L42_all N xs hx k n (i + 1) _ (by omega) (by omega)
  | _, 0, _, _, _, h => by omega
theorem F28_eq {T C : List Row} {sw ins : Int} (hS : Small T C) (hM : MayF T C sw ins) {N : Nat} (hN : 3000 ≤ N) (t : Nat) (ht : t < T.length) : F28 N T C sw ins t = some (.r (blk T C ins t)) := by
  obtain ⟨M, rfl⟩ : ∃ M, N = M + 4 := ⟨N - 4, by omega⟩
  have h0 := hM.ins0
  have h1 := hM.ins1
  have hl := hM.t
  have hlen := tl_len hS (cI T t 1) T.length 0 (by omega)
  have e44 : F44 (M + 3) T C sw ins t = some (.r T C sw ins (cI T t 1)) := by
    show (tst (decide ((0 : Int) ≤ (t : Int)) && decide ((t : Int) < (T.length : Int))) <| _) = _
    simp only [dlt ht, dz, Bool.and_self, tst, ← cI.eq_1]
  have e43 : F43 (M + 3) T C sw ins (cI T t 1) = some (.r T C sw ins (cI T t 1) (rowsI (tl T C (cI T t 1) 0 T.length))) := by
    have := L47_all hS hM (M + 1) (by omega) (cI T t 1) T.length (M + 1) 0 [] (by omega) (by omega) (by simp)
    rw [show ((0 : Nat) : Int) = (0 : Int) from rfl, show rowsI [] = [] from rfl, List.nil_append] at this
    show (match (match L47i26f48a6 (M + 1) (M + 1) T T.length 0 T C sw ins (cI T t 1) [] with | none => (none : Option R47) | some (.x0 a b c d e f) => some (.r a b c d e f)) with | none => (none : Option R43) | some (.r a b c d e f) => some (.r a b c d e f)) = _
    rw [this]
  have e42 : F42 (M + 3) (IntKind.wrap .i64 (ins - 1)) (rowsI (tl T C (cI T t 1) 0 T.length)) = some (.r (blk T C ins t)) := by
    have := L42_all (M + 2) (tl T C (cI T t 1) 0 T.length) (by omega) (tl T C (cI T t 1) 0 T.length).length (M + 2) 0 (ins - 1) (by omega) (by omega)
    rw [show ((0 : Nat) : Int) = (0 : Int) from rfl, List.drop_zero, tl_fold] at this
    show (match L42a26 (M + 2) (M + 2) (IntKind.wrap .i64 (ins - 1)) (rowsI (tl T C (cI T t 1) 0 T.length)) ((rowsI (tl T C (cI T t 1) 0 T.length)).length : Int) 0 with | none => (none : Option R42) | some (.x0 a) => some (.r a)) = _
    rw [wrap_id (by omega) (by omega), rowsI_length, this]
    rfl
  show (match F44 (M + 3) T C sw ins t with | none => none | some (.r _ _ _ _ _) => _) = _
  rw [e44]
  simp only
  rw [e43]
  simp only
  rw [e42]
theorem ub_bounds {C : List Row} {p : Int} {us : List Row} (hp : ∀ j : Nat, j < us.length → 1 ≤ cI us j 1 ∧ cI us j 1 ≤ 1073741824) : ∀ (k i : Nat) (a : Int), i + k ≤ us.length → 0 ≤ a → a ≤ 1073741824 → 0 ≤ ub C p us i k a ∧ ub C p us i k a ≤ 1073741824
  | 0, _, _, _, h0, h1 => ⟨h0, h1⟩
  | k + 1, i, a, h, h0, h1 => by
    have := hp i (by omega)
    simp only [ub]
    refine ub_bounds hp k (i + 1) _ (by omega) ?_ ?_
    · cases decide (p ≤ cI C (cI us i 0) 0) with
      | true => simp only [Eng.imax]; split <;> omega
      | false => exact h0
    · cases decide (p ≤ cI C (cI us i 0) 0) with
      | true => simp only [Eng.imax]; split <;> omega
      | false => exact h1
theorem tb_bounds {T C : List Row} {sw ins : Int} (hM : MayF T C sw ins) (p : Int) : ∀ (k i : Nat) (a : Int), i + k ≤ T.length → 0 ≤ a → a ≤ 1073741824 → 0 ≤ tb T C p i k a ∧ tb T C p i k a ≤ 1073741824
  | 0, _, _, _, h0, h1 => ⟨h0, h1⟩
  | k + 1, i, a, h, h0, h1 => by
    have hf := (hM.task i (by omega)).use
    simp only [tb]
    have := ub_bounds (C := C) (p := p) (fun j hj => ⟨(hf j hj).2.2.1, (hf j hj).2.2.2⟩) (cL T i 6).length 0 a (by omega) h0 h1
    cases decide (cI T i 1 < p) with
    | true => exact tb_bounds hM p k (i + 1) _ (by omega) this.1 this.2
    | false => exact tb_bounds hM p k (i + 1) _ (by omega) h0 h1
theorem blk_bounds {T C : List Row} {sw ins : Int} (hM : MayF T C sw ins) (t : Nat) : 0 ≤ blk T C ins t ∧ blk T C ins t ≤ 1073741824 := by
  have h0 := hM.ins0
  have h1 := hM.ins1
  exact tb_bounds hM _ T.length 0 _ (by omega) (by omega) (by omega)
def dt (T : List Row) (sw r : Int) (i : Nat) : Int := (r + cI T i 2 - 1) / cI T i 2 * (cI T i 5 + 2 * sw)
def hi (T : List Row) (t i : Nat) : Bool := !((i : Int) == (t : Int)) && !decide (cI T i 1 < cI T t 1)
def ds (T : List Row) (sw : Int) (t : Nat) (r : Int) : Nat → Nat → Int → Int
  | _, 0, a => a
  | i, k + 1, a => ds T sw t r (i + 1) k (match hi T t i with | true => a + dt T sw r i | false => a)
def dem (T : List Row) (sw : Int) (t : Nat) (r : Int) : Int := ds T sw t r 0 T.length 0
theorem ceil_eq {r p : Int} (h0 : 0 ≤ r) (hp : 1 ≤ p) : (r + p - 1) / p = if 0 < r % p then r / p + 1 else r / p := by
  have h1 := Int.emod_add_mul_ediv r p
  have h2 := Int.emod_nonneg r (show p ≠ 0 by omega)
  have h3 := Int.emod_lt_of_pos r (show 0 < p by omega)
  split
  · have e : r + p - 1 = (r % p - 1) + p * (r / p + 1) := by rw [Int.mul_add]; omega
    rw [e, Int.add_mul_ediv_left _ _ (show p ≠ 0 by omega), Int.ediv_eq_zero_of_lt (by omega) (by omega)]; omega
  · have e : r + p - 1 = (p - 1) + p * (r / p) := by omega
    rw [e, Int.add_mul_ediv_left _ _ (show p ≠ 0 by omega), Int.ediv_eq_zero_of_lt (by omega) (by omega)]; omega
theorem ceil_bounds {r p : Int} (h0 : 0 ≤ r) (h1 : r ≤ 2147483647) (hp : 1 ≤ p) : 0 ≤ (r + p - 1) / p ∧ (r + p - 1) / p ≤ 2147483647 := by
  refine ⟨Int.ediv_nonneg (by omega) (by omega), ?_⟩
  apply Int.ediv_le_of_le_mul (by omega)
  have : 2147483647 * p ≥ 2147483647 + (p - 1) := by omega
  omega
theorem dt_bounds {T C : List Row} {sw ins : Int} (hM : MayF T C sw ins) {r : Int} (h0 : 0 ≤ r) (h1 : r ≤ 2147483647) {i : Nat} (hi : i < T.length) : 0 ≤ dt T sw r i ∧ dt T sw r i ≤ 3458764513000000000 := by
  have hf := hM.task i hi
  have hs0 := hM.sw0
  have hs1 := hM.sw1
  have c0 := hf.cost0
  have c1 := hf.cost1
  obtain ⟨a0, a1⟩ := ceil_bounds h0 h1 hf.per0
  unfold dt
  refine ⟨Int.mul_nonneg a0 (by omega), ?_⟩
  have : (r + cI T i 2 - 1) / cI T i 2 * (cI T i 5 + 2 * sw) ≤ 2147483647 * 1610612736 := Int.mul_le_mul a1 (by omega) (by omega) (by omega)
  omega
theorem dt_mono {T C : List Row} {sw ins : Int} (hM : MayF T C sw ins) {r r' : Int} (h : r ≤ r') {i : Nat} (hi : i < T.length) : dt T sw r i ≤ dt T sw r' i := by
  have hf := hM.task i hi
  have hs0 := hM.sw0
  have c0 := hf.cost0
  have p0 := hf.per0
  unfold dt
  exact Int.mul_le_mul_of_nonneg_right (Int.ediv_le_ediv (by omega) (by omega)) (by omega)
theorem ds_ge {T C : List Row} {sw ins : Int} (hM : MayF T C sw ins) (t : Nat) {r : Int} (h0 : 0 ≤ r) (h1 : r ≤ 2147483647) : ∀ (k i : Nat) (a : Int), i + k ≤ T.length → a ≤ ds T sw t r i k a
  | 0, _, _, _ => Int.le_refl _
  | k + 1, i, a, h => by
    have hd := dt_bounds hM h0 h1 (show i < T.length by omega)
    simp only [ds]
    refine Int.le_trans ?_ (ds_ge hM t h0 h1 k (i + 1) _ (by omega))
    cases hi T t i with
    | true => simp only; omega
    | false => exact Int.le_refl _
theorem ds_mono {T C : List Row} {sw ins : Int} (hM : MayF T C sw ins) (t : Nat) {r r' : Int} (h : r ≤ r') : ∀ (k i : Nat) (a a' : Int), i + k ≤ T.length → a ≤ a' → ds T sw t r i k a ≤ ds T sw t r' i k a'
  | 0, _, _, _, _, ha => ha
  | k + 1, i, a, a', hk, ha => by
    have hd := dt_mono hM h (show i < T.length by omega)
    simp only [ds]
    refine ds_mono hM t h k (i + 1) _ _ (by omega) ?_
    cases hi T t i with
    | true => simp only; omega
    | false => exact ha
theorem dem_mono {T C : List Row} {sw ins : Int} (hM : MayF T C sw ins) (t : Nat) {r r' : Int} (h : r ≤ r') : dem T sw t r ≤ dem T sw t r' := ds_mono hM t h _ _ _ _ (by omega) (Int.le_refl _)
theorem dem_nonneg {T C : List Row} {sw ins : Int} (hM : MayF T C sw ins) (t : Nat) {r : Int} (h0 : 0 ≤ r) (h1 : r ≤ 2147483647) : 0 ≤ dem T sw t r := ds_ge hM t h0 h1 _ _ _ (by omega)
theorem ref_term {T C : List Row} {sw ins : Int} (hM : MayF T C sw ins) {r : Int} (h0 : 0 ≤ r) (h1 : r ≤ 2147483647) {i : Nat} (hi : i < T.length) {a : Int} (ha0 : 0 ≤ a) (ha1 : a ≤ 1152921504606846976) :
    (0 < Int.tmod r (cI T i 2) → IntKind.wrap .i64 (a + IntKind.wrap .i64 (IntKind.wrap .i64 (IntKind.wrap .i64 (Int.tdiv r (cI T i 2)) + 1) * IntKind.wrap .i64 (cI T i 5 + IntKind.wrap .i64 (2 * sw)))) = a + dt T sw r i) ∧
    (¬ 0 < Int.tmod r (cI T i 2) → IntKind.wrap .i64 (a + IntKind.wrap .i64 (IntKind.wrap .i64 (Int.tdiv r (cI T i 2)) * IntKind.wrap .i64 (cI T i 5 + IntKind.wrap .i64 (2 * sw)))) = a + dt T sw r i) := by
  have hf := hM.task i hi
  have hs0 := hM.sw0
  have hs1 := hM.sw1
  have c0 := hf.cost0
  have c1 := hf.cost1
  have p0 := hf.per0
  have hd := dt_bounds hM h0 h1 hi
  obtain ⟨a0, a1⟩ := ceil_bounds h0 h1 p0
  have hc := ceil_eq h0 p0
  have hq0 : 0 ≤ r / cI T i 2 := Int.ediv_nonneg h0 (by omega)
  have hq1 : r / cI T i 2 ≤ 2147483647 := Int.le_trans (Int.ediv_le_self _ h0) h1
  rw [Int.tdiv_eq_ediv_of_nonneg h0, Int.tmod_eq_emod_of_nonneg h0]
  have w2 : IntKind.wrap .i64 (2 * sw) = 2 * sw := wrap_id (by omega) (by omega)
  have w3 : IntKind.wrap .i64 (cI T i 5 + 2 * sw) = cI T i 5 + 2 * sw := wrap_id (by omega) (by omega)
  have w1 : IntKind.wrap .i64 (r / cI T i 2) = r / cI T i 2 := wrap_id (by omega) (by omega)
  rw [w2, w3, w1]
  constructor
  · intro hm
    rw [if_pos hm] at hc
    have w4 : IntKind.wrap .i64 (r / cI T i 2 + 1) = r / cI T i 2 + 1 := wrap_id (by omega) (by omega)
    have e : (r / cI T i 2 + 1) * (cI T i 5 + 2 * sw) = dt T sw r i := by unfold dt; rw [hc]
    rw [w4, e, wrap_id (n := dt T sw r i) (by omega) (by omega), wrap_id (by omega) (by omega)]
  · intro hm
    rw [if_neg hm] at hc
    have e : (r / cI T i 2) * (cI T i 5 + 2 * sw) = dt T sw r i := by unfold dt; rw [hc]
    rw [e, wrap_id (n := dt T sw r i) (by omega) (by omega), wrap_id (by omega) (by omega)]
theorem prog_term {T C : List Row} {sw ins : Int} (hM : MayF T C sw ins) {r : Int} (h0 : 0 ≤ r) (h1 : r ≤ 2147483647) {i : Nat} (hi : i < T.length) {a : Int} (ha0 : 0 ≤ a) (ha1 : a ≤ 1152921504606846976) :
    IntKind.wrap .i64 (a + IntKind.wrap .i64 (IntKind.wrap .i64 (Int.tdiv (IntKind.wrap .i64 (IntKind.wrap .i64 (r + cI T i 2) - 1)) (cI T i 2)) * IntKind.wrap .i64 (cI T i 5 + IntKind.wrap .i64 (2 * sw)))) = a + dt T sw r i := by
  have hf := hM.task i hi
  have hs0 := hM.sw0
  have hs1 := hM.sw1
  have c0 := hf.cost0
  have c1 := hf.cost1
  have p0 := hf.per0
  have p1 := hf.per1
  have hd := dt_bounds hM h0 h1 hi
  obtain ⟨a0, a1⟩ := ceil_bounds h0 h1 p0
  have w2 : IntKind.wrap .i64 (2 * sw) = 2 * sw := wrap_id (by omega) (by omega)
  have w3 : IntKind.wrap .i64 (cI T i 5 + 2 * sw) = cI T i 5 + 2 * sw := wrap_id (by omega) (by omega)
  have w1 : IntKind.wrap .i64 (r + cI T i 2) = r + cI T i 2 := wrap_id (by omega) (by omega)
  have w0 : IntKind.wrap .i64 (r + cI T i 2 - 1) = r + cI T i 2 - 1 := wrap_id (by omega) (by omega)
  rw [w2, w3, w1, w0, Int.tdiv_eq_ediv_of_nonneg (by omega), wrap_id (n := (r + cI T i 2 - 1) / cI T i 2) (by omega) (by omega)]
  rw [show (r + cI T i 2 - 1) / cI T i 2 * (cI T i 5 + 2 * sw) = dt T sw r i from rfl, wrap_id (n := dt T sw r i) (by omega) (by omega), wrap_id (by omega) (by omega)]
theorem L41_all {T C : List Row} {sw ins : Int} (hM : MayF T C sw ins) (N : Nat) (t : Nat) (ht : t < T.length) {r : Int} (h0 : 0 ≤ r) (h1 : r ≤ 2147483647) : ∀ (k n i : Nat) (a : Int), i + k = T.length → k < n → 0 ≤ a → a ≤ 1152921504606846976 →
    L41a58 N n t r a i T C sw ins = match decide (1152921504606846976 < ds T sw t r i k a) with | true => some (.ret 0 false T C sw ins) | false => some (.x0 (ds T sw t r i k a) T C sw ins)
  | 0, n + 1, i, a, h, _, _, ha => by
    have e : decide (1152921504606846976 < ds T sw t r i 0 a) = false := decide_eq_false (by simp only [ds]; omega)
    show (match decide ((i : Int) < (T.length : Int)) with | true => _ | false => _) = _
    rw [dge (show T.length ≤ i by omega), e]; rfl
  | k + 1, n + 1, i, a, h, hn, ha0, ha1 => by
    have hl := hM.t
    have hd := dt_bounds hM h0 h1 (show i < T.length by omega)
    have ih := fun a h h' => L41_all hM N t ht h0 h1 k n (i + 1) a (by omega) (by omega) h h'
    have hp : (cI T i 2 == 0) = false := by have := (hM.task i (by omega)).per0; simp; omega
    obtain ⟨hr1, hr2⟩ := ref_term hM h0 h1 (show i < T.length by omega) ha0 ha1
    show (match decide ((i : Int) < (T.length : Int)) with | true => _ | false => _) = _
    simp only [dlt (show i < T.length by omega), dz, Bool.and_self, tst, ← cI.eq_1, ← cL.eq_1]
    rw [wrap_succ (by omega)]
    have hJ : J41a3730 N t i T C sw ins (cI T i 0) (cI T i 1) (cI T i 2) (cI T i 3) (cI T i 4) (cI T i 5) (cL T i 6) = match hi T t i with | true => some (.nx T C sw ins (cI T i 0) (cI T i 1) (cI T i 2) (cI T i 3) (cI T i 4) (cI T i 5) (cL T i 6)) | false => some (.x1 T C sw ins (cI T i 0) (cI T i 1) (cI T i 2) (cI T i 3) (cI T i 4) (cI T i 5) (cL T i 6)) := by
      unfold J41a3730 hi
      simp only [dlt ht, dz, Bool.and_self, tst, ← cI.eq_1]
      cases ((i : Int) == (t : Int)) <;> cases decide (cI T i 1 < cI T t 1) <;> rfl
    rw [hJ]
    unfold ds
    cases hi T t i with
    | false => exact ih a ha0 ha1
    | true =>
      simp only [hp, Bool.not_false]
      have step : (match decide (1152921504606846976 < a + dt T sw r i) with | true => (some (OL41a58.ret 0 false T C sw ins) : Option OL41a58) | false => L41a58 N n t r (a + dt T sw r i) ((i + 1 : Nat) : Int) T C sw ins) = match decide (1152921504606846976 < ds T sw t r (i + 1) k (a + dt T sw r i)) with | true => some (.ret 0 false T C sw ins) | false => some (.x0 (ds T sw t r (i + 1) k (a + dt T sw r i)) T C sw ins) := by
        by_cases hb : 1152921504606846976 < a + dt T sw r i
        · have := ds_ge hM t h0 h1 k (i + 1) (a + dt T sw r i) (by omega)
          rw [decide_eq_true hb, decide_eq_true (show 1152921504606846976 < ds T sw t r (i + 1) k (a + dt T sw r i) by omega)]
        · rw [decide_eq_false hb]
          exact ih _ (by omega) (by omega)
      by_cases hm : 0 < Int.tmod r (cI T i 2)
      · simp only [decide_eq_true hm, hr1 hm]; exact step
      · simp only [decide_eq_false hm, hr2 hm]; exact step
  | _, 0, _, _, _, h, _, _ => by omega
theorem F41_eq {T C : List Row} {sw ins : Int} (hM : MayF T C sw ins) {N : Nat} (hN : 100 ≤ N) (t : Nat) (ht : t < T.length) {r : Int} (h0 : 0 ≤ r) (h1 : r ≤ 2147483647) :
    F41 N T C sw ins t r = match decide (1152921504606846976 < dem T sw t r) with | true => some (.r 0 false) | false => some (.r (dem T sw t r) true) := by
  obtain ⟨M, rfl⟩ : ∃ M, N = M + 1 := ⟨N - 1, by omega⟩
  have hl := hM.t
  have := L41_all hM M t ht h0 h1 T.length M 0 0 (by omega) (by omega) (by omega) (by omega)
  rw [show ((0 : Nat) : Int) = (0 : Int) from rfl] at this
  show (match L41a58 M M t r 0 0 T C sw ins with | none => (none : Option R41) | some (.ret a b _ _ _ _) => some (.r a b) | some (.x0 a _ _ _ _) => some (.r a true)) = _
  rw [this]
  unfold dem
  cases decide (1152921504606846976 < ds T sw t r 0 T.length 0) <;> rfl
theorem L40_all {T C : List Row} {sw ins : Int} (hM : MayF T C sw ins) (N : Nat) (t : Nat) (ht : t < T.length) {r : Int} (h0 : 0 ≤ r) (h1 : r ≤ 2147483647) {lim : Int} (hlim : lim ≤ 1152921504606846976) : ∀ (k n i : Nat) (a : Int), i + k = T.length → k < n → 0 ≤ a → a ≤ lim →
    ∃ v : Int, L40i58f49a6 N n T T.length i T C sw ins t T C sw ins r lim 0 false a = match decide (lim < ds T sw t r i k a) with | true => some (.ret T C sw ins t T C sw ins r lim 0 false v) | false => some (.x0 T C sw ins t T C sw ins r lim 0 false (ds T sw t r i k a))
  | 0, n + 1, i, a, h, _, _, ha => by
    have e : decide (lim < ds T sw t r i 0 a) = false := decide_eq_false (by simp only [ds]; omega)
    refine ⟨0, ?_⟩
    show (match decide ((i : Int) < (T.length : Int)) with | true => _ | false => _) = _
    rw [dge (show T.length ≤ i by omega), e]; rfl
  | k + 1, n + 1, i, a, h, hn, ha0, ha1 => by
    have hl := hM.t
    have hd := dt_bounds hM h0 h1 (show i < T.length by omega)
    have ih := fun a h h' => L40_all hM N t ht h0 h1 hlim k n (i + 1) a (by omega) (by omega) h h'
    have hp : (cI T i 2 == 0) = false := by have := (hM.task i (by omega)).per0; simp; omega
    have hr := prog_term hM h0 h1 (show i < T.length by omega) ha0 (show a ≤ 1152921504606846976 by omega)
    have e : L40i58f49a6 N (n + 1) T T.length i T C sw ins t T C sw ins r lim 0 false a = match hi T t i with
        | true => (match decide (lim < a + dt T sw r i) with | true => some (.ret T C sw ins t T C sw ins r lim 0 false (a + dt T sw r i)) | false => L40i58f49a6 N n T T.length ((i + 1 : Nat) : Int) T C sw ins t T C sw ins r lim 0 false (a + dt T sw r i))
        | false => L40i58f49a6 N n T T.length ((i + 1 : Nat) : Int) T C sw ins t T C sw ins r lim 0 false a := by
      show (match decide ((i : Int) < (T.length : Int)) with | true => _ | false => _) = _
      simp only [dlt (show i < T.length by omega), dlt ht, dz, Bool.and_self, tst, ← cI.eq_1, ← cL.eq_1, hp, Bool.not_false, hr]
      rw [wrap_succ (by omega)]
      have e1 : ((i : Int) != (t : Int)) = !((i : Int) == (t : Int)) := rfl
      have e2 : decide (cI T t 1 ≤ cI T i 1) = !decide (cI T i 1 < cI T t 1) := by
        by_cases hc : cI T i 1 < cI T t 1
        · rw [decide_eq_true hc, decide_eq_false (by omega)]; rfl
        · rw [decide_eq_false hc, decide_eq_true (by omega)]; rfl
      rw [e1, e2]
      unfold hi
      cases ((i : Int) == (t : Int)) <;> cases decide (cI T i 1 < cI T t 1) <;> rfl
    rw [e]
    unfold ds
    cases hi T t i with
    | false => exact ih a ha0 ha1
    | true =>
      simp only
      by_cases hb : lim < a + dt T sw r i
      · have := ds_ge hM t h0 h1 k (i + 1) (a + dt T sw r i) (by omega)
        rw [decide_eq_true hb, decide_eq_true (show lim < ds T sw t r (i + 1) k (a + dt T sw r i) by omega)]
        exact ⟨_, rfl⟩
      · rw [decide_eq_false hb]
        exact ih _ (by omega) (by omega)
  | _, 0, _, _, _, h, _, _ => by omega
theorem F40_eq {T C : List Row} {sw ins : Int} (hM : MayF T C sw ins) {N : Nat} (hN : 100 ≤ N) (t : Nat) (ht : t < T.length) {r : Int} (h0 : 0 ≤ r) (h1 : r ≤ 2147483647) {lim : Int} (hl0 : 0 ≤ lim) (hlim : lim ≤ 1152921504606846976) :
    F40 N T C sw ins t r lim = match decide (lim < dem T sw t r) with | true => some (.r 0 false) | false => some (.r (dem T sw t r) true) := by
  obtain ⟨M, rfl⟩ : ∃ M, N = M + 2 := ⟨N - 2, by omega⟩
  have hl := hM.t
  obtain ⟨v, this⟩ := L40_all hM (M + 1) t ht h0 h1 hlim T.length (M + 1) 0 0 (by omega) (by omega) (by omega) (by omega)
  rw [show ((0 : Nat) : Int) = (0 : Int) from rfl] at this
  show (match L40i58f49a6 (M + 1) (M + 1) T T.length 0 T C sw ins t T C sw ins r lim 0 false 0 with | none => (none : Option R40) | some (.ret _ _ _ _ _ _ _ _ _ _ _ a b _) => some (.r a b) | some (.x0 _ _ _ _ _ _ _ _ _ _ _ _ _ a) => some (.r a true)) = _
  rw [this]
  unfold dem
  cases decide (lim < ds T sw t r 0 T.length 0) <;> rfl
end Go.Proofs.Ytbgdiljnmifakaa

namespace Go.Proofs.Ytbgdiljnmifakaa
open Go Go.Eng
structure Res (T : List Row) (sw : Int) (t : Nat) (least dl v : Int) (b : Bool) : Prop where
  met : b = true → least ≤ v ∧ v ≤ dl ∧ least + dem T sw t v = v ∧ ∀ x, least ≤ x → x < v → least + dem T sw t x ≠ x
  not : b = false → v = 0 ∧ ∀ x, least ≤ x → x ≤ dl → least + dem T sw t x ≠ x
theorem L2_all {T C : List Row} {sw ins : Int} (hM : MayF T C sw ins) (N : Nat) (hN : 100 ≤ N) (t : Nat) (ht : t < T.length) {least dl : Int} (hl0 : 1 ≤ least) (hl1 : least ≤ 2147483648) (hd0 : 1 ≤ dl) (hd1 : dl ≤ 2147483647) (a0 a1 a2 a4 a5 : Int) (us : List Row) :
    ∀ (n : Nat) (r : Int), 1 ≤ n → dl + 2 - r ≤ n → least ≤ r → (r ≤ dl → r ≤ least + dem T sw t r) → (∀ x, least ≤ x → x < r → x ≤ dl → least + dem T sw t x ≠ x) →
    ∃ v b, Res T sw t least dl v b ∧ (L29a124 N n t least r T C sw ins a0 a1 a2 dl a4 a5 us = some (.ret v b T C sw ins a0 a1 a2 dl a4 a5 us) ∨ (v = 0 ∧ b = false ∧ L29a124 N n t least r T C sw ins a0 a1 a2 dl a4 a5 us = some (.x0 T C sw ins a0 a1 a2 dl a4 a5 us))) ∧
      (L27a444 N n t least r T C sw ins a0 a1 a2 dl a4 a5 us = some (.ret v b T C sw ins a0 a1 a2 dl a4 a5 us) ∨ (v = 0 ∧ b = false ∧ L27a444 N n t least r T C sw ins a0 a1 a2 dl a4 a5 us = some (.x0 T C sw ins a0 a1 a2 dl a4 a5 us))) := by
  intro n
  induction n with
  | zero => intro r h; omega
  | succ n ih =>
    intro r _ hn hr hup hno
    have e29 : L29a124 N (n + 1) t least r T C sw ins a0 a1 a2 dl a4 a5 us = match decide (r ≤ dl) with
        | true => (match F41 N T C sw ins t r with
          | none => none
          | some (.r s ok) => match !ok with
            | true => some (.ret 0 false T C sw ins a0 a1 a2 dl a4 a5 us)
            | false => match decide (dl < IntKind.wrap .i64 (least + s)) with
              | true => some (.ret 0 false T C sw ins a0 a1 a2 dl a4 a5 us)
              | false => match IntKind.wrap .i64 (least + s) == r with
                | true => some (.ret r true T C sw ins a0 a1 a2 dl a4 a5 us)
                | false => L29a124 N n t least (IntKind.wrap .i64 (least + s)) T C sw ins a0 a1 a2 dl a4 a5 us)
        | false => some (.x0 T C sw ins a0 a1 a2 dl a4 a5 us) := rfl
    have e27 : ∀ n r, L27a444 N (n + 1) t least r T C sw ins a0 a1 a2 dl a4 a5 us = match decide (dl < r) with
        | true => some (.x0 T C sw ins a0 a1 a2 dl a4 a5 us)
        | false => (match F40 N T C sw ins t r dl with
          | none => none
          | some (.r s ok) => match !ok with
            | true => some (.x0 T C sw ins a0 a1 a2 dl a4 a5 us)
            | false => match IntKind.wrap .i64 (least + s) == r with
              | true => some (.ret r true T C sw ins a0 a1 a2 dl a4 a5 us)
              | false => L27a444 N n t least (IntKind.wrap .i64 (least + s)) T C sw ins a0 a1 a2 dl a4 a5 us) := fun n r => rfl
    by_cases hrd : dl < r
    · refine ⟨0, false, ⟨fun h => (by cases h), fun _ => ⟨rfl, fun x h1 h2 => hno x h1 (by omega) h2⟩⟩, .inr ⟨rfl, rfl, ?_⟩, .inr ⟨rfl, rfl, ?_⟩⟩
      · rw [e29, decide_eq_false (show ¬ r ≤ dl by omega)]
      · rw [e27, decide_eq_true hrd]
    · have hdn := dem_nonneg hM t (show 0 ≤ r by omega) (show r ≤ 2147483647 by omega)
      have h41 := F41_eq hM hN t ht (show 0 ≤ r by omega) (show r ≤ 2147483647 by omega)
      have h40 := F40_eq hM hN t ht (show 0 ≤ r by omega) (show r ≤ 2147483647 by omega) (show 0 ≤ dl by omega) (show dl ≤ 1152921504606846976 by omega)
      rw [decide_eq_true (show r ≤ dl by omega), h41] at e29
      have e27' := e27 n r
      rw [decide_eq_false hrd, h40] at e27'
      have hmono : ∀ x, r ≤ x → dem T sw t r ≤ dem T sw t x := fun x hx => dem_mono hM t hx
      obtain ⟨d, hd⟩ : ∃ d, d = dem T sw t r := ⟨_, rfl⟩
      rw [← hd] at e29 e27' hdn hmono hup
      have hw : d ≤ 1152921504606846976 → IntKind.wrap .i64 (least + d) = least + d := fun h => wrap_id (by omega) (by omega)
      by_cases hA : dl < least + d
      · refine ⟨0, false, ⟨fun h => (by cases h), fun _ => ⟨rfl, fun x h1 h2 => ?_⟩⟩, .inl ?_, .inr ⟨rfl, rfl, ?_⟩⟩
        · by_cases hx : x < r
          · exact hno x h1 hx h2
          · have := hmono x (by omega)
            omega
        · rw [e29]
          by_cases hb : 1152921504606846976 < d
          · rw [decide_eq_true hb]
            rfl
          · rw [decide_eq_false hb]
            simp only [Bool.not_true, hw (by omega), decide_eq_true hA]
        · rw [e27']
          by_cases hb : dl < d
          · rw [decide_eq_true hb]
            rfl
          · have e1 : (least + d == r) = false := by simp; omega
            rw [decide_eq_false hb]
            simp only [Bool.not_true, hw (by omega), e1]
            obtain ⟨m, rfl⟩ : ∃ m, n = m + 1 := ⟨n - 1, by omega⟩
            rw [e27, decide_eq_true hA]
      · have hb1 : decide (1152921504606846976 < d) = false := decide_eq_false (by omega)
        have hb2 : decide (dl < d) = false := decide_eq_false (by omega)
        have hb3 : decide (dl < least + d) = false := decide_eq_false (by omega)
        rw [hb1] at e29
        rw [hb2] at e27'
        simp only [Bool.not_true, hw (show d ≤ 1152921504606846976 by omega), hb3] at e29 e27'
        by_cases heq : least + d = r
        · have e1 : (least + d == r) = true := by simpa using heq
          simp only [e1] at e29 e27'
          exact ⟨r, true, ⟨fun _ => ⟨hr, by omega, by rw [← hd]; omega, fun x h1 h2 => hno x h1 h2 (by omega)⟩, fun h => (by cases h)⟩, .inl e29, .inl e27'⟩
        · have e1 : (least + d == r) = false := by simpa using heq
          simp only [e1] at e29 e27'
          have hgt : r < least + d := by have := hup (by omega); omega
          rw [e29, e27']
          refine ih (least + d) (by omega) (by omega) (by omega) (fun h => ?_) (fun x h1 h2 h3 => ?_)
          · have := hmono (least + d) (by omega); omega
          · by_cases hx : x < r
            · exact hno x h1 hx h3
            · have := hmono x (by omega)
              omega
end Go.Proofs.Ytbgdiljnmifakaa

namespace Go.Proofs.Ytbgdiljnmifakaa
open Go Go.Eng
theorem least_fix {f : Int → Int} {l v : Int} (hf : ∀ x, l ≤ x → l ≤ f x) (hm : ∀ x y, l ≤ x → x ≤ y → f x ≤ f y) (hl : l ≤ v) (hv : f v ≤ v) : ∃ x, l ≤ x ∧ x ≤ v ∧ f x = x := by
  have key : ∀ n : Nat, ∀ v, v - l ≤ n → l ≤ v → f v ≤ v → ∃ x, l ≤ x ∧ x ≤ v ∧ f x = x := by
    intro n
    induction n with
    | zero => intro v h1 h2 h3; exact ⟨v, h2, Int.le_refl _, by have := hf v h2; omega⟩
    | succ n ih =>
      intro v h1 h2 h3
      by_cases e : f v = v
      · exact ⟨v, h2, Int.le_refl _, e⟩
      · obtain ⟨x, a, b, c⟩ := ih (f v) (by omega) (hf v h2) (hm _ _ (hf v h2) h3)
        exact ⟨x, a, by omega, c⟩
  exact key (v - l).toNat v (by omega) hl hv
theorem more {T C T' C' : List Row} {sw ins sw' ins' : Int} (hM : MayF T C sw ins) (hM' : MayF T' C' sw' ins') {t t' : Nat} {l l' dl v v' : Int} {b' : Bool} (hl0 : 1 ≤ l') (hll : l' ≤ l) (hdl : dl ≤ 2147483647)
    (h : Res T sw t l dl v true) (h' : Res T' sw' t' l' dl v' b') (hd : ∀ r, 0 ≤ r → r ≤ 2147483647 → dem T' sw' t' r ≤ dem T sw t r) : b' = true ∧ v' ≤ v := by
  obtain ⟨m1, m2, m3, _⟩ := h.met rfl
  have hdv := hd v (by omega) (by omega)
  have : ∃ x, l' ≤ x ∧ x ≤ v ∧ l' + dem T' sw' t' (min x v) = x := by
    refine least_fix (f := fun x => l' + dem T' sw' t' (min x v)) (fun x hx => ?_) (fun x y hx hxy => ?_) (by omega) ?_
    · have := dem_nonneg hM' t' (show 0 ≤ min x v by omega) (show min x v ≤ 2147483647 by omega)
      omega
    · have := dem_mono hM' t' (show min x v ≤ min y v by omega)
      omega
    · rw [show min v v = v by omega]; omega
  obtain ⟨x, x1, x2, x3⟩ := this
  rw [show min x v = x by omega] at x3
  cases b' with
  | false => exact absurd x3 ((h'.not rfl).2 x x1 (by omega))
  | true =>
    obtain ⟨n1, n2, n3, n4⟩ := h'.met rfl
    refine ⟨rfl, ?_⟩
    by_cases hx : x < v'
    · exact absurd x3 (n4 x x1 hx)
    · omega
theorem ds_le {T T' : List Row} {sw sw' : Int} {t t' : Nat} {r : Int} : ∀ (k i i' : Nat) (a a' : Int), a' ≤ a → (∀ j, j < k → hi T' t' (i' + j) = hi T t (i + j) ∧ dt T' sw' r (i' + j) ≤ dt T sw r (i + j)) → ds T' sw' t' r i' k a' ≤ ds T sw t r i k a
  | 0, _, _, _, _, ha, _ => ha
  | k + 1, i, i', a, a', ha, h => by
    obtain ⟨h1, h2⟩ := h 0 (by omega)
    simp only [Nat.add_zero] at h1 h2
    simp only [ds, h1]
    refine ds_le k (i + 1) (i' + 1) _ _ ?_ fun j hj => by
      have := h (j + 1) (by omega)
      rw [show i' + 1 + j = i' + (j + 1) by omega, show i + 1 + j = i + (j + 1) by omega]; exact this
    cases hi T t i with
    | true => simp only; omega
    | false => exact ha
theorem ds_app {T : List Row} {sw : Int} {t : Nat} {r : Int} : ∀ (k1 k2 i : Nat) (a : Int), ds T sw t r i (k1 + k2) a = ds T sw t r (i + k1) k2 (ds T sw t r i k1 a)
  | 0, k2, i, a => by simp [ds]
  | k1 + 1, k2, i, a => by
    rw [show k1 + 1 + k2 = (k1 + k2) + 1 by omega]
    simp only [ds]
    rw [ds_app k1 k2 (i + 1), show i + 1 + k1 = i + (k1 + 1) by omega]
theorem ub_le {C C' : List Row} {p : Int} {us us' : List Row} : ∀ (k i : Nat) (a a' : Int), a' ≤ a → (∀ j, i ≤ j → j < i + k → (p ≤ cI C' (cI us' j 0) 0 ↔ p ≤ cI C (cI us j 0) 0) ∧ cI us' j 1 ≤ cI us j 1) → ub C' p us' i k a' ≤ ub C p us i k a
  | 0, _, _, _, ha, _ => ha
  | k + 1, i, a, a', ha, h => by
    obtain ⟨h1, h2⟩ := h i (by omega) (by omega)
    simp only [ub]
    refine ub_le k (i + 1) _ _ ?_ fun j hj1 hj2 => h j (by omega) (by omega)
    by_cases hc : p ≤ cI C (cI us i 0) 0
    · rw [decide_eq_true hc, decide_eq_true (h1.2 hc)]
      simp only [Eng.imax]
      split <;> split <;> omega
    · rw [decide_eq_false hc, decide_eq_false (fun h => hc (h1.1 h))]
      exact ha
theorem ub_ge {C : List Row} {p : Int} {us : List Row} : ∀ (k i : Nat) (a : Int), a ≤ ub C p us i k a
  | 0, _, _ => Int.le_refl _
  | k + 1, i, a => by
    simp only [ub]
    refine Int.le_trans ?_ (ub_ge k (i + 1) _)
    cases decide (p ≤ cI C (cI us i 0) 0) with
    | true => simp only [Eng.imax]; split <;> omega
    | false => exact Int.le_refl _
theorem tb_ge {T C : List Row} {p : Int} : ∀ (k i : Nat) (a : Int), a ≤ tb T C p i k a
  | 0, _, _ => Int.le_refl _
  | k + 1, i, a => by
    simp only [tb]
    refine Int.le_trans ?_ (tb_ge k (i + 1) _)
    cases decide (cI T i 1 < p) with
    | true => exact ub_ge _ _ _
    | false => exact Int.le_refl _
theorem tb_app {T C : List Row} {p : Int} : ∀ (k1 k2 i : Nat) (a : Int), tb T C p i (k1 + k2) a = tb T C p (i + k1) k2 (tb T C p i k1 a)
  | 0, k2, i, a => by simp [tb]
  | k1 + 1, k2, i, a => by
    rw [show k1 + 1 + k2 = (k1 + k2) + 1 by omega]
    simp only [tb]
    rw [tb_app k1 k2 (i + 1), show i + 1 + k1 = i + (k1 + 1) by omega]
theorem tb_le {T T' C : List Row} {p : Int} : ∀ (k i i' : Nat) (a a' : Int), a' ≤ a → (∀ j, j < k → cI T' (i' + j : Nat) 1 = cI T (i + j : Nat) 1 ∧ (cL T' (i' + j : Nat) 6).length = (cL T (i + j : Nat) 6).length ∧
      ∀ q : Nat, q < (cL T (i + j : Nat) 6).length → cI (cL T' (i' + j : Nat) 6) q 0 = cI (cL T (i + j : Nat) 6) q 0 ∧ cI (cL T' (i' + j : Nat) 6) q 1 ≤ cI (cL T (i + j : Nat) 6) q 1) → tb T' C p i' k a' ≤ tb T C p i k a
  | 0, _, _, _, _, ha, _ => ha
  | k + 1, i, i', a, a', ha, h => by
    obtain ⟨h1, h2, h3⟩ := h 0 (by omega)
    simp only [Nat.add_zero] at h1 h2 h3
    simp only [tb, h1]
    refine tb_le k (i + 1) (i' + 1) _ _ ?_ fun j hj => by
      have := h (j + 1) (by omega)
      rw [show i' + 1 + j = i' + (j + 1) by omega, show i + 1 + j = i + (j + 1) by omega]; exact this
    cases decide (cI T i 1 < p) with
    | true =>
      simp only [h2]
      refine ub_le _ _ _ _ ha fun q _ hq => ?_
      obtain ⟨e1, e2⟩ := h3 q (by omega)
      exact ⟨by rw [e1], e2⟩
    | false => exact ha
theorem may_iff {T C : List Row} {sw ins : Int} : may T C sw ins = true ↔ head T C sw ins = true ∧ (∀ i, i < C.length → ceilOk C i = true) ∧ ∀ i, i < T.length → tk T C i = true ∧ ∀ k, k < i → cI T k 0 ≠ cI T i 0 := by
  unfold may dist
  simp only [Bool.and_eq_true, allF_iff]
  constructor
  · rintro ⟨h1, h2, h3⟩
    refine ⟨h1, fun i hi => h2 i (by omega) (by omega), fun i hi => ?_⟩
    obtain ⟨a, b⟩ := h3 i (by omega) (by omega)
    exact ⟨a, fun k hk => by have := b k (by omega) (by omega); simpa using this⟩
  · rintro ⟨h1, h2, h3⟩
    refine ⟨h1, fun i _ hi => h2 i (by omega), fun i _ hi => ?_⟩
    obtain ⟨a, b⟩ := h3 i (by omega)
    exact ⟨a, fun k _ hk => by have := b k (by omega); simpa using this⟩
theorem head_iff {T C : List Row} {sw ins : Int} : head T C sw ins = true ↔ T.length ≤ 32 ∧ C.length ≤ 32 ∧ (0 ≤ sw ∧ sw ≤ 268435456) ∧ (1 ≤ ins ∧ ins ≤ 1048576) := by
  unfold head
  simp only [Bool.and_eq_true, Bool.not_eq_true', decide_eq_false_iff_not, inR_iff]
  omega
theorem numOk_iff {c0 prio per dl off cost : Int} : numOk c0 prio per dl off cost = true ↔ 0 ≤ c0 ∧ 0 ≤ prio ∧ prio ≤ 31 ∧ (1 ≤ per ∧ per ≤ 2147483647) ∧ (1 ≤ dl ∧ dl ≤ per) ∧ (0 ≤ off ∧ off ≤ 2147483647) ∧ (1 ≤ cost ∧ cost ≤ 1073741824) := by
  unfold numOk
  simp only [Bool.and_eq_true, Bool.not_eq_true', decide_eq_false_iff_not, inR_iff]
  omega
theorem useF_cap {C : List Row} {cost cost' prio : Int} {us us' : List Row} (h1 : 1 ≤ cost') : ∀ (k i : Nat) (last : Int), (∀ j, i ≤ j → j < i + k → cI us' j 0 = cI us j 0 ∧ cI us' j 1 = min (cI us j 1) cost') → useF C cost prio us i k last = true → useF C cost' prio us' i k last = true
  | 0, _, _, _, _ => rfl
  | k + 1, i, last, h, hu => by
    obtain ⟨e1, e2⟩ := h i (by omega) (by omega)
    simp only [useF, Bool.and_eq_true, Bool.not_eq_true', decide_eq_false_iff_not, inR_iff] at hu ⊢
    obtain ⟨a1, a2, a3, a4, a5⟩ := hu
    rw [e1, e2]
    exact ⟨a1, a2, by omega, a4, useF_cap h1 k (i + 1) _ (fun j h1 h2 => h j (by omega) (by omega)) a5⟩
structure Less (T C : List Row) (sw ins : Int) (t : Nat) (T' : List Row) (sw' ins' : Int) (t' : Nat) : Prop where
  may : may T' C sw' ins' = true
  lt : t' < T'.length
  dl : cI T' t' 3 = cI T t 3
  cost : cI T' t' 5 ≤ cI T t 5
  blk : blk T' C ins' t' ≤ blk T C ins t
  dem : ∀ r, 0 ≤ r → r ≤ 2147483647 → dem T' sw' t' r ≤ dem T sw t r
theorem Less.more {T C T' : List Row} {sw ins sw' ins' : Int} {t t' : Nat} (h : Less T C sw ins t T' sw' ins' t') (hm : Go.Proofs.Ytbgdiljnmifakaa.may T C sw ins = true) (ht : t < T.length) {v v' : Int} {b' : Bool}
    (hr : Res T sw t (cI T t 5 + Go.Proofs.Ytbgdiljnmifakaa.blk T C ins t) (cI T t 3) v true) (hr' : Res T' sw' t' (cI T' t' 5 + Go.Proofs.Ytbgdiljnmifakaa.blk T' C ins' t') (cI T' t' 3) v' b') : b' = true ∧ v' ≤ v := by
  have hM := may_f hm
  have hM' := may_f h.may
  have f' := hM'.task t' h.lt
  have f := hM.task t ht
  have hb := (blk_bounds hM' t').1
  have c0 := f'.cost0
  have d1 := f.dl1
  have p1 := f.per1
  have hc := h.cost
  have hk := h.blk
  rw [h.dl] at hr'
  exact Go.Proofs.Ytbgdiljnmifakaa.more hM hM' (by omega) (by omega) (by omega) hr hr' h.dem
theorem less_nums {T C : List Row} {sw ins sw' ins' : Int} {t : Nat} (hm : may T C sw ins = true) (ht : t < T.length) (h1 : 0 ≤ sw') (h2 : sw' ≤ sw) (h3 : 1 ≤ ins') (h4 : ins' ≤ ins) : Less T C sw ins t T sw' ins' t := by
  have hM := may_f hm
  obtain ⟨a, b, c⟩ := may_iff.1 hm
  rw [head_iff] at a
  refine ⟨may_iff.2 ⟨head_iff.2 (by omega), b, c⟩, ht, rfl, Int.le_refl _, ?_, fun r r0 r1 => ?_⟩
  · exact tb_le _ _ _ _ _ (by omega) fun j _ => ⟨rfl, rfl, fun q _ => ⟨rfl, Int.le_refl _⟩⟩
  · refine ds_le _ _ _ _ _ (Int.le_refl _) fun j hj => ⟨rfl, ?_⟩
    have f := hM.task (0 + j) (by omega)
    obtain ⟨c0, _⟩ := ceil_bounds r0 r1 f.per0
    unfold dt
    exact Int.mul_le_mul_of_nonneg_left (by omega) c0
theorem less_task {T C : List Row} {sw ins : Int} {t o : Nat} (hm : may T C sw ins = true) (ht : t < T.length) {T' : List Row} (hl : T'.length = T.length) (hne : ∀ i : Nat, i ≠ o → T'[i]? = T[i]?) {cost' per' : Int} {us' : List Row}
    (h0 : cI T' o 0 = cI T o 0) (h1 : cI T' o 1 = cI T o 1) (h2 : cI T' o 2 = per') (h3 : cI T' o 3 = cI T o 3) (h4 : cI T' o 4 = cI T o 4) (h5 : cI T' o 5 = cost') (h6 : cL T' o 6 = us')
    (hp : o < T.length → cI T o 2 ≤ per' ∧ per' ≤ 2147483647) (hc : o < T.length → 1 ≤ cost' ∧ cost' ≤ cI T o 5) (hu : us'.length = (cL T o 6).length ∧ ∀ q : Nat, q < us'.length → cI us' q 0 = cI (cL T o 6) q 0 ∧ cI us' q 1 = min (cI (cL T o 6) q 1) cost')
    : Less T C sw ins t T' sw ins t := by
  have hM := may_f hm
  obtain ⟨a, b, c⟩ := may_iff.1 hm
  have row : ∀ i : Nat, i ≠ o → T'.getD i [] = T.getD i [] := fun i hi => by simp only [List.getD, hne i hi]
  have cell : ∀ (i : Nat) j, i ≠ o → cI T' i j = cI T i j := fun i j hi => by unfold cI; rw [Int.toNat_natCast, row i hi]
  have cellL : ∀ (i : Nat) j, i ≠ o → cL T' i j = cL T i j := fun i j hi => by unfold cL; rw [Int.toNat_natCast, row i hi]
  have e0 : ∀ i : Nat, cI T' i 0 = cI T i 0 := fun i => by by_cases e : i = o; subst e; exact h0; exact cell i 0 e
  have e1 : ∀ i : Nat, cI T' i 1 = cI T i 1 := fun i => by by_cases e : i = o; subst e; exact h1; exact cell i 1 e
  have e3 : ∀ i : Nat, cI T' i 3 = cI T i 3 := fun i => by by_cases e : i = o; subst e; exact h3; exact cell i 3 e
  refine ⟨may_iff.2 ⟨?_, b, fun i hi => ⟨?_, fun k hk => ?_⟩⟩, by omega, e3 t, ?_, ?_, fun r r0 r1 => ?_⟩
  · rw [head_iff] at a ⊢; rw [hl]; exact a
  · obtain ⟨c1, _⟩ := c i (by omega)
    by_cases e : i = o
    · subst e
      unfold tk tkOk at c1 ⊢
      rw [Bool.and_eq_true] at c1 ⊢
      rw [h0, h1, h2, h3, h4, h5, h6]
      have c2 := numOk_iff.1 c1.1
      have hp := hp (by omega)
      have hc := hc (by omega)
      refine ⟨numOk_iff.2 (by omega), ?_⟩
      rw [hu.1]
      exact useF_cap hc.1 _ _ _ (fun j _ hj => hu.2 j (by omega)) c1.2
    · unfold tk at c1 ⊢
      rw [cell i 0 e, cell i 1 e, cell i 2 e, cell i 3 e, cell i 4 e, cell i 5 e, cellL i 6 e]; exact c1
  · rw [e0, e0]; exact (c i (by omega)).2 k hk
  · by_cases e : t = o
    · subst e; rw [h5]; exact (hc ht).2
    · rw [cell t 5 e]; exact Int.le_refl _
  · unfold blk
    rw [e1 t, hl]
    refine tb_le _ _ _ _ _ (Int.le_refl _) fun j hj => ?_
    refine ⟨e1 _, ?_, fun q hq => ?_⟩
    · by_cases e : 0 + j = o
      · rw [e, h6]; exact hu.1
      · rw [cellL _ 6 e]
    · by_cases e : 0 + j = o
      · rw [e] at hq ⊢
        rw [h6]
        obtain ⟨u1, u2⟩ := hu.2 q (by omega)
        exact ⟨u1, by omega⟩
      · rw [cellL _ 6 e]; exact ⟨rfl, Int.le_refl _⟩
  · unfold dem
    rw [hl]
    refine ds_le _ _ _ _ _ (Int.le_refl _) fun j hj => ⟨?_, ?_⟩
    · unfold hi; rw [e1, e1]
    · have f := hM.task (0 + j) (by omega)
      have s0 := hM.sw0
      obtain ⟨g0, _⟩ := ceil_bounds r0 r1 f.per0
      by_cases e : 0 + j = o
      · rw [e] at f g0 ⊢
        have hp := hp (by omega)
        have hc := hc (by omega)
        have p0 := f.per0
        unfold dt
        rw [h2, h5]
        have hq : (r + per' - 1) / per' ≤ (r + cI T o 2 - 1) / cI T o 2 := by
          have h1 := Int.emod_add_mul_ediv (r + cI T o 2 - 1) (cI T o 2)
          have h2 := Int.emod_lt_of_pos (r + cI T o 2 - 1) (show 0 < cI T o 2 by omega)
          have h3 := Int.mul_le_mul_of_nonneg_left (show cI T o 2 ≤ per' by omega) g0
          rw [Int.mul_comm _ (cI T o 2)] at h3
          have : (r + per' - 1) / per' < (r + cI T o 2 - 1) / cI T o 2 + 1 := by
            apply Int.ediv_lt_of_lt_mul (by omega)
            rw [Int.add_mul]; omega
          omega
        exact Int.mul_le_mul hq (by omega) (by omega) g0
      · unfold dt
        rw [cell _ 2 e, cell _ 5 e]; exact Int.le_refl _
theorem less_gone {T C : List Row} {sw ins : Int} {t o t' : Nat} (hm : may T C sw ins = true) (ht : t < T.length) (ho : o < T.length) (hto : t ≠ o) (ht' : t' = if o < t then t - 1 else t) : Less T C sw ins t (T.take o ++ T.drop (o + 1)) sw ins t' := by
  have hM := may_f hm
  obtain ⟨a, b, c⟩ := may_iff.1 hm
  let f : Nat → Nat := fun i => if i < o then i else i + 1
  have row : ∀ i : Nat, (T.take o ++ T.drop (o + 1)).getD i [] = T.getD (f i) [] := fun i => by
    simp only [List.getD, f]
    by_cases hi : i < o
    · rw [if_pos hi, List.getElem?_append_left (by simp; omega), List.getElem?_take, if_pos hi]
    · rw [if_neg hi, List.getElem?_append_right (by simp; omega), List.getElem?_drop]
      congr 2
      simp; omega
  have hlen : (T.take o ++ T.drop (o + 1)).length = T.length - 1 := by simp; omega
  generalize T.take o ++ T.drop (o + 1) = T' at row hlen
  have cell : ∀ (i : Nat) j, cI T' i j = cI T (f i : Nat) j := fun i j => by unfold cI; rw [Int.toNat_natCast, Int.toNat_natCast, row i]
  have cellL : ∀ (i : Nat) j, cL T' i j = cL T (f i : Nat) j := fun i j => by unfold cL; rw [Int.toNat_natCast, Int.toNat_natCast, row i]
  have flo : ∀ i, i < o → f i = i := fun i h => if_pos h
  have fhi : ∀ i, o ≤ i → f i = i + 1 := fun i h => if_neg (by omega)
  have hft : f t' = t := by
    by_cases h : o < t
    · rw [if_pos h] at ht'; rw [fhi t' (by omega)]; omega
    · rw [if_neg h] at ht'; rw [flo t' (by omega)]; exact ht'
  obtain ⟨m, hlm⟩ : ∃ m, T.length = o + (1 + m) := ⟨T.length - o - 1, by omega⟩
  have hl' : T'.length = o + m := by omega
  refine ⟨may_iff.2 ⟨?_, b, fun i hi => ?_⟩, ?_, by rw [cell, hft], by rw [cell, hft]; exact Int.le_refl _, ?_, fun r r0 r1 => ?_⟩
  · rw [head_iff] at a ⊢; omega
  · have hfi : f i < T.length := by by_cases h : i < o; rw [flo i h]; omega; rw [fhi i (by omega)]; omega
    obtain ⟨c1, c2⟩ := c (f i) hfi
    refine ⟨?_, fun k hk => ?_⟩
    · unfold tk at c1 ⊢
      rw [cell i 0, cell i 1, cell i 2, cell i 3, cell i 4, cell i 5, cellL i 6]; exact c1
    · rw [cell k 0, cell i 0]
      refine c2 (f k) ?_
      by_cases h : i < o
      · rw [flo i h, flo k (by omega)]; exact hk
      · rw [fhi i (by omega)]
        by_cases h' : k < o
        · rw [flo k h']; omega
        · rw [fhi k (by omega)]; omega
  · by_cases h : o < t
    · rw [if_pos h] at ht'; omega
    · rw [if_neg h] at ht'; omega
  · unfold blk
    rw [cell t' 1, hft, hl', hlm, tb_app, tb_app, tb_app, Nat.zero_add]
    have e1 : tb T' C (cI T t 1) 0 o (ins - 1) ≤ tb T C (cI T t 1) 0 o (ins - 1) := tb_le _ _ _ _ _ (Int.le_refl _) fun j hj => by
      rw [cell _ 1, cellL _ 6, flo _ (by omega)]; exact ⟨rfl, rfl, fun q _ => ⟨rfl, Int.le_refl _⟩⟩
    have e2 := tb_ge (T := T) (C := C) (p := cI T t 1) 1 o (tb T C (cI T t 1) 0 o (ins - 1))
    exact tb_le _ _ _ _ _ (Int.le_trans e1 e2) fun j hj => by
      rw [cell _ 1, cellL _ 6, fhi _ (by omega), show o + j + 1 = o + 1 + j by omega]; exact ⟨rfl, rfl, fun q _ => ⟨rfl, Int.le_refl _⟩⟩
  · have dte : ∀ i, dt T' sw r i = dt T sw r (f i) := fun i => by unfold dt; rw [cell i 2, cell i 5]
    have hie : ∀ i, hi T' t' i = hi T t (f i) := fun i => by
      unfold hi
      rw [cell i 1, cell t' 1, hft]
      have : ((i : Int) == (t' : Int)) = (((f i : Nat) : Int) == (t : Int)) := by
        rw [Bool.eq_iff_iff, beq_iff_eq, beq_iff_eq]
        by_cases h : i < o
        · rw [flo i h]
          by_cases h2 : o < t
          · rw [if_pos h2] at ht'; omega
          · rw [if_neg h2] at ht'; omega
        · rw [fhi i (by omega)]
          by_cases h2 : o < t
          · rw [if_pos h2] at ht'; omega
          · rw [if_neg h2] at ht'; omega
      rw [this]
    unfold dem
    rw [hl', hlm, ds_app, ds_app, ds_app, Nat.zero_add]
    have e1 : ds T' sw t' r 0 o 0 ≤ ds T sw t r 0 o 0 := ds_le _ _ _ _ _ (Int.le_refl _) fun j hj => by
      rw [hie, dte, flo _ (by omega)]; exact ⟨rfl, Int.le_refl _⟩
    have e2 := ds_ge hM t r0 r1 1 o (ds T sw t r 0 o 0) (by omega)
    exact ds_le _ _ _ _ _ (Int.le_trans e1 e2) fun j hj => by
      rw [hie, dte, fhi _ (by omega), show o + j + 1 = o + 1 + j by omega]; exact ⟨rfl, Int.le_refl _⟩
end Go.Proofs.Ytbgdiljnmifakaa

namespace Go.Proofs.Ytbgdiljnmifakaa
open Go Go.Eng
theorem F2_eq {T C : List Row} {sw ins : Int} (hS : Small T C) (hM : MayF T C sw ins) {N : Nat} (hN : 2147490000 ≤ N) (t : Nat) (ht : t < T.length) :
    ∃ v b, Res T sw t (cI T t 5 + blk T C ins t) (cI T t 3) v b ∧ F29 N T C sw ins t = some (.r v b) ∧ F27 N T C sw ins t = some (.r v b) := by
  obtain ⟨M, rfl⟩ : ∃ M, N = M + 1 := ⟨N - 1, by omega⟩
  have hf := hM.task t ht
  have c0 := hf.cost0
  have c1 := hf.cost1
  have d0 := hf.dl0
  have d1 := hf.dl1
  have p1 := hf.per1
  have hb := blk_bounds hM t
  have hw : IntKind.wrap .i64 (cI T t 5 + blk T C ins t) = cI T t 5 + blk T C ins t := wrap_id (by omega) (by omega)
  obtain ⟨v, b, h1, h2, h3⟩ := L2_all hM M (by omega) t ht (least := cI T t 5 + blk T C ins t) (dl := cI T t 3) (by omega) (by omega) (by omega) (by omega) (cI T t 0) (cI T t 1) (cI T t 2) (cI T t 4) (cI T t 5) (cL T t 6) M (cI T t 5 + blk T C ins t) (by omega) (by omega) (by omega)
    (fun h => by have := dem_nonneg hM t (r := cI T t 5 + blk T C ins t) (by omega) (by omega); omega) (fun x h1 h2 => by omega)
  refine ⟨v, b, h1, ?_, ?_⟩
  · show (tst (decide ((0 : Int) ≤ (t : Int)) && decide ((t : Int) < (T.length : Int))) <| _) = _
    simp only [dlt ht, dz, Bool.and_self, tst, ← cI.eq_1, ← cL.eq_1]
    rw [F30_eq hS hM (by omega) t ht]
    simp only [hw]
    rcases h2 with h2 | ⟨rfl, rfl, h2⟩
    · rw [h2]
    · rw [h2]
  · show (tst (decide ((0 : Int) ≤ (t : Int)) && decide ((t : Int) < (T.length : Int))) <| _) = _
    simp only [dlt ht, dz, Bool.and_self, tst, ← cI.eq_1, ← cL.eq_1]
    rw [F28_eq hS hM (by omega) t ht]
    simp only [hw]
    rcases h3 with h3 | ⟨rfl, rfl, h3⟩
    · rw [h3]
    · rw [h3]
def err (T C : List Row) (sw ins k : Int) : Int := match !may T C sw ins with | true => 2 | false => match decide (k < 0) with | true => 4 | false => match decide ((T.length : Int) ≤ k) with | true => 4 | false => 0
theorem F39_eq {T C : List Row} (hS : Small T C) {N : Nat} (hN : 1400 ≤ N) (sw ins k : Int) : F39 N T C sw ins k = some (.r (err T C sw ins k)) := by
  obtain ⟨M, rfl⟩ : ∃ M, N = M + 1 := ⟨N - 1, by omega⟩
  show (match F14 M T C sw ins with | none => none | some (.r x) => _) = _
  rw [F14_eq hS (by omega)]
  unfold err
  cases may T C sw ins <;> cases decide (k < 0) <;> cases decide ((T.length : Int) ≤ k) <;> rfl
theorem F38_eq {T C : List Row} (hS : Small T C) {N : Nat} (hN : 1400 ≤ N) (sw ins k : Int) : F38 N T C sw ins k = some (.r (err T C sw ins k)) := by
  obtain ⟨M, rfl⟩ : ∃ M, N = M + 1 := ⟨N - 1, by omega⟩
  show (match F13 M T C sw ins with | none => none | some (.r x) => _) = _
  rw [F13_eq hS (by omega)]
  unfold err
  cases may T C sw ins <;> cases decide (k < 0) <;> cases decide ((T.length : Int) ≤ k) <;> rfl
theorem err_ok {T C : List Row} {sw ins k : Int} (h : err T C sw ins k = 0) : may T C sw ins = true ∧ ∃ t : Nat, k = t ∧ t < T.length := by
  unfold err at h
  cases hm : may T C sw ins with
  | false => rw [hm] at h; cases h
  | true =>
    rw [hm] at h
    by_cases h1 : k < 0
    · rw [decide_eq_true h1] at h; cases h
    · by_cases h2 : (T.length : Int) ≤ k
      · rw [decide_eq_false h1, decide_eq_true h2] at h; cases h
      · exact ⟨rfl, k.toNat, by omega, by omega⟩
theorem F17_23 {T C : List Row} (hS : Small T C) {N : Nat} (hN : 2147490001 ≤ N) (sw ins k : Int) : ∃ v b e, F17 N T C sw ins k = some (.r v b e) ∧ F23 N T C sw ins k = some (.r v b e) ∧ e = err T C sw ins k ∧ (∀ t : Nat, e = 0 → k = t → Res T sw t (cI T t 5 + blk T C ins t) (cI T t 3) v b) := by
  obtain ⟨M, rfl⟩ : ∃ M, N = M + 1 := ⟨N - 1, by omega⟩
  have e1 : F17 (M + 1) T C sw ins k = match err T C sw ins k != 0 with | true => some (.r 0 false (err T C sw ins k)) | false => match F27 M T C sw ins k with | none => none | some (.r x y) => some (.r x y 0) := by
    show (match F38 M T C sw ins k with | none => none | some (.r x) => _) = _
    rw [F38_eq hS (by omega)]
    all_goals (try dsimp only)
    all_goals (cases err T C sw ins k != 0 <;> rfl)
  have e2 : F23 (M + 1) T C sw ins k = match err T C sw ins k != 0 with | true => some (.r 0 false (err T C sw ins k)) | false => match F29 M T C sw ins k with | none => none | some (.r x y) => some (.r x y 0) := by
    show (match F39 M T C sw ins k with | none => none | some (.r x) => _) = _
    rw [F39_eq hS (by omega)]
    all_goals (try dsimp only)
    all_goals (cases err T C sw ins k != 0 <;> rfl)
  rw [e1, e2]
  cases he : err T C sw ins k != 0 with
  | true => exact ⟨_, _, _, rfl, rfl, rfl, fun t h => by rw [h] at he; cases he⟩
  | false =>
    have he0 : err T C sw ins k = 0 := by simpa using he
    obtain ⟨hm, t, rfl, ht⟩ := err_ok he0
    have hM := may_f hm
    obtain ⟨v, b, h1, h2, h3⟩ := F2_eq hS hM (show 2147490000 ≤ M by omega) t ht
    rw [h2, h3]
    refine ⟨_, _, _, rfl, rfl, he0.symm, fun u _ hu => ?_⟩
    have : t = u := by omega
    rw [← this]; exact h1
theorem L26_all (N : Nat) {T C : List Row} (sw ins : Int) (hT : T.length ≤ 1000) : ∀ (k n i : Nat) (a b : Int), i + k = T.length → k < n → ∃ a' b', L26a58 N n a b T.length i T C sw ins = some (.x0 a' b' T C sw ins)
  | 0, n + 1, i, a, b, h, _ => by
    refine ⟨a, b, ?_⟩
    show (match decide ((i : Int) < (T.length : Int)) with | true => _ | false => _) = _
    rw [dge (show T.length ≤ i by omega)]
  | k + 1, n + 1, i, a, b, h, hn => by
    obtain ⟨a', b', h'⟩ := L26_all N (C := C) sw ins hT k n (i + 1) (Eng.imin a (cI T i 5)) (Eng.imax b (cI T i 3)) (by omega) (by omega)
    refine ⟨a', b', ?_⟩
    show (match decide ((i : Int) < (T.length : Int)) with | true => _ | false => _) = _
    simp only [dlt (show i < T.length by omega), dz, Bool.and_self, tst, ← cI.eq_1]
    rw [wrap_succ (by omega), h']
  | _, 0, _, _, _, _, h => by omega
theorem L9_all (N : Nat) {T C : List Row} (sw ins : Int) (hT : T.length ≤ 1000) : ∀ (k n i : Nat), i + k = T.length → k < n → (L9a58 N n T.length i T C sw ins = some (.ret true T C sw ins) ∨ L9a58 N n T.length i T C sw ins = some (.x0 T C sw ins) ∧ ∀ j : Nat, i ≤ j → j < T.length → (cL T j 6).length ≤ 40)
  | 0, n + 1, i, h, _ => by
    refine .inr ⟨?_, fun j h1 h2 => by omega⟩
    show (match decide ((i : Int) < (T.length : Int)) with | true => _ | false => _) = _
    rw [dge (show T.length ≤ i by omega)]
  | k + 1, n + 1, i, h, hn => by
    have ih := L9_all N (C := C) sw ins hT k n (i + 1) (by omega) (by omega)
    have e : L9a58 N (n + 1) T.length i T C sw ins = match decide ((40 : Int) < ((cL T i 6).length : Int)) with | true => some (.ret true T C sw ins) | false => L9a58 N n T.length ((i + 1 : Nat) : Int) T C sw ins := by
      show (match decide ((i : Int) < (T.length : Int)) with | true => _ | false => _) = _
      simp only [dlt (show i < T.length by omega), dz, Bool.and_self, tst, ← cL.eq_1]
      rw [wrap_succ (by omega)]
      cases decide ((40 : Int) < ((cL T i 6).length : Int)) <;> rfl
    rw [e]
    by_cases h4 : (40 : Int) < ((cL T i 6).length : Int)
    · rw [decide_eq_true h4]; exact .inl rfl
    · rw [decide_eq_false h4]
      rcases ih with ih | ⟨ih, hj⟩
      · exact .inl ih
      · refine .inr ⟨ih, fun j h1 h2 => ?_⟩
        by_cases e : j = i
        · subst e; omega
        · exact hj j (by omega) h2
  | _, 0, _, h, _ => by omega
theorem F9_eq {N : Nat} (hN : 2000 ≤ N) (T C : List Row) (sw ins : Int) : F9 N T C sw ins = some (.r true) ∨ (F9 N T C sw ins = some (.r false) ∧ Small T C) := by
  obtain ⟨M, rfl⟩ : ∃ M, N = M + 2 := ⟨N - 2, by omega⟩
  have e1 : F9 (M + 2) T C sw ins = match decide ((40 : Int) < (T.length : Int)) || decide ((40 : Int) < (C.length : Int)) with
      | true => some (.r true)
      | false => (match L9a58 (M + 1) (M + 1) T.length 0 T C sw ins with
        | none => none
        | some (.ret x _ _ _ _) => some (.r x)
        | some (.x0 a b c d) => (match F14 (M + 1) a b c d with
          | none => none
          | some (.r y) => match y with
            | true => (match F26 (M + 1) a b c d with | none => none | some (.r z) => some (.r (decide ((100000 : Int) < z))))
            | false => some (.r false))) := by
    show (match J9a6 (M + 1) T C sw ins with | none => (none : Option R9) | some (.nx _ _ _ _) => _ | some (.ret x _ _ _ _) => some (.r x)) = _
    unfold J9a6
    cases decide ((40 : Int) < (T.length : Int)) <;> cases decide ((40 : Int) < (C.length : Int)) <;> rfl
  rw [e1]
  cases hl : decide ((40 : Int) < (T.length : Int)) || decide ((40 : Int) < (C.length : Int)) with
  | true => exact .inl rfl
  | false =>
    simp only [Bool.or_eq_false_iff, decide_eq_false_iff_not] at hl
    have h9 := L9_all (M + 1) (T := T) (C := C) sw ins (by omega) T.length (M + 1) 0 (by omega) (by omega)
    rw [show ((0 : Nat) : Int) = (0 : Int) from rfl] at h9
    rcases h9 with h9 | ⟨h9, hu⟩
    · rw [h9]; exact .inl rfl
    · have hS : Small T C := ⟨by omega, by omega, fun i hi => hu i (by omega) hi⟩
      rw [h9]
      simp only
      rw [F14_eq hS (by omega)]
      cases may T C sw ins with
      | false => exact .inr ⟨rfl, hS⟩
      | true =>
        obtain ⟨a', b', h26⟩ := L26_all M (T := T) (C := C) sw ins (by omega) T.length M 0 1099511627776 0 (by omega) (by omega)
        rw [show ((0 : Nat) : Int) = (0 : Int) from rfl] at h26
        have e26 : ∃ z, F26 (M + 1) T C sw ins = some (.r z) := by
          refine ⟨IntKind.wrap .i64 (Int.tdiv b' (Eng.imax a' 1)), ?_⟩
          show (match L26a58 M M 1099511627776 0 T.length 0 T C sw ins with | none => (none : Option R26) | some (.x0 x3 x4 _ _ _ _) => (tst (!((Eng.imax x3 1) == 0)) <| some (.r (IntKind.wrap .i64 (Int.tdiv x4 (Eng.imax x3 1)))))) = _
          rw [h26]
          have : (Eng.imax a' 1 == 0) = false := by
            unfold Eng.imax; split <;> simp <;> omega
          simp only [this, tst, Bool.not_false]
        obtain ⟨z, e26⟩ := e26
        simp only [e26]
        cases decide ((100000 : Int) < z) with
        | true => exact .inl rfl
        | false => exact .inr ⟨rfl, hS⟩
end Go.Proofs.Ytbgdiljnmifakaa

namespace Go.Proofs.Ytbgdiljnmifakaa
open Go Go.Eng
def isU (u : Row) : Prop := ∃ a b, u = [.int .i64 a, .int .i64 b]
def isT (r : Row) : Prop := ∃ a0 a1 a2 a3 a4 a5 us, r = [.int .i64 a0, .int .i64 a1, .int .i64 a2, .int .i64 a3, .int .i64 a4, .int .i64 a5, .list 55 us] ∧ ∀ u ∈ us, isU u
def sb (r : Row) : Row := r.set 6 (.sub 55 ((([] : List Row)) ++ ((r.getD 6 .top).rows)))
def fz (r : Row) : Row := r.map Eng.AV.froz
theorem fz_isT {r : Row} (h : isT r) : fz r = r := by
  obtain ⟨a0, a1, a2, a3, a4, a5, us, rfl, _⟩ := h
  rfl
theorem fz_sb {r : Row} (h : isT r) : fz (sb r) = r := by
  obtain ⟨a0, a1, a2, a3, a4, a5, us, rfl, _⟩ := h
  rfl
theorem map_id' {α : Type} {f : α → α} : ∀ {l : List α}, (∀ x ∈ l, f x = x) → l.map f = l
  | [], _ => rfl
  | x :: l, h => by rw [List.map_cons, h x List.mem_cons_self, map_id' fun y hy => h y (List.mem_cons_of_mem _ hy)]
theorem fz_map {T : List Row} (h : ∀ r ∈ T, isT r) : T.map (fun r => r.map Eng.AV.froz) = T := map_id' fun r hr => fz_isT (h r hr)
theorem fz_sb_map {T : List Row} (h : ∀ r ∈ T, isT r) : (T.map sb).map (fun r => r.map Eng.AV.froz) = T := by
  rw [List.map_map]
  exact map_id' fun r hr => fz_sb (h r hr)
theorem getD_lt {α : Type} {l : List α} {i : Nat} (h : i < l.length) (d : α) : l.getD i d = l[i] := by simp [List.getD, List.getElem?_eq_getElem h]
theorem getD_mid {α : Type} (A B : List α) (x d : α) : (A ++ x :: B).getD A.length d = x := by simp [List.getD]
theorem set_mid {α : Type} (A B : List α) (x y : α) : (A ++ x :: B).set A.length y = A ++ y :: B := by simp
theorem L18_all (N : Nat) (C : List Row) (sw ins : Int) : ∀ (suf pre : List Row) (n : Nat), pre.length + suf.length ≤ 1000 → suf.length < n → (∀ r ∈ suf, isT r ∧ ((r.getD 6 .top).rows).length ≤ 1000) →
    L18a58 N n ((pre ++ suf).length : Nat) (pre.length : Nat) C sw ins (pre ++ suf) = some (.x0 C sw ins (pre ++ suf.map sb))
  | [], pre, n + 1, _, _, _ => by
    show (match decide (((pre.length : Nat) : Int) < (((pre ++ []).length : Nat) : Int)) with | true => _ | false => _) = _
    rw [decide_eq_false (by simp)]
    simp
  | r :: suf, pre, n + 1, hl, hn, h => by
    simp only [List.length_cons] at hl hn
    obtain ⟨⟨a0, a1, a2, a3, a4, a5, us, rfl, _⟩, hu⟩ := h r List.mem_cons_self
    have ih := L18_all N C sw ins suf (pre ++ [sb [.int .i64 a0, .int .i64 a1, .int .i64 a2, .int .i64 a3, .int .i64 a4, .int .i64 a5, .list 55 us]]) n (by simp; omega) (by omega) fun r hr => h r (List.mem_cons_of_mem _ hr)
    have hu : us.length ≤ 1000 := hu
    have e1 : decide (((0 + us.length) * 16) ≤ 140737488355328) = true := decide_eq_true (by omega)
    have hlt : pre.length < (pre ++ [AV.int .i64 a0, .int .i64 a1, .int .i64 a2, .int .i64 a3, .int .i64 a4, .int .i64 a5, .list 55 us] :: suf).length := by simp
    show (match decide (((pre.length : Nat) : Int) < (((pre ++ _ :: suf).length : Nat) : Int)) with | true => _ | false => _) = _
    rw [dlt hlt]
    simp only [dz, dlt hlt, Int.toNat_natCast, decide_eq_true hlt, Bool.and_self, tst, getD_mid, set_mid]
    show (match decide (((0 + us.length) * 16) ≤ 140737488355328) with | true => _ | false => _) = _
    rw [e1, wrap_succ (by omega)]
    have e2 : (pre ++ [sb [.int .i64 a0, .int .i64 a1, .int .i64 a2, .int .i64 a3, .int .i64 a4, .int .i64 a5, .list 55 us]]) ++ suf = pre ++ sb [.int .i64 a0, .int .i64 a1, .int .i64 a2, .int .i64 a3, .int .i64 a4, .int .i64 a5, .list 55 us] :: suf := by simp
    have e3 : (pre ++ [sb [.int .i64 a0, .int .i64 a1, .int .i64 a2, .int .i64 a3, .int .i64 a4, .int .i64 a5, .list 55 us]]).length = pre.length + 1 := by simp
    have e4 : (pre ++ sb [.int .i64 a0, .int .i64 a1, .int .i64 a2, .int .i64 a3, .int .i64 a4, .int .i64 a5, .list 55 us] :: suf).length = (pre ++ [AV.int .i64 a0, .int .i64 a1, .int .i64 a2, .int .i64 a3, .int .i64 a4, .int .i64 a5, .list 55 us] :: suf).length := by simp
    rw [e2, e3, e4] at ih
    rw [List.map_cons]
    rw [List.append_assoc] at ih
    exact ih
theorem F18_eq {T C : List Row} (hS : Small T C) (hT : ∀ r ∈ T, isT r) {N : Nat} (hN : 2000 ≤ N) (sw ins : Int) : F18 N T C sw ins = some (.r C sw ins (T.map sb)) := by
  obtain ⟨M, rfl⟩ : ∃ M, N = M + 1 := ⟨N - 1, by omega⟩
  have hl := hS.t
  have e1 : decide (((0 + T.length) * 72) ≤ 140737488355328) = true := decide_eq_true (by omega)
  have := L18_all M C sw ins T [] M (by simp; omega) (by omega) fun r hr => by
    refine ⟨hT r hr, ?_⟩
    obtain ⟨i, hi, e⟩ := List.getElem_of_mem hr
    have := hS.u i hi
    unfold cL at this
    rw [Int.toNat_natCast, getD_lt hi, e] at this
    omega
  show (match decide (((0 + T.length) * 72) ≤ 140737488355328) with | true => (match L18a58 M M (((([] : List Row)) ++ T).length : Nat) ((([] : List Row).length : Nat) : Int) C sw ins ((([] : List Row)) ++ T) with | none => (none : Option R18) | some (.x0 a b c d) => some (R18.r a b c d)) | false => none) = _
  rw [e1, this]
  rfl
def cap (c : Int) (u : Row) : Row := Eng.setAt u 1 [.int .i64 (Eng.imin ((u.getD 1 .top).toI) c)]
theorem L5_all (N : Nat) (A B : List Row) (a0 a1 a2 a3 a4 c : Int) : ∀ (suf pre : List Row) (n : Nat), pre.length + suf.length ≤ 1000 → suf.length < n →
    L5a65366 N n A.length ((pre ++ suf).length : Nat) (pre.length : Nat) (A ++ [.int .i64 a0, .int .i64 a1, .int .i64 a2, .int .i64 a3, .int .i64 a4, .int .i64 c, .sub 55 (pre ++ suf)] :: B) =
      some (.x1 (A ++ [.int .i64 a0, .int .i64 a1, .int .i64 a2, .int .i64 a3, .int .i64 a4, .int .i64 c, .sub 55 (pre ++ suf.map (cap c))] :: B))
  | [], pre, n + 1, _, _ => by
    show (match decide (((pre.length : Nat) : Int) < (((pre ++ []).length : Nat) : Int)) with | true => _ | false => _) = _
    rw [decide_eq_false (by simp)]
    simp
  | u :: suf, pre, n + 1, hl, hn => by
    simp only [List.length_cons] at hl hn
    have ih := L5_all N A B a0 a1 a2 a3 a4 c suf (pre ++ [cap c u]) n (by simp; omega) (by omega)
    have hlt : pre.length < (pre ++ u :: suf).length := by simp
    have hA : A.length < (A ++ [AV.int .i64 a0, .int .i64 a1, .int .i64 a2, .int .i64 a3, .int .i64 a4, .int .i64 c, .sub 55 (pre ++ u :: suf)] :: B).length := by simp
    have hb : Nat.beq A.length A.length = true := Nat.beq_refl _
    show (match decide (((pre.length : Nat) : Int) < (((pre ++ u :: suf).length : Nat) : Int)) with | true => _ | false => _) = _
    rw [dlt hlt]
    simp only [decide_eq_true hA, getD_mid, set_mid, hb, Bool.and_true, Bool.true_and, tst]
    show (match decide ((0 : Int) ≤ ((pre.length : Nat) : Int)) && decide (((pre.length : Nat) : Int) < (((pre ++ u :: suf).length : Nat) : Int)) with | true => _ | false => _) = _
    rw [dz, dlt hlt]
    simp only [Bool.and_self, Int.toNat_natCast]
    show (match decide (pre.length < (pre ++ u :: suf).length) with | true => _ | false => _) = _
    rw [decide_eq_true hlt]
    simp only
    show (match decide ((0 : Int) ≤ ((pre.length : Nat) : Int)) && decide (((pre.length : Nat) : Int) < (((pre ++ u :: suf).length : Nat) : Int)) with | true => _ | false => _) = _
    rw [dz, dlt hlt]
    simp only [Bool.and_self]
    show (match decide (pre.length < (pre ++ u :: suf).length) with | true => _ | false => _) = _
    rw [decide_eq_true hlt]
    simp only
    rw [wrap_succ (by omega)]
    have e2 : (pre ++ [cap c u]) ++ suf = pre ++ cap c u :: suf := by simp
    have e3 : (pre ++ [cap c u]).length = pre.length + 1 := by simp
    have e4 : (pre ++ cap c u :: suf).length = (pre ++ u :: suf).length := by simp
    have e5 : (pre ++ u :: suf).set pre.length (Eng.setAt ((pre ++ u :: suf).getD pre.length []) 1 [.int .i64 (Eng.imin ((((pre ++ u :: suf).getD pre.length []).getD 1 .top).toI) c)]) = pre ++ cap c u :: suf := by
      rw [getD_mid, set_mid]; rfl
    rw [e2, e3, e4] at ih
    rw [List.map_cons]
    rw [List.append_assoc] at ih
    refine Eq.trans ?_ ih
    rw [← e5]
    rfl
def tailV (N : Nat) (T' C : List Row) (sw' ins' t' v : Int) : Option R5 :=
  match F9 N T' C sw' ins' with
  | none => none
  | some (.r x) =>
    match x with
    | true => (match F10 N with | none => none | some (.r y) => some (.r y))
    | false =>
      match F17 N T' C sw' ins' t' with
      | none => none
      | some (.r q s f) =>
        match f == (0 : Int) with
        | true =>
          match s with
          | true =>
            match decide (q ≤ v) with
            | true => (match F10 N with | none => none | some (.r y) => some (.r y))
            | false => some (.r false)
          | false => some (.r false)
        | false => some (.r false)
theorem tail_true {N : Nat} (hN : 2147490001 ≤ N) (hw : F10 N = some (.r true)) {T C T' : List Row} {sw ins sw' ins' : Int} {t t' : Nat} (hm : may T C sw ins = true) (ht : t < T.length) {v : Int}
    (hr : Res T sw t (cI T t 5 + blk T C ins t) (cI T t 3) v true) (h : Less T C sw ins t T' sw' ins' t') : tailV N T' C sw' ins' t' v = some (.r true) := by
  unfold tailV
  rcases F9_eq (N := N) (by omega) T' C sw' ins' with h9 | ⟨h9, hS'⟩
  · rw [h9]; simp only [hw]
  · rw [h9]
    obtain ⟨q, s, f, h17, _, hf, hres⟩ := F17_23 hS' hN sw' ins' t'
    have hf0 : f = 0 := by
      rw [hf]
      unfold err
      rw [h.may, decide_eq_false (show ¬ (t' : Int) < 0 by omega), decide_eq_false (show ¬ (T'.length : Int) ≤ (t' : Int) by have := h.lt; omega)]
      rfl
    obtain ⟨e1, e2⟩ := h.more hm ht hr (hres t' hf0 rfl)
    simp only [h17, hf0, e1, beq_self_eq_true, decide_eq_true e2, hw]
theorem setAt_len (u : Row) : isU u → ∀ c, cap c u = [.int .i64 ((u.getD 0 .top).toI), .int .i64 (Eng.imin ((u.getD 1 .top).toI) c)] := by
  rintro ⟨a, b, rfl⟩ c; rfl
theorem more_main {N : Nat} (hN : 2147490001 ≤ N) (hw : F10 N = some (.r true)) (T C : List Row) (sw ins task other kind : Int) (hT : ∀ r ∈ T, isT r) : F5 (N + 1) T C sw ins task other kind = some (.r true) := by
  have e0 : ∀ {a : Option R9}, F9 N T C sw ins = a → F5 (N + 1) T C sw ins task other kind = _ := fun h => by
    simp only [F5, h]
    rfl
  rcases F9_eq (N := N) (by omega) T C sw ins with h9 | ⟨h9, hS⟩
  · simp only [F5, h9, hw]
  clear e0
  obtain ⟨v, b, e, h17, _, he, hres⟩ := F17_23 hS hN sw ins task
  simp only [F5, h9, h17]
  cases hz : (e != 0) with
  | true => simp only [hw]
  | false =>
    have hz : e = 0 := by simpa using hz
    cases b with
    | false => simp only [Bool.not_false, hw]
    | true =>
      simp only [Bool.not_true]
      by_cases ho0 : other < 0
      · rw [decide_eq_true ho0]; simp only [hw]
      rw [decide_eq_false ho0]
      by_cases ho1 : (T.length : Int) ≤ other
      · rw [decide_eq_true ho1]; simp only [hw]
      rw [decide_eq_false ho1]
      obtain ⟨o, rfl⟩ := Int.eq_ofNat_of_zero_le (show 0 ≤ other by omega)
      have ho : o < T.length := by omega
      obtain ⟨hm, t, rfl, ht⟩ := err_ok (he ▸ hz)
      have hr := hres t hz rfl
      have hM := may_f hm
      have i0 := hM.ins0
      have i1 := hM.ins1
      have s0 := hM.sw0
      have s1 := hM.sw1
      have fin : ∀ {T' : List Row} {sw' ins' : Int} {t' : Nat}, Less T C sw ins t T' sw' ins' t' → tailV N T' C sw' ins' t' v = some (.r true) := fun h => tail_true hN hw hm ht hr h
      simp only [F18_eq hS hT (show 2000 ≤ N by omega)]
      have hlm : (T.map sb).length = T.length := List.length_map ..
      have ho' : o < (T.map sb).length := by omega
      have d1 : (decide ((0 : Int) ≤ (o : Int)) && decide ((o : Int) < ((T.map sb).length : Int))) = true := by rw [dz, dlt ho']; rfl
      simp only [d1, tst, Int.toNat_natCast, decide_eq_true ho', Bool.and_true, Bool.true_and]
      obtain ⟨a0, a1, a2, a3, a4, a5, us, hR, hU⟩ := hT T[o] (List.getElem_mem ho)
      have hcI : ∀ j, cI T o j = ((T[o]).getD j .top).toI := fun j => by unfold cI; rw [Int.toNat_natCast, getD_lt ho]
      have hcL : ∀ j, cL T o j = ((T[o]).getD j .top).rows := fun j => by unfold cL; rw [Int.toNat_natCast, getD_lt ho]
      have hgm : (T.map sb).getD o [] = sb T[o] := by simp [List.getD, List.getElem?_map, List.getElem?_eq_getElem ho]
      have hf := hM.task o ho
      have hcs : ∀ (R' : Row) j, cI (T.set o R') o j = (R'.getD j .top).toI := fun R' j => by unfold cI; rw [Int.toNat_natCast, getD_lt (l := T.set o R') (i := o) (by simpa using ho)]; simp
      have hls : ∀ (R' : Row) j, cL (T.set o R') o j = (R'.getD j .top).rows := fun R' j => by unfold cL; rw [Int.toNat_natCast, getD_lt (l := T.set o R') (i := o) (by simpa using ho)]; simp
      have hset : ∀ R' : Row, ((T.map sb).set o R').map (fun r => r.map Eng.AV.froz) = T.set o (fz R') := fun R' => by rw [List.map_set, fz_sb_map hT]; rfl
      cases (Int.tmod kind 5 == 0) with
      | true =>
        obtain ⟨A, B, hAB, hA⟩ : ∃ A B, T.map sb = A ++ sb T[o] :: B ∧ A.length = o := ⟨(T.map sb).take o, (T.map sb).drop (o + 1), by
          have e := List.take_append_drop o (T.map sb)
          rw [List.drop_eq_getElem_cons ho'] at e
          simpa using e.symm, by simp; omega⟩
        have hgA : ∀ y : Row, (A ++ y :: B).getD o [] = y := fun y => by rw [← hA, getD_mid]
        have hsA : ∀ x y : Row, (A ++ x :: B).set o y = A ++ y :: B := fun x y => by rw [← hA, set_mid]
        have hy : ∀ R' : Row, (A ++ R' :: B).map (fun r => r.map Eng.AV.froz) = T.set o (fz R') := fun R' => by rw [← hset R', hAB, hsA]
        have hl2 : ∀ R' : Row, o < (A ++ R' :: B).length := fun R' => by simp; omega
        have hbq : Nat.beq o o = true := Nat.beq_refl _
        simp only [hAB, hgA, hsA, decide_eq_true (hl2 _), hbq, Bool.true_and]
        rw [hR]
        have c0 := hf.cost0
        have c1 := hf.cost1
        have e5 : a5 = cI T o 5 := by rw [hcI, hR]; rfl
        have e6 : us = cL T o 6 := by rw [hcL, hR]; rfl
        have huo := hS.u o ho
        rw [← e5] at c0 c1
        rw [← e6] at huo
        have ew : IntKind.wrap .i64 (Int.tdiv (IntKind.wrap .i64 (a5 + 1)) 2) = (a5 + 1) / 2 := by rw [wrap_id (n := a5 + 1) (by omega) (by omega), Int.tdiv_eq_ediv_of_nonneg (by omega), wrap_id (by omega) (by omega)]
        show (match L5a65366 N N o ((us.length : Nat) : Int) 0 (A ++ [AV.int .i64 a0, .int .i64 a1, .int .i64 a2, .int .i64 a3, .int .i64 a4, .int .i64 (IntKind.wrap .i64 (Int.tdiv (IntKind.wrap .i64 (a5 + 1)) 2)), .sub 55 us] :: B) with
          | none => none
          | some (OL5a65366.x1 b0v9) => tailV N (List.map (fun r : Row => List.map Eng.AV.froz r) b0v9) C sw ins t v) = _
        have hL := L5_all N A B a0 a1 a2 a3 a4 ((a5 + 1) / 2) us [] N (by simp; omega) (by omega)
        rw [hA, List.nil_append, List.nil_append, show (([] : List Row).length : Int) = (0 : Int) from rfl] at hL
        rw [ew, hL]
        simp only [hy]
        refine fin (less_task (o := o) (us' := us.map (cap ((a5 + 1) / 2))) (per' := cI T o 2) (cost' := (a5 + 1) / 2) hm ht (by simp) (fun i hi => List.getElem?_set_ne (Ne.symm hi)) ?_ ?_ ?_ ?_ ?_ ?_ ?_ (fun _ => ⟨Int.le_refl _, hf.per1⟩) (fun _ => ⟨by omega, by omega⟩) ⟨by simp [e6], fun q hq => ?_⟩)
        any_goals (rw [hcs, hcI, hR]; rfl)
        · rw [hcs]; rfl
        · rw [hls]; rfl
        · have hq' : q < us.length := by simpa using hq
          obtain ⟨x, y, hxy⟩ := hU us[q] (List.getElem_mem hq')
          have h1 : ∀ j, cI (us.map (cap ((a5 + 1) / 2))) q j = ((cap ((a5 + 1) / 2) us[q]).getD j .top).toI := fun j => by unfold cI; rw [Int.toNat_natCast, getD_lt (l := us.map (cap ((a5 + 1) / 2))) (i := q) hq]; simp
          have h2 : ∀ j, cI (cL T o 6) q j = ((us[q]).getD j .top).toI := fun j => by rw [← e6]; unfold cI; rw [Int.toNat_natCast, getD_lt hq']
          rw [h1, h1, h2, h2, hxy]
          refine ⟨rfl, ?_⟩
          show Eng.imin y ((a5 + 1) / 2) = min y ((a5 + 1) / 2)
          unfold Eng.imin
          split <;> omega
      | false =>
        cases (Int.tmod kind 5 == 1) with
        | true =>
          by_cases hto : (o : Int) = (t : Int)
          · have : ((o : Int) == (t : Int)) = true := by simpa using hto
            simp only [this, hw]
          · have hto' : ((o : Int) == (t : Int)) = false := by simpa using hto
            simp only [hto', fz_sb_map hT]
            have d2 : (decide ((0 : Int) ≤ (o : Int)) && decide ((o : Int) ≤ (o : Int)) && decide ((o : Int) ≤ (T.length : Int))) = true := by simp; omega
            have hS1 := hS.t
            rw [wrap_succ (show o ≤ 1000000 by omega)]
            have d3 : (decide ((0 : Int) ≤ ((o + 1 : Nat) : Int)) && decide (((o + 1 : Nat) : Int) ≤ (T.length : Int)) && decide ((T.length : Int) ≤ (T.length : Int)) && decide ((T.length : Int) ≤ (T.length : Int))) = true := by simp; omega
            have d4 : decide (((T.take o).length + (T.drop (o + 1)).length) * 72 ≤ 140737488355328) = true := decide_eq_true (by simp; omega)
            have hmm : ((T.take o) ++ (T.drop (o + 1))).map (fun r => r.map Eng.AV.froz) = T.take o ++ T.drop (o + 1) := fz_map fun r hr => by
              rcases List.mem_append.1 hr with h | h
              · exact hT r (List.mem_of_mem_take h)
              · exact hT r (List.mem_of_mem_drop h)
            simp only [d2, d3, Int.toNat_natCast, d4, hmm]
            by_cases hlt : o < t
            · rw [decide_eq_true (show (o : Int) < (t : Int) by omega)]
              have ew : IntKind.wrap .i64 ((t : Int) - 1) = ((t - 1 : Nat) : Int) := by rw [wrap_id (by omega) (by omega)]; omega
              rw [ew]
              exact fin (less_gone hm ht ho (by omega) (by rw [if_pos hlt]))
            · rw [decide_eq_false (show ¬ (o : Int) < (t : Int) by omega)]
              exact fin (less_gone hm ht ho (by omega) (by rw [if_neg hlt]))
        | false =>
          cases (Int.tmod kind 5 == 2) with
          | true =>
            by_cases hto : (o : Int) = (t : Int)
            · have : ((o : Int) == (t : Int)) = true := by simpa using hto
              simp only [this, hw]
            · have hto' : ((o : Int) == (t : Int)) = false := by simpa using hto
              simp only [hto', hset, hgm]
              refine fin (less_task (o := o) (us' := cL T o 6) hm ht (by simp) (fun i hi => List.getElem?_set_ne (Ne.symm hi)) ?_ ?_ (per' := Eng.imin (IntKind.wrap .i64 (2 * cI T o 2)) 2147483647) ?_ ?_ ?_ (cost' := cI T o 5) ?_ ?_ (fun _ => ?_) (fun _ => ⟨hf.cost0, Int.le_refl _⟩) ⟨rfl, fun q hq => ⟨rfl, ?_⟩⟩)
              any_goals (rw [hcs, hcI, hR]; rfl)
              · rw [hls, hcL, hR]; rfl
              · have p0 := hf.per0
                have p1 := hf.per1
                rw [wrap_id (by omega) (by omega)]
                unfold Eng.imin
                split <;> omega
              · have h := ((may_iff.1 hm).2.2 o ho).1
                unfold tk tkOk at h
                rw [Bool.and_eq_true] at h
                have := useF_iff (by omega) h.2 q (by omega) (by omega)
                omega
          | false =>
            cases (Int.tmod kind 5 == 3) with
            | true =>
              simp only [fz_sb_map hT]
              have ew : IntKind.wrap .i64 (Int.tdiv sw 2) = sw / 2 := by rw [Int.tdiv_eq_ediv_of_nonneg s0, wrap_id (by omega) (by omega)]
              rw [ew]
              exact fin (less_nums hm ht (by omega) (by omega) i0 (Int.le_refl _))
            | false =>
              simp only [fz_sb_map hT]
              have ew : IntKind.wrap .i64 (Int.tdiv (IntKind.wrap .i64 (ins + 1)) 2) = (ins + 1) / 2 := by rw [wrap_id (n := ins + 1) (by omega) (by omega), Int.tdiv_eq_ediv_of_nonneg (by omega), wrap_id (by omega) (by omega)]
              rw [ew]
              exact fin (less_nums hm ht s0 (Int.le_refl _) (by omega) (by omega))
end Go.Proofs.Ytbgdiljnmifakaa

namespace Go.Proofs.Ytbgdiljnmifakaa
open Go Go.Eng
theorem works_true : F10 4294967295 = some (.r true) := by kernel_rfl
theorem works_true2 : F10 4294967294 = some (.r true) := by kernel_rfl
end Go.Proofs.Ytbgdiljnmifakaa

namespace Go.Proofs.Ytbgdiljnmifakaa
open Go Go.Eng Go.ChangeShapes Go.WideShapes Go.ChangeAt Go.RowKit
theorem own : ownKnob Try.prog.godebug = none := by kernel_rfl
theorem laidOut : laidOutB Try.prog = true := by kernel_rfl
theorem more_true (T C : List Row) (sw ins task other kind : Int) (hT : ∀ r ∈ T, isT r) : F5 4294967296 T C sw ins task other kind = some (.r true) :=
  more_main (N := 4294967295) (by omega) works_true T C sw ins task other kind hT
theorem u_of {u : Row} (h : koks [.int .i64, .int .i64] u = true) : isU u := by
  match u, h with
  | [], h => simp [koks] at h
  | [_], h => simp [koks] at h
  | a :: b :: c :: r, h => simp [koks] at h
  | [a, b], h =>
    simp only [koks, Bool.and_eq_true] at h
    obtain ⟨k1, k2, _⟩ := h
    cases a <;> simp only [kok, Bool.false_eq_true] at k1
    cases b <;> simp only [kok, Bool.false_eq_true] at k2
    have e1 := eq_of_beq k1
    have e2 := eq_of_beq k2
    subst e1 e2
    exact ⟨_, _, rfl⟩
theorem t_of {K : TypeId → List Kind} (hK : K 55 = [.int .i64, .int .i64]) {r : Row} (h : koks [.int .i64, .int .i64, .int .i64, .int .i64, .int .i64, .int .i64, .slice 55] r = true) (hw : ∀ x ∈ r, Wf K x) : isT r := by
  match r, h, hw with
  | [], h, _ => simp [koks] at h
  | [_], h, _ => simp [koks] at h
  | [_, _], h, _ => simp [koks] at h
  | [_, _, _], h, _ => simp [koks] at h
  | [_, _, _, _], h, _ => simp [koks] at h
  | [_, _, _, _, _], h, _ => simp [koks] at h
  | [_, _, _, _, _, _], h, _ => simp [koks] at h
  | _ :: _ :: _ :: _ :: _ :: _ :: _ :: _ :: _, h, _ => simp [koks] at h
  | [a, b, c, d, e, f, g], h, hw =>
    simp only [koks, Bool.and_eq_true] at h
    obtain ⟨k1, k2, k3, k4, k5, k6, k7, _⟩ := h
    cases a <;> simp only [kok, Bool.false_eq_true] at k1
    cases b <;> simp only [kok, Bool.false_eq_true] at k2
    cases c <;> simp only [kok, Bool.false_eq_true] at k3
    cases d <;> simp only [kok, Bool.false_eq_true] at k4
    cases e <;> simp only [kok, Bool.false_eq_true] at k5
    cases f <;> simp only [kok, Bool.false_eq_true] at k6
    cases g <;> simp only [kok, Bool.false_eq_true] at k7
    have e1 := eq_of_beq k1
    have e2 := eq_of_beq k2
    have e3 := eq_of_beq k3
    have e4 := eq_of_beq k4
    have e5 := eq_of_beq k5
    have e6 := eq_of_beq k6
    have e7 := eq_of_beq k7
    subst e1 e2 e3 e4 e5 e6 e7
    refine ⟨_, _, _, _, _, _, _, rfl, fun u hu => ?_⟩
    have := hw _ (List.mem_of_getElem? (i := 6) rfl)
    cases this with
    | list _ _ _ hk _ => exact u_of (hK ▸ hk u hu)
theorem set_of_arg {x : AV} (ha : (CX.ti 25).u.agg = true) (hk : (CX.ti 25).ks = [.slice 38, .slice 3, .int .i64, .int .i64]) (h38 : CX.K 38 = [.int .i64, .int .i64, .int .i64, .int .i64, .int .i64, .int .i64, .slice 55]) (h55 : CX.K 55 = [.int .i64, .int .i64]) (h : ArgAV CX 25 x) : ∃ T C sw ins, x = .agg [.list 38 T, .list 3 C, .int .i64 sw, .int .i64 ins] ∧ ∀ r ∈ T, isT r := by
  rcases h with ⟨_, row, rfl, h2, hw⟩ | ⟨h1, _⟩
  · rw [hk] at h2
    match row, h2, hw with
    | [], h2, _ => simp [koks] at h2
    | [_], h2, _ => simp [koks] at h2
    | [_, _], h2, _ => simp [koks] at h2
    | [_, _, _], h2, _ => simp [koks] at h2
    | a :: b :: c :: d :: e :: r, h2, _ => simp [koks] at h2
    | [a, b, c, d], h2, hw =>
      simp only [koks, Bool.and_eq_true] at h2
      obtain ⟨k1, k2, k3, k4, _⟩ := h2
      cases a <;> simp only [kok, Bool.false_eq_true] at k1
      cases b <;> simp only [kok, Bool.false_eq_true] at k2
      cases c <;> simp only [kok, Bool.false_eq_true] at k3
      cases d <;> simp only [kok, Bool.false_eq_true] at k4
      have e1 := eq_of_beq k1
      have e2 := eq_of_beq k2
      have e3 := eq_of_beq k3
      have e4 := eq_of_beq k4
      subst e1 e2 e3 e4
      refine ⟨_, _, _, _, rfl, fun r hr => ?_⟩
      have := hw _ (List.mem_of_getElem? (i := 0) rfl)
      cases this with
      | list _ _ _ hk hx => exact t_of h55 (h38 ▸ hk r hr) (hx r hr)
  · rw [ha] at h1; cases h1
theorem int_of_arg {t : TypeId} {x : AV} {k : IntKind} (ha : (CX.ti t).u.agg = false) (hk : (CX.ti t).ks = [.int k]) (h : ArgAV CX t x) : ∃ v, x = .int k v := by
  rcases h with ⟨h1, _⟩ | ⟨_, h2, _⟩
  · rw [ha] at h1; cases h1
  · rw [hk] at h2
    simp only [koks, Bool.and_true] at h2
    cases x <;> simp only [kok, Bool.false_eq_true] at h2
    have e := eq_of_beq h2
    subst e
    exact ⟨_, rfl⟩
theorem law5 (xs : List AV) (h : ArgsAV CX [25, 3, 3, 5] xs) : ∃ m M', FCalls CX 5 m xs [] (.bool true) M' := by
  match xs, h with
  | [x0, x1, x2, x3], ⟨hx0, hx1, hx2, hx3, _⟩ =>
    obtain ⟨T, C, sw, ins, rfl, hT⟩ := set_of_arg (by kernel_rfl) (by kernel_rfl) (by kernel_rfl) (by kernel_rfl) hx0
    obtain ⟨v1, rfl⟩ := int_of_arg (k := .i64) (by kernel_rfl) (by kernel_rfl) hx1
    obtain ⟨v2, rfl⟩ := int_of_arg (k := .i64) (by kernel_rfl) (by kernel_rfl) hx2
    obtain ⟨v3, rfl⟩ := int_of_arg (k := .u8) (by kernel_rfl) (by kernel_rfl) hx3
    exact ⟨_, _, soundF5 4294967296 (fun i => match i with | 0 => .agg [.list 38 T, .list 3 C, .int .i64 sw, .int .i64 ins] | 1 => .int .i64 v1 | 2 => .int .i64 v2 | _ => .int .u8 v3) [] (.r true) (more_true T C sw ins v1 v2 v3 hT)⟩
set_option maxRecDepth 100000 in
theorem lifted5 (os : Os) (started : os.Started) (H : Type) (enc : TypeId × Value → H) :
    ReturnsInHanded {} Try.checked os 5 .any (Rows.respMoreSpec.pre6 enc Try.prog Try.f5 Rows.respMoreRow.domain false) (Rows.respMoreSpec.post enc Try.prog Try.f5 false true false false) := by
  refine returnsInHanded_of_change (C := Try.checked) own started (by kernel_rfl) Try.func5
    (ChangeSpec.witness6 (enc := enc) (C := Try.checked) false { blocks := #[], args := #[.agg #[.slice none 0 0, .slice none 0 0, .int .i64 0, .int .i64 0], .int .i64 0, .int .i64 0, .int .u8 0], vars := [] } 8 (by kernel_rfl) (by kernel_rfl) (by kernel_rfl) (by kernel_rfl)) ?_
  intro W base args ds gs before hval hW _ _
  exact law_contract (X := CX) hX (fun _ => rfl) laidOut (ts := [25, 3, 3, 5]) (tb := 4) (S := rdL) (by kernel_rfl) (by kernel_rfl) Try.underlying4 (by kernel_rfl) (by kernel_rfl) (by kernel_rfl) rfl
    (fun ds hds => by match ds, hds with | [d0, d1, d2, d3], _ => rfl) law5 W base args ds gs before hval hW
theorem respMore_holds : Rows.RespMoreSaid :=
  OpenClaim.holds_of_wide 5 Try.f5 rfl rfl rfl rfl rfl rfl rfl ⟨rfl, rfl, rfl, rfl, rfl⟩ rfl rfl rfl rfl rfl (by kernel_rfl) Try.func5 (by kernel_rfl)
    (of_decide_eq_true (by kernel_rfl)) (by unfold Func.isWrapper; first | (rw [if_pos (by decide +kernel)]; kernel_rfl) | (rw [if_neg (by decide +kernel)]; exact ⟨rfl, rfl⟩))
    (fun os started H enc _ => lifted5 os started H enc)
#print axioms respMore_holds
end Go.Proofs.Ytbgdiljnmifakaa
