/-
  The functions of the code as typed functions, and that the code runs so. Printed by gen2.py.
  The functions of the code as typed functions, and that the code runs so. Printed by gen2.py.
  The functions of the code as typed functions, and that the code runs so. Printed by gen2.py.
  The functions of the code as typed functions, and that the code runs so. Printed by gen2.py.
  The functions of the code as typed functions, and that the code runs so. Printed by gen2.py.
  The functions of the code as typed functions, and that the code runs so. Printed by gen2.py.
  The functions of the code as typed functions, and that the code runs so. Printed by gen2.py.
  The functions of the code as typed functions, and that the code runs so. Printed by gen2.py.
  The functions of the code as typed functions, and that the code runs so. Printed by gen2.py.
  The functions of the code as typed functions, and that the code runs so. Printed by gen2.py.
  The functions of the code as typed functions, and that the code runs so. Printed by gen2.py.
  The functions of the code as typed functions, and that the code runs so. Printed by gen2.py.
  The functions of the code as typed functions, and that the code runs so. Printed by gen2.py.
  The functions of the code as typed functions, and that the code runs so. Printed by gen2.py.
  The functions of the code as typed functions, and that the code runs so. Printed by gen2.py.
  The functions of the code as typed functions, and that the code runs so. Printed by gen2.py.
  The functions of the code as typed functions, and that the code runs so. Printed by gen2.py.
  The functions of the code as typed functions, and that the code runs so. Printed by gen2.py.
  The functions of the code as typed functions, and that the code runs so. Printed by gen2.py.
  The functions of the code as typed functions, and that the code runs so. Printed by gen2.py.
  The functions of the code as typed functions, and that the code runs so. Printed by gen2.py.
  The functions of the code as typed functions, and that the code runs so. Printed by gen2.py.
  The functions of the code as typed functions, and that the code runs so. Printed by gen2.py.
  The functions of the code as typed functions, and that the code runs so. Printed by gen2.py.
  The functions of the code as typed functions, and that the code runs so. Printed by gen2.py.
  The functions of the code as typed functions, and that the code runs so. Printed by gen2.py.
  The functions of the code as typed functions, and that the code runs so. Printed by gen2.py.
  The functions of the code as typed functions, and that the code runs so. Printed by gen2.py.
  The functions of the code as typed functions, and that the code runs so. Printed by gen2.py.
  The functions of the code as typed functions, and that the code runs so. Printed by gen2.py.
  The functions of the code as typed functions, and that the code runs so. Printed by gen2.py.
  The functions of the code as typed functions, and that the code runs so. Printed by gen2.py.
  The functions of the code as typed functions, and that the code runs so. Printed by gen2.py.
  The functions of the code as typed functions, and that the code runs so. Printed by gen2.py.
  The functions of the code as typed functions, and that the code runs so. Printed by gen2.py.
  The functions of the code as typed functions, and that the code runs so. Printed by gen2.py.
-/
import Derived.Test.YtbgdiljnmifakaaSi4
import Derived.KernelRfl
set_option linter.all false
set_option linter.deprecated false
namespace Go.Proofs.Ytbgdiljnmifakaa
open Go Go.Eng
set_option maxRecDepth 100000
noncomputable section
end
end Go.Proofs.Ytbgdiljnmifakaa

namespace Go.Proofs.Ytbgdiljnmifakaa
open Go Go.Eng
set_option maxRecDepth 100000
noncomputable section
inductive R24 where
  | r (x0c2 : Int) (x0c3 : Int) (b0 : List Row) (b1 : List Row)
abbrev TF24 := Int → Option R24
def sgF24 : LSh := ⟨[(0, .one (.cell (.int .i64)))], []⟩
def FFF24 (Fx : TF24) (s : St) : Option R24 := Fx ((Eng.look s.env 0).toI)
def valF24 (o : R24) : AV := match o with | .r x0c2 x0c3 b0 b1 => .agg [.own 0, .own 1, .int .i64 x0c2, .int .i64 x0c3]
def memF24 (o : R24) : List Blk := match o with | .r x0c2 x0c3 b0 b1 => [.row 38 b0, .row 3 b1]
def elF24 {R : Type} (o : R24) (k : AV → List Blk → Option R) : Option R := match o with | .r x0c2 x0c3 b0 b1 => k (.agg [.own 0, .own 1, .int .i64 x0c2, .int .i64 x0c3]) [.row 38 b0, .row 3 b1]
def RecOkF24 (Fx : TF24) : Prop := ∀ lk M o, FFF24 Fx (canS sgF24 lk M) = some o → FCalls CX 24 0 (argsE 1 (canS sgF24 lk M).env) (canS sgF24 lk M).mem (valF24 o) (memF24 o)
noncomputable def csF24 (N : Nat) (R : Type) : List (CE R) := []
theorem hcsF24 (N : Nat) (R : Type) : AllE (CeOk CX) (csF24 N R) := trivial
inductive OL24a58 where
  | x0 (b0c2 : Int) (b0c3 : Int) (b1 : List Row) (b2 : List Row)
def L24a58 (N : Nat) : Nat → Int → Int → Int → List Row → List Row → Option OL24a58
  | 0 => fun _ _ _ _ _ => none
  | n + 1 => fun x4 b0c2 b0c3 b1 b2 =>
    match decide (x4 < (3 : Int)) with
    | true =>
      tst (decide ((0 : Int) ≤ x4)) <|
      tst (decide ((0 : Int) ≤ x4)) <|
      tst (decide (((b1.length + 1) * 72) ≤ 140737488355328)) <|
      L24a58 N n (IntKind.wrap .i64 (x4 + (1 : Int))) b0c2 b0c3 (b1 ++ (([[.int .i64 x4, .int .i64 (IntKind.wrap .i64 ((3 : Int) - x4)), .int .i64 (IntKind.wrap .i64 (4 * 2 ^ ((min x4.toNat 64)))), .int .i64 (IntKind.wrap .i64 (4 * 2 ^ ((min x4.toNat 64)))), .int .i64 0, .int .i64 (IntKind.wrap .i64 (x4 + (1 : Int))), .list 55 ([])]] : List Row))) b2
    | false =>
      some (.x0 b0c2 b0c3 b1 b2)
def LFL24a58 (N : Nat) (n : Nat) (s : St) : Option OL24a58 := L24a58 N n ((Eng.look s.env 4).toI) (((s.mem.getD 0 .dead).cells.getD 2 .top).toI) (((s.mem.getD 0 .dead).cells.getD 3 .top).toI) ((s.mem.getD 1 .dead).rows) ((s.mem.getD 2 .dead).rows)
def sgL24a58 : LSh := ⟨[(3, .one (.ptr 0 0 0)), (4, .one (.cell (.int .i64)))], [.var [.any, .any, .int .i64, .int .i64] [.own 1, .own 2, .cell (.int .i64), .cell (.int .i64)], .row 38, .row 3]⟩
def ceL24a58 : List Cv := [.mkc (fun env M => (Eng.look env 3).id) 0 38, .mkc (fun env M => (Eng.look env 3).id) 1 3]
def seL24a58 : St → List Nat := fun st => [(Eng.look st.env 3).id, ((st.mem.getD ((Eng.look st.env 3).id) .dead).cells.getD 0 .top).id, ((st.mem.getD ((Eng.look st.env 3).id) .dead).cells.getD 1 .top).id]
def xL24a58wx0 : XSh OL24a58 := ⟨[], ⟨[], [.var [.any, .any, .int .i64, .int .i64] [.own 1, .own 2, .cell (.int .i64), .cell (.int .i64)], .row 38, .row 3]⟩, fun st => [0, ((st.mem.getD 0 .dead).cells.getD 0 .top).id, ((st.mem.getD 0 .dead).cells.getD 1 .top).id], fun s => .x0 (((s.mem.getD 0 .dead).cells.getD 2 .top).toI) (((s.mem.getD 0 .dead).cells.getD 3 .top).toI) ((s.mem.getD 1 .dead).rows) ((s.mem.getD 2 .dead).rows)⟩
def xsL24a58 : Ex → St → Option (XSh OL24a58) := fun e st => match e with
  | .exit 0 => some xL24a58wx0
  | _ => none
def exL24a58 (o : OL24a58) : Ex := match o with | .x0 b0c2 b0c3 b1 b2 => (.exit 0)
def stL24a58 (o : OL24a58) : St := match o with | .x0 b0c2 b0c3 b1 b2 => ⟨[], [.var [.any, .any, .int .i64, .int .i64] [.own 1, .own 2, .int .i64 b0c2, .int .i64 b0c3], .row 38 b1, .row 3 b2], [], .unk⟩
def elL24a58 {R : Type} (o : OL24a58) (k : Ex → St → Option R) : Option R := match o with | .x0 b0c2 b0c3 b1 b2 => k (.exit 0) ⟨[], [.var [.any, .any, .int .i64, .int .i64] [.own 1, .own 2, .int .i64 b0c2, .int .i64 b0c3], .row 38 b1, .row 3 b2], [], .unk⟩
theorem heL24a58 {R : Type} (o : OL24a58) (k : Ex → St → Option R) : elL24a58 o k = k (exL24a58 o) (stL24a58 o) := by cases o <;> rfl
theorem hxL24a58 : ∀ e st x, xsL24a58 e st = some x → outOk x e exL24a58 stL24a58 := by
  intro e st x h
  unfold xsL24a58 at h
  repeat' split at h
  all_goals first
    | (injection h with h; subst h; exact fun lk M => ⟨rfl, rfl⟩)
    | cases h
noncomputable def T24ul58 (N : Nat) (R : Type) : LTab R := mkTab ⟨37, 33554384⟩ (csF24 N R) (noY) [] [] []
theorem okT24ul58 (N : Nat) (R : Type) : (T24ul58 N R).Ok CX code24 := mkTab_ok (hcsF24 N R) (noY_ok) (trivial) (trivial) (trivial)
noncomputable def bdL24a58 : Code := match codeAt code24 [false, true, false, true, true] with | some (.loop c) => c | _ => .skip
theorem hsL24a58 (N : Nat) : ∀ (n : Nat) (lk : Nat → AV) (M : List Blk), LFL24a58 N (n + 1) (canS sgL24a58 lk M) = evk CX (T24ul58 N OL24a58) bdL24a58 (2 * 58) (canS sgL24a58 lk M) (kont CX 1 [] sgL24a58 (fun st => [0, ((st.mem.getD 0 .dead).cells.getD 0 .top).id, ((st.mem.getD 0 .dead).cells.getD 1 .top).id]) xsL24a58 (LFL24a58 N n)) := by intro n lk M; kernel_rfl
noncomputable def T24ur1 (N : Nat) (R : Type) : LTab R := mkTab ⟨37, 137438953471⟩ (csF24 N R) (noY) [(58, fun st k => callLoop CX 1 33554384 ceL24a58 sgL24a58 seL24a58 ⟨37, 137438953471⟩ (LFL24a58 N N) elL24a58 st k)] [] []
theorem okT24ur1 (N : Nat) (R : Type) : (T24ur1 N R).Ok CX code24 := mkTab_ok (hcsF24 N R) (noY_ok) (⟨loop_ok hX (path := [false, true, false, true, true]) (by kernel_rfl) (by rfl) (okT24ul58 N OL24a58) (fun _ _ => rfl) (hsL24a58 N) hxL24a58 rfl heL24a58, trivial⟩) (trivial) (trivial)
def rsF24 : List ResultVar := [.cell 2 25]
def F24 : Nat → TF24
  | 0 => fun _ => none
  | N + 1 => fun x0 =>
    match L24a58 N N 0 0 1 (([] : List Row)) (([] : List Row)) with
    | none => none
    | some (.x0 b0c2v1 b0c3v1 b1v1 b2v1) =>
      match decide ((0 : Int) ≤ x0) with
      | true =>
        tst (decide ((2 : Int) < ((b1v1.length : Int)))) <|
        tst (decide (2 < b1v1.length)) <|
        some (.r b0c2v1 b0c3v1 (b1v1.set 2 (Eng.setAt ((b1v1.getD 2 [])) 6 [.list 55 (([[.int .i64 0, .int .i64 2]] : List Row))])) (([[.int .i64 x0]] : List Row)))
      | false =>
        some (.r b0c2v1 b0c3v1 b1v1 b2v1)
def xRF24 : XSh R24 := ⟨[], ⟨[(0, .agg [.own 0, .own 1, .cell (.int .i64), .cell (.int .i64)])], [.row 38, .row 3]⟩, fun st => [((Eng.look st.env 0).cells.getD 0 .top).id, ((Eng.look st.env 0).cells.getD 1 .top).id], fun s => .r (((Eng.look s.env 0).cells.getD 2 .top).toI) (((Eng.look s.env 0).cells.getD 3 .top).toI) ((s.mem.getD 0 .dead).rows) ((s.mem.getD 1 .dead).rows)⟩
theorem fsF24 : ∀ (N : Nat) (lk : Nat → AV) (M : List Blk), FFF24 (F24 (N + 1)) (canS sgF24 lk M) = evfn CX (T24ur1 N R24) code24 rsF24 (argsE 1 (canS sgF24 lk M).env) (canS sgF24 lk M).mem (goR CX 0 (fun _ => some xRF24)) := by intro N lk M; kernel_rfl
theorem soundF24 : ∀ N, RecOkF24 (F24 N)
  | 0, lk, M, o, h => by cases h
  | N + 1, lk, M, o, h => fn_sound hX (okT24ur1 N R24) Try.func24 hb24 rfl en24 (by kernel_rfl) (ys := fun _ => some xRF24) (fun st y h => by injection h with h; subst h; exact fun lk M => ⟨rfl, rfl⟩) ((fsF24 N lk M).symm.trans h)
def cvce24n0 : List Cv := []
def selce24n0 : St → List Nat := fun _ => []
noncomputable def ce24n0 (Fx : TF24) (R : Type) (test : List AV → List Blk → Bool) : CE R := ⟨24, test, fun args M => some (selce24n0 ⟨argEnv 0 args, M, [], .unk⟩), fun args M k => tst (Nat.beq args.length 1) (callFn CX 0 cvce24n0 sgF24 selce24n0 (FFF24 Fx) elF24 args M k)⟩
theorem okce24n0 (Fx : TF24) (h : RecOkF24 Fx) (R : Type) (test : List AV → List Blk → Bool) : CeOk CX (ce24n0 Fx R test) := ce_ok hX (fun o k => by cases o; rfl) h en24 (fun args M ids h => by injection h with h; exact ⟨rfl, h.symm⟩)
end
end Go.Proofs.Ytbgdiljnmifakaa

namespace Go.Proofs.Ytbgdiljnmifakaa
open Go Go.Eng
set_option maxRecDepth 100000
noncomputable section
inductive R31 where
  | r (x0 : Bool)
abbrev TF31 := Int → Int → Int → Option R31
def sgF31 : LSh := ⟨[(0, .one (.cell (.int .i64))), (1, .one (.cell (.int .i64))), (2, .one (.cell (.int .i64)))], []⟩
def FFF31 (Fx : TF31) (s : St) : Option R31 := Fx ((Eng.look s.env 0).toI) ((Eng.look s.env 1).toI) ((Eng.look s.env 2).toI)
def valF31 (o : R31) : AV := match o with | .r x0 => .bool x0
def memF31 (o : R31) : List Blk := match o with | .r x0 => []
def elF31 {R : Type} (o : R31) (k : AV → List Blk → Option R) : Option R := match o with | .r x0 => k (.bool x0) []
def RecOkF31 (Fx : TF31) : Prop := ∀ lk M o, FFF31 Fx (canS sgF31 lk M) = some o → FCalls CX 31 0 (argsE 3 (canS sgF31 lk M).env) (canS sgF31 lk M).mem (valF31 o) (memF31 o)
noncomputable def csF31 (N : Nat) (R : Type) : List (CE R) := []
theorem hcsF31 (N : Nat) (R : Type) : AllE (CeOk CX) (csF31 N R) := trivial
noncomputable def T31ur1 (N : Nat) (R : Type) : LTab R := mkTab ⟨15, 32767⟩ (csF31 N R) (noY) [] [] []
theorem okT31ur1 (N : Nat) (R : Type) : (T31ur1 N R).Ok CX code31 := mkTab_ok (hcsF31 N R) (noY_ok) (trivial) (trivial) (trivial)
def rsF31 : List ResultVar := [.tmp 6]
def F31 : Nat → TF31
  | 0 => fun _ _ _ => none
  | N + 1 => fun x0 x1 x2 =>
    match decide (x1 ≤ x0) with
    | true =>
      some (.r (decide (x0 ≤ x2)))
    | false =>
      some (.r false)
def xRF31 : XSh R31 := ⟨[], ⟨[(0, .one (.cell (.bool)))], []⟩, fun _ => [], fun s => .r ((Eng.look s.env 0).toB)⟩
theorem fsF31 : ∀ (N : Nat) (lk : Nat → AV) (M : List Blk), FFF31 (F31 (N + 1)) (canS sgF31 lk M) = evfn CX (T31ur1 N R31) code31 rsF31 (argsE 3 (canS sgF31 lk M).env) (canS sgF31 lk M).mem (goR CX 0 (fun _ => some xRF31)) := by intro N lk M; kernel_rfl
theorem soundF31 : ∀ N, RecOkF31 (F31 N)
  | 0, lk, M, o, h => by cases h
  | N + 1, lk, M, o, h => fn_sound hX (okT31ur1 N R31) Try.func31 hb31 rfl en31 (by kernel_rfl) (ys := fun _ => some xRF31) (fun st y h => by injection h with h; subst h; exact fun lk M => ⟨rfl, rfl⟩) ((fsF31 N lk M).symm.trans h)
def cvce31n0 : List Cv := []
def selce31n0 : St → List Nat := fun _ => []
noncomputable def ce31n0 (Fx : TF31) (R : Type) (test : List AV → List Blk → Bool) : CE R := ⟨31, test, fun args M => some (selce31n0 ⟨argEnv 0 args, M, [], .unk⟩), fun args M k => tst (Nat.beq args.length 3) (callFn CX 0 cvce31n0 sgF31 selce31n0 (FFF31 Fx) elF31 args M k)⟩
theorem okce31n0 (Fx : TF31) (h : RecOkF31 Fx) (R : Type) (test : List AV → List Blk → Bool) : CeOk CX (ce31n0 Fx R test) := ce_ok hX (fun o k => by cases o; rfl) h en31 (fun args M ids h => by injection h with h; exact ⟨rfl, h.symm⟩)
end
end Go.Proofs.Ytbgdiljnmifakaa

namespace Go.Proofs.Ytbgdiljnmifakaa
open Go Go.Eng
set_option maxRecDepth 100000
noncomputable section
inductive R33 where
  | r (x0 : Bool)
abbrev TF33 := Int → Option R33
def sgF33 : LSh := ⟨[(0, .one (.cell (.int .i64)))], []⟩
def FFF33 (Fx : TF33) (s : St) : Option R33 := Fx ((Eng.look s.env 0).toI)
def valF33 (o : R33) : AV := match o with | .r x0 => .bool x0
def memF33 (o : R33) : List Blk := match o with | .r x0 => []
def elF33 {R : Type} (o : R33) (k : AV → List Blk → Option R) : Option R := match o with | .r x0 => k (.bool x0) []
def RecOkF33 (Fx : TF33) : Prop := ∀ lk M o, FFF33 Fx (canS sgF33 lk M) = some o → FCalls CX 33 0 (argsE 1 (canS sgF33 lk M).env) (canS sgF33 lk M).mem (valF33 o) (memF33 o)
noncomputable def csF33 (N : Nat) (R : Type) : List (CE R) := []
theorem hcsF33 (N : Nat) (R : Type) : AllE (CeOk CX) (csF33 N R) := trivial
noncomputable def T33ur1 (N : Nat) (R : Type) : LTab R := mkTab ⟨9, 511⟩ (csF33 N R) (noY) [] [] []
theorem okT33ur1 (N : Nat) (R : Type) : (T33ur1 N R).Ok CX code33 := mkTab_ok (hcsF33 N R) (noY_ok) (trivial) (trivial) (trivial)
def rsF33 : List ResultVar := [.tmp 2]
def F33 : Nat → TF33
  | 0 => fun _ => none
  | N + 1 => fun x0 =>
    match decide (x0 < (0 : Int)) with
    | true =>
      some (.r true)
    | false =>
      some (.r (decide ((31 : Int) < x0)))
def xRF33 : XSh R33 := ⟨[], ⟨[(0, .one (.cell (.bool)))], []⟩, fun _ => [], fun s => .r ((Eng.look s.env 0).toB)⟩
theorem fsF33 : ∀ (N : Nat) (lk : Nat → AV) (M : List Blk), FFF33 (F33 (N + 1)) (canS sgF33 lk M) = evfn CX (T33ur1 N R33) code33 rsF33 (argsE 1 (canS sgF33 lk M).env) (canS sgF33 lk M).mem (goR CX 0 (fun _ => some xRF33)) := by intro N lk M; kernel_rfl
theorem soundF33 : ∀ N, RecOkF33 (F33 N)
  | 0, lk, M, o, h => by cases h
  | N + 1, lk, M, o, h => fn_sound hX (okT33ur1 N R33) Try.func33 hb33 rfl en33 (by kernel_rfl) (ys := fun _ => some xRF33) (fun st y h => by injection h with h; subst h; exact fun lk M => ⟨rfl, rfl⟩) ((fsF33 N lk M).symm.trans h)
def cvce33n0 : List Cv := []
def selce33n0 : St → List Nat := fun _ => []
noncomputable def ce33n0 (Fx : TF33) (R : Type) (test : List AV → List Blk → Bool) : CE R := ⟨33, test, fun args M => some (selce33n0 ⟨argEnv 0 args, M, [], .unk⟩), fun args M k => tst (Nat.beq args.length 1) (callFn CX 0 cvce33n0 sgF33 selce33n0 (FFF33 Fx) elF33 args M k)⟩
theorem okce33n0 (Fx : TF33) (h : RecOkF33 Fx) (R : Type) (test : List AV → List Blk → Bool) : CeOk CX (ce33n0 Fx R test) := ce_ok hX (fun o k => by cases o; rfl) h en33 (fun args M ids h => by injection h with h; exact ⟨rfl, h.symm⟩)
end
end Go.Proofs.Ytbgdiljnmifakaa

namespace Go.Proofs.Ytbgdiljnmifakaa
open Go Go.Eng
set_option maxRecDepth 100000
noncomputable section
inductive R45 where
  | r (x0 : Int)
abbrev TF45 := List Row → Option R45
def sgF45 : LSh := ⟨[(0, .one (.cell (.slice 3))), (1, .one (.fn 33))], []⟩
def FFF45 (Fx : TF45) (s : St) : Option R45 := Fx ((Eng.look s.env 0).rows)
def valF45 (o : R45) : AV := match o with | .r x0 => .int .i64 x0
def memF45 (o : R45) : List Blk := match o with | .r x0 => []
def elF45 {R : Type} (o : R45) (k : AV → List Blk → Option R) : Option R := match o with | .r x0 => k (.int .i64 x0) []
def RecOkF45 (Fx : TF45) : Prop := ∀ lk M o, FFF45 Fx (canS sgF45 lk M) = some o → FCalls CX 45 0 (argsE 2 (canS sgF45 lk M).env) (canS sgF45 lk M).mem (valF45 o) (memF45 o)
noncomputable def csF45 (N : Nat) (R : Type) : List (CE R) := [ce33n0 (F33 N) R (fun _ _ => true)]
theorem hcsF45 (N : Nat) (R : Type) : AllE (CeOk CX) (csF45 N R) := ⟨okce33n0 (F33 N) (soundF33 N) R (fun _ _ => true), trivial⟩
inductive OL45a26 where
  | ret (x4 : Int)
  | x0
def L45a26 (N : Nat) : Nat → List Row → Int → Int → Option OL45a26
  | 0 => fun _ _ _ => none
  | n + 1 => fun x0 x7 x8 =>
    match decide (x8 < x7) with
    | true =>
      tst (decide ((0 : Int) ≤ x8) && decide (x8 < ((x0.length : Int)))) <|
      match F33 N ((((x0.getD x8.toNat [])).getD 0 .top).toI) with
      | none => none
      | some (.r rx0v1) =>
        match rx0v1 with
        | true =>
          some (.ret x8)
        | false =>
          L45a26 N n x0 x7 (IntKind.wrap .i64 (x8 + (1 : Int)))
    | false =>
      some .x0
def LFL45a26 (N : Nat) (n : Nat) (s : St) : Option OL45a26 := L45a26 N n ((Eng.look s.env 0).rows) ((Eng.look s.env 7).toI) ((Eng.look s.env 8).toI)
def sgL45a26 : LSh := ⟨[(0, .one (.cell (.slice 3))), (1, .one (.fn 33)), (7, .one (.cell (.int .i64))), (8, .one (.cell (.int .i64)))], []⟩
def ceL45a26 : List Cv := []
def seL45a26 : St → List Nat := fun _ => []
def xL45a26wret : XSh OL45a26 := ⟨[], ⟨[(4, .one (.cell (.int .i64)))], []⟩, fun _ => [], fun s => .ret ((Eng.look s.env 4).toI)⟩
def xL45a26wx0 : XSh OL45a26 := ⟨[], ⟨[], []⟩, fun _ => [], fun s => .x0 ⟩
def xsL45a26 : Ex → St → Option (XSh OL45a26) := fun e st => match e with
  | .ret => some xL45a26wret
  | .exit 0 => some xL45a26wx0
  | _ => none
def exL45a26 (o : OL45a26) : Ex := match o with | .ret x4 => .ret | .x0 => (.exit 0)
def stL45a26 (o : OL45a26) : St := match o with | .ret x4 => ⟨[(4, .int .i64 x4)], [], [], .unk⟩ | .x0 => ⟨[], [], [], .unk⟩
def elL45a26 {R : Type} (o : OL45a26) (k : Ex → St → Option R) : Option R := match o with | .ret x4 => k .ret ⟨[(4, .int .i64 x4)], [], [], .unk⟩ | .x0 => k (.exit 0) ⟨[], [], [], .unk⟩
theorem heL45a26 {R : Type} (o : OL45a26) (k : Ex → St → Option R) : elL45a26 o k = k (exL45a26 o) (stL45a26 o) := by cases o <;> rfl
theorem hxL45a26 : ∀ e st x, xsL45a26 e st = some x → outOk x e exL45a26 stL45a26 := by
  intro e st x h
  unfold xsL45a26 at h
  repeat' split at h
  all_goals first
    | (injection h with h; subst h; exact fun lk M => ⟨rfl, rfl⟩)
    | cases h
noncomputable def T45ul26 (N : Nat) (R : Type) : LTab R := mkTab ⟨19, 524080⟩ (csF45 N R) (noY) [] [] []
theorem okT45ul26 (N : Nat) (R : Type) : (T45ul26 N R).Ok CX code45 := mkTab_ok (hcsF45 N R) (noY_ok) (trivial) (trivial) (trivial)
noncomputable def bdL45a26 : Code := match codeAt code45 [false, true, false, true] with | some (.loop c) => c | _ => .skip
theorem hsL45a26 (N : Nat) : ∀ (n : Nat) (lk : Nat → AV) (M : List Blk), LFL45a26 N (n + 1) (canS sgL45a26 lk M) = evk CX (T45ul26 N OL45a26) bdL45a26 (2 * 26) (canS sgL45a26 lk M) (kont CX 0 [] sgL45a26 (fun _ => []) xsL45a26 (LFL45a26 N n)) := by intro n lk M; kernel_rfl
noncomputable def T45ur1 (N : Nat) (R : Type) : LTab R := mkTab ⟨19, 524287⟩ (csF45 N R) (noY) [(26, fun st k => callLoop CX 0 524080 ceL45a26 sgL45a26 seL45a26 ⟨19, 524287⟩ (LFL45a26 N N) elL45a26 st k)] [] []
theorem okT45ur1 (N : Nat) (R : Type) : (T45ur1 N R).Ok CX code45 := mkTab_ok (hcsF45 N R) (noY_ok) (⟨loop_ok hX (path := [false, true, false, true]) (by kernel_rfl) (by rfl) (okT45ul26 N OL45a26) (fun _ _ => rfl) (hsL45a26 N) hxL45a26 rfl heL45a26, trivial⟩) (trivial) (trivial)
def rsF45 : List ResultVar := [.tmp 4]
def F45 : Nat → TF45
  | 0 => fun _ => none
  | N + 1 => fun x0 =>
    match L45a26 N N x0 ((x0.length : Int)) 0 with
    | none => none
    | some (.ret x4v2) =>
      some (.r x4v2)
    | some (.x0) =>
      some (.r ((-1)))
def xRF45 : XSh R45 := ⟨[], ⟨[(0, .one (.cell (.int .i64)))], []⟩, fun _ => [], fun s => .r ((Eng.look s.env 0).toI)⟩
theorem fsF45 : ∀ (N : Nat) (lk : Nat → AV) (M : List Blk), FFF45 (F45 (N + 1)) (canS sgF45 lk M) = evfn CX (T45ur1 N R45) code45 rsF45 (argsE 2 (canS sgF45 lk M).env) (canS sgF45 lk M).mem (goR CX 0 (fun _ => some xRF45)) := by intro N lk M; kernel_rfl
theorem soundF45 : ∀ N, RecOkF45 (F45 N)
  | 0, lk, M, o, h => by cases h
  | N + 1, lk, M, o, h => fn_sound hX (okT45ur1 N R45) Try.func45 hb45 rfl en45 (by kernel_rfl) (ys := fun _ => some xRF45) (fun st y h => by injection h with h; subst h; exact fun lk M => ⟨rfl, rfl⟩) ((fsF45 N lk M).symm.trans h)
def cvce45n0 : List Cv := []
def selce45n0 : St → List Nat := fun _ => []
noncomputable def ce45n0 (Fx : TF45) (R : Type) (test : List AV → List Blk → Bool) : CE R := ⟨45, test, fun args M => some (selce45n0 ⟨argEnv 0 args, M, [], .unk⟩), fun args M k => tst (Nat.beq args.length 2) (callFn CX 0 cvce45n0 sgF45 selce45n0 (FFF45 Fx) elF45 args M k)⟩
theorem okce45n0 (Fx : TF45) (h : RecOkF45 Fx) (R : Type) (test : List AV → List Blk → Bool) : CeOk CX (ce45n0 Fx R test) := ce_ok hX (fun o k => by cases o; rfl) h en45 (fun args M ids h => by injection h with h; exact ⟨rfl, h.symm⟩)
end
end Go.Proofs.Ytbgdiljnmifakaa

namespace Go.Proofs.Ytbgdiljnmifakaa
open Go Go.Eng
set_option maxRecDepth 100000
noncomputable section
inductive R32 where
  | r (x0 : Bool)
abbrev TF32 := List Row → Option R32
def sgF32 : LSh := ⟨[(0, .one (.cell (.slice 3))), (1, .one (.fn 33))], []⟩
def FFF32 (Fx : TF32) (s : St) : Option R32 := Fx ((Eng.look s.env 0).rows)
def valF32 (o : R32) : AV := match o with | .r x0 => .bool x0
def memF32 (o : R32) : List Blk := match o with | .r x0 => []
def elF32 {R : Type} (o : R32) (k : AV → List Blk → Option R) : Option R := match o with | .r x0 => k (.bool x0) []
def RecOkF32 (Fx : TF32) : Prop := ∀ lk M o, FFF32 Fx (canS sgF32 lk M) = some o → FCalls CX 32 0 (argsE 2 (canS sgF32 lk M).env) (canS sgF32 lk M).mem (valF32 o) (memF32 o)
noncomputable def csF32 (N : Nat) (R : Type) : List (CE R) := [ce45n0 (F45 N) R (fun _ _ => true)]
theorem hcsF32 (N : Nat) (R : Type) : AllE (CeOk CX) (csF32 N R) := ⟨okce45n0 (F45 N) (soundF45 N) R (fun _ _ => true), trivial⟩
noncomputable def T32ur1 (N : Nat) (R : Type) : LTab R := mkTab ⟨9, 511⟩ (csF32 N R) (noY) [] [] []
theorem okT32ur1 (N : Nat) (R : Type) : (T32ur1 N R).Ok CX code32 := mkTab_ok (hcsF32 N R) (noY_ok) (trivial) (trivial) (trivial)
def rsF32 : List ResultVar := [.tmp 4]
def F32 : Nat → TF32
  | 0 => fun _ => none
  | N + 1 => fun x0 =>
    match F45 N x0 with
    | none => none
    | some (.r rx0v1) =>
      some (.r (decide ((0 : Int) ≤ rx0v1)))
def xRF32 : XSh R32 := ⟨[], ⟨[(0, .one (.cell (.bool)))], []⟩, fun _ => [], fun s => .r ((Eng.look s.env 0).toB)⟩
theorem fsF32 : ∀ (N : Nat) (lk : Nat → AV) (M : List Blk), FFF32 (F32 (N + 1)) (canS sgF32 lk M) = evfn CX (T32ur1 N R32) code32 rsF32 (argsE 2 (canS sgF32 lk M).env) (canS sgF32 lk M).mem (goR CX 0 (fun _ => some xRF32)) := by intro N lk M; kernel_rfl
theorem soundF32 : ∀ N, RecOkF32 (F32 N)
  | 0, lk, M, o, h => by cases h
  | N + 1, lk, M, o, h => fn_sound hX (okT32ur1 N R32) Try.func32 hb32 rfl en32 (by kernel_rfl) (ys := fun _ => some xRF32) (fun st y h => by injection h with h; subst h; exact fun lk M => ⟨rfl, rfl⟩) ((fsF32 N lk M).symm.trans h)
def cvce32n0 : List Cv := []
def selce32n0 : St → List Nat := fun _ => []
noncomputable def ce32n0 (Fx : TF32) (R : Type) (test : List AV → List Blk → Bool) : CE R := ⟨32, test, fun args M => some (selce32n0 ⟨argEnv 0 args, M, [], .unk⟩), fun args M k => tst (Nat.beq args.length 2) (callFn CX 0 cvce32n0 sgF32 selce32n0 (FFF32 Fx) elF32 args M k)⟩
theorem okce32n0 (Fx : TF32) (h : RecOkF32 Fx) (R : Type) (test : List AV → List Blk → Bool) : CeOk CX (ce32n0 Fx R test) := ce_ok hX (fun o k => by cases o; rfl) h en32 (fun args M ids h => by injection h with h; exact ⟨rfl, h.symm⟩)
end
end Go.Proofs.Ytbgdiljnmifakaa

namespace Go.Proofs.Ytbgdiljnmifakaa
open Go Go.Eng
set_option maxRecDepth 100000
noncomputable section
inductive R34 where
  | r (x0 : Bool)
abbrev TF34 := List Row → List Row → Int → Int → Int → Int → Int → Int → Int → Int → List Row → Option R34
def sgF34 : LSh := ⟨[(0, .agg [.cell (.slice 38), .cell (.slice 3), .cell (.int .i64), .cell (.int .i64)]), (1, .agg [.cell (.int .i64), .cell (.int .i64), .cell (.int .i64), .cell (.int .i64), .cell (.int .i64), .cell (.int .i64), .cell (.slice 55)])], []⟩
def FFF34 (Fx : TF34) (s : St) : Option R34 := Fx (((Eng.look s.env 0).cells.getD 0 .top).rows) (((Eng.look s.env 0).cells.getD 1 .top).rows) (((Eng.look s.env 0).cells.getD 2 .top).toI) (((Eng.look s.env 0).cells.getD 3 .top).toI) (((Eng.look s.env 1).cells.getD 0 .top).toI) (((Eng.look s.env 1).cells.getD 1 .top).toI) (((Eng.look s.env 1).cells.getD 2 .top).toI) (((Eng.look s.env 1).cells.getD 3 .top).toI) (((Eng.look s.env 1).cells.getD 4 .top).toI) (((Eng.look s.env 1).cells.getD 5 .top).toI) (((Eng.look s.env 1).cells.getD 6 .top).rows)
def valF34 (o : R34) : AV := match o with | .r x0 => .bool x0
def memF34 (o : R34) : List Blk := match o with | .r x0 => []
def elF34 {R : Type} (o : R34) (k : AV → List Blk → Option R) : Option R := match o with | .r x0 => k (.bool x0) []
def RecOkF34 (Fx : TF34) : Prop := ∀ lk M o, FFF34 Fx (canS sgF34 lk M) = some o → FCalls CX 34 0 (argsE 2 (canS sgF34 lk M).env) (canS sgF34 lk M).mem (valF34 o) (memF34 o)
noncomputable def csF34 (N : Nat) (R : Type) : List (CE R) := [ce31n0 (F31 N) R (fun _ _ => true)]
theorem hcsF34 (N : Nat) (R : Type) : AllE (CeOk CX) (csF34 N R) := ⟨okce31n0 (F31 N) (soundF31 N) R (fun _ _ => true), trivial⟩
inductive OL34a58 where
  | ret (x4 : Bool) (b0c0 : List Row) (b0c1 : List Row) (b0c2 : Int) (b0c3 : Int) (b1c0 : Int) (b1c1 : Int) (b1c2 : Int) (b1c3 : Int) (b1c4 : Int) (b1c5 : Int) (b1c6 : List Row)
  | x0 (b0c0 : List Row) (b0c1 : List Row) (b0c2 : Int) (b0c3 : Int) (b1c0 : Int) (b1c1 : Int) (b1c2 : Int) (b1c3 : Int) (b1c4 : Int) (b1c5 : Int) (b1c6 : List Row)
def L34a58 (N : Nat) : Nat → Int → List Row → Int → Int → List Row → List Row → Int → Int → Int → Int → Int → Int → Int → Int → List Row → Option OL34a58
  | 0 => fun _ _ _ _ _ _ _ _ _ _ _ _ _ _ _ => none
  | n + 1 => fun x5 x9 x10 x11 b0c0 b0c1 b0c2 b0c3 b1c0 b1c1 b1c2 b1c3 b1c4 b1c5 b1c6 =>
    match decide (x11 < x10) with
    | true =>
      tst (decide ((0 : Int) ≤ x11) && decide (x11 < ((x9.length : Int)))) <|
      match decide (((((x9.getD x11.toNat [])).getD 0 .top).toI) ≤ x5) with
      | true =>
        some (.ret false b0c0 b0c1 b0c2 b0c3 b1c0 b1c1 b1c2 b1c3 b1c4 b1c5 b1c6)
      | false =>
        match decide (((b0c1.length : Int)) ≤ ((((x9.getD x11.toNat [])).getD 0 .top).toI)) with
        | true =>
          some (.ret false b0c0 b0c1 b0c2 b0c3 b1c0 b1c1 b1c2 b1c3 b1c4 b1c5 b1c6)
        | false =>
          match F31 N ((((x9.getD x11.toNat [])).getD 1 .top).toI) 1 b1c5 with
          | none => none
          | some (.r rx0v1) =>
            match !rx0v1 with
            | true =>
              some (.ret false b0c0 b0c1 b0c2 b0c3 b1c0 b1c1 b1c2 b1c3 b1c4 b1c5 b1c6)
            | false =>
              tst (decide ((0 : Int) ≤ ((((x9.getD x11.toNat [])).getD 0 .top).toI)) && decide ((((x9.getD x11.toNat [])).getD 0 .top).toI < ((b0c1.length : Int)))) <|
              match decide (((((b0c1.getD (((((x9.getD x11.toNat [])).getD 0 .top).toI).toNat) [])).getD 0 .top).toI) < b1c1) with
              | true =>
                some (.ret false b0c0 b0c1 b0c2 b0c3 b1c0 b1c1 b1c2 b1c3 b1c4 b1c5 b1c6)
              | false =>
                L34a58 N n ((((x9.getD x11.toNat [])).getD 0 .top).toI) x9 x10 (IntKind.wrap .i64 (x11 + (1 : Int))) b0c0 b0c1 b0c2 b0c3 b1c0 b1c1 b1c2 b1c3 b1c4 b1c5 b1c6
    | false =>
      some (.x0 b0c0 b0c1 b0c2 b0c3 b1c0 b1c1 b1c2 b1c3 b1c4 b1c5 b1c6)
def LFL34a58 (N : Nat) (n : Nat) (s : St) : Option OL34a58 := L34a58 N n ((Eng.look s.env 5).toI) ((Eng.look s.env 9).rows) ((Eng.look s.env 10).toI) ((Eng.look s.env 11).toI) (((s.mem.getD 0 .dead).cells.getD 0 .top).rows) (((s.mem.getD 0 .dead).cells.getD 1 .top).rows) (((s.mem.getD 0 .dead).cells.getD 2 .top).toI) (((s.mem.getD 0 .dead).cells.getD 3 .top).toI) (((s.mem.getD 1 .dead).cells.getD 0 .top).toI) (((s.mem.getD 1 .dead).cells.getD 1 .top).toI) (((s.mem.getD 1 .dead).cells.getD 2 .top).toI) (((s.mem.getD 1 .dead).cells.getD 3 .top).toI) (((s.mem.getD 1 .dead).cells.getD 4 .top).toI) (((s.mem.getD 1 .dead).cells.getD 5 .top).toI) (((s.mem.getD 1 .dead).cells.getD 6 .top).rows)
def sgL34a58 : LSh := ⟨[(2, .one (.ptr 0 0 0)), (3, .one (.ptr 1 0 0)), (5, .one (.cell (.int .i64))), (9, .one (.cell (.slice 55))), (10, .one (.cell (.int .i64))), (11, .one (.cell (.int .i64)))], [.var [.any, .any, .int .i64, .int .i64] [.cell (.slice 38), .cell (.slice 3), .cell (.int .i64), .cell (.int .i64)], .var [.int .i64, .int .i64, .int .i64, .int .i64, .int .i64, .int .i64, .any] [.cell (.int .i64), .cell (.int .i64), .cell (.int .i64), .cell (.int .i64), .cell (.int .i64), .cell (.int .i64), .cell (.slice 55)]]⟩
def ceL34a58 : List Cv := []
def seL34a58 : St → List Nat := fun st => [(Eng.look st.env 2).id, (Eng.look st.env 3).id]
def xL34a58wret : XSh OL34a58 := ⟨[], ⟨[(4, .one (.cell (.bool)))], [.var [.any, .any, .int .i64, .int .i64] [.cell (.slice 38), .cell (.slice 3), .cell (.int .i64), .cell (.int .i64)], .var [.int .i64, .int .i64, .int .i64, .int .i64, .int .i64, .int .i64, .any] [.cell (.int .i64), .cell (.int .i64), .cell (.int .i64), .cell (.int .i64), .cell (.int .i64), .cell (.int .i64), .cell (.slice 55)]]⟩, fun st => [0, 1], fun s => .ret ((Eng.look s.env 4).toB) (((s.mem.getD 0 .dead).cells.getD 0 .top).rows) (((s.mem.getD 0 .dead).cells.getD 1 .top).rows) (((s.mem.getD 0 .dead).cells.getD 2 .top).toI) (((s.mem.getD 0 .dead).cells.getD 3 .top).toI) (((s.mem.getD 1 .dead).cells.getD 0 .top).toI) (((s.mem.getD 1 .dead).cells.getD 1 .top).toI) (((s.mem.getD 1 .dead).cells.getD 2 .top).toI) (((s.mem.getD 1 .dead).cells.getD 3 .top).toI) (((s.mem.getD 1 .dead).cells.getD 4 .top).toI) (((s.mem.getD 1 .dead).cells.getD 5 .top).toI) (((s.mem.getD 1 .dead).cells.getD 6 .top).rows)⟩
def xL34a58wx0 : XSh OL34a58 := ⟨[], ⟨[], [.var [.any, .any, .int .i64, .int .i64] [.cell (.slice 38), .cell (.slice 3), .cell (.int .i64), .cell (.int .i64)], .var [.int .i64, .int .i64, .int .i64, .int .i64, .int .i64, .int .i64, .any] [.cell (.int .i64), .cell (.int .i64), .cell (.int .i64), .cell (.int .i64), .cell (.int .i64), .cell (.int .i64), .cell (.slice 55)]]⟩, fun st => [0, 1], fun s => .x0 (((s.mem.getD 0 .dead).cells.getD 0 .top).rows) (((s.mem.getD 0 .dead).cells.getD 1 .top).rows) (((s.mem.getD 0 .dead).cells.getD 2 .top).toI) (((s.mem.getD 0 .dead).cells.getD 3 .top).toI) (((s.mem.getD 1 .dead).cells.getD 0 .top).toI) (((s.mem.getD 1 .dead).cells.getD 1 .top).toI) (((s.mem.getD 1 .dead).cells.getD 2 .top).toI) (((s.mem.getD 1 .dead).cells.getD 3 .top).toI) (((s.mem.getD 1 .dead).cells.getD 4 .top).toI) (((s.mem.getD 1 .dead).cells.getD 5 .top).toI) (((s.mem.getD 1 .dead).cells.getD 6 .top).rows)⟩
def xsL34a58 : Ex → St → Option (XSh OL34a58) := fun e st => match e with
  | .ret => some xL34a58wret
  | .exit 0 => some xL34a58wx0
  | _ => none
def exL34a58 (o : OL34a58) : Ex := match o with | .ret x4 b0c0 b0c1 b0c2 b0c3 b1c0 b1c1 b1c2 b1c3 b1c4 b1c5 b1c6 => .ret | .x0 b0c0 b0c1 b0c2 b0c3 b1c0 b1c1 b1c2 b1c3 b1c4 b1c5 b1c6 => (.exit 0)
def stL34a58 (o : OL34a58) : St := match o with | .ret x4 b0c0 b0c1 b0c2 b0c3 b1c0 b1c1 b1c2 b1c3 b1c4 b1c5 b1c6 => ⟨[(4, .bool x4)], [.var [.any, .any, .int .i64, .int .i64] [.list 38 b0c0, .list 3 b0c1, .int .i64 b0c2, .int .i64 b0c3], .var [.int .i64, .int .i64, .int .i64, .int .i64, .int .i64, .int .i64, .any] [.int .i64 b1c0, .int .i64 b1c1, .int .i64 b1c2, .int .i64 b1c3, .int .i64 b1c4, .int .i64 b1c5, .list 55 b1c6]], [], .unk⟩ | .x0 b0c0 b0c1 b0c2 b0c3 b1c0 b1c1 b1c2 b1c3 b1c4 b1c5 b1c6 => ⟨[], [.var [.any, .any, .int .i64, .int .i64] [.list 38 b0c0, .list 3 b0c1, .int .i64 b0c2, .int .i64 b0c3], .var [.int .i64, .int .i64, .int .i64, .int .i64, .int .i64, .int .i64, .any] [.int .i64 b1c0, .int .i64 b1c1, .int .i64 b1c2, .int .i64 b1c3, .int .i64 b1c4, .int .i64 b1c5, .list 55 b1c6]], [], .unk⟩
def elL34a58 {R : Type} (o : OL34a58) (k : Ex → St → Option R) : Option R := match o with | .ret x4 b0c0 b0c1 b0c2 b0c3 b1c0 b1c1 b1c2 b1c3 b1c4 b1c5 b1c6 => k .ret ⟨[(4, .bool x4)], [.var [.any, .any, .int .i64, .int .i64] [.list 38 b0c0, .list 3 b0c1, .int .i64 b0c2, .int .i64 b0c3], .var [.int .i64, .int .i64, .int .i64, .int .i64, .int .i64, .int .i64, .any] [.int .i64 b1c0, .int .i64 b1c1, .int .i64 b1c2, .int .i64 b1c3, .int .i64 b1c4, .int .i64 b1c5, .list 55 b1c6]], [], .unk⟩ | .x0 b0c0 b0c1 b0c2 b0c3 b1c0 b1c1 b1c2 b1c3 b1c4 b1c5 b1c6 => k (.exit 0) ⟨[], [.var [.any, .any, .int .i64, .int .i64] [.list 38 b0c0, .list 3 b0c1, .int .i64 b0c2, .int .i64 b0c3], .var [.int .i64, .int .i64, .int .i64, .int .i64, .int .i64, .int .i64, .any] [.int .i64 b1c0, .int .i64 b1c1, .int .i64 b1c2, .int .i64 b1c3, .int .i64 b1c4, .int .i64 b1c5, .list 55 b1c6]], [], .unk⟩
theorem heL34a58 {R : Type} (o : OL34a58) (k : Ex → St → Option R) : elL34a58 o k = k (exL34a58 o) (stL34a58 o) := by cases o <;> rfl
theorem hxL34a58 : ∀ e st x, xsL34a58 e st = some x → outOk x e exL34a58 stL34a58 := by
  intro e st x h
  unfold xsL34a58 at h
  repeat' split at h
  all_goals first
    | (injection h with h; subst h; exact fun lk M => ⟨rfl, rfl⟩)
    | cases h
noncomputable def T34ul58 (N : Nat) (R : Type) : LTab R := mkTab ⟨49, 562949953419440⟩ (csF34 N R) (noY) [] [] []
theorem okT34ul58 (N : Nat) (R : Type) : (T34ul58 N R).Ok CX code34 := mkTab_ok (hcsF34 N R) (noY_ok) (trivial) (trivial) (trivial)
noncomputable def bdL34a58 : Code := match codeAt code34 [false, true, false, true, true] with | some (.loop c) => c | _ => .skip
theorem hsL34a58 (N : Nat) : ∀ (n : Nat) (lk : Nat → AV) (M : List Blk), LFL34a58 N (n + 1) (canS sgL34a58 lk M) = evk CX (T34ul58 N OL34a58) bdL34a58 (2 * 58) (canS sgL34a58 lk M) (kont CX 2 [] sgL34a58 (fun st => [0, 1]) xsL34a58 (LFL34a58 N n)) := by intro n lk M; kernel_rfl
noncomputable def T34ur1 (N : Nat) (R : Type) : LTab R := mkTab ⟨49, 562949953421311⟩ (csF34 N R) (noY) [(58, fun st k => callLoop CX 2 562949953419440 ceL34a58 sgL34a58 seL34a58 ⟨49, 562949953421311⟩ (LFL34a58 N N) elL34a58 st k)] [] []
theorem okT34ur1 (N : Nat) (R : Type) : (T34ur1 N R).Ok CX code34 := mkTab_ok (hcsF34 N R) (noY_ok) (⟨loop_ok hX (path := [false, true, false, true, true]) (by kernel_rfl) (by rfl) (okT34ul58 N OL34a58) (fun _ _ => rfl) (hsL34a58 N) hxL34a58 rfl heL34a58, trivial⟩) (trivial) (trivial)
def rsF34 : List ResultVar := [.tmp 4]
def F34 : Nat → TF34
  | 0 => fun _ _ _ _ _ _ _ _ _ _ _ => none
  | N + 1 => fun x0c0 x0c1 x0c2 x0c3 x1c0 x1c1 x1c2 x1c3 x1c4 x1c5 x1c6 =>
    match L34a58 N N ((-1)) x1c6 ((x1c6.length : Int)) 0 x0c0 x0c1 x0c2 x0c3 x1c0 x1c1 x1c2 x1c3 x1c4 x1c5 x1c6 with
    | none => none
    | some (.ret x4v2 b0c0v2 b0c1v2 b0c2v2 b0c3v2 b1c0v2 b1c1v2 b1c2v2 b1c3v2 b1c4v2 b1c5v2 b1c6v2) =>
      some (.r x4v2)
    | some (.x0 b0c0v3 b0c1v3 b0c2v3 b0c3v3 b1c0v3 b1c1v3 b1c2v3 b1c3v3 b1c4v3 b1c5v3 b1c6v3) =>
      some (.r true)
def xRF34 : XSh R34 := ⟨[], ⟨[(0, .one (.cell (.bool)))], []⟩, fun _ => [], fun s => .r ((Eng.look s.env 0).toB)⟩
theorem fsF34 : ∀ (N : Nat) (lk : Nat → AV) (M : List Blk), FFF34 (F34 (N + 1)) (canS sgF34 lk M) = evfn CX (T34ur1 N R34) code34 rsF34 (argsE 2 (canS sgF34 lk M).env) (canS sgF34 lk M).mem (goR CX 0 (fun _ => some xRF34)) := by intro N lk M; kernel_rfl
theorem soundF34 : ∀ N, RecOkF34 (F34 N)
  | 0, lk, M, o, h => by cases h
  | N + 1, lk, M, o, h => fn_sound hX (okT34ur1 N R34) Try.func34 hb34 rfl en34 (by kernel_rfl) (ys := fun _ => some xRF34) (fun st y h => by injection h with h; subst h; exact fun lk M => ⟨rfl, rfl⟩) ((fsF34 N lk M).symm.trans h)
def cvce34n0 : List Cv := []
def selce34n0 : St → List Nat := fun _ => []
noncomputable def ce34n0 (Fx : TF34) (R : Type) (test : List AV → List Blk → Bool) : CE R := ⟨34, test, fun args M => some (selce34n0 ⟨argEnv 0 args, M, [], .unk⟩), fun args M k => tst (Nat.beq args.length 2) (callFn CX 0 cvce34n0 sgF34 selce34n0 (FFF34 Fx) elF34 args M k)⟩
theorem okce34n0 (Fx : TF34) (h : RecOkF34 Fx) (R : Type) (test : List AV → List Blk → Bool) : CeOk CX (ce34n0 Fx R test) := ce_ok hX (fun o k => by cases o; rfl) h en34 (fun args M ids h => by injection h with h; exact ⟨rfl, h.symm⟩)
end
end Go.Proofs.Ytbgdiljnmifakaa

namespace Go.Proofs.Ytbgdiljnmifakaa
open Go Go.Eng
set_option maxRecDepth 100000
noncomputable section
inductive R13 where
  | r (x0 : Bool)
abbrev TF13 := List Row → List Row → Int → Int → Option R13
def sgF13 : LSh := ⟨[(0, .agg [.cell (.slice 38), .cell (.slice 3), .cell (.int .i64), .cell (.int .i64)])], []⟩
def FFF13 (Fx : TF13) (s : St) : Option R13 := Fx (((Eng.look s.env 0).cells.getD 0 .top).rows) (((Eng.look s.env 0).cells.getD 1 .top).rows) (((Eng.look s.env 0).cells.getD 2 .top).toI) (((Eng.look s.env 0).cells.getD 3 .top).toI)
def valF13 (o : R13) : AV := match o with | .r x0 => .bool x0
def memF13 (o : R13) : List Blk := match o with | .r x0 => []
def elF13 {R : Type} (o : R13) (k : AV → List Blk → Option R) : Option R := match o with | .r x0 => k (.bool x0) []
def RecOkF13 (Fx : TF13) : Prop := ∀ lk M o, FFF13 Fx (canS sgF13 lk M) = some o → FCalls CX 13 0 (argsE 1 (canS sgF13 lk M).env) (canS sgF13 lk M).mem (valF13 o) (memF13 o)
noncomputable def csF13 (N : Nat) (R : Type) : List (CE R) := [ce31n0 (F31 N) R (fun _ _ => true), ce32n0 (F32 N) R (fun _ _ => true), ce34n0 (F34 N) R (fun _ _ => true)]
theorem hcsF13 (N : Nat) (R : Type) : AllE (CeOk CX) (csF13 N R) := ⟨okce31n0 (F31 N) (soundF31 N) R (fun _ _ => true), okce32n0 (F32 N) (soundF32 N) R (fun _ _ => true), okce34n0 (F34 N) (soundF34 N) R (fun _ _ => true), trivial⟩
inductive OJ13a6 where
  | nx (b0c0 : List Row) (b0c1 : List Row) (b0c2 : Int) (b0c3 : Int)
  | ret (x2 : Bool) (b0c0 : List Row) (b0c1 : List Row) (b0c2 : Int) (b0c3 : Int)
def J13a6 (N : Nat) : List Row → List Row → Int → Int → Option OJ13a6 := fun b0c0 b0c1 b0c2 b0c3 =>
    match decide ((32 : Int) < ((b0c0.length : Int))) with
    | true =>
      some (.ret false b0c0 b0c1 b0c2 b0c3)
    | false =>
      match decide ((32 : Int) < ((b0c1.length : Int))) with
      | true =>
        some (.ret false b0c0 b0c1 b0c2 b0c3)
      | false =>
        match F31 N b0c2 0 268435456 with
        | none => none
        | some (.r rx0v1) =>
          match !rx0v1 with
          | true =>
            some (.ret false b0c0 b0c1 b0c2 b0c3)
          | false =>
            match F31 N b0c3 1 1048576 with
            | none => none
            | some (.r rx0v2) =>
              match !rx0v2 with
              | true =>
                some (.ret false b0c0 b0c1 b0c2 b0c3)
              | false =>
                some (.nx b0c0 b0c1 b0c2 b0c3)
def LFJ13a6 (N : Nat) (s : St) : Option OJ13a6 := J13a6 N (((s.mem.getD 0 .dead).cells.getD 0 .top).rows) (((s.mem.getD 0 .dead).cells.getD 1 .top).rows) (((s.mem.getD 0 .dead).cells.getD 2 .top).toI) (((s.mem.getD 0 .dead).cells.getD 3 .top).toI)
def sgJ13a6 : LSh := ⟨[(1, .one (.ptr 0 0 0))], [.var [.any, .any, .int .i64, .int .i64] [.cell (.slice 38), .cell (.slice 3), .cell (.int .i64), .cell (.int .i64)]]⟩
def ceJ13a6 : List Cv := []
def seJ13a6 : St → List Nat := fun st => [(Eng.look st.env 1).id]
def xJ13a6wnx : XSh OJ13a6 := ⟨[], ⟨[], [.var [.any, .any, .int .i64, .int .i64] [.cell (.slice 38), .cell (.slice 3), .cell (.int .i64), .cell (.int .i64)]]⟩, fun st => [0], fun s => .nx (((s.mem.getD 0 .dead).cells.getD 0 .top).rows) (((s.mem.getD 0 .dead).cells.getD 1 .top).rows) (((s.mem.getD 0 .dead).cells.getD 2 .top).toI) (((s.mem.getD 0 .dead).cells.getD 3 .top).toI)⟩
def xJ13a6wret : XSh OJ13a6 := ⟨[], ⟨[(2, .one (.cell (.bool)))], [.var [.any, .any, .int .i64, .int .i64] [.cell (.slice 38), .cell (.slice 3), .cell (.int .i64), .cell (.int .i64)]]⟩, fun st => [0], fun s => .ret ((Eng.look s.env 2).toB) (((s.mem.getD 0 .dead).cells.getD 0 .top).rows) (((s.mem.getD 0 .dead).cells.getD 1 .top).rows) (((s.mem.getD 0 .dead).cells.getD 2 .top).toI) (((s.mem.getD 0 .dead).cells.getD 3 .top).toI)⟩
def xsJ13a6 : Ex → St → Option (XSh OJ13a6) := fun e st => match e with
  | .normal => some xJ13a6wnx
  | .ret => some xJ13a6wret
  | _ => none
def exJ13a6 (o : OJ13a6) : Ex := match o with | .nx b0c0 b0c1 b0c2 b0c3 => .normal | .ret x2 b0c0 b0c1 b0c2 b0c3 => .ret
def stJ13a6 (o : OJ13a6) : St := match o with | .nx b0c0 b0c1 b0c2 b0c3 => ⟨[], [.var [.any, .any, .int .i64, .int .i64] [.list 38 b0c0, .list 3 b0c1, .int .i64 b0c2, .int .i64 b0c3]], [], .unk⟩ | .ret x2 b0c0 b0c1 b0c2 b0c3 => ⟨[(2, .bool x2)], [.var [.any, .any, .int .i64, .int .i64] [.list 38 b0c0, .list 3 b0c1, .int .i64 b0c2, .int .i64 b0c3]], [], .unk⟩
def elJ13a6 {R : Type} (o : OJ13a6) (k : Ex → St → Option R) : Option R := match o with | .nx b0c0 b0c1 b0c2 b0c3 => k .normal ⟨[], [.var [.any, .any, .int .i64, .int .i64] [.list 38 b0c0, .list 3 b0c1, .int .i64 b0c2, .int .i64 b0c3]], [], .unk⟩ | .ret x2 b0c0 b0c1 b0c2 b0c3 => k .ret ⟨[(2, .bool x2)], [.var [.any, .any, .int .i64, .int .i64] [.list 38 b0c0, .list 3 b0c1, .int .i64 b0c2, .int .i64 b0c3]], [], .unk⟩
theorem heJ13a6 {R : Type} (o : OJ13a6) (k : Ex → St → Option R) : elJ13a6 o k = k (exJ13a6 o) (stJ13a6 o) := by cases o <;> rfl
theorem hxJ13a6 : ∀ e st x, xsJ13a6 e st = some x → outOk x e exJ13a6 stJ13a6 := by
  intro e st x h
  unfold xsJ13a6 at h
  repeat' split at h
  all_goals first
    | (injection h with h; subst h; exact fun lk M => ⟨rfl, rfl⟩)
    | cases h
noncomputable def T13uc6 (N : Nat) (R : Type) : LTab R := mkTab ⟨93, 536870788⟩ (csF13 N R) (noY) [] [] []
theorem okT13uc6 (N : Nat) (R : Type) : (T13uc6 N R).Ok CX code13 := mkTab_ok (hcsF13 N R) (noY_ok) (trivial) (trivial) (trivial)
noncomputable def bdJ13a6 : Code := (codeAt code13 [false, true]).getD .skip
theorem hsJ13a6 (N : Nat) : ∀ (lk : Nat → AV) (M : List Blk), LFJ13a6 N (canS sgJ13a6 lk M) = evk CX (T13uc6 N OJ13a6) bdJ13a6 6 (canS sgJ13a6 lk M) (kontX CX 1 xsJ13a6) := by intro lk M; kernel_rfl
inductive OJ13a32050 where
  | nx (x6 : Bool) (b0c0 : Int) (b0c1 : Int) (b0c2 : Int) (b0c3 : Int) (b0c4 : Int) (b0c5 : Int) (b0c6 : List Row)
def J13a32050 (N : Nat) : Int → Int → Int → Int → Int → Int → List Row → Option OJ13a32050 := fun b0c0 b0c1 b0c2 b0c3 b0c4 b0c5 b0c6 =>
    match F31 N b0c2 1 2147483647 with
    | none => none
    | some (.r rx0v5) =>
      match rx0v5 with
      | true =>
        match F31 N b0c3 1 b0c2 with
        | none => none
        | some (.r rx0v6) =>
          match rx0v6 with
          | true =>
            match F31 N b0c4 0 2147483647 with
            | none => none
            | some (.r rx0v7) =>
              match rx0v7 with
              | true =>
                match F31 N b0c5 1 1073741824 with
                | none => none
                | some (.r rx0v8) =>
                  some (.nx rx0v8 b0c0 b0c1 b0c2 b0c3 b0c4 b0c5 b0c6)
              | false =>
                some (.nx false b0c0 b0c1 b0c2 b0c3 b0c4 b0c5 b0c6)
          | false =>
            some (.nx false b0c0 b0c1 b0c2 b0c3 b0c4 b0c5 b0c6)
      | false =>
        some (.nx false b0c0 b0c1 b0c2 b0c3 b0c4 b0c5 b0c6)
def LFJ13a32050 (N : Nat) (s : St) : Option OJ13a32050 := J13a32050 N (((s.mem.getD 0 .dead).cells.getD 0 .top).toI) (((s.mem.getD 0 .dead).cells.getD 1 .top).toI) (((s.mem.getD 0 .dead).cells.getD 2 .top).toI) (((s.mem.getD 0 .dead).cells.getD 3 .top).toI) (((s.mem.getD 0 .dead).cells.getD 4 .top).toI) (((s.mem.getD 0 .dead).cells.getD 5 .top).toI) (((s.mem.getD 0 .dead).cells.getD 6 .top).rows)
def sgJ13a32050 : LSh := ⟨[(5, .one (.ptr 0 0 0))], [.var [.int .i64, .int .i64, .int .i64, .int .i64, .int .i64, .int .i64, .any] [.cell (.int .i64), .cell (.int .i64), .cell (.int .i64), .cell (.int .i64), .cell (.int .i64), .cell (.int .i64), .cell (.slice 55)]]⟩
def ceJ13a32050 : List Cv := []
def seJ13a32050 : St → List Nat := fun st => [(Eng.look st.env 5).id]
def xJ13a32050wnx : XSh OJ13a32050 := ⟨[], ⟨[(6, .one (.cell (.bool)))], [.var [.int .i64, .int .i64, .int .i64, .int .i64, .int .i64, .int .i64, .any] [.cell (.int .i64), .cell (.int .i64), .cell (.int .i64), .cell (.int .i64), .cell (.int .i64), .cell (.int .i64), .cell (.slice 55)]]⟩, fun st => [0], fun s => .nx ((Eng.look s.env 6).toB) (((s.mem.getD 0 .dead).cells.getD 0 .top).toI) (((s.mem.getD 0 .dead).cells.getD 1 .top).toI) (((s.mem.getD 0 .dead).cells.getD 2 .top).toI) (((s.mem.getD 0 .dead).cells.getD 3 .top).toI) (((s.mem.getD 0 .dead).cells.getD 4 .top).toI) (((s.mem.getD 0 .dead).cells.getD 5 .top).toI) (((s.mem.getD 0 .dead).cells.getD 6 .top).rows)⟩
def xsJ13a32050 : Ex → St → Option (XSh OJ13a32050) := fun e st => match e with
  | .normal => some xJ13a32050wnx
  | _ => none
def exJ13a32050 (o : OJ13a32050) : Ex := match o with | .nx x6 b0c0 b0c1 b0c2 b0c3 b0c4 b0c5 b0c6 => .normal
def stJ13a32050 (o : OJ13a32050) : St := match o with | .nx x6 b0c0 b0c1 b0c2 b0c3 b0c4 b0c5 b0c6 => ⟨[(6, .bool x6)], [.var [.int .i64, .int .i64, .int .i64, .int .i64, .int .i64, .int .i64, .any] [.int .i64 b0c0, .int .i64 b0c1, .int .i64 b0c2, .int .i64 b0c3, .int .i64 b0c4, .int .i64 b0c5, .list 55 b0c6]], [], .unk⟩
def elJ13a32050 {R : Type} (o : OJ13a32050) (k : Ex → St → Option R) : Option R := match o with | .nx x6 b0c0 b0c1 b0c2 b0c3 b0c4 b0c5 b0c6 => k .normal ⟨[(6, .bool x6)], [.var [.int .i64, .int .i64, .int .i64, .int .i64, .int .i64, .int .i64, .any] [.int .i64 b0c0, .int .i64 b0c1, .int .i64 b0c2, .int .i64 b0c3, .int .i64 b0c4, .int .i64 b0c5, .list 55 b0c6]], [], .unk⟩
theorem heJ13a32050 {R : Type} (o : OJ13a32050) (k : Ex → St → Option R) : elJ13a32050 o k = k (exJ13a32050 o) (stJ13a32050 o) := by cases o <;> rfl
theorem hxJ13a32050 : ∀ e st x, xsJ13a32050 e st = some x → outOk x e exJ13a32050 stJ13a32050 := by
  intro e st x h
  unfold xsJ13a32050 at h
  repeat' split at h
  all_goals first
    | (injection h with h; subst h; exact fun lk M => ⟨rfl, rfl⟩)
    | cases h
noncomputable def T13uc32050 (N : Nat) (R : Type) : LTab R := mkTab ⟨93, 1152920405095219264⟩ (csF13 N R) (noY) [] [] []
theorem okT13uc32050 (N : Nat) (R : Type) : (T13uc32050 N R).Ok CX code13 := mkTab_ok (hcsF13 N R) (noY_ok) (trivial) (trivial) (trivial)
noncomputable def bdJ13a32050 : Code := (codeAt code13 [false, true, false, false, true, true, false, false, true, false, true, true, true, true]).getD .skip
theorem hsJ13a32050 (N : Nat) : ∀ (lk : Nat → AV) (M : List Blk), LFJ13a32050 N (canS sgJ13a32050 lk M) = evk CX (T13uc32050 N OJ13a32050) bdJ13a32050 32050 (canS sgJ13a32050 lk M) (kontX CX 1 xsJ13a32050) := by intro lk M; kernel_rfl
inductive OJ13a64102 where
  | nx (b0c0 : List Row) (b0c1 : List Row) (b0c2 : Int) (b0c3 : Int) (b1 : List (AV × AV)) (b2c0 : Int) (b2c1 : Int) (b2c2 : Int) (b2c3 : Int) (b2c4 : Int) (b2c5 : Int) (b2c6 : List Row)
  | ret (x2 : Bool) (b0c0 : List Row) (b0c1 : List Row) (b0c2 : Int) (b0c3 : Int) (b1 : List (AV × AV)) (b2c0 : Int) (b2c1 : Int) (b2c2 : Int) (b2c3 : Int) (b2c4 : Int) (b2c5 : Int) (b2c6 : List Row)
def J13a64102 (N : Nat) : Bool → List Row → List Row → Int → Int → List (AV × AV) → Int → Int → Int → Int → Int → Int → List Row → Option OJ13a64102 := fun x6 b0c0 b0c1 b0c2 b0c3 b1 b2c0 b2c1 b2c2 b2c3 b2c4 b2c5 b2c6 =>
    match !x6 with
    | true =>
      some (.ret false b0c0 b0c1 b0c2 b0c3 b1 b2c0 b2c1 b2c2 b2c3 b2c4 b2c5 b2c6)
    | false =>
      match decide (b2c0 < (0 : Int)) with
      | true =>
        some (.ret false b0c0 b0c1 b0c2 b0c3 b1 b2c0 b2c1 b2c2 b2c3 b2c4 b2c5 b2c6)
      | false =>
        match Eng.mfind b1 (.int .i64 b2c0) with
        | some m10 =>
          match m10.toB with
          | true =>
            some (.ret false b0c0 b0c1 b0c2 b0c3 b1 b2c0 b2c1 b2c2 b2c3 b2c4 b2c5 b2c6)
          | false =>
            match decide (b2c1 < (0 : Int)) with
            | true =>
              some (.ret false b0c0 b0c1 b0c2 b0c3 b1 b2c0 b2c1 b2c2 b2c3 b2c4 b2c5 b2c6)
            | false =>
              match decide ((31 : Int) < b2c1) with
              | true =>
                some (.ret false b0c0 b0c1 b0c2 b0c3 b1 b2c0 b2c1 b2c2 b2c3 b2c4 b2c5 b2c6)
              | false =>
                match F34 N b0c0 b0c1 b0c2 b0c3 b2c0 b2c1 b2c2 b2c3 b2c4 b2c5 b2c6 with
                | none => none
                | some (.r rx0v11) =>
                  match !rx0v11 with
                  | true =>
                    some (.ret false b0c0 b0c1 b0c2 b0c3 b1 b2c0 b2c1 b2c2 b2c3 b2c4 b2c5 b2c6)
                  | false =>
                    some (.nx b0c0 b0c1 b0c2 b0c3 b1 b2c0 b2c1 b2c2 b2c3 b2c4 b2c5 b2c6)
        | none =>
          match decide (b2c1 < (0 : Int)) with
          | true =>
            some (.ret false b0c0 b0c1 b0c2 b0c3 b1 b2c0 b2c1 b2c2 b2c3 b2c4 b2c5 b2c6)
          | false =>
            match decide ((31 : Int) < b2c1) with
            | true =>
              some (.ret false b0c0 b0c1 b0c2 b0c3 b1 b2c0 b2c1 b2c2 b2c3 b2c4 b2c5 b2c6)
            | false =>
              match F34 N b0c0 b0c1 b0c2 b0c3 b2c0 b2c1 b2c2 b2c3 b2c4 b2c5 b2c6 with
              | none => none
              | some (.r rx0v12) =>
                match !rx0v12 with
                | true =>
                  some (.ret false b0c0 b0c1 b0c2 b0c3 b1 b2c0 b2c1 b2c2 b2c3 b2c4 b2c5 b2c6)
                | false =>
                  some (.nx b0c0 b0c1 b0c2 b0c3 b1 b2c0 b2c1 b2c2 b2c3 b2c4 b2c5 b2c6)
def LFJ13a64102 (N : Nat) (s : St) : Option OJ13a64102 := J13a64102 N ((Eng.look s.env 6).toB) (((s.mem.getD 0 .dead).cells.getD 0 .top).rows) (((s.mem.getD 0 .dead).cells.getD 1 .top).rows) (((s.mem.getD 0 .dead).cells.getD 2 .top).toI) (((s.mem.getD 0 .dead).cells.getD 3 .top).toI) ((s.mem.getD 1 .dead).ents) (((s.mem.getD 2 .dead).cells.getD 0 .top).toI) (((s.mem.getD 2 .dead).cells.getD 1 .top).toI) (((s.mem.getD 2 .dead).cells.getD 2 .top).toI) (((s.mem.getD 2 .dead).cells.getD 3 .top).toI) (((s.mem.getD 2 .dead).cells.getD 4 .top).toI) (((s.mem.getD 2 .dead).cells.getD 5 .top).toI) (((s.mem.getD 2 .dead).cells.getD 6 .top).rows)
def sgJ13a64102 : LSh := ⟨[(1, .one (.ptr 0 0 0)), (3, .one (.mpr 1)), (5, .one (.ptr 2 0 0)), (6, .one (.cell (.bool)))], [.var [.any, .any, .int .i64, .int .i64] [.cell (.slice 38), .cell (.slice 3), .cell (.int .i64), .cell (.int .i64)], .mp (.int .i64) false [.bool], .var [.int .i64, .int .i64, .int .i64, .int .i64, .int .i64, .int .i64, .any] [.cell (.int .i64), .cell (.int .i64), .cell (.int .i64), .cell (.int .i64), .cell (.int .i64), .cell (.int .i64), .cell (.slice 55)]]⟩
def ceJ13a64102 : List Cv := []
def seJ13a64102 : St → List Nat := fun st => [(Eng.look st.env 1).id, (Eng.look st.env 3).id, (Eng.look st.env 5).id]
def xJ13a64102wnx : XSh OJ13a64102 := ⟨[], ⟨[], [.var [.any, .any, .int .i64, .int .i64] [.cell (.slice 38), .cell (.slice 3), .cell (.int .i64), .cell (.int .i64)], .mp (.int .i64) false [.bool], .var [.int .i64, .int .i64, .int .i64, .int .i64, .int .i64, .int .i64, .any] [.cell (.int .i64), .cell (.int .i64), .cell (.int .i64), .cell (.int .i64), .cell (.int .i64), .cell (.int .i64), .cell (.slice 55)]]⟩, fun st => [0, 1, 2], fun s => .nx (((s.mem.getD 0 .dead).cells.getD 0 .top).rows) (((s.mem.getD 0 .dead).cells.getD 1 .top).rows) (((s.mem.getD 0 .dead).cells.getD 2 .top).toI) (((s.mem.getD 0 .dead).cells.getD 3 .top).toI) ((s.mem.getD 1 .dead).ents) (((s.mem.getD 2 .dead).cells.getD 0 .top).toI) (((s.mem.getD 2 .dead).cells.getD 1 .top).toI) (((s.mem.getD 2 .dead).cells.getD 2 .top).toI) (((s.mem.getD 2 .dead).cells.getD 3 .top).toI) (((s.mem.getD 2 .dead).cells.getD 4 .top).toI) (((s.mem.getD 2 .dead).cells.getD 5 .top).toI) (((s.mem.getD 2 .dead).cells.getD 6 .top).rows)⟩
def xJ13a64102wret : XSh OJ13a64102 := ⟨[], ⟨[(2, .one (.cell (.bool)))], [.var [.any, .any, .int .i64, .int .i64] [.cell (.slice 38), .cell (.slice 3), .cell (.int .i64), .cell (.int .i64)], .mp (.int .i64) false [.bool], .var [.int .i64, .int .i64, .int .i64, .int .i64, .int .i64, .int .i64, .any] [.cell (.int .i64), .cell (.int .i64), .cell (.int .i64), .cell (.int .i64), .cell (.int .i64), .cell (.int .i64), .cell (.slice 55)]]⟩, fun st => [0, 1, 2], fun s => .ret ((Eng.look s.env 2).toB) (((s.mem.getD 0 .dead).cells.getD 0 .top).rows) (((s.mem.getD 0 .dead).cells.getD 1 .top).rows) (((s.mem.getD 0 .dead).cells.getD 2 .top).toI) (((s.mem.getD 0 .dead).cells.getD 3 .top).toI) ((s.mem.getD 1 .dead).ents) (((s.mem.getD 2 .dead).cells.getD 0 .top).toI) (((s.mem.getD 2 .dead).cells.getD 1 .top).toI) (((s.mem.getD 2 .dead).cells.getD 2 .top).toI) (((s.mem.getD 2 .dead).cells.getD 3 .top).toI) (((s.mem.getD 2 .dead).cells.getD 4 .top).toI) (((s.mem.getD 2 .dead).cells.getD 5 .top).toI) (((s.mem.getD 2 .dead).cells.getD 6 .top).rows)⟩
def xsJ13a64102 : Ex → St → Option (XSh OJ13a64102) := fun e st => match e with
  | .normal => some xJ13a64102wnx
  | .ret => some xJ13a64102wret
  | _ => none
def exJ13a64102 (o : OJ13a64102) : Ex := match o with | .nx b0c0 b0c1 b0c2 b0c3 b1 b2c0 b2c1 b2c2 b2c3 b2c4 b2c5 b2c6 => .normal | .ret x2 b0c0 b0c1 b0c2 b0c3 b1 b2c0 b2c1 b2c2 b2c3 b2c4 b2c5 b2c6 => .ret
def stJ13a64102 (o : OJ13a64102) : St := match o with | .nx b0c0 b0c1 b0c2 b0c3 b1 b2c0 b2c1 b2c2 b2c3 b2c4 b2c5 b2c6 => ⟨[], [.var [.any, .any, .int .i64, .int .i64] [.list 38 b0c0, .list 3 b0c1, .int .i64 b0c2, .int .i64 b0c3], .map (.int .i64) false [.bool] b1, .var [.int .i64, .int .i64, .int .i64, .int .i64, .int .i64, .int .i64, .any] [.int .i64 b2c0, .int .i64 b2c1, .int .i64 b2c2, .int .i64 b2c3, .int .i64 b2c4, .int .i64 b2c5, .list 55 b2c6]], [], .unk⟩ | .ret x2 b0c0 b0c1 b0c2 b0c3 b1 b2c0 b2c1 b2c2 b2c3 b2c4 b2c5 b2c6 => ⟨[(2, .bool x2)], [.var [.any, .any, .int .i64, .int .i64] [.list 38 b0c0, .list 3 b0c1, .int .i64 b0c2, .int .i64 b0c3], .map (.int .i64) false [.bool] b1, .var [.int .i64, .int .i64, .int .i64, .int .i64, .int .i64, .int .i64, .any] [.int .i64 b2c0, .int .i64 b2c1, .int .i64 b2c2, .int .i64 b2c3, .int .i64 b2c4, .int .i64 b2c5, .list 55 b2c6]], [], .unk⟩
def elJ13a64102 {R : Type} (o : OJ13a64102) (k : Ex → St → Option R) : Option R := match o with | .nx b0c0 b0c1 b0c2 b0c3 b1 b2c0 b2c1 b2c2 b2c3 b2c4 b2c5 b2c6 => k .normal ⟨[], [.var [.any, .any, .int .i64, .int .i64] [.list 38 b0c0, .list 3 b0c1, .int .i64 b0c2, .int .i64 b0c3], .map (.int .i64) false [.bool] b1, .var [.int .i64, .int .i64, .int .i64, .int .i64, .int .i64, .int .i64, .any] [.int .i64 b2c0, .int .i64 b2c1, .int .i64 b2c2, .int .i64 b2c3, .int .i64 b2c4, .int .i64 b2c5, .list 55 b2c6]], [], .unk⟩ | .ret x2 b0c0 b0c1 b0c2 b0c3 b1 b2c0 b2c1 b2c2 b2c3 b2c4 b2c5 b2c6 => k .ret ⟨[(2, .bool x2)], [.var [.any, .any, .int .i64, .int .i64] [.list 38 b0c0, .list 3 b0c1, .int .i64 b0c2, .int .i64 b0c3], .map (.int .i64) false [.bool] b1, .var [.int .i64, .int .i64, .int .i64, .int .i64, .int .i64, .int .i64, .any] [.int .i64 b2c0, .int .i64 b2c1, .int .i64 b2c2, .int .i64 b2c3, .int .i64 b2c4, .int .i64 b2c5, .list 55 b2c6]], [], .unk⟩
theorem heJ13a64102 {R : Type} (o : OJ13a64102) (k : Ex → St → Option R) : elJ13a64102 o k = k (exJ13a64102 o) (stJ13a64102 o) := by cases o <;> rfl
theorem hxJ13a64102 : ∀ e st x, xsJ13a64102 e st = some x → outOk x e exJ13a64102 stJ13a64102 := by
  intro e st x h
  unfold xsJ13a64102 at h
  repeat' split at h
  all_goals first
    | (injection h with h; subst h; exact fun lk M => ⟨rfl, rfl⟩)
    | cases h
noncomputable def T13uc64102 (N : Nat) (R : Type) : LTab R := mkTab ⟨93, 618970018489768632842715140⟩ (csF13 N R) (noY) [] [] []
theorem okT13uc64102 (N : Nat) (R : Type) : (T13uc64102 N R).Ok CX code13 := mkTab_ok (hcsF13 N R) (noY_ok) (trivial) (trivial) (trivial)
noncomputable def bdJ13a64102 : Code := (codeAt code13 [false, true, true, false, false, true, true, false, false, true, false, true, true, true, true]).getD .skip
theorem hsJ13a64102 (N : Nat) : ∀ (lk : Nat → AV) (M : List Blk), LFJ13a64102 N (canS sgJ13a64102 lk M) = evk CX (T13uc64102 N OJ13a64102) bdJ13a64102 64102 (canS sgJ13a64102 lk M) (kontX CX 3 xsJ13a64102) := by intro lk M; kernel_rfl
inductive OL13a250 where
  | ret (x2 : Bool) (b0c0 : List Row) (b0c1 : List Row) (b0c2 : Int) (b0c3 : Int) (b1 : List (AV × AV))
  | x0 (b0c0 : List Row) (b0c1 : List Row) (b0c2 : Int) (b0c3 : Int) (b1 : List (AV × AV))
def L13a250 (N : Nat) : Nat → List Row → Int → Int → List Row → List Row → Int → Int → List (AV × AV) → Option OL13a250
  | 0 => fun _ _ _ _ _ _ _ _ => none
  | n + 1 => fun x34 x35 x36 b0c0 b0c1 b0c2 b0c3 b1 =>
    match decide (x36 < x35) with
    | true =>
      tst (decide ((0 : Int) ≤ x36) && decide (x36 < ((x34.length : Int)))) <|
      match J13a32050 N ((((x34.getD x36.toNat [])).getD 0 .top).toI) ((((x34.getD x36.toNat [])).getD 1 .top).toI) ((((x34.getD x36.toNat [])).getD 2 .top).toI) ((((x34.getD x36.toNat [])).getD 3 .top).toI) ((((x34.getD x36.toNat [])).getD 4 .top).toI) ((((x34.getD x36.toNat [])).getD 5 .top).toI) ((((x34.getD x36.toNat [])).getD 6 .top).rows) with
      | none => none
      | some (.nx x6v9 b0c0v9 b0c1v9 b0c2v9 b0c3v9 b0c4v9 b0c5v9 b0c6v9) =>
        match J13a64102 N x6v9 b0c0 b0c1 b0c2 b0c3 b1 b0c0v9 b0c1v9 b0c2v9 b0c3v9 b0c4v9 b0c5v9 b0c6v9 with
        | none => none
        | some (.nx b0c0v13 b0c1v13 b0c2v13 b0c3v13 b1v13 b2c0v13 b2c1v13 b2c2v13 b2c3v13 b2c4v13 b2c5v13 b2c6v13) =>
          L13a250 N n x34 x35 (IntKind.wrap .i64 (x36 + (1 : Int))) b0c0v13 b0c1v13 b0c2v13 b0c3v13 (Eng.mput b1v13 (.int .i64 b2c0v13) (.bool true))
        | some (.ret x2v14 b0c0v14 b0c1v14 b0c2v14 b0c3v14 b1v14 b2c0v14 b2c1v14 b2c2v14 b2c3v14 b2c4v14 b2c5v14 b2c6v14) =>
          some (.ret x2v14 b0c0v14 b0c1v14 b0c2v14 b0c3v14 b1v14)
    | false =>
      some (.x0 b0c0 b0c1 b0c2 b0c3 b1)
def LFL13a250 (N : Nat) (n : Nat) (s : St) : Option OL13a250 := L13a250 N n ((Eng.look s.env 34).rows) ((Eng.look s.env 35).toI) ((Eng.look s.env 36).toI) (((s.mem.getD 0 .dead).cells.getD 0 .top).rows) (((s.mem.getD 0 .dead).cells.getD 1 .top).rows) (((s.mem.getD 0 .dead).cells.getD 2 .top).toI) (((s.mem.getD 0 .dead).cells.getD 3 .top).toI) ((s.mem.getD 1 .dead).ents)
def sgL13a250 : LSh := ⟨[(1, .one (.ptr 0 0 0)), (3, .one (.mpr 1)), (34, .one (.cell (.slice 38))), (35, .one (.cell (.int .i64))), (36, .one (.cell (.int .i64)))], [.var [.any, .any, .int .i64, .int .i64] [.cell (.slice 38), .cell (.slice 3), .cell (.int .i64), .cell (.int .i64)], .mp (.int .i64) false [.bool]]⟩
def ceL13a250 : List Cv := []
def seL13a250 : St → List Nat := fun st => [(Eng.look st.env 1).id, (Eng.look st.env 3).id]
def xL13a250wret : XSh OL13a250 := ⟨[], ⟨[(2, .one (.cell (.bool)))], [.var [.any, .any, .int .i64, .int .i64] [.cell (.slice 38), .cell (.slice 3), .cell (.int .i64), .cell (.int .i64)], .mp (.int .i64) false [.bool]]⟩, fun st => [0, 1], fun s => .ret ((Eng.look s.env 2).toB) (((s.mem.getD 0 .dead).cells.getD 0 .top).rows) (((s.mem.getD 0 .dead).cells.getD 1 .top).rows) (((s.mem.getD 0 .dead).cells.getD 2 .top).toI) (((s.mem.getD 0 .dead).cells.getD 3 .top).toI) ((s.mem.getD 1 .dead).ents)⟩
def xL13a250wx0 : XSh OL13a250 := ⟨[], ⟨[], [.var [.any, .any, .int .i64, .int .i64] [.cell (.slice 38), .cell (.slice 3), .cell (.int .i64), .cell (.int .i64)], .mp (.int .i64) false [.bool]]⟩, fun st => [0, 1], fun s => .x0 (((s.mem.getD 0 .dead).cells.getD 0 .top).rows) (((s.mem.getD 0 .dead).cells.getD 1 .top).rows) (((s.mem.getD 0 .dead).cells.getD 2 .top).toI) (((s.mem.getD 0 .dead).cells.getD 3 .top).toI) ((s.mem.getD 1 .dead).ents)⟩
def xsL13a250 : Ex → St → Option (XSh OL13a250) := fun e st => match e with
  | .ret => some xL13a250wret
  | .exit 0 => some xL13a250wx0
  | _ => none
def exL13a250 (o : OL13a250) : Ex := match o with | .ret x2 b0c0 b0c1 b0c2 b0c3 b1 => .ret | .x0 b0c0 b0c1 b0c2 b0c3 b1 => (.exit 0)
def stL13a250 (o : OL13a250) : St := match o with | .ret x2 b0c0 b0c1 b0c2 b0c3 b1 => ⟨[(2, .bool x2)], [.var [.any, .any, .int .i64, .int .i64] [.list 38 b0c0, .list 3 b0c1, .int .i64 b0c2, .int .i64 b0c3], .map (.int .i64) false [.bool] b1], [], .unk⟩ | .x0 b0c0 b0c1 b0c2 b0c3 b1 => ⟨[], [.var [.any, .any, .int .i64, .int .i64] [.list 38 b0c0, .list 3 b0c1, .int .i64 b0c2, .int .i64 b0c3], .map (.int .i64) false [.bool] b1], [], .unk⟩
def elL13a250 {R : Type} (o : OL13a250) (k : Ex → St → Option R) : Option R := match o with | .ret x2 b0c0 b0c1 b0c2 b0c3 b1 => k .ret ⟨[(2, .bool x2)], [.var [.any, .any, .int .i64, .int .i64] [.list 38 b0c0, .list 3 b0c1, .int .i64 b0c2, .int .i64 b0c3], .map (.int .i64) false [.bool] b1], [], .unk⟩ | .x0 b0c0 b0c1 b0c2 b0c3 b1 => k (.exit 0) ⟨[], [.var [.any, .any, .int .i64, .int .i64] [.list 38 b0c0, .list 3 b0c1, .int .i64 b0c2, .int .i64 b0c3], .map (.int .i64) false [.bool] b1], [], .unk⟩
theorem heL13a250 {R : Type} (o : OL13a250) (k : Ex → St → Option R) : elL13a250 o k = k (exL13a250 o) (stL13a250 o) := by cases o <;> rfl
theorem hxL13a250 : ∀ e st x, xsL13a250 e st = some x → outOk x e exL13a250 stL13a250 := by
  intro e st x h
  unfold xsL13a250 at h
  repeat' split at h
  all_goals first
    | (injection h with h; subst h; exact fun lk M => ⟨rfl, rfl⟩)
    | cases h
noncomputable def T13ul250 (N : Nat) (R : Type) : LTab R := mkTab ⟨93, 9903520314283042130473517156⟩ (csF13 N R) (noY) [] [] [(32050, fun st k => callLoop CX 1 1152920405095219264 ceJ13a32050 sgJ13a32050 seJ13a32050 ⟨93, 9903520314283042130473517156⟩ (LFJ13a32050 N) elJ13a32050 st k), (64102, fun st k => callLoop CX 3 618970018489768632842715140 ceJ13a64102 sgJ13a64102 seJ13a64102 ⟨93, 9903520314283042130473517156⟩ (LFJ13a64102 N) elJ13a64102 st k)]
theorem okT13ul250 (N : Nat) (R : Type) : (T13ul250 N R).Ok CX code13 := mkTab_ok (hcsF13 N R) (noY_ok) (trivial) (trivial) (⟨cut_ok hX (path := [false, true, false, false, true, true, false, false, true, false, true, true, true, true]) (by kernel_rfl) (by rfl) (okT13uc32050 N OJ13a32050) (hsJ13a32050 N) hxJ13a32050 rfl heJ13a32050, cut_ok hX (path := [false, true, true, false, false, true, true, false, false, true, false, true, true, true, true]) (by kernel_rfl) (by rfl) (okT13uc64102 N OJ13a64102) (hsJ13a64102 N) hxJ13a64102 rfl heJ13a64102, trivial⟩)
noncomputable def bdL13a250 : Code := match codeAt code13 [false, true, false, true, true, true, true] with | some (.loop c) => c | _ => .skip
theorem hsL13a250 (N : Nat) : ∀ (n : Nat) (lk : Nat → AV) (M : List Blk), LFL13a250 N (n + 1) (canS sgL13a250 lk M) = evk CX (T13ul250 N OL13a250) bdL13a250 (2 * 250) (canS sgL13a250 lk M) (kont CX 2 [] sgL13a250 (fun st => [0, 1]) xsL13a250 (LFL13a250 N n)) := by intro n lk M; kernel_rfl
noncomputable def T13ur1 (N : Nat) (R : Type) : LTab R := mkTab ⟨93, 9903520314283042199192993791⟩ (csF13 N R) (noY) [(250, fun st k => callLoop CX 2 9903520314283042130473517156 ceL13a250 sgL13a250 seL13a250 ⟨93, 9903520314283042199192993791⟩ (LFL13a250 N N) elL13a250 st k)] [] [(6, fun st k => callLoop CX 1 536870788 ceJ13a6 sgJ13a6 seJ13a6 ⟨93, 9903520314283042199192993791⟩ (LFJ13a6 N) elJ13a6 st k)]
theorem okT13ur1 (N : Nat) (R : Type) : (T13ur1 N R).Ok CX code13 := mkTab_ok (hcsF13 N R) (noY_ok) (⟨loop_ok hX (path := [false, true, false, true, true, true, true]) (by kernel_rfl) (by rfl) (okT13ul250 N OL13a250) (fun _ _ => rfl) (hsL13a250 N) hxL13a250 rfl heL13a250, trivial⟩) (trivial) (⟨cut_ok hX (path := [false, true]) (by kernel_rfl) (by rfl) (okT13uc6 N OJ13a6) (hsJ13a6 N) hxJ13a6 rfl heJ13a6, trivial⟩)
def rsF13 : List ResultVar := [.tmp 2]
def F13 : Nat → TF13
  | 0 => fun _ _ _ _ => none
  | N + 1 => fun x0c0 x0c1 x0c2 x0c3 =>
    match J13a6 N x0c0 x0c1 x0c2 x0c3 with
    | none => none
    | some (.nx b0c0v3 b0c1v3 b0c2v3 b0c3v3) =>
      match F32 N b0c1v3 with
      | none => none
      | some (.r rx0v4) =>
        match rx0v4 with
        | true =>
          some (.r false)
        | false =>
          match L13a250 N N b0c0v3 ((b0c0v3.length : Int)) 0 b0c0v3 b0c1v3 b0c2v3 b0c3v3 (([] : List (AV × AV))) with
          | none => none
          | some (.ret x2v15 b0c0v15 b0c1v15 b0c2v15 b0c3v15 b1v15) =>
            some (.r x2v15)
          | some (.x0 b0c0v16 b0c1v16 b0c2v16 b0c3v16 b1v16) =>
            some (.r true)
    | some (.ret x2v17 b0c0v17 b0c1v17 b0c2v17 b0c3v17) =>
      some (.r x2v17)
def xRF13 : XSh R13 := ⟨[], ⟨[(0, .one (.cell (.bool)))], []⟩, fun _ => [], fun s => .r ((Eng.look s.env 0).toB)⟩
theorem fsF13 : ∀ (N : Nat) (lk : Nat → AV) (M : List Blk), FFF13 (F13 (N + 1)) (canS sgF13 lk M) = evfn CX (T13ur1 N R13) code13 rsF13 (argsE 1 (canS sgF13 lk M).env) (canS sgF13 lk M).mem (goR CX 0 (fun _ => some xRF13)) := by intro N lk M; kernel_rfl
theorem soundF13 : ∀ N, RecOkF13 (F13 N)
  | 0, lk, M, o, h => by cases h
  | N + 1, lk, M, o, h => fn_sound hX (okT13ur1 N R13) Try.func13 hb13 rfl en13 (by kernel_rfl) (ys := fun _ => some xRF13) (fun st y h => by injection h with h; subst h; exact fun lk M => ⟨rfl, rfl⟩) ((fsF13 N lk M).symm.trans h)
def cvce13n0 : List Cv := []
def selce13n0 : St → List Nat := fun _ => []
noncomputable def ce13n0 (Fx : TF13) (R : Type) (test : List AV → List Blk → Bool) : CE R := ⟨13, test, fun args M => some (selce13n0 ⟨argEnv 0 args, M, [], .unk⟩), fun args M k => tst (Nat.beq args.length 1) (callFn CX 0 cvce13n0 sgF13 selce13n0 (FFF13 Fx) elF13 args M k)⟩
theorem okce13n0 (Fx : TF13) (h : RecOkF13 Fx) (R : Type) (test : List AV → List Blk → Bool) : CeOk CX (ce13n0 Fx R test) := ce_ok hX (fun o k => by cases o; rfl) h en13 (fun args M ids h => by injection h with h; exact ⟨rfl, h.symm⟩)
end
end Go.Proofs.Ytbgdiljnmifakaa

namespace Go.Proofs.Ytbgdiljnmifakaa
open Go Go.Eng
set_option maxRecDepth 100000
noncomputable section
inductive R38 where
  | r (x0 : Int)
abbrev TF38 := List Row → List Row → Int → Int → Int → Option R38
def sgF38 : LSh := ⟨[(0, .agg [.cell (.slice 38), .cell (.slice 3), .cell (.int .i64), .cell (.int .i64)]), (1, .one (.cell (.int .i64)))], []⟩
def FFF38 (Fx : TF38) (s : St) : Option R38 := Fx (((Eng.look s.env 0).cells.getD 0 .top).rows) (((Eng.look s.env 0).cells.getD 1 .top).rows) (((Eng.look s.env 0).cells.getD 2 .top).toI) (((Eng.look s.env 0).cells.getD 3 .top).toI) ((Eng.look s.env 1).toI)
def valF38 (o : R38) : AV := match o with | .r x0 => .int .i64 x0
def memF38 (o : R38) : List Blk := match o with | .r x0 => []
def elF38 {R : Type} (o : R38) (k : AV → List Blk → Option R) : Option R := match o with | .r x0 => k (.int .i64 x0) []
def RecOkF38 (Fx : TF38) : Prop := ∀ lk M o, FFF38 Fx (canS sgF38 lk M) = some o → FCalls CX 38 0 (argsE 2 (canS sgF38 lk M).env) (canS sgF38 lk M).mem (valF38 o) (memF38 o)
noncomputable def csF38 (N : Nat) (R : Type) : List (CE R) := [ce13n0 (F13 N) R (fun _ _ => true)]
theorem hcsF38 (N : Nat) (R : Type) : AllE (CeOk CX) (csF38 N R) := ⟨okce13n0 (F13 N) (soundF13 N) R (fun _ _ => true), trivial⟩
noncomputable def T38ur1 (N : Nat) (R : Type) : LTab R := mkTab ⟨19, 524287⟩ (csF38 N R) (noY) [] [] []
theorem okT38ur1 (N : Nat) (R : Type) : (T38ur1 N R).Ok CX code38 := mkTab_ok (hcsF38 N R) (noY_ok) (trivial) (trivial) (trivial)
def rsF38 : List ResultVar := [.tmp 4]
def F38 : Nat → TF38
  | 0 => fun _ _ _ _ _ => none
  | N + 1 => fun x0c0 x0c1 x0c2 x0c3 x1 =>
    match F13 N x0c0 x0c1 x0c2 x0c3 with
    | none => none
    | some (.r rx0v1) =>
      match !rx0v1 with
      | true =>
        some (.r 2)
      | false =>
        match decide (x1 < (0 : Int)) with
        | true =>
          some (.r 4)
        | false =>
          match decide (((x0c0.length : Int)) ≤ x1) with
          | true =>
            some (.r 4)
          | false =>
            some (.r 0)
def xRF38 : XSh R38 := ⟨[], ⟨[(0, .one (.cell (.int .i64)))], []⟩, fun _ => [], fun s => .r ((Eng.look s.env 0).toI)⟩
theorem fsF38 : ∀ (N : Nat) (lk : Nat → AV) (M : List Blk), FFF38 (F38 (N + 1)) (canS sgF38 lk M) = evfn CX (T38ur1 N R38) code38 rsF38 (argsE 2 (canS sgF38 lk M).env) (canS sgF38 lk M).mem (goR CX 0 (fun _ => some xRF38)) := by intro N lk M; kernel_rfl
theorem soundF38 : ∀ N, RecOkF38 (F38 N)
  | 0, lk, M, o, h => by cases h
  | N + 1, lk, M, o, h => fn_sound hX (okT38ur1 N R38) Try.func38 hb38 rfl en38 (by kernel_rfl) (ys := fun _ => some xRF38) (fun st y h => by injection h with h; subst h; exact fun lk M => ⟨rfl, rfl⟩) ((fsF38 N lk M).symm.trans h)
def cvce38n0 : List Cv := []
def selce38n0 : St → List Nat := fun _ => []
noncomputable def ce38n0 (Fx : TF38) (R : Type) (test : List AV → List Blk → Bool) : CE R := ⟨38, test, fun args M => some (selce38n0 ⟨argEnv 0 args, M, [], .unk⟩), fun args M k => tst (Nat.beq args.length 2) (callFn CX 0 cvce38n0 sgF38 selce38n0 (FFF38 Fx) elF38 args M k)⟩
theorem okce38n0 (Fx : TF38) (h : RecOkF38 Fx) (R : Type) (test : List AV → List Blk → Bool) : CeOk CX (ce38n0 Fx R test) := ce_ok hX (fun o k => by cases o; rfl) h en38 (fun args M ids h => by injection h with h; exact ⟨rfl, h.symm⟩)
end
end Go.Proofs.Ytbgdiljnmifakaa

namespace Go.Proofs.Ytbgdiljnmifakaa
open Go Go.Eng
set_option maxRecDepth 100000
noncomputable section
inductive R46 where
  | r (b0c0 : List Row) (b0c1 : List Row) (b0c2 : Int) (b0c3 : Int) (b1c0 : Int)
abbrev TF46 := List Row → List Row → Int → Int → Int → Option R46
def sgF46 : LSh := ⟨[(0, .agg [.cell (.slice 38), .cell (.slice 3), .cell (.int .i64), .cell (.int .i64)]), (1, .one (.cell (.int .i64)))], []⟩
def FFF46 (Fx : TF46) (s : St) : Option R46 := Fx (((Eng.look s.env 0).cells.getD 0 .top).rows) (((Eng.look s.env 0).cells.getD 1 .top).rows) (((Eng.look s.env 0).cells.getD 2 .top).toI) (((Eng.look s.env 0).cells.getD 3 .top).toI) ((Eng.look s.env 1).toI)
def valF46 (o : R46) : AV := match o with | .r b0c0 b0c1 b0c2 b0c3 b1c0 => .clos 49 [] [.ptr 0 0 0, .ptr 1 0 0]
def memF46 (o : R46) : List Blk := match o with | .r b0c0 b0c1 b0c2 b0c3 b1c0 => [.var [.any, .any, .int .i64, .int .i64] [.list 38 b0c0, .list 3 b0c1, .int .i64 b0c2, .int .i64 b0c3], .var [.int .i64] [.int .i64 b1c0]]
def elF46 {R : Type} (o : R46) (k : AV → List Blk → Option R) : Option R := match o with | .r b0c0 b0c1 b0c2 b0c3 b1c0 => k (.clos 49 [] [.ptr 0 0 0, .ptr 1 0 0]) [.var [.any, .any, .int .i64, .int .i64] [.list 38 b0c0, .list 3 b0c1, .int .i64 b0c2, .int .i64 b0c3], .var [.int .i64] [.int .i64 b1c0]]
def RecOkF46 (Fx : TF46) : Prop := ∀ lk M o, FFF46 Fx (canS sgF46 lk M) = some o → FCalls CX 46 0 (argsE 2 (canS sgF46 lk M).env) (canS sgF46 lk M).mem (valF46 o) (memF46 o)
noncomputable def csF46 (N : Nat) (R : Type) : List (CE R) := []
theorem hcsF46 (N : Nat) (R : Type) : AllE (CeOk CX) (csF46 N R) := trivial
noncomputable def T46ur1 (N : Nat) (R : Type) : LTab R := mkTab ⟨6, 63⟩ (csF46 N R) (noY) [] [] []
theorem okT46ur1 (N : Nat) (R : Type) : (T46ur1 N R).Ok CX code46 := mkTab_ok (hcsF46 N R) (noY_ok) (trivial) (trivial) (trivial)
def rsF46 : List ResultVar := [.tmp 4]
def F46 : Nat → TF46
  | 0 => fun _ _ _ _ _ => none
  | N + 1 => fun x0c0 x0c1 x0c2 x0c3 x1 =>
    some (.r x0c0 x0c1 x0c2 x0c3 x1)
def xRF46 : XSh R46 := ⟨[], ⟨[(0, .one (.cl 49 [(0, 0, 0), (1, 0, 0)]))], [.var [.any, .any, .int .i64, .int .i64] [.cell (.slice 38), .cell (.slice 3), .cell (.int .i64), .cell (.int .i64)], .var [.int .i64] [.cell (.int .i64)]]⟩, fun st => [((Eng.look st.env 0).caps.getD 0 .top).id, ((Eng.look st.env 0).caps.getD 1 .top).id], fun s => .r (((s.mem.getD 0 .dead).cells.getD 0 .top).rows) (((s.mem.getD 0 .dead).cells.getD 1 .top).rows) (((s.mem.getD 0 .dead).cells.getD 2 .top).toI) (((s.mem.getD 0 .dead).cells.getD 3 .top).toI) (((s.mem.getD 1 .dead).cells.getD 0 .top).toI)⟩
theorem fsF46 : ∀ (N : Nat) (lk : Nat → AV) (M : List Blk), FFF46 (F46 (N + 1)) (canS sgF46 lk M) = evfn CX (T46ur1 N R46) code46 rsF46 (argsE 2 (canS sgF46 lk M).env) (canS sgF46 lk M).mem (goR CX 0 (fun _ => some xRF46)) := by intro N lk M; kernel_rfl
theorem soundF46 : ∀ N, RecOkF46 (F46 N)
  | 0, lk, M, o, h => by cases h
  | N + 1, lk, M, o, h => fn_sound hX (okT46ur1 N R46) Try.func46 hb46 rfl en46 (by kernel_rfl) (ys := fun _ => some xRF46) (fun st y h => by injection h with h; subst h; exact fun lk M => ⟨rfl, rfl⟩) ((fsF46 N lk M).symm.trans h)
def cvce46n0 : List Cv := []
def selce46n0 : St → List Nat := fun _ => []
noncomputable def ce46n0 (Fx : TF46) (R : Type) (test : List AV → List Blk → Bool) : CE R := ⟨46, test, fun args M => some (selce46n0 ⟨argEnv 0 args, M, [], .unk⟩), fun args M k => tst (Nat.beq args.length 2) (callFn CX 0 cvce46n0 sgF46 selce46n0 (FFF46 Fx) elF46 args M k)⟩
theorem okce46n0 (Fx : TF46) (h : RecOkF46 Fx) (R : Type) (test : List AV → List Blk → Bool) : CeOk CX (ce46n0 Fx R test) := ce_ok hX (fun o k => by cases o; rfl) h en46 (fun args M ids h => by injection h with h; exact ⟨rfl, h.symm⟩)
end
end Go.Proofs.Ytbgdiljnmifakaa

namespace Go.Proofs.Ytbgdiljnmifakaa
open Go Go.Eng
set_option maxRecDepth 100000
noncomputable section
inductive R40 where
  | r (x0 : Int) (x1 : Bool)
abbrev TF40 := List Row → List Row → Int → Int → Int → Int → Int → Option R40
def sgF40 : LSh := ⟨[(0, .agg [.cell (.slice 38), .cell (.slice 3), .cell (.int .i64), .cell (.int .i64)]), (1, .one (.cell (.int .i64))), (2, .one (.cell (.int .i64))), (3, .one (.cell (.int .i64)))], []⟩
def FFF40 (Fx : TF40) (s : St) : Option R40 := Fx (((Eng.look s.env 0).cells.getD 0 .top).rows) (((Eng.look s.env 0).cells.getD 1 .top).rows) (((Eng.look s.env 0).cells.getD 2 .top).toI) (((Eng.look s.env 0).cells.getD 3 .top).toI) ((Eng.look s.env 1).toI) ((Eng.look s.env 2).toI) ((Eng.look s.env 3).toI)
def valF40 (o : R40) : AV := match o with | .r x0 x1 => .tup [.int .i64 x0, .bool x1]
def memF40 (o : R40) : List Blk := match o with | .r x0 x1 => []
def elF40 {R : Type} (o : R40) (k : AV → List Blk → Option R) : Option R := match o with | .r x0 x1 => k (.tup [.int .i64 x0, .bool x1]) []
def RecOkF40 (Fx : TF40) : Prop := ∀ lk M o, FFF40 Fx (canS sgF40 lk M) = some o → FCalls CX 40 0 (argsE 4 (canS sgF40 lk M).env) (canS sgF40 lk M).mem (valF40 o) (memF40 o)
noncomputable def csF40 (N : Nat) (R : Type) : List (CE R) := [ce46n0 (F46 N) R (fun _ _ => true)]
theorem hcsF40 (N : Nat) (R : Type) : AllE (CeOk CX) (csF40 N R) := ⟨okce46n0 (F46 N) (soundF46 N) R (fun _ _ => true), trivial⟩
noncomputable def T40us58 (N : Nat) (R : Type) : LTab R := mkTab ⟨37, 137438953471⟩ (csF40 N R) (noY) [] [] []
theorem okT40us58 (N : Nat) (R : Type) : (T40us58 N R).Ok CX code40 := mkTab_ok (hcsF40 N R) (noY_ok) (trivial) (trivial) (trivial)
def rs40i58f49 : List ResultVar := []
inductive OL40i58f49a6 where
  | ret (b1c0 : List Row) (b1c1 : List Row) (b1c2 : Int) (b1c3 : Int) (b2c0 : Int) (b3c0 : List Row) (b3c1 : List Row) (b3c2 : Int) (b3c3 : Int) (b4c0 : Int) (b5c0 : Int) (b6c0 : Int) (b7c0 : Bool) (b8c0 : Int)
  | x0 (b1c0 : List Row) (b1c1 : List Row) (b1c2 : Int) (b1c3 : Int) (b2c0 : Int) (b3c0 : List Row) (b3c1 : List Row) (b3c2 : Int) (b3c3 : Int) (b4c0 : Int) (b5c0 : Int) (b6c0 : Int) (b7c0 : Bool) (b8c0 : Int)
def L40i58f49a6 (N : Nat) : Nat → List Row → Int → Int → List Row → List Row → Int → Int → Int → List Row → List Row → Int → Int → Int → Int → Int → Bool → Int → Option OL40i58f49a6
  | 0 => fun _ _ _ _ _ _ _ _ _ _ _ _ _ _ _ _ _ => none
  | n + 1 => fun x7 x8 x9 b1c0 b1c1 b1c2 b1c3 b2c0 b3c0 b3c1 b3c2 b3c3 b4c0 b5c0 b6c0 b7c0 b8c0 =>
    match decide (x9 < x8) with
    | true =>
      tst (decide ((0 : Int) ≤ x9) && decide (x9 < ((x7.length : Int)))) <|
      match x9 != b2c0 with
      | true =>
        tst (decide ((0 : Int) ≤ b2c0) && decide (b2c0 < ((b1c0.length : Int)))) <|
        match decide (((((b1c0.getD b2c0.toNat [])).getD 1 .top).toI) ≤ ((((x7.getD x9.toNat [])).getD 1 .top).toI)) with
        | true =>
          tst (!(((((x7.getD x9.toNat [])).getD 2 .top).toI) == 0)) <|
          match decide (b5c0 < (IntKind.wrap .i64 (b8c0 + (IntKind.wrap .i64 ((IntKind.wrap .i64 (Int.tdiv (IntKind.wrap .i64 ((IntKind.wrap .i64 (b4c0 + ((((x7.getD x9.toNat [])).getD 2 .top).toI))) - (1 : Int))) ((((x7.getD x9.toNat [])).getD 2 .top).toI))) * (IntKind.wrap .i64 (((((x7.getD x9.toNat [])).getD 5 .top).toI) + (IntKind.wrap .i64 ((2 : Int) * b3c2))))))))) with
          | true =>
            some (.ret b1c0 b1c1 b1c2 b1c3 b2c0 b3c0 b3c1 b3c2 b3c3 b4c0 b5c0 0 false (IntKind.wrap .i64 (b8c0 + (IntKind.wrap .i64 ((IntKind.wrap .i64 (Int.tdiv (IntKind.wrap .i64 ((IntKind.wrap .i64 (b4c0 + ((((x7.getD x9.toNat [])).getD 2 .top).toI))) - (1 : Int))) ((((x7.getD x9.toNat [])).getD 2 .top).toI))) * (IntKind.wrap .i64 (((((x7.getD x9.toNat [])).getD 5 .top).toI) + (IntKind.wrap .i64 ((2 : Int) * b3c2)))))))))
          | false =>
            L40i58f49a6 N n x7 x8 (IntKind.wrap .i64 (x9 + (1 : Int))) b1c0 b1c1 b1c2 b1c3 b2c0 b3c0 b3c1 b3c2 b3c3 b4c0 b5c0 b6c0 b7c0 (IntKind.wrap .i64 (b8c0 + (IntKind.wrap .i64 ((IntKind.wrap .i64 (Int.tdiv (IntKind.wrap .i64 ((IntKind.wrap .i64 (b4c0 + ((((x7.getD x9.toNat [])).getD 2 .top).toI))) - (1 : Int))) ((((x7.getD x9.toNat [])).getD 2 .top).toI))) * (IntKind.wrap .i64 (((((x7.getD x9.toNat [])).getD 5 .top).toI) + (IntKind.wrap .i64 ((2 : Int) * b3c2))))))))
        | false =>
          L40i58f49a6 N n x7 x8 (IntKind.wrap .i64 (x9 + (1 : Int))) b1c0 b1c1 b1c2 b1c3 b2c0 b3c0 b3c1 b3c2 b3c3 b4c0 b5c0 b6c0 b7c0 b8c0
      | false =>
        L40i58f49a6 N n x7 x8 (IntKind.wrap .i64 (x9 + (1 : Int))) b1c0 b1c1 b1c2 b1c3 b2c0 b3c0 b3c1 b3c2 b3c3 b4c0 b5c0 b6c0 b7c0 b8c0
    | false =>
      some (.x0 b1c0 b1c1 b1c2 b1c3 b2c0 b3c0 b3c1 b3c2 b3c3 b4c0 b5c0 b6c0 b7c0 b8c0)
def LFL40i58f49a6 (N : Nat) (n : Nat) (s : St) : Option OL40i58f49a6 := L40i58f49a6 N n ((Eng.look s.env 7).rows) ((Eng.look s.env 8).toI) ((Eng.look s.env 9).toI) (((s.mem.getD 1 .dead).cells.getD 0 .top).rows) (((s.mem.getD 1 .dead).cells.getD 1 .top).rows) (((s.mem.getD 1 .dead).cells.getD 2 .top).toI) (((s.mem.getD 1 .dead).cells.getD 3 .top).toI) (((s.mem.getD 2 .dead).cells.getD 0 .top).toI) (((s.mem.getD 3 .dead).cells.getD 0 .top).rows) (((s.mem.getD 3 .dead).cells.getD 1 .top).rows) (((s.mem.getD 3 .dead).cells.getD 2 .top).toI) (((s.mem.getD 3 .dead).cells.getD 3 .top).toI) (((s.mem.getD 4 .dead).cells.getD 0 .top).toI) (((s.mem.getD 5 .dead).cells.getD 0 .top).toI) (((s.mem.getD 6 .dead).cells.getD 0 .top).toI) (((s.mem.getD 7 .dead).cells.getD 0 .top).toB) (((s.mem.getD 8 .dead).cells.getD 0 .top).toI)
def sgL40i58f49a6 : LSh := ⟨[(0, .one (.yld 0)), (1, .one (.ptr 1 0 0)), (2, .one (.ptr 2 0 0)), (7, .one (.cell (.slice 38))), (8, .one (.cell (.int .i64))), (9, .one (.cell (.int .i64)))], [.loop 0 [(4, .one (.ptr 3 0 0)), (6, .one (.ptr 4 0 0)), (7, .one (.ptr 5 0 0)), (8, .one (.ptr 6 0 0)), (9, .one (.ptr 7 0 0)), (10, .one (.ptr 8 0 0))] none, .var [.any, .any, .int .i64, .int .i64] [.cell (.slice 38), .cell (.slice 3), .cell (.int .i64), .cell (.int .i64)], .var [.int .i64] [.cell (.int .i64)], .var [.any, .any, .int .i64, .int .i64] [.cell (.slice 38), .cell (.slice 3), .cell (.int .i64), .cell (.int .i64)], .var [.int .i64] [.cell (.int .i64)], .var [.int .i64] [.cell (.int .i64)], .var [.int .i64] [.cell (.int .i64)], .var [.bool] [.cell (.bool)], .var [.int .i64] [.cell (.int .i64)]]⟩
def ceL40i58f49a6 : List Cv := []
def seL40i58f49a6 : St → List Nat := fun st => [(Eng.look st.env 0).id, (Eng.look st.env 1).id, (Eng.look st.env 2).id, ((st.mem.getD ((Eng.look st.env 0).id) .dead).lenv.getD 0 (0, .top)).2.id, ((st.mem.getD ((Eng.look st.env 0).id) .dead).lenv.getD 1 (0, .top)).2.id, ((st.mem.getD ((Eng.look st.env 0).id) .dead).lenv.getD 2 (0, .top)).2.id, ((st.mem.getD ((Eng.look st.env 0).id) .dead).lenv.getD 3 (0, .top)).2.id, ((st.mem.getD ((Eng.look st.env 0).id) .dead).lenv.getD 4 (0, .top)).2.id, ((st.mem.getD ((Eng.look st.env 0).id) .dead).lenv.getD 5 (0, .top)).2.id]
def xL40i58f49a6wret : XSh OL40i58f49a6 := ⟨[], ⟨[], [.loop 0 [(4, .one (.ptr 3 0 0)), (6, .one (.ptr 4 0 0)), (7, .one (.ptr 5 0 0)), (8, .one (.ptr 6 0 0)), (9, .one (.ptr 7 0 0)), (10, .one (.ptr 8 0 0))] (some .ret), .var [.any, .any, .int .i64, .int .i64] [.cell (.slice 38), .cell (.slice 3), .cell (.int .i64), .cell (.int .i64)], .var [.int .i64] [.cell (.int .i64)], .var [.any, .any, .int .i64, .int .i64] [.cell (.slice 38), .cell (.slice 3), .cell (.int .i64), .cell (.int .i64)], .var [.int .i64] [.cell (.int .i64)], .var [.int .i64] [.cell (.int .i64)], .var [.int .i64] [.cell (.int .i64)], .var [.bool] [.cell (.bool)], .var [.int .i64] [.cell (.int .i64)]]⟩, fun st => [0, 1, 2, 3, 4, 5, 6, 7, 8], fun s => .ret (((s.mem.getD 1 .dead).cells.getD 0 .top).rows) (((s.mem.getD 1 .dead).cells.getD 1 .top).rows) (((s.mem.getD 1 .dead).cells.getD 2 .top).toI) (((s.mem.getD 1 .dead).cells.getD 3 .top).toI) (((s.mem.getD 2 .dead).cells.getD 0 .top).toI) (((s.mem.getD 3 .dead).cells.getD 0 .top).rows) (((s.mem.getD 3 .dead).cells.getD 1 .top).rows) (((s.mem.getD 3 .dead).cells.getD 2 .top).toI) (((s.mem.getD 3 .dead).cells.getD 3 .top).toI) (((s.mem.getD 4 .dead).cells.getD 0 .top).toI) (((s.mem.getD 5 .dead).cells.getD 0 .top).toI) (((s.mem.getD 6 .dead).cells.getD 0 .top).toI) (((s.mem.getD 7 .dead).cells.getD 0 .top).toB) (((s.mem.getD 8 .dead).cells.getD 0 .top).toI)⟩
def xL40i58f49a6wx0 : XSh OL40i58f49a6 := ⟨[], ⟨[], [.loop 0 [(4, .one (.ptr 3 0 0)), (6, .one (.ptr 4 0 0)), (7, .one (.ptr 5 0 0)), (8, .one (.ptr 6 0 0)), (9, .one (.ptr 7 0 0)), (10, .one (.ptr 8 0 0))] none, .var [.any, .any, .int .i64, .int .i64] [.cell (.slice 38), .cell (.slice 3), .cell (.int .i64), .cell (.int .i64)], .var [.int .i64] [.cell (.int .i64)], .var [.any, .any, .int .i64, .int .i64] [.cell (.slice 38), .cell (.slice 3), .cell (.int .i64), .cell (.int .i64)], .var [.int .i64] [.cell (.int .i64)], .var [.int .i64] [.cell (.int .i64)], .var [.int .i64] [.cell (.int .i64)], .var [.bool] [.cell (.bool)], .var [.int .i64] [.cell (.int .i64)]]⟩, fun st => [0, 1, 2, 3, 4, 5, 6, 7, 8], fun s => .x0 (((s.mem.getD 1 .dead).cells.getD 0 .top).rows) (((s.mem.getD 1 .dead).cells.getD 1 .top).rows) (((s.mem.getD 1 .dead).cells.getD 2 .top).toI) (((s.mem.getD 1 .dead).cells.getD 3 .top).toI) (((s.mem.getD 2 .dead).cells.getD 0 .top).toI) (((s.mem.getD 3 .dead).cells.getD 0 .top).rows) (((s.mem.getD 3 .dead).cells.getD 1 .top).rows) (((s.mem.getD 3 .dead).cells.getD 2 .top).toI) (((s.mem.getD 3 .dead).cells.getD 3 .top).toI) (((s.mem.getD 4 .dead).cells.getD 0 .top).toI) (((s.mem.getD 5 .dead).cells.getD 0 .top).toI) (((s.mem.getD 6 .dead).cells.getD 0 .top).toI) (((s.mem.getD 7 .dead).cells.getD 0 .top).toB) (((s.mem.getD 8 .dead).cells.getD 0 .top).toI)⟩
def xsL40i58f49a6 : Ex → St → Option (XSh OL40i58f49a6) := fun e st => match e with
  | .ret => some xL40i58f49a6wret
  | .exit 0 => some xL40i58f49a6wx0
  | _ => none
def exL40i58f49a6 (o : OL40i58f49a6) : Ex := match o with | .ret b1c0 b1c1 b1c2 b1c3 b2c0 b3c0 b3c1 b3c2 b3c3 b4c0 b5c0 b6c0 b7c0 b8c0 => .ret | .x0 b1c0 b1c1 b1c2 b1c3 b2c0 b3c0 b3c1 b3c2 b3c3 b4c0 b5c0 b6c0 b7c0 b8c0 => (.exit 0)
def stL40i58f49a6 (o : OL40i58f49a6) : St := match o with | .ret b1c0 b1c1 b1c2 b1c3 b2c0 b3c0 b3c1 b3c2 b3c3 b4c0 b5c0 b6c0 b7c0 b8c0 => ⟨[], [.loop 0 [(4, .ptr 3 0 0), (6, .ptr 4 0 0), (7, .ptr 5 0 0), (8, .ptr 6 0 0), (9, .ptr 7 0 0), (10, .ptr 8 0 0)] false (some .ret), .var [.any, .any, .int .i64, .int .i64] [.list 38 b1c0, .list 3 b1c1, .int .i64 b1c2, .int .i64 b1c3], .var [.int .i64] [.int .i64 b2c0], .var [.any, .any, .int .i64, .int .i64] [.list 38 b3c0, .list 3 b3c1, .int .i64 b3c2, .int .i64 b3c3], .var [.int .i64] [.int .i64 b4c0], .var [.int .i64] [.int .i64 b5c0], .var [.int .i64] [.int .i64 b6c0], .var [.bool] [.bool b7c0], .var [.int .i64] [.int .i64 b8c0]], [], .unk⟩ | .x0 b1c0 b1c1 b1c2 b1c3 b2c0 b3c0 b3c1 b3c2 b3c3 b4c0 b5c0 b6c0 b7c0 b8c0 => ⟨[], [.loop 0 [(4, .ptr 3 0 0), (6, .ptr 4 0 0), (7, .ptr 5 0 0), (8, .ptr 6 0 0), (9, .ptr 7 0 0), (10, .ptr 8 0 0)] false none, .var [.any, .any, .int .i64, .int .i64] [.list 38 b1c0, .list 3 b1c1, .int .i64 b1c2, .int .i64 b1c3], .var [.int .i64] [.int .i64 b2c0], .var [.any, .any, .int .i64, .int .i64] [.list 38 b3c0, .list 3 b3c1, .int .i64 b3c2, .int .i64 b3c3], .var [.int .i64] [.int .i64 b4c0], .var [.int .i64] [.int .i64 b5c0], .var [.int .i64] [.int .i64 b6c0], .var [.bool] [.bool b7c0], .var [.int .i64] [.int .i64 b8c0]], [], .unk⟩
def elL40i58f49a6 {R : Type} (o : OL40i58f49a6) (k : Ex → St → Option R) : Option R := match o with | .ret b1c0 b1c1 b1c2 b1c3 b2c0 b3c0 b3c1 b3c2 b3c3 b4c0 b5c0 b6c0 b7c0 b8c0 => k .ret ⟨[], [.loop 0 [(4, .ptr 3 0 0), (6, .ptr 4 0 0), (7, .ptr 5 0 0), (8, .ptr 6 0 0), (9, .ptr 7 0 0), (10, .ptr 8 0 0)] false (some .ret), .var [.any, .any, .int .i64, .int .i64] [.list 38 b1c0, .list 3 b1c1, .int .i64 b1c2, .int .i64 b1c3], .var [.int .i64] [.int .i64 b2c0], .var [.any, .any, .int .i64, .int .i64] [.list 38 b3c0, .list 3 b3c1, .int .i64 b3c2, .int .i64 b3c3], .var [.int .i64] [.int .i64 b4c0], .var [.int .i64] [.int .i64 b5c0], .var [.int .i64] [.int .i64 b6c0], .var [.bool] [.bool b7c0], .var [.int .i64] [.int .i64 b8c0]], [], .unk⟩ | .x0 b1c0 b1c1 b1c2 b1c3 b2c0 b3c0 b3c1 b3c2 b3c3 b4c0 b5c0 b6c0 b7c0 b8c0 => k (.exit 0) ⟨[], [.loop 0 [(4, .ptr 3 0 0), (6, .ptr 4 0 0), (7, .ptr 5 0 0), (8, .ptr 6 0 0), (9, .ptr 7 0 0), (10, .ptr 8 0 0)] false none, .var [.any, .any, .int .i64, .int .i64] [.list 38 b1c0, .list 3 b1c1, .int .i64 b1c2, .int .i64 b1c3], .var [.int .i64] [.int .i64 b2c0], .var [.any, .any, .int .i64, .int .i64] [.list 38 b3c0, .list 3 b3c1, .int .i64 b3c2, .int .i64 b3c3], .var [.int .i64] [.int .i64 b4c0], .var [.int .i64] [.int .i64 b5c0], .var [.int .i64] [.int .i64 b6c0], .var [.bool] [.bool b7c0], .var [.int .i64] [.int .i64 b8c0]], [], .unk⟩
theorem heL40i58f49a6 {R : Type} (o : OL40i58f49a6) (k : Ex → St → Option R) : elL40i58f49a6 o k = k (exL40i58f49a6 o) (stL40i58f49a6 o) := by cases o <;> rfl
theorem hxL40i58f49a6 : ∀ e st x, xsL40i58f49a6 e st = some x → outOk x e exL40i58f49a6 stL40i58f49a6 := by
  intro e st x h
  unfold xsL40i58f49a6 at h
  repeat' split at h
  all_goals first
    | (injection h with h; subst h; exact fun lk M => ⟨rfl, rfl⟩)
    | cases h
noncomputable def T40i58f49ul6 (N : Nat) (R : Type) : LTab R := mkTab ⟨35, 34359737904⟩ (csF40 N R) (pickY [(0, fun id args M k => evyield CX (T40us58 N R) 0 58 id args M k)]) [] [] []
theorem okT40i58f49ul6 (N : Nat) (R : Type) : (T40i58f49ul6 N R).Ok CX code49 := mkTab_ok (hcsF40 N R) (pickY_ok (es := [(0, fun id args M k => evyield CX (T40us58 N R) 0 58 id args M k)]) ⟨fun {id args M k r} h => evyield_sound hX (okT40us58 N R) (g := nd0.1) (ps := nd0.2.1) ⟨[false, true, false, true, true], by rfl, by kernel_rfl⟩ h, trivial⟩) (trivial) (trivial) (trivial)
noncomputable def bdL40i58f49a6 : Code := match codeAt code49 [false, true] with | some (.loop c) => c | _ => .skip
theorem hsL40i58f49a6 (N : Nat) : ∀ (n : Nat) (lk : Nat → AV) (M : List Blk), LFL40i58f49a6 N (n + 1) (canS sgL40i58f49a6 lk M) = evk CX (T40i58f49ul6 N OL40i58f49a6) bdL40i58f49a6 (2 * 6) (canS sgL40i58f49a6 lk M) (kont CX 9 [] sgL40i58f49a6 (fun st => [0, 1, 2, 3, 4, 5, 6, 7, 8]) xsL40i58f49a6 (LFL40i58f49a6 N n)) := by intro n lk M; kernel_rfl
noncomputable def T40i58f49ur1 (N : Nat) (R : Type) : LTab R := mkTab ⟨35, 34359738367⟩ (csF40 N R) (pickY [(0, fun id args M k => evyield CX (T40us58 N R) 0 58 id args M k)]) [(6, fun st k => callLoop CX 9 34359737904 ceL40i58f49a6 sgL40i58f49a6 seL40i58f49a6 ⟨35, 34359738367⟩ (LFL40i58f49a6 N N) elL40i58f49a6 st k)] [] []
theorem okT40i58f49ur1 (N : Nat) (R : Type) : (T40i58f49ur1 N R).Ok CX code49 := mkTab_ok (hcsF40 N R) (pickY_ok (es := [(0, fun id args M k => evyield CX (T40us58 N R) 0 58 id args M k)]) ⟨fun {id args M k r} h => evyield_sound hX (okT40us58 N R) (g := nd0.1) (ps := nd0.2.1) ⟨[false, true, false, true, true], by rfl, by kernel_rfl⟩ h, trivial⟩) (⟨loop_ok hX (path := [false, true]) (by kernel_rfl) (by rfl) (okT40i58f49ul6 N OL40i58f49a6) (fun _ _ => rfl) (hsL40i58f49a6 N) hxL40i58f49a6 rfl heL40i58f49a6, trivial⟩) (trivial) (trivial)
noncomputable def T40ur1 (N : Nat) (R : Type) : LTab R := mkTab ⟨37, 137438953471⟩ (csF40 N R) (noY) [] [(58, fun st k => evrange CX (oneTab ⟨37, 137438953471⟩ (inl 49 (fun args M k => evfn CX (T40i58f49ur1 N R) code49 rs40i58f49 args M k))) 0 [4, 6, 7, 8, 9, 10] (.tmp 14) st k)] []
theorem okT40ur1 (N : Nat) (R : Type) : (T40ur1 N R).Ok CX code40 := mkTab_ok (hcsF40 N R) (noY_ok) (trivial) (⟨range_ok hX (path := [false, true, false, true, true]) (ps0 := nd0.2.1) (a0 := nd0.2.2.1) (b0 := nd0.2.2.2) (by kernel_rfl) (by rfl) (inl_ok fun {args M k r} h => evfn_sound hX (okT40i58f49ur1 N R) Try.func49 hb49 rfl en49 (by kernel_rfl) h) (by kernel_rfl), trivial⟩) (trivial)
def rsF40 : List ResultVar := [.cell 8 2, .cell 9 4]
def F40 : Nat → TF40
  | 0 => fun _ _ _ _ _ _ _ => none
  | N + 1 => fun x0c0 x0c1 x0c2 x0c3 x1 x2 x3 =>
    match F46 N x0c0 x0c1 x0c2 x0c3 x1 with
    | none => none
    | some (.r rb0c0v1 rb0c1v1 rb0c2v1 rb0c3v1 rb1c0v1) =>
      match L40i58f49a6 N N rb0c0v1 ((rb0c0v1.length : Int)) 0 rb0c0v1 rb0c1v1 rb0c2v1 rb0c3v1 rb1c0v1 x0c0 x0c1 x0c2 x0c3 x2 x3 0 false 0 with
      | none => none
      | some (.ret b1c0v2 b1c1v2 b1c2v2 b1c3v2 b2c0v2 b3c0v2 b3c1v2 b3c2v2 b3c3v2 b4c0v2 b5c0v2 b6c0v2 b7c0v2 b8c0v2) =>
        some (.r b6c0v2 b7c0v2)
      | some (.x0 b1c0v3 b1c1v3 b1c2v3 b1c3v3 b2c0v3 b3c0v3 b3c1v3 b3c2v3 b3c3v3 b4c0v3 b5c0v3 b6c0v3 b7c0v3 b8c0v3) =>
        some (.r b8c0v3 true)
def xRF40 : XSh R40 := ⟨[], ⟨[(0, .one (.cell (.int .i64))), (1, .one (.cell (.bool)))], []⟩, fun _ => [], fun s => .r ((Eng.look s.env 0).toI) ((Eng.look s.env 1).toB)⟩
theorem fsF40 : ∀ (N : Nat) (lk : Nat → AV) (M : List Blk), FFF40 (F40 (N + 1)) (canS sgF40 lk M) = evfn CX (T40ur1 N R40) code40 rsF40 (argsE 4 (canS sgF40 lk M).env) (canS sgF40 lk M).mem (goRt CX 0 2 (fun _ => some xRF40)) := by intro N lk M; kernel_rfl
theorem soundF40 : ∀ N, RecOkF40 (F40 N)
  | 0, lk, M, o, h => by cases h
  | N + 1, lk, M, o, h => fn_soundt hX (okT40ur1 N R40) Try.func40 hb40 rfl en40 (by kernel_rfl) (ys := fun _ => some xRF40) (fun st y h => by injection h with h; subst h; exact fun lk M => ⟨rfl, rfl⟩) ((fsF40 N lk M).symm.trans h)
def cvce40n0 : List Cv := []
def selce40n0 : St → List Nat := fun _ => []
noncomputable def ce40n0 (Fx : TF40) (R : Type) (test : List AV → List Blk → Bool) : CE R := ⟨40, test, fun args M => some (selce40n0 ⟨argEnv 0 args, M, [], .unk⟩), fun args M k => tst (Nat.beq args.length 4) (callFn CX 0 cvce40n0 sgF40 selce40n0 (FFF40 Fx) elF40 args M k)⟩
theorem okce40n0 (Fx : TF40) (h : RecOkF40 Fx) (R : Type) (test : List AV → List Blk → Bool) : CeOk CX (ce40n0 Fx R test) := ce_ok hX (fun o k => by cases o; rfl) h en40 (fun args M ids h => by injection h with h; exact ⟨rfl, h.symm⟩)
end
end Go.Proofs.Ytbgdiljnmifakaa

namespace Go.Proofs.Ytbgdiljnmifakaa
open Go Go.Eng
set_option maxRecDepth 100000
noncomputable section
inductive R21 where
  | r (x0 : Int) (x1 : Int)
abbrev TF21 := List Row → List Row → Int → Int → Int → Int → Option R21
def sgF21 : LSh := ⟨[(0, .agg [.cell (.slice 38), .cell (.slice 3), .cell (.int .i64), .cell (.int .i64)]), (1, .one (.cell (.int .i64))), (2, .one (.cell (.int .i64)))], []⟩
def FFF21 (Fx : TF21) (s : St) : Option R21 := Fx (((Eng.look s.env 0).cells.getD 0 .top).rows) (((Eng.look s.env 0).cells.getD 1 .top).rows) (((Eng.look s.env 0).cells.getD 2 .top).toI) (((Eng.look s.env 0).cells.getD 3 .top).toI) ((Eng.look s.env 1).toI) ((Eng.look s.env 2).toI)
def valF21 (o : R21) : AV := match o with | .r x0 x1 => .tup [.int .i64 x0, .int .i64 x1]
def memF21 (o : R21) : List Blk := match o with | .r x0 x1 => []
def elF21 {R : Type} (o : R21) (k : AV → List Blk → Option R) : Option R := match o with | .r x0 x1 => k (.tup [.int .i64 x0, .int .i64 x1]) []
def RecOkF21 (Fx : TF21) : Prop := ∀ lk M o, FFF21 Fx (canS sgF21 lk M) = some o → FCalls CX 21 0 (argsE 3 (canS sgF21 lk M).env) (canS sgF21 lk M).mem (valF21 o) (memF21 o)
noncomputable def csF21 (N : Nat) (R : Type) : List (CE R) := [ce13n0 (F13 N) R (fun _ _ => true), ce31n0 (F31 N) R (fun _ _ => true), ce38n0 (F38 N) R (fun _ _ => true), ce40n0 (F40 N) R (fun _ _ => true)]
theorem hcsF21 (N : Nat) (R : Type) : AllE (CeOk CX) (csF21 N R) := ⟨okce13n0 (F13 N) (soundF13 N) R (fun _ _ => true), okce31n0 (F31 N) (soundF31 N) R (fun _ _ => true), okce38n0 (F38 N) (soundF38 N) R (fun _ _ => true), okce40n0 (F40 N) (soundF40 N) R (fun _ _ => true), trivial⟩
inductive OJ21a6 where
  | nx (b0c0 : List Row) (b0c1 : List Row) (b0c2 : Int) (b0c3 : Int)
  | ret (x6 : Int) (x7 : Int) (b0c0 : List Row) (b0c1 : List Row) (b0c2 : Int) (b0c3 : Int)
def J21a6 (N : Nat) : Int → List Row → List Row → Int → Int → Option OJ21a6 := fun x2 b0c0 b0c1 b0c2 b0c3 =>
    match F13 N b0c0 b0c1 b0c2 b0c3 with
    | none => none
    | some (.r rx0v1) =>
      match !rx0v1 with
      | true =>
        some (.ret 0 2 b0c0 b0c1 b0c2 b0c3)
      | false =>
        match F31 N x2 0 2147483647 with
        | none => none
        | some (.r rx0v2) =>
          match !rx0v2 with
          | true =>
            some (.ret 0 2 b0c0 b0c1 b0c2 b0c3)
          | false =>
            some (.nx b0c0 b0c1 b0c2 b0c3)
def LFJ21a6 (N : Nat) (s : St) : Option OJ21a6 := J21a6 N ((Eng.look s.env 2).toI) (((s.mem.getD 0 .dead).cells.getD 0 .top).rows) (((s.mem.getD 0 .dead).cells.getD 1 .top).rows) (((s.mem.getD 0 .dead).cells.getD 2 .top).toI) (((s.mem.getD 0 .dead).cells.getD 3 .top).toI)
def sgJ21a6 : LSh := ⟨[(2, .one (.cell (.int .i64))), (3, .one (.ptr 0 0 0))], [.var [.any, .any, .int .i64, .int .i64] [.cell (.slice 38), .cell (.slice 3), .cell (.int .i64), .cell (.int .i64)]]⟩
def ceJ21a6 : List Cv := []
def seJ21a6 : St → List Nat := fun st => [(Eng.look st.env 3).id]
def xJ21a6wnx : XSh OJ21a6 := ⟨[], ⟨[], [.var [.any, .any, .int .i64, .int .i64] [.cell (.slice 38), .cell (.slice 3), .cell (.int .i64), .cell (.int .i64)]]⟩, fun st => [0], fun s => .nx (((s.mem.getD 0 .dead).cells.getD 0 .top).rows) (((s.mem.getD 0 .dead).cells.getD 1 .top).rows) (((s.mem.getD 0 .dead).cells.getD 2 .top).toI) (((s.mem.getD 0 .dead).cells.getD 3 .top).toI)⟩
def xJ21a6wret : XSh OJ21a6 := ⟨[], ⟨[(6, .one (.cell (.int .i64))), (7, .one (.cell (.int .i64)))], [.var [.any, .any, .int .i64, .int .i64] [.cell (.slice 38), .cell (.slice 3), .cell (.int .i64), .cell (.int .i64)]]⟩, fun st => [0], fun s => .ret ((Eng.look s.env 6).toI) ((Eng.look s.env 7).toI) (((s.mem.getD 0 .dead).cells.getD 0 .top).rows) (((s.mem.getD 0 .dead).cells.getD 1 .top).rows) (((s.mem.getD 0 .dead).cells.getD 2 .top).toI) (((s.mem.getD 0 .dead).cells.getD 3 .top).toI)⟩
def xsJ21a6 : Ex → St → Option (XSh OJ21a6) := fun e st => match e with
  | .normal => some xJ21a6wnx
  | .ret => some xJ21a6wret
  | _ => none
def exJ21a6 (o : OJ21a6) : Ex := match o with | .nx b0c0 b0c1 b0c2 b0c3 => .normal | .ret x6 x7 b0c0 b0c1 b0c2 b0c3 => .ret
def stJ21a6 (o : OJ21a6) : St := match o with | .nx b0c0 b0c1 b0c2 b0c3 => ⟨[], [.var [.any, .any, .int .i64, .int .i64] [.list 38 b0c0, .list 3 b0c1, .int .i64 b0c2, .int .i64 b0c3]], [], .unk⟩ | .ret x6 x7 b0c0 b0c1 b0c2 b0c3 => ⟨[(6, .int .i64 x6), (7, .int .i64 x7)], [.var [.any, .any, .int .i64, .int .i64] [.list 38 b0c0, .list 3 b0c1, .int .i64 b0c2, .int .i64 b0c3]], [], .unk⟩
def elJ21a6 {R : Type} (o : OJ21a6) (k : Ex → St → Option R) : Option R := match o with | .nx b0c0 b0c1 b0c2 b0c3 => k .normal ⟨[], [.var [.any, .any, .int .i64, .int .i64] [.list 38 b0c0, .list 3 b0c1, .int .i64 b0c2, .int .i64 b0c3]], [], .unk⟩ | .ret x6 x7 b0c0 b0c1 b0c2 b0c3 => k .ret ⟨[(6, .int .i64 x6), (7, .int .i64 x7)], [.var [.any, .any, .int .i64, .int .i64] [.list 38 b0c0, .list 3 b0c1, .int .i64 b0c2, .int .i64 b0c3]], [], .unk⟩
theorem heJ21a6 {R : Type} (o : OJ21a6) (k : Ex → St → Option R) : elJ21a6 o k = k (exJ21a6 o) (stJ21a6 o) := by cases o <;> rfl
theorem hxJ21a6 : ∀ e st x, xsJ21a6 e st = some x → outOk x e exJ21a6 stJ21a6 := by
  intro e st x h
  unfold xsJ21a6 at h
  repeat' split at h
  all_goals first
    | (injection h with h; subst h; exact fun lk M => ⟨rfl, rfl⟩)
    | cases h
noncomputable def T21uc6 (N : Nat) (R : Type) : LTab R := mkTab ⟨35, 522432⟩ (csF21 N R) (noY) [] [] []
theorem okT21uc6 (N : Nat) (R : Type) : (T21uc6 N R).Ok CX code21 := mkTab_ok (hcsF21 N R) (noY_ok) (trivial) (trivial) (trivial)
noncomputable def bdJ21a6 : Code := (codeAt code21 [false, true]).getD .skip
theorem hsJ21a6 (N : Nat) : ∀ (lk : Nat → AV) (M : List Blk), LFJ21a6 N (canS sgJ21a6 lk M) = evk CX (T21uc6 N OJ21a6) bdJ21a6 6 (canS sgJ21a6 lk M) (kontX CX 1 xsJ21a6) := by intro lk M; kernel_rfl
noncomputable def T21ur1 (N : Nat) (R : Type) : LTab R := mkTab ⟨35, 34359738367⟩ (csF21 N R) (noY) [] [] [(6, fun st k => callLoop CX 1 522432 ceJ21a6 sgJ21a6 seJ21a6 ⟨35, 34359738367⟩ (LFJ21a6 N) elJ21a6 st k)]
theorem okT21ur1 (N : Nat) (R : Type) : (T21ur1 N R).Ok CX code21 := mkTab_ok (hcsF21 N R) (noY_ok) (trivial) (trivial) (⟨cut_ok hX (path := [false, true]) (by kernel_rfl) (by rfl) (okT21uc6 N OJ21a6) (hsJ21a6 N) hxJ21a6 rfl heJ21a6, trivial⟩)
def rsF21 : List ResultVar := [.tmp 6, .tmp 7]
def F21 : Nat → TF21
  | 0 => fun _ _ _ _ _ _ => none
  | N + 1 => fun x0c0 x0c1 x0c2 x0c3 x1 x2 =>
    match J21a6 N x2 x0c0 x0c1 x0c2 x0c3 with
    | none => none
    | some (.nx b0c0v3 b0c1v3 b0c2v3 b0c3v3) =>
      match F38 N b0c0v3 b0c1v3 b0c2v3 b0c3v3 x1 with
      | none => none
      | some (.r rx0v4) =>
        match rx0v4 != (0 : Int) with
        | true =>
          some (.r 0 rx0v4)
        | false =>
          match F40 N b0c0v3 b0c1v3 b0c2v3 b0c3v3 x1 x2 1152921504606846976 with
          | none => none
          | some (.r rx0v5 rx1v5) =>
            match !rx1v5 with
            | true =>
              some (.r 0 3)
            | false =>
              some (.r rx0v5 0)
    | some (.ret x6v6 x7v6 b0c0v6 b0c1v6 b0c2v6 b0c3v6) =>
      some (.r x6v6 x7v6)
def xRF21 : XSh R21 := ⟨[], ⟨[(0, .one (.cell (.int .i64))), (1, .one (.cell (.int .i64)))], []⟩, fun _ => [], fun s => .r ((Eng.look s.env 0).toI) ((Eng.look s.env 1).toI)⟩
theorem fsF21 : ∀ (N : Nat) (lk : Nat → AV) (M : List Blk), FFF21 (F21 (N + 1)) (canS sgF21 lk M) = evfn CX (T21ur1 N R21) code21 rsF21 (argsE 3 (canS sgF21 lk M).env) (canS sgF21 lk M).mem (goRt CX 0 2 (fun _ => some xRF21)) := by intro N lk M; kernel_rfl
theorem soundF21 : ∀ N, RecOkF21 (F21 N)
  | 0, lk, M, o, h => by cases h
  | N + 1, lk, M, o, h => fn_soundt hX (okT21ur1 N R21) Try.func21 hb21 rfl en21 (by kernel_rfl) (ys := fun _ => some xRF21) (fun st y h => by injection h with h; subst h; exact fun lk M => ⟨rfl, rfl⟩) ((fsF21 N lk M).symm.trans h)
def cvce21n0 : List Cv := [.frza 0 [.slice 38, .slice 3, .raw, .raw]]
def selce21n0 : St → List Nat := fun _ => []
noncomputable def ce21n0 (Fx : TF21) (R : Type) (test : List AV → List Blk → Bool) : CE R := ⟨21, test, fun _ M => some (List.range M.length), fun args M k => tst (Nat.beq args.length 3) (callFn CX 0 cvce21n0 sgF21 selce21n0 (FFF21 Fx) elF21 args M (fun x M' => tst (Nat.ble M.length M'.length) (k x M')))⟩
theorem okce21n0 (Fx : TF21) (h : RecOkF21 Fx) (R : Type) (test : List AV → List Blk → Bool) : CeOk CX (ce21n0 Fx R test) := ce_okc hX (fun o k => by cases o; rfl) h en21
end
end Go.Proofs.Ytbgdiljnmifakaa

namespace Go.Proofs.Ytbgdiljnmifakaa
open Go Go.Eng
set_option maxRecDepth 100000
noncomputable section
inductive R44 where
  | r (b0c0 : List Row) (b0c1 : List Row) (b0c2 : Int) (b0c3 : Int) (b1c0 : Int)
abbrev TF44 := List Row → List Row → Int → Int → Int → Option R44
def sgF44 : LSh := ⟨[(0, .agg [.cell (.slice 38), .cell (.slice 3), .cell (.int .i64), .cell (.int .i64)]), (1, .one (.cell (.int .i64)))], []⟩
def FFF44 (Fx : TF44) (s : St) : Option R44 := Fx (((Eng.look s.env 0).cells.getD 0 .top).rows) (((Eng.look s.env 0).cells.getD 1 .top).rows) (((Eng.look s.env 0).cells.getD 2 .top).toI) (((Eng.look s.env 0).cells.getD 3 .top).toI) ((Eng.look s.env 1).toI)
def valF44 (o : R44) : AV := match o with | .r b0c0 b0c1 b0c2 b0c3 b1c0 => .clos 48 [] [.ptr 0 0 0, .ptr 1 0 0]
def memF44 (o : R44) : List Blk := match o with | .r b0c0 b0c1 b0c2 b0c3 b1c0 => [.var [.any, .any, .int .i64, .int .i64] [.list 38 b0c0, .list 3 b0c1, .int .i64 b0c2, .int .i64 b0c3], .var [.int .i64] [.int .i64 b1c0]]
def elF44 {R : Type} (o : R44) (k : AV → List Blk → Option R) : Option R := match o with | .r b0c0 b0c1 b0c2 b0c3 b1c0 => k (.clos 48 [] [.ptr 0 0 0, .ptr 1 0 0]) [.var [.any, .any, .int .i64, .int .i64] [.list 38 b0c0, .list 3 b0c1, .int .i64 b0c2, .int .i64 b0c3], .var [.int .i64] [.int .i64 b1c0]]
def RecOkF44 (Fx : TF44) : Prop := ∀ lk M o, FFF44 Fx (canS sgF44 lk M) = some o → FCalls CX 44 0 (argsE 2 (canS sgF44 lk M).env) (canS sgF44 lk M).mem (valF44 o) (memF44 o)
noncomputable def csF44 (N : Nat) (R : Type) : List (CE R) := []
theorem hcsF44 (N : Nat) (R : Type) : AllE (CeOk CX) (csF44 N R) := trivial
noncomputable def T44ur1 (N : Nat) (R : Type) : LTab R := mkTab ⟨13, 8191⟩ (csF44 N R) (noY) [] [] []
theorem okT44ur1 (N : Nat) (R : Type) : (T44ur1 N R).Ok CX code44 := mkTab_ok (hcsF44 N R) (noY_ok) (trivial) (trivial) (trivial)
def rsF44 : List ResultVar := [.tmp 4]
def F44 : Nat → TF44
  | 0 => fun _ _ _ _ _ => none
  | N + 1 => fun x0c0 x0c1 x0c2 x0c3 x1 =>
    tst (decide ((0 : Int) ≤ x1) && decide (x1 < ((x0c0.length : Int)))) <|
    some (.r x0c0 x0c1 x0c2 x0c3 ((((x0c0.getD x1.toNat [])).getD 1 .top).toI))
def xRF44 : XSh R44 := ⟨[], ⟨[(0, .one (.cl 48 [(0, 0, 0), (1, 0, 0)]))], [.var [.any, .any, .int .i64, .int .i64] [.cell (.slice 38), .cell (.slice 3), .cell (.int .i64), .cell (.int .i64)], .var [.int .i64] [.cell (.int .i64)]]⟩, fun st => [((Eng.look st.env 0).caps.getD 0 .top).id, ((Eng.look st.env 0).caps.getD 1 .top).id], fun s => .r (((s.mem.getD 0 .dead).cells.getD 0 .top).rows) (((s.mem.getD 0 .dead).cells.getD 1 .top).rows) (((s.mem.getD 0 .dead).cells.getD 2 .top).toI) (((s.mem.getD 0 .dead).cells.getD 3 .top).toI) (((s.mem.getD 1 .dead).cells.getD 0 .top).toI)⟩
theorem fsF44 : ∀ (N : Nat) (lk : Nat → AV) (M : List Blk), FFF44 (F44 (N + 1)) (canS sgF44 lk M) = evfn CX (T44ur1 N R44) code44 rsF44 (argsE 2 (canS sgF44 lk M).env) (canS sgF44 lk M).mem (goR CX 0 (fun _ => some xRF44)) := by intro N lk M; kernel_rfl
theorem soundF44 : ∀ N, RecOkF44 (F44 N)
  | 0, lk, M, o, h => by cases h
  | N + 1, lk, M, o, h => fn_sound hX (okT44ur1 N R44) Try.func44 hb44 rfl en44 (by kernel_rfl) (ys := fun _ => some xRF44) (fun st y h => by injection h with h; subst h; exact fun lk M => ⟨rfl, rfl⟩) ((fsF44 N lk M).symm.trans h)
def cvce44n0 : List Cv := []
def selce44n0 : St → List Nat := fun _ => []
noncomputable def ce44n0 (Fx : TF44) (R : Type) (test : List AV → List Blk → Bool) : CE R := ⟨44, test, fun args M => some (selce44n0 ⟨argEnv 0 args, M, [], .unk⟩), fun args M k => tst (Nat.beq args.length 2) (callFn CX 0 cvce44n0 sgF44 selce44n0 (FFF44 Fx) elF44 args M k)⟩
theorem okce44n0 (Fx : TF44) (h : RecOkF44 Fx) (R : Type) (test : List AV → List Blk → Bool) : CeOk CX (ce44n0 Fx R test) := ce_ok hX (fun o k => by cases o; rfl) h en44 (fun args M ids h => by injection h with h; exact ⟨rfl, h.symm⟩)
end
end Go.Proofs.Ytbgdiljnmifakaa

namespace Go.Proofs.Ytbgdiljnmifakaa
open Go Go.Eng
set_option maxRecDepth 100000
noncomputable section
inductive R47 where
  | r (b1c0 : List Row) (b1c1 : List Row) (b1c2 : Int) (b1c3 : Int) (b2c0 : Int) (b3 : List Row)
abbrev TF47 := List Row → List Row → List Row → Int → Int → Int → Option R47
def sgF47 : LSh := ⟨[(0, .one (.own 0)), (1, .one (.cl 48 [(1, 0, 0), (2, 0, 0)]))], [.row 2, .var [.any, .any, .int .i64, .int .i64] [.cell (.slice 38), .cell (.slice 3), .cell (.int .i64), .cell (.int .i64)], .var [.int .i64] [.cell (.int .i64)]]⟩
def FFF47 (Fx : TF47) (s : St) : Option R47 := Fx ((s.mem.getD 0 .dead).rows) (((s.mem.getD 1 .dead).cells.getD 0 .top).rows) (((s.mem.getD 1 .dead).cells.getD 1 .top).rows) (((s.mem.getD 1 .dead).cells.getD 2 .top).toI) (((s.mem.getD 1 .dead).cells.getD 3 .top).toI) (((s.mem.getD 2 .dead).cells.getD 0 .top).toI)
def valF47 (o : R47) : AV := match o with | .r b1c0 b1c1 b1c2 b1c3 b2c0 b3 => .own 3
def memF47 (o : R47) : List Blk := match o with | .r b1c0 b1c1 b1c2 b1c3 b2c0 b3 => [.dead, .var [.any, .any, .int .i64, .int .i64] [.list 38 b1c0, .list 3 b1c1, .int .i64 b1c2, .int .i64 b1c3], .var [.int .i64] [.int .i64 b2c0], .row 2 b3]
def elF47 {R : Type} (o : R47) (k : AV → List Blk → Option R) : Option R := match o with | .r b1c0 b1c1 b1c2 b1c3 b2c0 b3 => k (.own 3) [.dead, .var [.any, .any, .int .i64, .int .i64] [.list 38 b1c0, .list 3 b1c1, .int .i64 b1c2, .int .i64 b1c3], .var [.int .i64] [.int .i64 b2c0], .row 2 b3]
def RecOkF47 (Fx : TF47) : Prop := ∀ lk M o, FFF47 Fx (canS sgF47 lk M) = some o → FCalls CX 47 3 (argsE 2 (canS sgF47 lk M).env) (canS sgF47 lk M).mem (valF47 o) (memF47 o)
noncomputable def csF47 (N : Nat) (R : Type) : List (CE R) := []
theorem hcsF47 (N : Nat) (R : Type) : AllE (CeOk CX) (csF47 N R) := trivial
noncomputable def T47us26 (N : Nat) (R : Type) : LTab R := mkTab ⟨13, 8191⟩ (csF47 N R) (noY) [] [] []
theorem okT47us26 (N : Nat) (R : Type) : (T47us26 N R).Ok CX code47 := mkTab_ok (hcsF47 N R) (noY_ok) (trivial) (trivial) (trivial)
def rs47i26f48 : List ResultVar := []
inductive OL47i26f48a3278 where
  | x2 (b1c0 : List Row) (b1c1 : List Row) (b1c2 : Int) (b1c3 : Int) (b2c0 : Int) (b4 : List Row)
def L47i26f48a3278 (N : Nat) : Nat → List Row → Int → Int → List Row → List Row → Int → Int → Int → List Row → Option OL47i26f48a3278
  | 0 => fun _ _ _ _ _ _ _ _ _ => none
  | n + 1 => fun x20 x21 x22 b1c0 b1c1 b1c2 b1c3 b2c0 b4 =>
    match decide (x22 < x21) with
    | true =>
      tst (decide ((0 : Int) ≤ x22) && decide (x22 < ((x20.length : Int)))) <|
      tst (decide ((0 : Int) ≤ ((((x20.getD x22.toNat [])).getD 0 .top).toI)) && decide ((((x20.getD x22.toNat [])).getD 0 .top).toI < ((b1c1.length : Int)))) <|
      match decide (b2c0 ≤ ((((b1c1.getD (((((x20.getD x22.toNat [])).getD 0 .top).toI).toNat) [])).getD 0 .top).toI)) with
      | true =>
        tst (decide (((b4.length + 1) * 8) ≤ 140737488355328)) <|
        L47i26f48a3278 N n x20 x21 (IntKind.wrap .i64 (x22 + (1 : Int))) b1c0 b1c1 b1c2 b1c3 b2c0 (b4 ++ (([[.int .i64 ((((x20.getD x22.toNat [])).getD 1 .top).toI)]] : List Row)))
      | false =>
        L47i26f48a3278 N n x20 x21 (IntKind.wrap .i64 (x22 + (1 : Int))) b1c0 b1c1 b1c2 b1c3 b2c0 b4
    | false =>
      some (.x2 b1c0 b1c1 b1c2 b1c3 b2c0 b4)
def LFL47i26f48a3278 (N : Nat) (n : Nat) (s : St) : Option OL47i26f48a3278 := L47i26f48a3278 N n ((Eng.look s.env 20).rows) ((Eng.look s.env 21).toI) ((Eng.look s.env 22).toI) (((s.mem.getD 1 .dead).cells.getD 0 .top).rows) (((s.mem.getD 1 .dead).cells.getD 1 .top).rows) (((s.mem.getD 1 .dead).cells.getD 2 .top).toI) (((s.mem.getD 1 .dead).cells.getD 3 .top).toI) (((s.mem.getD 2 .dead).cells.getD 0 .top).toI) ((s.mem.getD 4 .dead).rows)
def sgL47i26f48a3278 : LSh := ⟨[(0, .one (.yld 0)), (1, .one (.ptr 1 0 0)), (2, .one (.ptr 2 0 0)), (20, .one (.cell (.slice 55))), (21, .one (.cell (.int .i64))), (22, .one (.cell (.int .i64)))], [.loop 4 [(2, .one (.ptr 3 0 0))] none, .var [.any, .any, .int .i64, .int .i64] [.cell (.slice 38), .cell (.slice 3), .cell (.int .i64), .cell (.int .i64)], .var [.int .i64] [.cell (.int .i64)], .var [.any] [.own 4], .row 2]⟩
def ceL47i26f48a3278 : List Cv := []
def seL47i26f48a3278 : St → List Nat := fun st => [(Eng.look st.env 0).id, (Eng.look st.env 1).id, (Eng.look st.env 2).id, ((st.mem.getD ((Eng.look st.env 0).id) .dead).lenv.getD 0 (0, .top)).2.id, ((st.mem.getD (((st.mem.getD ((Eng.look st.env 0).id) .dead).lenv.getD 0 (0, .top)).2.id) .dead).cells.getD 0 .top).id]
def xL47i26f48a3278wx2 : XSh OL47i26f48a3278 := ⟨[], ⟨[], [.loop 4 [(2, .one (.ptr 3 0 0))] none, .var [.any, .any, .int .i64, .int .i64] [.cell (.slice 38), .cell (.slice 3), .cell (.int .i64), .cell (.int .i64)], .var [.int .i64] [.cell (.int .i64)], .var [.any] [.own 4], .row 2]⟩, fun st => [0, 1, 2, 3, ((st.mem.getD 3 .dead).cells.getD 0 .top).id], fun s => .x2 (((s.mem.getD 1 .dead).cells.getD 0 .top).rows) (((s.mem.getD 1 .dead).cells.getD 1 .top).rows) (((s.mem.getD 1 .dead).cells.getD 2 .top).toI) (((s.mem.getD 1 .dead).cells.getD 3 .top).toI) (((s.mem.getD 2 .dead).cells.getD 0 .top).toI) ((s.mem.getD 4 .dead).rows)⟩
def xsL47i26f48a3278 : Ex → St → Option (XSh OL47i26f48a3278) := fun e st => match e with
  | .exit 2 => some xL47i26f48a3278wx2
  | _ => none
def exL47i26f48a3278 (o : OL47i26f48a3278) : Ex := match o with | .x2 b1c0 b1c1 b1c2 b1c3 b2c0 b4 => (.exit 2)
def stL47i26f48a3278 (o : OL47i26f48a3278) : St := match o with | .x2 b1c0 b1c1 b1c2 b1c3 b2c0 b4 => ⟨[], [.loop 4 [(2, .ptr 3 0 0)] false none, .var [.any, .any, .int .i64, .int .i64] [.list 38 b1c0, .list 3 b1c1, .int .i64 b1c2, .int .i64 b1c3], .var [.int .i64] [.int .i64 b2c0], .var [.any] [.own 4], .row 2 b4], [], .unk⟩
def elL47i26f48a3278 {R : Type} (o : OL47i26f48a3278) (k : Ex → St → Option R) : Option R := match o with | .x2 b1c0 b1c1 b1c2 b1c3 b2c0 b4 => k (.exit 2) ⟨[], [.loop 4 [(2, .ptr 3 0 0)] false none, .var [.any, .any, .int .i64, .int .i64] [.list 38 b1c0, .list 3 b1c1, .int .i64 b1c2, .int .i64 b1c3], .var [.int .i64] [.int .i64 b2c0], .var [.any] [.own 4], .row 2 b4], [], .unk⟩
theorem heL47i26f48a3278 {R : Type} (o : OL47i26f48a3278) (k : Ex → St → Option R) : elL47i26f48a3278 o k = k (exL47i26f48a3278 o) (stL47i26f48a3278 o) := by cases o <;> rfl
theorem hxL47i26f48a3278 : ∀ e st x, xsL47i26f48a3278 e st = some x → outOk x e exL47i26f48a3278 stL47i26f48a3278 := by
  intro e st x h
  unfold xsL47i26f48a3278 at h
  repeat' split at h
  all_goals first
    | (injection h with h; subst h; exact fun lk M => ⟨rfl, rfl⟩)
    | cases h
noncomputable def T47i26f48ul3278 (N : Nat) (R : Type) : LTab R := mkTab ⟨43, 4398042316928⟩ (csF47 N R) (pickY [(4, fun id args M k => evyield CX (T47us26 N R) 4 26 id args M k)]) [] [] []
theorem okT47i26f48ul3278 (N : Nat) (R : Type) : (T47i26f48ul3278 N R).Ok CX code48 := mkTab_ok (hcsF47 N R) (pickY_ok (es := [(4, fun id args M k => evyield CX (T47us26 N R) 4 26 id args M k)]) ⟨fun {id args M k r} h => evyield_sound hX (okT47us26 N R) (g := nd4.1) (ps := nd4.2.1) ⟨[false, true, false, true], by rfl, by kernel_rfl⟩ h, trivial⟩) (trivial) (trivial) (trivial)
noncomputable def bdL47i26f48a3278 : Code := match codeAt code48 [false, true, true, true, false, false, true, true, false, false, true] with | some (.loop c) => c | _ => .skip
theorem hsL47i26f48a3278 (N : Nat) : ∀ (n : Nat) (lk : Nat → AV) (M : List Blk), LFL47i26f48a3278 N (n + 1) (canS sgL47i26f48a3278 lk M) = evk CX (T47i26f48ul3278 N OL47i26f48a3278) bdL47i26f48a3278 (2 * 3278) (canS sgL47i26f48a3278 lk M) (kont CX 4 [] sgL47i26f48a3278 (fun st => [0, 1, 2, 3, ((st.mem.getD 3 .dead).cells.getD 0 .top).id]) xsL47i26f48a3278 (LFL47i26f48a3278 N n)) := by intro n lk M; kernel_rfl
inductive OL47i26f48a6 where
  | x0 (b1c0 : List Row) (b1c1 : List Row) (b1c2 : Int) (b1c3 : Int) (b2c0 : Int) (b4 : List Row)
def L47i26f48a6 (N : Nat) : Nat → List Row → Int → Int → List Row → List Row → Int → Int → Int → List Row → Option OL47i26f48a6
  | 0 => fun _ _ _ _ _ _ _ _ _ => none
  | n + 1 => fun x9 x10 x11 b1c0 b1c1 b1c2 b1c3 b2c0 b4 =>
    match decide (x11 < x10) with
    | true =>
      tst (decide ((0 : Int) ≤ x11) && decide (x11 < ((x9.length : Int)))) <|
      match decide (b2c0 ≤ ((((x9.getD x11.toNat [])).getD 1 .top).toI)) with
      | true =>
        L47i26f48a6 N n x9 x10 (IntKind.wrap .i64 (x11 + (1 : Int))) b1c0 b1c1 b1c2 b1c3 b2c0 b4
      | false =>
        match L47i26f48a3278 N N ((((x9.getD x11.toNat [])).getD 6 .top).rows) ((((((x9.getD x11.toNat [])).getD 6 .top).rows).length : Int)) 0 b1c0 b1c1 b1c2 b1c3 b2c0 b4 with
        | none => none
        | some (.x2 b1c0v1 b1c1v1 b1c2v1 b1c3v1 b2c0v1 b4v1) =>
          L47i26f48a6 N n x9 x10 (IntKind.wrap .i64 (x11 + (1 : Int))) b1c0v1 b1c1v1 b1c2v1 b1c3v1 b2c0v1 b4v1
    | false =>
      some (.x0 b1c0 b1c1 b1c2 b1c3 b2c0 b4)
def LFL47i26f48a6 (N : Nat) (n : Nat) (s : St) : Option OL47i26f48a6 := L47i26f48a6 N n ((Eng.look s.env 9).rows) ((Eng.look s.env 10).toI) ((Eng.look s.env 11).toI) (((s.mem.getD 1 .dead).cells.getD 0 .top).rows) (((s.mem.getD 1 .dead).cells.getD 1 .top).rows) (((s.mem.getD 1 .dead).cells.getD 2 .top).toI) (((s.mem.getD 1 .dead).cells.getD 3 .top).toI) (((s.mem.getD 2 .dead).cells.getD 0 .top).toI) ((s.mem.getD 4 .dead).rows)
def sgL47i26f48a6 : LSh := ⟨[(0, .one (.yld 0)), (1, .one (.ptr 1 0 0)), (2, .one (.ptr 2 0 0)), (9, .one (.cell (.slice 38))), (10, .one (.cell (.int .i64))), (11, .one (.cell (.int .i64)))], [.loop 4 [(2, .one (.ptr 3 0 0))] none, .var [.any, .any, .int .i64, .int .i64] [.cell (.slice 38), .cell (.slice 3), .cell (.int .i64), .cell (.int .i64)], .var [.int .i64] [.cell (.int .i64)], .var [.any] [.own 4], .row 2]⟩
def ceL47i26f48a6 : List Cv := []
def seL47i26f48a6 : St → List Nat := fun st => [(Eng.look st.env 0).id, (Eng.look st.env 1).id, (Eng.look st.env 2).id, ((st.mem.getD ((Eng.look st.env 0).id) .dead).lenv.getD 0 (0, .top)).2.id, ((st.mem.getD (((st.mem.getD ((Eng.look st.env 0).id) .dead).lenv.getD 0 (0, .top)).2.id) .dead).cells.getD 0 .top).id]
def xL47i26f48a6wx0 : XSh OL47i26f48a6 := ⟨[], ⟨[], [.loop 4 [(2, .one (.ptr 3 0 0))] none, .var [.any, .any, .int .i64, .int .i64] [.cell (.slice 38), .cell (.slice 3), .cell (.int .i64), .cell (.int .i64)], .var [.int .i64] [.cell (.int .i64)], .var [.any] [.own 4], .row 2]⟩, fun st => [0, 1, 2, 3, ((st.mem.getD 3 .dead).cells.getD 0 .top).id], fun s => .x0 (((s.mem.getD 1 .dead).cells.getD 0 .top).rows) (((s.mem.getD 1 .dead).cells.getD 1 .top).rows) (((s.mem.getD 1 .dead).cells.getD 2 .top).toI) (((s.mem.getD 1 .dead).cells.getD 3 .top).toI) (((s.mem.getD 2 .dead).cells.getD 0 .top).toI) ((s.mem.getD 4 .dead).rows)⟩
def xsL47i26f48a6 : Ex → St → Option (XSh OL47i26f48a6) := fun e st => match e with
  | .exit 0 => some xL47i26f48a6wx0
  | _ => none
def exL47i26f48a6 (o : OL47i26f48a6) : Ex := match o with | .x0 b1c0 b1c1 b1c2 b1c3 b2c0 b4 => (.exit 0)
def stL47i26f48a6 (o : OL47i26f48a6) : St := match o with | .x0 b1c0 b1c1 b1c2 b1c3 b2c0 b4 => ⟨[], [.loop 4 [(2, .ptr 3 0 0)] false none, .var [.any, .any, .int .i64, .int .i64] [.list 38 b1c0, .list 3 b1c1, .int .i64 b1c2, .int .i64 b1c3], .var [.int .i64] [.int .i64 b2c0], .var [.any] [.own 4], .row 2 b4], [], .unk⟩
def elL47i26f48a6 {R : Type} (o : OL47i26f48a6) (k : Ex → St → Option R) : Option R := match o with | .x0 b1c0 b1c1 b1c2 b1c3 b2c0 b4 => k (.exit 0) ⟨[], [.loop 4 [(2, .ptr 3 0 0)] false none, .var [.any, .any, .int .i64, .int .i64] [.list 38 b1c0, .list 3 b1c1, .int .i64 b1c2, .int .i64 b1c3], .var [.int .i64] [.int .i64 b2c0], .var [.any] [.own 4], .row 2 b4], [], .unk⟩
theorem heL47i26f48a6 {R : Type} (o : OL47i26f48a6) (k : Ex → St → Option R) : elL47i26f48a6 o k = k (exL47i26f48a6 o) (stL47i26f48a6 o) := by cases o <;> rfl
theorem hxL47i26f48a6 : ∀ e st x, xsL47i26f48a6 e st = some x → outOk x e exL47i26f48a6 stL47i26f48a6 := by
  intro e st x h
  unfold xsL47i26f48a6 at h
  repeat' split at h
  all_goals first
    | (injection h with h; subst h; exact fun lk M => ⟨rfl, rfl⟩)
    | cases h
noncomputable def T47i26f48ul6 (N : Nat) (R : Type) : LTab R := mkTab ⟨43, 8796093020320⟩ (csF47 N R) (pickY [(4, fun id args M k => evyield CX (T47us26 N R) 4 26 id args M k)]) [(3278, fun st k => callLoop CX 4 4398042316928 ceL47i26f48a3278 sgL47i26f48a3278 seL47i26f48a3278 ⟨43, 8796093020320⟩ (LFL47i26f48a3278 N N) elL47i26f48a3278 st k)] [] []
theorem okT47i26f48ul6 (N : Nat) (R : Type) : (T47i26f48ul6 N R).Ok CX code48 := mkTab_ok (hcsF47 N R) (pickY_ok (es := [(4, fun id args M k => evyield CX (T47us26 N R) 4 26 id args M k)]) ⟨fun {id args M k r} h => evyield_sound hX (okT47us26 N R) (g := nd4.1) (ps := nd4.2.1) ⟨[false, true, false, true], by rfl, by kernel_rfl⟩ h, trivial⟩) (⟨loop_ok hX (path := [false, true, true, true, false, false, true, true, false, false, true]) (by kernel_rfl) (by rfl) (okT47i26f48ul3278 N OL47i26f48a3278) (fun _ _ => rfl) (hsL47i26f48a3278 N) hxL47i26f48a3278 rfl heL47i26f48a3278, trivial⟩) (trivial) (trivial)
noncomputable def bdL47i26f48a6 : Code := match codeAt code48 [false, true] with | some (.loop c) => c | _ => .skip
theorem hsL47i26f48a6 (N : Nat) : ∀ (n : Nat) (lk : Nat → AV) (M : List Blk), LFL47i26f48a6 N (n + 1) (canS sgL47i26f48a6 lk M) = evk CX (T47i26f48ul6 N OL47i26f48a6) bdL47i26f48a6 (2 * 6) (canS sgL47i26f48a6 lk M) (kont CX 4 [] sgL47i26f48a6 (fun st => [0, 1, 2, 3, ((st.mem.getD 3 .dead).cells.getD 0 .top).id]) xsL47i26f48a6 (LFL47i26f48a6 N n)) := by intro n lk M; kernel_rfl
noncomputable def T47i26f48ur1 (N : Nat) (R : Type) : LTab R := mkTab ⟨43, 8796093022207⟩ (csF47 N R) (pickY [(4, fun id args M k => evyield CX (T47us26 N R) 4 26 id args M k)]) [(6, fun st k => callLoop CX 4 8796093020320 ceL47i26f48a6 sgL47i26f48a6 seL47i26f48a6 ⟨43, 8796093022207⟩ (LFL47i26f48a6 N N) elL47i26f48a6 st k)] [] []
theorem okT47i26f48ur1 (N : Nat) (R : Type) : (T47i26f48ur1 N R).Ok CX code48 := mkTab_ok (hcsF47 N R) (pickY_ok (es := [(4, fun id args M k => evyield CX (T47us26 N R) 4 26 id args M k)]) ⟨fun {id args M k r} h => evyield_sound hX (okT47us26 N R) (g := nd4.1) (ps := nd4.2.1) ⟨[false, true, false, true], by rfl, by kernel_rfl⟩ h, trivial⟩) (⟨loop_ok hX (path := [false, true]) (by kernel_rfl) (by rfl) (okT47i26f48ul6 N OL47i26f48a6) (fun _ _ => rfl) (hsL47i26f48a6 N) hxL47i26f48a6 rfl heL47i26f48a6, trivial⟩) (trivial) (trivial)
noncomputable def T47ur1 (N : Nat) (R : Type) : LTab R := mkTab ⟨13, 8191⟩ (csF47 N R) (noY) [] [(26, fun st k => evrange CX (oneTab ⟨13, 8191⟩ (inl 48 (fun args M k => evfn CX (T47i26f48ur1 N R) code48 rs47i26f48 args M k))) 4 [2] (.tmp 6) st k)] []
theorem okT47ur1 (N : Nat) (R : Type) : (T47ur1 N R).Ok CX code47 := mkTab_ok (hcsF47 N R) (noY_ok) (trivial) (⟨range_ok hX (path := [false, true, false, true]) (ps0 := nd4.2.1) (a0 := nd4.2.2.1) (b0 := nd4.2.2.2) (by kernel_rfl) (by rfl) (inl_ok fun {args M k r} h => evfn_sound hX (okT47i26f48ur1 N R) Try.func48 hb48 rfl en48 (by kernel_rfl) h) (by kernel_rfl), trivial⟩) (trivial)
def rsF47 : List ResultVar := [.tmp 4]
def F47 : Nat → TF47
  | 0 => fun _ _ _ _ _ _ => none
  | N + 1 => fun b0 b1c0 b1c1 b1c2 b1c3 b2c0 =>
    match L47i26f48a6 N N b1c0 ((b1c0.length : Int)) 0 b1c0 b1c1 b1c2 b1c3 b2c0 b0 with
    | none => none
    | some (.x0 b1c0v2 b1c1v2 b1c2v2 b1c3v2 b2c0v2 b4v2) =>
      some (.r b1c0v2 b1c1v2 b1c2v2 b1c3v2 b2c0v2 b4v2)
def xRF47 : XSh R47 := ⟨[], ⟨[(0, .one (.own 3))], [.gone, .var [.any, .any, .int .i64, .int .i64] [.cell (.slice 38), .cell (.slice 3), .cell (.int .i64), .cell (.int .i64)], .var [.int .i64] [.cell (.int .i64)], .row 2]⟩, fun st => [0, 1, 2, (Eng.look st.env 0).id], fun s => .r (((s.mem.getD 1 .dead).cells.getD 0 .top).rows) (((s.mem.getD 1 .dead).cells.getD 1 .top).rows) (((s.mem.getD 1 .dead).cells.getD 2 .top).toI) (((s.mem.getD 1 .dead).cells.getD 3 .top).toI) (((s.mem.getD 2 .dead).cells.getD 0 .top).toI) ((s.mem.getD 3 .dead).rows)⟩
theorem fsF47 : ∀ (N : Nat) (lk : Nat → AV) (M : List Blk), FFF47 (F47 (N + 1)) (canS sgF47 lk M) = evfn CX (T47ur1 N R47) code47 rsF47 (argsE 2 (canS sgF47 lk M).env) (canS sgF47 lk M).mem (goR CX 3 (fun _ => some xRF47)) := by intro N lk M; kernel_rfl
theorem soundF47 : ∀ N, RecOkF47 (F47 N)
  | 0, lk, M, o, h => by cases h
  | N + 1, lk, M, o, h => fn_sound hX (okT47ur1 N R47) Try.func47 hb47 rfl en47 (by kernel_rfl) (ys := fun _ => some xRF47) (fun st y h => by injection h with h; subst h; exact fun lk M => ⟨rfl, rfl⟩) ((fsF47 N lk M).symm.trans h)
def cvce47n0 : List Cv := [.mk 0 2]
def selce47n0 : St → List Nat := fun st => [(Eng.look st.env 0).id, ((Eng.look st.env 1).caps.getD 0 .top).id, ((Eng.look st.env 1).caps.getD 1 .top).id]
noncomputable def ce47n0 (Fx : TF47) (R : Type) (test : List AV → List Blk → Bool) : CE R := ⟨47, test, fun _ M => some (List.range M.length), fun args M k => tst (Nat.beq args.length 2) (callFn CX 3 cvce47n0 sgF47 selce47n0 (FFF47 Fx) elF47 args M (fun x M' => tst (Nat.ble M.length M'.length) (k x M')))⟩
theorem okce47n0 (Fx : TF47) (h : RecOkF47 Fx) (R : Type) (test : List AV → List Blk → Bool) : CeOk CX (ce47n0 Fx R test) := ce_okc hX (fun o k => by cases o; rfl) h en47
end
end Go.Proofs.Ytbgdiljnmifakaa

namespace Go.Proofs.Ytbgdiljnmifakaa
open Go Go.Eng
set_option maxRecDepth 100000
noncomputable section
inductive R43 where
  | r (b0c0 : List Row) (b0c1 : List Row) (b0c2 : Int) (b0c3 : Int) (b1c0 : Int) (b2 : List Row)
abbrev TF43 := List Row → List Row → Int → Int → Int → Option R43
def sgF43 : LSh := ⟨[(0, .one (.cl 48 [(0, 0, 0), (1, 0, 0)]))], [.var [.any, .any, .int .i64, .int .i64] [.cell (.slice 38), .cell (.slice 3), .cell (.int .i64), .cell (.int .i64)], .var [.int .i64] [.cell (.int .i64)]]⟩
def FFF43 (Fx : TF43) (s : St) : Option R43 := Fx (((s.mem.getD 0 .dead).cells.getD 0 .top).rows) (((s.mem.getD 0 .dead).cells.getD 1 .top).rows) (((s.mem.getD 0 .dead).cells.getD 2 .top).toI) (((s.mem.getD 0 .dead).cells.getD 3 .top).toI) (((s.mem.getD 1 .dead).cells.getD 0 .top).toI)
def valF43 (o : R43) : AV := match o with | .r b0c0 b0c1 b0c2 b0c3 b1c0 b2 => .own 2
def memF43 (o : R43) : List Blk := match o with | .r b0c0 b0c1 b0c2 b0c3 b1c0 b2 => [.var [.any, .any, .int .i64, .int .i64] [.list 38 b0c0, .list 3 b0c1, .int .i64 b0c2, .int .i64 b0c3], .var [.int .i64] [.int .i64 b1c0], .row 2 b2]
def elF43 {R : Type} (o : R43) (k : AV → List Blk → Option R) : Option R := match o with | .r b0c0 b0c1 b0c2 b0c3 b1c0 b2 => k (.own 2) [.var [.any, .any, .int .i64, .int .i64] [.list 38 b0c0, .list 3 b0c1, .int .i64 b0c2, .int .i64 b0c3], .var [.int .i64] [.int .i64 b1c0], .row 2 b2]
def RecOkF43 (Fx : TF43) : Prop := ∀ lk M o, FFF43 Fx (canS sgF43 lk M) = some o → FCalls CX 43 2 (argsE 1 (canS sgF43 lk M).env) (canS sgF43 lk M).mem (valF43 o) (memF43 o)
noncomputable def csF43 (N : Nat) (R : Type) : List (CE R) := [ce47n0 (F47 N) R (fun _ _ => true)]
theorem hcsF43 (N : Nat) (R : Type) : AllE (CeOk CX) (csF43 N R) := ⟨okce47n0 (F47 N) (soundF47 N) R (fun _ _ => true), trivial⟩
noncomputable def T43ur1 (N : Nat) (R : Type) : LTab R := mkTab ⟨5, 31⟩ (csF43 N R) (noY) [] [] []
theorem okT43ur1 (N : Nat) (R : Type) : (T43ur1 N R).Ok CX code43 := mkTab_ok (hcsF43 N R) (noY_ok) (trivial) (trivial) (trivial)
def rsF43 : List ResultVar := [.tmp 2]
def F43 : Nat → TF43
  | 0 => fun _ _ _ _ _ => none
  | N + 1 => fun b0c0 b0c1 b0c2 b0c3 b1c0 =>
    match F47 N (([] : List Row)) b0c0 b0c1 b0c2 b0c3 b1c0 with
    | none => none
    | some (.r rb1c0v1 rb1c1v1 rb1c2v1 rb1c3v1 rb2c0v1 rb3v1) =>
      some (.r rb1c0v1 rb1c1v1 rb1c2v1 rb1c3v1 rb2c0v1 rb3v1)
def xRF43 : XSh R43 := ⟨[], ⟨[(0, .one (.own 2))], [.var [.any, .any, .int .i64, .int .i64] [.cell (.slice 38), .cell (.slice 3), .cell (.int .i64), .cell (.int .i64)], .var [.int .i64] [.cell (.int .i64)], .row 2]⟩, fun st => [0, 1, (Eng.look st.env 0).id], fun s => .r (((s.mem.getD 0 .dead).cells.getD 0 .top).rows) (((s.mem.getD 0 .dead).cells.getD 1 .top).rows) (((s.mem.getD 0 .dead).cells.getD 2 .top).toI) (((s.mem.getD 0 .dead).cells.getD 3 .top).toI) (((s.mem.getD 1 .dead).cells.getD 0 .top).toI) ((s.mem.getD 2 .dead).rows)⟩
theorem fsF43 : ∀ (N : Nat) (lk : Nat → AV) (M : List Blk), FFF43 (F43 (N + 1)) (canS sgF43 lk M) = evfn CX (T43ur1 N R43) code43 rsF43 (argsE 1 (canS sgF43 lk M).env) (canS sgF43 lk M).mem (goR CX 2 (fun _ => some xRF43)) := by intro N lk M; kernel_rfl
theorem soundF43 : ∀ N, RecOkF43 (F43 N)
  | 0, lk, M, o, h => by cases h
  | N + 1, lk, M, o, h => fn_sound hX (okT43ur1 N R43) Try.func43 hb43 rfl en43 (by kernel_rfl) (ys := fun _ => some xRF43) (fun st y h => by injection h with h; subst h; exact fun lk M => ⟨rfl, rfl⟩) ((fsF43 N lk M).symm.trans h)
def cvce43n0 : List Cv := []
def selce43n0 : St → List Nat := fun st => [((Eng.look st.env 0).caps.getD 0 .top).id, ((Eng.look st.env 0).caps.getD 1 .top).id]
noncomputable def ce43n0 (Fx : TF43) (R : Type) (test : List AV → List Blk → Bool) : CE R := ⟨43, test, fun args M => some (selce43n0 ⟨argEnv 0 args, M, [], .unk⟩), fun args M k => tst (Nat.beq args.length 1) (callFn CX 2 cvce43n0 sgF43 selce43n0 (FFF43 Fx) elF43 args M k)⟩
theorem okce43n0 (Fx : TF43) (h : RecOkF43 Fx) (R : Type) (test : List AV → List Blk → Bool) : CeOk CX (ce43n0 Fx R test) := ce_ok hX (fun o k => by cases o; rfl) h en43 (fun args M ids h => by injection h with h; exact ⟨rfl, h.symm⟩)
end
end Go.Proofs.Ytbgdiljnmifakaa

namespace Go.Proofs.Ytbgdiljnmifakaa
open Go Go.Eng
set_option maxRecDepth 100000
noncomputable section
inductive R42 where
  | r (x0 : Int)
abbrev TF42 := Int → List Row → Option R42
def sgF42 : LSh := ⟨[(0, .one (.cell (.int .i64))), (1, .one (.cell (.slice 2)))], []⟩
def FFF42 (Fx : TF42) (s : St) : Option R42 := Fx ((Eng.look s.env 0).toI) ((Eng.look s.env 1).rows)
def valF42 (o : R42) : AV := match o with | .r x0 => .int .i64 x0
def memF42 (o : R42) : List Blk := match o with | .r x0 => []
def elF42 {R : Type} (o : R42) (k : AV → List Blk → Option R) : Option R := match o with | .r x0 => k (.int .i64 x0) []
def RecOkF42 (Fx : TF42) : Prop := ∀ lk M o, FFF42 Fx (canS sgF42 lk M) = some o → FCalls CX 42 0 (argsE 2 (canS sgF42 lk M).env) (canS sgF42 lk M).mem (valF42 o) (memF42 o)
noncomputable def csF42 (N : Nat) (R : Type) : List (CE R) := []
theorem hcsF42 (N : Nat) (R : Type) : AllE (CeOk CX) (csF42 N R) := trivial
inductive OL42a26 where
  | x0 (x0 : Int)
def L42a26 (N : Nat) : Nat → Int → List Row → Int → Int → Option OL42a26
  | 0 => fun _ _ _ _ => none
  | n + 1 => fun x0 x7 x8 x9 =>
    match decide (x9 < x8) with
    | true =>
      tst (decide ((0 : Int) ≤ x9) && decide (x9 < ((x7.length : Int)))) <|
      L42a26 N n (Eng.imax x0 ((((x7.getD x9.toNat [])).getD 0 .top).toI)) x7 x8 (IntKind.wrap .i64 (x9 + (1 : Int)))
    | false =>
      some (.x0 x0)
def LFL42a26 (N : Nat) (n : Nat) (s : St) : Option OL42a26 := L42a26 N n ((Eng.look s.env 0).toI) ((Eng.look s.env 7).rows) ((Eng.look s.env 8).toI) ((Eng.look s.env 9).toI)
def sgL42a26 : LSh := ⟨[(0, .one (.cell (.int .i64))), (7, .one (.cell (.slice 2))), (8, .one (.cell (.int .i64))), (9, .one (.cell (.int .i64)))], []⟩
def ceL42a26 : List Cv := []
def seL42a26 : St → List Nat := fun _ => []
def xL42a26wx0 : XSh OL42a26 := ⟨[], ⟨[(0, .one (.cell (.int .i64)))], []⟩, fun _ => [], fun s => .x0 ((Eng.look s.env 0).toI)⟩
def xsL42a26 : Ex → St → Option (XSh OL42a26) := fun e st => match e with
  | .exit 0 => some xL42a26wx0
  | _ => none
def exL42a26 (o : OL42a26) : Ex := match o with | .x0 x0 => (.exit 0)
def stL42a26 (o : OL42a26) : St := match o with | .x0 x0 => ⟨[(0, .int .i64 x0)], [], [], .unk⟩
def elL42a26 {R : Type} (o : OL42a26) (k : Ex → St → Option R) : Option R := match o with | .x0 x0 => k (.exit 0) ⟨[(0, .int .i64 x0)], [], [], .unk⟩
theorem heL42a26 {R : Type} (o : OL42a26) (k : Ex → St → Option R) : elL42a26 o k = k (exL42a26 o) (stL42a26 o) := by cases o <;> rfl
theorem hxL42a26 : ∀ e st x, xsL42a26 e st = some x → outOk x e exL42a26 stL42a26 := by
  intro e st x h
  unfold xsL42a26 at h
  repeat' split at h
  all_goals first
    | (injection h with h; subst h; exact fun lk M => ⟨rfl, rfl⟩)
    | cases h
noncomputable def T42ul26 (N : Nat) (R : Type) : LTab R := mkTab ⟨18, 130625⟩ (csF42 N R) (noY) [] [] []
theorem okT42ul26 (N : Nat) (R : Type) : (T42ul26 N R).Ok CX code42 := mkTab_ok (hcsF42 N R) (noY_ok) (trivial) (trivial) (trivial)
noncomputable def bdL42a26 : Code := match codeAt code42 [false, true, false, true] with | some (.loop c) => c | _ => .skip
theorem hsL42a26 (N : Nat) : ∀ (n : Nat) (lk : Nat → AV) (M : List Blk), LFL42a26 N (n + 1) (canS sgL42a26 lk M) = evk CX (T42ul26 N OL42a26) bdL42a26 (2 * 26) (canS sgL42a26 lk M) (kont CX 0 [] sgL42a26 (fun _ => []) xsL42a26 (LFL42a26 N n)) := by intro n lk M; kernel_rfl
noncomputable def T42ur1 (N : Nat) (R : Type) : LTab R := mkTab ⟨18, 262143⟩ (csF42 N R) (noY) [(26, fun st k => callLoop CX 0 130625 ceL42a26 sgL42a26 seL42a26 ⟨18, 262143⟩ (LFL42a26 N N) elL42a26 st k)] [] []
theorem okT42ur1 (N : Nat) (R : Type) : (T42ur1 N R).Ok CX code42 := mkTab_ok (hcsF42 N R) (noY_ok) (⟨loop_ok hX (path := [false, true, false, true]) (by kernel_rfl) (by rfl) (okT42ul26 N OL42a26) (fun _ _ => rfl) (hsL42a26 N) hxL42a26 rfl heL42a26, trivial⟩) (trivial) (trivial)
def rsF42 : List ResultVar := [.tmp 4]
def F42 : Nat → TF42
  | 0 => fun _ _ => none
  | N + 1 => fun x0 x1 =>
    match L42a26 N N x0 x1 ((x1.length : Int)) 0 with
    | none => none
    | some (.x0 x0v1) =>
      some (.r x0v1)
def xRF42 : XSh R42 := ⟨[], ⟨[(0, .one (.cell (.int .i64)))], []⟩, fun _ => [], fun s => .r ((Eng.look s.env 0).toI)⟩
theorem fsF42 : ∀ (N : Nat) (lk : Nat → AV) (M : List Blk), FFF42 (F42 (N + 1)) (canS sgF42 lk M) = evfn CX (T42ur1 N R42) code42 rsF42 (argsE 2 (canS sgF42 lk M).env) (canS sgF42 lk M).mem (goR CX 0 (fun _ => some xRF42)) := by intro N lk M; kernel_rfl
theorem soundF42 : ∀ N, RecOkF42 (F42 N)
  | 0, lk, M, o, h => by cases h
  | N + 1, lk, M, o, h => fn_sound hX (okT42ur1 N R42) Try.func42 hb42 rfl en42 (by kernel_rfl) (ys := fun _ => some xRF42) (fun st y h => by injection h with h; subst h; exact fun lk M => ⟨rfl, rfl⟩) ((fsF42 N lk M).symm.trans h)
def cvce42n0 : List Cv := [.frz 1 (.slice 2)]
def selce42n0 : St → List Nat := fun _ => []
noncomputable def ce42n0 (Fx : TF42) (R : Type) (test : List AV → List Blk → Bool) : CE R := ⟨42, test, fun _ M => some (List.range M.length), fun args M k => tst (Nat.beq args.length 2) (callFn CX 0 cvce42n0 sgF42 selce42n0 (FFF42 Fx) elF42 args M (fun x M' => tst (Nat.ble M.length M'.length) (k x M')))⟩
theorem okce42n0 (Fx : TF42) (h : RecOkF42 Fx) (R : Type) (test : List AV → List Blk → Bool) : CeOk CX (ce42n0 Fx R test) := ce_okc hX (fun o k => by cases o; rfl) h en42
end
end Go.Proofs.Ytbgdiljnmifakaa

namespace Go.Proofs.Ytbgdiljnmifakaa
open Go Go.Eng
set_option maxRecDepth 100000
noncomputable section
inductive R28 where
  | r (x0 : Int)
abbrev TF28 := List Row → List Row → Int → Int → Int → Option R28
def sgF28 : LSh := ⟨[(0, .agg [.cell (.slice 38), .cell (.slice 3), .cell (.int .i64), .cell (.int .i64)]), (1, .one (.cell (.int .i64)))], []⟩
def FFF28 (Fx : TF28) (s : St) : Option R28 := Fx (((Eng.look s.env 0).cells.getD 0 .top).rows) (((Eng.look s.env 0).cells.getD 1 .top).rows) (((Eng.look s.env 0).cells.getD 2 .top).toI) (((Eng.look s.env 0).cells.getD 3 .top).toI) ((Eng.look s.env 1).toI)
def valF28 (o : R28) : AV := match o with | .r x0 => .int .i64 x0
def memF28 (o : R28) : List Blk := match o with | .r x0 => []
def elF28 {R : Type} (o : R28) (k : AV → List Blk → Option R) : Option R := match o with | .r x0 => k (.int .i64 x0) []
def RecOkF28 (Fx : TF28) : Prop := ∀ lk M o, FFF28 Fx (canS sgF28 lk M) = some o → FCalls CX 28 0 (argsE 2 (canS sgF28 lk M).env) (canS sgF28 lk M).mem (valF28 o) (memF28 o)
noncomputable def csF28 (N : Nat) (R : Type) : List (CE R) := [ce42n0 (F42 N) R (fun _ _ => true), ce43n0 (F43 N) R (fun _ _ => true), ce44n0 (F44 N) R (fun _ _ => true)]
theorem hcsF28 (N : Nat) (R : Type) : AllE (CeOk CX) (csF28 N R) := ⟨okce42n0 (F42 N) (soundF42 N) R (fun _ _ => true), okce43n0 (F43 N) (soundF43 N) R (fun _ _ => true), okce44n0 (F44 N) (soundF44 N) R (fun _ _ => true), trivial⟩
noncomputable def T28ur1 (N : Nat) (R : Type) : LTab R := mkTab ⟨13, 8191⟩ (csF28 N R) (noY) [] [] []
theorem okT28ur1 (N : Nat) (R : Type) : (T28ur1 N R).Ok CX code28 := mkTab_ok (hcsF28 N R) (noY_ok) (trivial) (trivial) (trivial)
def rsF28 : List ResultVar := [.tmp 4]
def F28 : Nat → TF28
  | 0 => fun _ _ _ _ _ => none
  | N + 1 => fun x0c0 x0c1 x0c2 x0c3 x1 =>
    match F44 N x0c0 x0c1 x0c2 x0c3 x1 with
    | none => none
    | some (.r rb0c0v1 rb0c1v1 rb0c2v1 rb0c3v1 rb1c0v1) =>
      match F43 N rb0c0v1 rb0c1v1 rb0c2v1 rb0c3v1 rb1c0v1 with
      | none => none
      | some (.r rb0c0v2 rb0c1v2 rb0c2v2 rb0c3v2 rb1c0v2 rb2v2) =>
        match F42 N (IntKind.wrap .i64 (x0c3 - (1 : Int))) rb2v2 with
        | none => none
        | some (.r rx0v3) =>
          some (.r rx0v3)
def xRF28 : XSh R28 := ⟨[], ⟨[(0, .one (.cell (.int .i64)))], []⟩, fun _ => [], fun s => .r ((Eng.look s.env 0).toI)⟩
theorem fsF28 : ∀ (N : Nat) (lk : Nat → AV) (M : List Blk), FFF28 (F28 (N + 1)) (canS sgF28 lk M) = evfn CX (T28ur1 N R28) code28 rsF28 (argsE 2 (canS sgF28 lk M).env) (canS sgF28 lk M).mem (goR CX 0 (fun _ => some xRF28)) := by intro N lk M; kernel_rfl
theorem soundF28 : ∀ N, RecOkF28 (F28 N)
  | 0, lk, M, o, h => by cases h
  | N + 1, lk, M, o, h => fn_sound hX (okT28ur1 N R28) Try.func28 hb28 rfl en28 (by kernel_rfl) (ys := fun _ => some xRF28) (fun st y h => by injection h with h; subst h; exact fun lk M => ⟨rfl, rfl⟩) ((fsF28 N lk M).symm.trans h)
def cvce28n0 : List Cv := []
def selce28n0 : St → List Nat := fun _ => []
noncomputable def ce28n0 (Fx : TF28) (R : Type) (test : List AV → List Blk → Bool) : CE R := ⟨28, test, fun args M => some (selce28n0 ⟨argEnv 0 args, M, [], .unk⟩), fun args M k => tst (Nat.beq args.length 2) (callFn CX 0 cvce28n0 sgF28 selce28n0 (FFF28 Fx) elF28 args M k)⟩
theorem okce28n0 (Fx : TF28) (h : RecOkF28 Fx) (R : Type) (test : List AV → List Blk → Bool) : CeOk CX (ce28n0 Fx R test) := ce_ok hX (fun o k => by cases o; rfl) h en28 (fun args M ids h => by injection h with h; exact ⟨rfl, h.symm⟩)
end
end Go.Proofs.Ytbgdiljnmifakaa

namespace Go.Proofs.Ytbgdiljnmifakaa
open Go Go.Eng
set_option maxRecDepth 100000
noncomputable section
inductive R27 where
  | r (x0 : Int) (x1 : Bool)
abbrev TF27 := List Row → List Row → Int → Int → Int → Option R27
def sgF27 : LSh := ⟨[(0, .agg [.cell (.slice 38), .cell (.slice 3), .cell (.int .i64), .cell (.int .i64)]), (1, .one (.cell (.int .i64)))], []⟩
def FFF27 (Fx : TF27) (s : St) : Option R27 := Fx (((Eng.look s.env 0).cells.getD 0 .top).rows) (((Eng.look s.env 0).cells.getD 1 .top).rows) (((Eng.look s.env 0).cells.getD 2 .top).toI) (((Eng.look s.env 0).cells.getD 3 .top).toI) ((Eng.look s.env 1).toI)
def valF27 (o : R27) : AV := match o with | .r x0 x1 => .tup [.int .i64 x0, .bool x1]
def memF27 (o : R27) : List Blk := match o with | .r x0 x1 => []
def elF27 {R : Type} (o : R27) (k : AV → List Blk → Option R) : Option R := match o with | .r x0 x1 => k (.tup [.int .i64 x0, .bool x1]) []
def RecOkF27 (Fx : TF27) : Prop := ∀ lk M o, FFF27 Fx (canS sgF27 lk M) = some o → FCalls CX 27 0 (argsE 2 (canS sgF27 lk M).env) (canS sgF27 lk M).mem (valF27 o) (memF27 o)
noncomputable def csF27 (N : Nat) (R : Type) : List (CE R) := [ce28n0 (F28 N) R (fun _ _ => true), ce40n0 (F40 N) R (fun _ _ => true)]
theorem hcsF27 (N : Nat) (R : Type) : AllE (CeOk CX) (csF27 N R) := ⟨okce28n0 (F28 N) (soundF28 N) R (fun _ _ => true), okce40n0 (F40 N) (soundF40 N) R (fun _ _ => true), trivial⟩
inductive OL27a444 where
  | ret (x4 : Int) (x5 : Bool) (b0c0 : List Row) (b0c1 : List Row) (b0c2 : Int) (b0c3 : Int) (b1c0 : Int) (b1c1 : Int) (b1c2 : Int) (b1c3 : Int) (b1c4 : Int) (b1c5 : Int) (b1c6 : List Row)
  | x0 (b0c0 : List Row) (b0c1 : List Row) (b0c2 : Int) (b0c3 : Int) (b1c0 : Int) (b1c1 : Int) (b1c2 : Int) (b1c3 : Int) (b1c4 : Int) (b1c5 : Int) (b1c6 : List Row)
def L27a444 (N : Nat) : Nat → Int → Int → Int → List Row → List Row → Int → Int → Int → Int → Int → Int → Int → Int → List Row → Option OL27a444
  | 0 => fun _ _ _ _ _ _ _ _ _ _ _ _ _ _ => none
  | n + 1 => fun x1 x7 x8 b0c0 b0c1 b0c2 b0c3 b1c0 b1c1 b1c2 b1c3 b1c4 b1c5 b1c6 =>
    match decide (b1c3 < x8) with
    | true =>
      some (.x0 b0c0 b0c1 b0c2 b0c3 b1c0 b1c1 b1c2 b1c3 b1c4 b1c5 b1c6)
    | false =>
      match F40 N b0c0 b0c1 b0c2 b0c3 x1 x8 b1c3 with
      | none => none
      | some (.r rx0v2 rx1v2) =>
        match !rx1v2 with
        | true =>
          some (.x0 b0c0 b0c1 b0c2 b0c3 b1c0 b1c1 b1c2 b1c3 b1c4 b1c5 b1c6)
        | false =>
          match (IntKind.wrap .i64 (x7 + rx0v2)) == x8 with
          | true =>
            some (.ret x8 true b0c0 b0c1 b0c2 b0c3 b1c0 b1c1 b1c2 b1c3 b1c4 b1c5 b1c6)
          | false =>
            L27a444 N n x1 x7 (IntKind.wrap .i64 (x7 + rx0v2)) b0c0 b0c1 b0c2 b0c3 b1c0 b1c1 b1c2 b1c3 b1c4 b1c5 b1c6
def LFL27a444 (N : Nat) (n : Nat) (s : St) : Option OL27a444 := L27a444 N n ((Eng.look s.env 1).toI) ((Eng.look s.env 7).toI) ((Eng.look s.env 8).toI) (((s.mem.getD 0 .dead).cells.getD 0 .top).rows) (((s.mem.getD 0 .dead).cells.getD 1 .top).rows) (((s.mem.getD 0 .dead).cells.getD 2 .top).toI) (((s.mem.getD 0 .dead).cells.getD 3 .top).toI) (((s.mem.getD 1 .dead).cells.getD 0 .top).toI) (((s.mem.getD 1 .dead).cells.getD 1 .top).toI) (((s.mem.getD 1 .dead).cells.getD 2 .top).toI) (((s.mem.getD 1 .dead).cells.getD 3 .top).toI) (((s.mem.getD 1 .dead).cells.getD 4 .top).toI) (((s.mem.getD 1 .dead).cells.getD 5 .top).toI) (((s.mem.getD 1 .dead).cells.getD 6 .top).rows)
def sgL27a444 : LSh := ⟨[(1, .one (.cell (.int .i64))), (2, .one (.ptr 0 0 0)), (6, .one (.ptr 1 0 0)), (7, .one (.cell (.int .i64))), (8, .one (.cell (.int .i64)))], [.var [.any, .any, .int .i64, .int .i64] [.cell (.slice 38), .cell (.slice 3), .cell (.int .i64), .cell (.int .i64)], .var [.int .i64, .int .i64, .int .i64, .int .i64, .int .i64, .int .i64, .any] [.cell (.int .i64), .cell (.int .i64), .cell (.int .i64), .cell (.int .i64), .cell (.int .i64), .cell (.int .i64), .cell (.slice 55)]]⟩
def ceL27a444 : List Cv := []
def seL27a444 : St → List Nat := fun st => [(Eng.look st.env 2).id, (Eng.look st.env 6).id]
def xL27a444wret : XSh OL27a444 := ⟨[], ⟨[(4, .one (.cell (.int .i64))), (5, .one (.cell (.bool)))], [.var [.any, .any, .int .i64, .int .i64] [.cell (.slice 38), .cell (.slice 3), .cell (.int .i64), .cell (.int .i64)], .var [.int .i64, .int .i64, .int .i64, .int .i64, .int .i64, .int .i64, .any] [.cell (.int .i64), .cell (.int .i64), .cell (.int .i64), .cell (.int .i64), .cell (.int .i64), .cell (.int .i64), .cell (.slice 55)]]⟩, fun st => [0, 1], fun s => .ret ((Eng.look s.env 4).toI) ((Eng.look s.env 5).toB) (((s.mem.getD 0 .dead).cells.getD 0 .top).rows) (((s.mem.getD 0 .dead).cells.getD 1 .top).rows) (((s.mem.getD 0 .dead).cells.getD 2 .top).toI) (((s.mem.getD 0 .dead).cells.getD 3 .top).toI) (((s.mem.getD 1 .dead).cells.getD 0 .top).toI) (((s.mem.getD 1 .dead).cells.getD 1 .top).toI) (((s.mem.getD 1 .dead).cells.getD 2 .top).toI) (((s.mem.getD 1 .dead).cells.getD 3 .top).toI) (((s.mem.getD 1 .dead).cells.getD 4 .top).toI) (((s.mem.getD 1 .dead).cells.getD 5 .top).toI) (((s.mem.getD 1 .dead).cells.getD 6 .top).rows)⟩
def xL27a444wx0 : XSh OL27a444 := ⟨[], ⟨[], [.var [.any, .any, .int .i64, .int .i64] [.cell (.slice 38), .cell (.slice 3), .cell (.int .i64), .cell (.int .i64)], .var [.int .i64, .int .i64, .int .i64, .int .i64, .int .i64, .int .i64, .any] [.cell (.int .i64), .cell (.int .i64), .cell (.int .i64), .cell (.int .i64), .cell (.int .i64), .cell (.int .i64), .cell (.slice 55)]]⟩, fun st => [0, 1], fun s => .x0 (((s.mem.getD 0 .dead).cells.getD 0 .top).rows) (((s.mem.getD 0 .dead).cells.getD 1 .top).rows) (((s.mem.getD 0 .dead).cells.getD 2 .top).toI) (((s.mem.getD 0 .dead).cells.getD 3 .top).toI) (((s.mem.getD 1 .dead).cells.getD 0 .top).toI) (((s.mem.getD 1 .dead).cells.getD 1 .top).toI) (((s.mem.getD 1 .dead).cells.getD 2 .top).toI) (((s.mem.getD 1 .dead).cells.getD 3 .top).toI) (((s.mem.getD 1 .dead).cells.getD 4 .top).toI) (((s.mem.getD 1 .dead).cells.getD 5 .top).toI) (((s.mem.getD 1 .dead).cells.getD 6 .top).rows)⟩
def xsL27a444 : Ex → St → Option (XSh OL27a444) := fun e st => match e with
  | .ret => some xL27a444wret
  | .exit 0 => some xL27a444wx0
  | _ => none
def exL27a444 (o : OL27a444) : Ex := match o with | .ret x4 x5 b0c0 b0c1 b0c2 b0c3 b1c0 b1c1 b1c2 b1c3 b1c4 b1c5 b1c6 => .ret | .x0 b0c0 b0c1 b0c2 b0c3 b1c0 b1c1 b1c2 b1c3 b1c4 b1c5 b1c6 => (.exit 0)
def stL27a444 (o : OL27a444) : St := match o with | .ret x4 x5 b0c0 b0c1 b0c2 b0c3 b1c0 b1c1 b1c2 b1c3 b1c4 b1c5 b1c6 => ⟨[(4, .int .i64 x4), (5, .bool x5)], [.var [.any, .any, .int .i64, .int .i64] [.list 38 b0c0, .list 3 b0c1, .int .i64 b0c2, .int .i64 b0c3], .var [.int .i64, .int .i64, .int .i64, .int .i64, .int .i64, .int .i64, .any] [.int .i64 b1c0, .int .i64 b1c1, .int .i64 b1c2, .int .i64 b1c3, .int .i64 b1c4, .int .i64 b1c5, .list 55 b1c6]], [], .unk⟩ | .x0 b0c0 b0c1 b0c2 b0c3 b1c0 b1c1 b1c2 b1c3 b1c4 b1c5 b1c6 => ⟨[], [.var [.any, .any, .int .i64, .int .i64] [.list 38 b0c0, .list 3 b0c1, .int .i64 b0c2, .int .i64 b0c3], .var [.int .i64, .int .i64, .int .i64, .int .i64, .int .i64, .int .i64, .any] [.int .i64 b1c0, .int .i64 b1c1, .int .i64 b1c2, .int .i64 b1c3, .int .i64 b1c4, .int .i64 b1c5, .list 55 b1c6]], [], .unk⟩
def elL27a444 {R : Type} (o : OL27a444) (k : Ex → St → Option R) : Option R := match o with | .ret x4 x5 b0c0 b0c1 b0c2 b0c3 b1c0 b1c1 b1c2 b1c3 b1c4 b1c5 b1c6 => k .ret ⟨[(4, .int .i64 x4), (5, .bool x5)], [.var [.any, .any, .int .i64, .int .i64] [.list 38 b0c0, .list 3 b0c1, .int .i64 b0c2, .int .i64 b0c3], .var [.int .i64, .int .i64, .int .i64, .int .i64, .int .i64, .int .i64, .any] [.int .i64 b1c0, .int .i64 b1c1, .int .i64 b1c2, .int .i64 b1c3, .int .i64 b1c4, .int .i64 b1c5, .list 55 b1c6]], [], .unk⟩ | .x0 b0c0 b0c1 b0c2 b0c3 b1c0 b1c1 b1c2 b1c3 b1c4 b1c5 b1c6 => k (.exit 0) ⟨[], [.var [.any, .any, .int .i64, .int .i64] [.list 38 b0c0, .list 3 b0c1, .int .i64 b0c2, .int .i64 b0c3], .var [.int .i64, .int .i64, .int .i64, .int .i64, .int .i64, .int .i64, .any] [.int .i64 b1c0, .int .i64 b1c1, .int .i64 b1c2, .int .i64 b1c3, .int .i64 b1c4, .int .i64 b1c5, .list 55 b1c6]], [], .unk⟩
theorem heL27a444 {R : Type} (o : OL27a444) (k : Ex → St → Option R) : elL27a444 o k = k (exL27a444 o) (stL27a444 o) := by cases o <;> rfl
theorem hxL27a444 : ∀ e st x, xsL27a444 e st = some x → outOk x e exL27a444 stL27a444 := by
  intro e st x h
  unfold xsL27a444 at h
  repeat' split at h
  all_goals first
    | (injection h with h; subst h; exact fun lk M => ⟨rfl, rfl⟩)
    | cases h
noncomputable def T27ul444 (N : Nat) (R : Type) : LTab R := mkTab ⟨49, 562949945034544⟩ (csF27 N R) (noY) [] [] []
theorem okT27ul444 (N : Nat) (R : Type) : (T27ul444 N R).Ok CX code27 := mkTab_ok (hcsF27 N R) (noY_ok) (trivial) (trivial) (trivial)
noncomputable def bdL27a444 : Code := match codeAt code27 [false, false, true, true, true, true, false, true] with | some (.loop c) => c | _ => .skip
theorem hsL27a444 (N : Nat) : ∀ (n : Nat) (lk : Nat → AV) (M : List Blk), LFL27a444 N (n + 1) (canS sgL27a444 lk M) = evk CX (T27ul444 N OL27a444) bdL27a444 (2 * 444) (canS sgL27a444 lk M) (kont CX 2 [] sgL27a444 (fun st => [0, 1]) xsL27a444 (LFL27a444 N n)) := by intro n lk M; kernel_rfl
noncomputable def T27ur1 (N : Nat) (R : Type) : LTab R := mkTab ⟨49, 562949953421311⟩ (csF27 N R) (noY) [(444, fun st k => callLoop CX 2 562949945034544 ceL27a444 sgL27a444 seL27a444 ⟨49, 562949953421311⟩ (LFL27a444 N N) elL27a444 st k)] [] []
theorem okT27ur1 (N : Nat) (R : Type) : (T27ur1 N R).Ok CX code27 := mkTab_ok (hcsF27 N R) (noY_ok) (⟨loop_ok hX (path := [false, false, true, true, true, true, false, true]) (by kernel_rfl) (by rfl) (okT27ul444 N OL27a444) (fun _ _ => rfl) (hsL27a444 N) hxL27a444 rfl heL27a444, trivial⟩) (trivial) (trivial)
def rsF27 : List ResultVar := [.tmp 4, .tmp 5]
def F27 : Nat → TF27
  | 0 => fun _ _ _ _ _ => none
  | N + 1 => fun x0c0 x0c1 x0c2 x0c3 x1 =>
    tst (decide ((0 : Int) ≤ x1) && decide (x1 < ((x0c0.length : Int)))) <|
    match F28 N x0c0 x0c1 x0c2 x0c3 x1 with
    | none => none
    | some (.r rx0v1) =>
      match L27a444 N N x1 (IntKind.wrap .i64 (((((x0c0.getD x1.toNat [])).getD 5 .top).toI) + rx0v1)) (IntKind.wrap .i64 (((((x0c0.getD x1.toNat [])).getD 5 .top).toI) + rx0v1)) x0c0 x0c1 x0c2 x0c3 ((((x0c0.getD x1.toNat [])).getD 0 .top).toI) ((((x0c0.getD x1.toNat [])).getD 1 .top).toI) ((((x0c0.getD x1.toNat [])).getD 2 .top).toI) ((((x0c0.getD x1.toNat [])).getD 3 .top).toI) ((((x0c0.getD x1.toNat [])).getD 4 .top).toI) ((((x0c0.getD x1.toNat [])).getD 5 .top).toI) ((((x0c0.getD x1.toNat [])).getD 6 .top).rows) with
      | none => none
      | some (.ret x4v3 x5v3 b0c0v3 b0c1v3 b0c2v3 b0c3v3 b1c0v3 b1c1v3 b1c2v3 b1c3v3 b1c4v3 b1c5v3 b1c6v3) =>
        some (.r x4v3 x5v3)
      | some (.x0 b0c0v4 b0c1v4 b0c2v4 b0c3v4 b1c0v4 b1c1v4 b1c2v4 b1c3v4 b1c4v4 b1c5v4 b1c6v4) =>
        some (.r 0 false)
def xRF27 : XSh R27 := ⟨[], ⟨[(0, .one (.cell (.int .i64))), (1, .one (.cell (.bool)))], []⟩, fun _ => [], fun s => .r ((Eng.look s.env 0).toI) ((Eng.look s.env 1).toB)⟩
theorem fsF27 : ∀ (N : Nat) (lk : Nat → AV) (M : List Blk), FFF27 (F27 (N + 1)) (canS sgF27 lk M) = evfn CX (T27ur1 N R27) code27 rsF27 (argsE 2 (canS sgF27 lk M).env) (canS sgF27 lk M).mem (goRt CX 0 2 (fun _ => some xRF27)) := by intro N lk M; kernel_rfl
theorem soundF27 : ∀ N, RecOkF27 (F27 N)
  | 0, lk, M, o, h => by cases h
  | N + 1, lk, M, o, h => fn_soundt hX (okT27ur1 N R27) Try.func27 hb27 rfl en27 (by kernel_rfl) (ys := fun _ => some xRF27) (fun st y h => by injection h with h; subst h; exact fun lk M => ⟨rfl, rfl⟩) ((fsF27 N lk M).symm.trans h)
def cvce27n0 : List Cv := []
def selce27n0 : St → List Nat := fun _ => []
noncomputable def ce27n0 (Fx : TF27) (R : Type) (test : List AV → List Blk → Bool) : CE R := ⟨27, test, fun args M => some (selce27n0 ⟨argEnv 0 args, M, [], .unk⟩), fun args M k => tst (Nat.beq args.length 2) (callFn CX 0 cvce27n0 sgF27 selce27n0 (FFF27 Fx) elF27 args M k)⟩
theorem okce27n0 (Fx : TF27) (h : RecOkF27 Fx) (R : Type) (test : List AV → List Blk → Bool) : CeOk CX (ce27n0 Fx R test) := ce_ok hX (fun o k => by cases o; rfl) h en27 (fun args M ids h => by injection h with h; exact ⟨rfl, h.symm⟩)
end
end Go.Proofs.Ytbgdiljnmifakaa

namespace Go.Proofs.Ytbgdiljnmifakaa
open Go Go.Eng
set_option maxRecDepth 100000
noncomputable section
inductive R11 where
  | r (x1 : Int) (b0 : List Row)
abbrev TF11 := List Row → List Row → Int → Int → Option R11
def sgF11 : LSh := ⟨[(0, .agg [.cell (.slice 38), .cell (.slice 3), .cell (.int .i64), .cell (.int .i64)])], []⟩
def FFF11 (Fx : TF11) (s : St) : Option R11 := Fx (((Eng.look s.env 0).cells.getD 0 .top).rows) (((Eng.look s.env 0).cells.getD 1 .top).rows) (((Eng.look s.env 0).cells.getD 2 .top).toI) (((Eng.look s.env 0).cells.getD 3 .top).toI)
def valF11 (o : R11) : AV := match o with | .r x1 b0 => .tup [.own 0, .int .i64 x1]
def memF11 (o : R11) : List Blk := match o with | .r x1 b0 => [.row 48 b0]
def elF11 {R : Type} (o : R11) (k : AV → List Blk → Option R) : Option R := match o with | .r x1 b0 => k (.tup [.own 0, .int .i64 x1]) [.row 48 b0]
def RecOkF11 (Fx : TF11) : Prop := ∀ lk M o, FFF11 Fx (canS sgF11 lk M) = some o → FCalls CX 11 0 (argsE 1 (canS sgF11 lk M).env) (canS sgF11 lk M).mem (valF11 o) (memF11 o)
noncomputable def csF11 (N : Nat) (R : Type) : List (CE R) := [ce13n0 (F13 N) R (fun _ _ => true), ce27n0 (F27 N) R (fun _ _ => true), ce28n0 (F28 N) R (fun _ _ => true)]
theorem hcsF11 (N : Nat) (R : Type) : AllE (CeOk CX) (csF11 N R) := ⟨okce13n0 (F13 N) (soundF13 N) R (fun _ _ => true), okce27n0 (F27 N) (soundF27 N) R (fun _ _ => true), okce28n0 (F28 N) (soundF28 N) R (fun _ _ => true), trivial⟩
inductive OL11a122 where
  | x0 (b0c0 : List Row) (b0c1 : List Row) (b0c2 : Int) (b0c3 : Int) (b1 : List Row)
def L11a122 (N : Nat) : Nat → List Row → Int → Int → List Row → List Row → Int → Int → List Row → Option OL11a122
  | 0 => fun _ _ _ _ _ _ _ _ => none
  | n + 1 => fun x13 x14 x15 b0c0 b0c1 b0c2 b0c3 b1 =>
    match decide (x15 < x14) with
    | true =>
      tst (decide ((0 : Int) ≤ x15) && decide (x15 < ((x13.length : Int)))) <|
      match F27 N b0c0 b0c1 b0c2 b0c3 x15 with
      | none => none
      | some (.r rx0v2 rx1v2) =>
        match F28 N b0c0 b0c1 b0c2 b0c3 x15 with
        | none => none
        | some (.r rx0v3) =>
          tst (decide (((b1.length + (([[.int .i64 ((((x13.getD x15.toNat [])).getD 0 .top).toI), .int .i64 rx0v3, .int .i64 rx0v2, .bool rx1v2]] : List Row)).length) * 32) ≤ 140737488355328)) <|
          L11a122 N n x13 x14 (IntKind.wrap .i64 (x15 + (1 : Int))) b0c0 b0c1 b0c2 b0c3 (b1 ++ (([[.int .i64 ((((x13.getD x15.toNat [])).getD 0 .top).toI), .int .i64 rx0v3, .int .i64 rx0v2, .bool rx1v2]] : List Row)))
    | false =>
      some (.x0 b0c0 b0c1 b0c2 b0c3 b1)
def LFL11a122 (N : Nat) (n : Nat) (s : St) : Option OL11a122 := L11a122 N n ((Eng.look s.env 13).rows) ((Eng.look s.env 14).toI) ((Eng.look s.env 15).toI) (((s.mem.getD 0 .dead).cells.getD 0 .top).rows) (((s.mem.getD 0 .dead).cells.getD 1 .top).rows) (((s.mem.getD 0 .dead).cells.getD 2 .top).toI) (((s.mem.getD 0 .dead).cells.getD 3 .top).toI) ((s.mem.getD 1 .dead).rows)
def sgL11a122 : LSh := ⟨[(1, .one (.ptr 0 0 0)), (4, .one (.own 1)), (13, .one (.cell (.slice 38))), (14, .one (.cell (.int .i64))), (15, .one (.cell (.int .i64)))], [.var [.any, .any, .int .i64, .int .i64] [.cell (.slice 38), .cell (.slice 3), .cell (.int .i64), .cell (.int .i64)], .row 48]⟩
def ceL11a122 : List Cv := [.mk 4 48]
def seL11a122 : St → List Nat := fun st => [(Eng.look st.env 1).id, (Eng.look st.env 4).id]
def xL11a122wx0 : XSh OL11a122 := ⟨[], ⟨[(4, .one (.own 1))], [.var [.any, .any, .int .i64, .int .i64] [.cell (.slice 38), .cell (.slice 3), .cell (.int .i64), .cell (.int .i64)], .row 48]⟩, fun st => [0, (Eng.look st.env 4).id], fun s => .x0 (((s.mem.getD 0 .dead).cells.getD 0 .top).rows) (((s.mem.getD 0 .dead).cells.getD 1 .top).rows) (((s.mem.getD 0 .dead).cells.getD 2 .top).toI) (((s.mem.getD 0 .dead).cells.getD 3 .top).toI) ((s.mem.getD 1 .dead).rows)⟩
def xsL11a122 : Ex → St → Option (XSh OL11a122) := fun e st => match e with
  | .exit 0 => some xL11a122wx0
  | _ => none
def exL11a122 (o : OL11a122) : Ex := match o with | .x0 b0c0 b0c1 b0c2 b0c3 b1 => (.exit 0)
def stL11a122 (o : OL11a122) : St := match o with | .x0 b0c0 b0c1 b0c2 b0c3 b1 => ⟨[(4, .own 1)], [.var [.any, .any, .int .i64, .int .i64] [.list 38 b0c0, .list 3 b0c1, .int .i64 b0c2, .int .i64 b0c3], .row 48 b1], [], .unk⟩
def elL11a122 {R : Type} (o : OL11a122) (k : Ex → St → Option R) : Option R := match o with | .x0 b0c0 b0c1 b0c2 b0c3 b1 => k (.exit 0) ⟨[(4, .own 1)], [.var [.any, .any, .int .i64, .int .i64] [.list 38 b0c0, .list 3 b0c1, .int .i64 b0c2, .int .i64 b0c3], .row 48 b1], [], .unk⟩
theorem heL11a122 {R : Type} (o : OL11a122) (k : Ex → St → Option R) : elL11a122 o k = k (exL11a122 o) (stL11a122 o) := by cases o <;> rfl
theorem hxL11a122 : ∀ e st x, xsL11a122 e st = some x → outOk x e exL11a122 stL11a122 := by
  intro e st x h
  unfold xsL11a122 at h
  repeat' split at h
  all_goals first
    | (injection h with h; subst h; exact fun lk M => ⟨rfl, rfl⟩)
    | cases h
noncomputable def T11ul122 (N : Nat) (R : Type) : LTab R := mkTab ⟨39, 274877874672⟩ (csF11 N R) (noY) [] [] []
theorem okT11ul122 (N : Nat) (R : Type) : (T11ul122 N R).Ok CX code11 := mkTab_ok (hcsF11 N R) (noY_ok) (trivial) (trivial) (trivial)
noncomputable def bdL11a122 : Code := match codeAt code11 [false, true, false, true, true, true] with | some (.loop c) => c | _ => .skip
theorem hsL11a122 (N : Nat) : ∀ (n : Nat) (lk : Nat → AV) (M : List Blk), LFL11a122 N (n + 1) (canS sgL11a122 lk M) = evk CX (T11ul122 N OL11a122) bdL11a122 (2 * 122) (canS sgL11a122 lk M) (kont CX 1 [] sgL11a122 (fun st => [0, (Eng.look st.env 4).id]) xsL11a122 (LFL11a122 N n)) := by intro n lk M; kernel_rfl
noncomputable def T11ur1 (N : Nat) (R : Type) : LTab R := mkTab ⟨39, 549755813887⟩ (csF11 N R) (noY) [(122, fun st k => callLoop CX 1 274877874672 ceL11a122 sgL11a122 seL11a122 ⟨39, 549755813887⟩ (LFL11a122 N N) elL11a122 st k)] [] []
theorem okT11ur1 (N : Nat) (R : Type) : (T11ur1 N R).Ok CX code11 := mkTab_ok (hcsF11 N R) (noY_ok) (⟨loop_ok hX (path := [false, true, false, true, true, true]) (by kernel_rfl) (by rfl) (okT11ul122 N OL11a122) (fun _ _ => rfl) (hsL11a122 N) hxL11a122 rfl heL11a122, trivial⟩) (trivial) (trivial)
def rsF11 : List ResultVar := [.tmp 2, .tmp 3]
def F11 : Nat → TF11
  | 0 => fun _ _ _ _ => none
  | N + 1 => fun x0c0 x0c1 x0c2 x0c3 =>
    match F13 N x0c0 x0c1 x0c2 x0c3 with
    | none => none
    | some (.r rx0v1) =>
      match !rx0v1 with
      | true =>
        some (.r 2 (([] : List Row)))
      | false =>
        match L11a122 N N x0c0 ((x0c0.length : Int)) 0 x0c0 x0c1 x0c2 x0c3 (([] : List Row)) with
        | none => none
        | some (.x0 b0c0v4 b0c1v4 b0c2v4 b0c3v4 b1v4) =>
          some (.r 0 b1v4)
def xRF11 : XSh R11 := ⟨[.mk 0 48], ⟨[(0, .one (.own 0)), (1, .one (.cell (.int .i64)))], [.row 48]⟩, fun st => [(Eng.look st.env 0).id], fun s => .r ((Eng.look s.env 1).toI) ((s.mem.getD 0 .dead).rows)⟩
theorem fsF11 : ∀ (N : Nat) (lk : Nat → AV) (M : List Blk), FFF11 (F11 (N + 1)) (canS sgF11 lk M) = evfn CX (T11ur1 N R11) code11 rsF11 (argsE 1 (canS sgF11 lk M).env) (canS sgF11 lk M).mem (goRt CX 0 2 (fun _ => some xRF11)) := by intro N lk M; kernel_rfl
theorem soundF11 : ∀ N, RecOkF11 (F11 N)
  | 0, lk, M, o, h => by cases h
  | N + 1, lk, M, o, h => fn_soundt hX (okT11ur1 N R11) Try.func11 hb11 rfl en11 (by kernel_rfl) (ys := fun _ => some xRF11) (fun st y h => by injection h with h; subst h; exact fun lk M => ⟨rfl, rfl⟩) ((fsF11 N lk M).symm.trans h)
def cvce11n0 : List Cv := []
def selce11n0 : St → List Nat := fun _ => []
noncomputable def ce11n0 (Fx : TF11) (R : Type) (test : List AV → List Blk → Bool) : CE R := ⟨11, test, fun args M => some (selce11n0 ⟨argEnv 0 args, M, [], .unk⟩), fun args M k => tst (Nat.beq args.length 1) (callFn CX 0 cvce11n0 sgF11 selce11n0 (FFF11 Fx) elF11 args M k)⟩
theorem okce11n0 (Fx : TF11) (h : RecOkF11 Fx) (R : Type) (test : List AV → List Blk → Bool) : CeOk CX (ce11n0 Fx R test) := ce_ok hX (fun o k => by cases o; rfl) h en11 (fun args M ids h => by injection h with h; exact ⟨rfl, h.symm⟩)
end
end Go.Proofs.Ytbgdiljnmifakaa

namespace Go.Proofs.Ytbgdiljnmifakaa
open Go Go.Eng
set_option maxRecDepth 100000
noncomputable section
inductive R25 where
  | r (x0 : Bool)
abbrev TF25 := List Row → List Row → Int → Int → Int → Int → Int → Int → Int → Int → Option R25
def sgF25 : LSh := ⟨[(0, .agg [.cell (.slice 38), .cell (.slice 3), .cell (.int .i64), .cell (.int .i64)]), (1, .agg [.cell (.int .i64), .cell (.int .i64), .cell (.int .i64)]), (2, .agg [.cell (.int .i64), .cell (.int .i64), .cell (.int .i64)])], []⟩
def FFF25 (Fx : TF25) (s : St) : Option R25 := Fx (((Eng.look s.env 0).cells.getD 0 .top).rows) (((Eng.look s.env 0).cells.getD 1 .top).rows) (((Eng.look s.env 0).cells.getD 2 .top).toI) (((Eng.look s.env 0).cells.getD 3 .top).toI) (((Eng.look s.env 1).cells.getD 0 .top).toI) (((Eng.look s.env 1).cells.getD 1 .top).toI) (((Eng.look s.env 1).cells.getD 2 .top).toI) (((Eng.look s.env 2).cells.getD 0 .top).toI) (((Eng.look s.env 2).cells.getD 1 .top).toI) (((Eng.look s.env 2).cells.getD 2 .top).toI)
def valF25 (o : R25) : AV := match o with | .r x0 => .bool x0
def memF25 (o : R25) : List Blk := match o with | .r x0 => []
def elF25 {R : Type} (o : R25) (k : AV → List Blk → Option R) : Option R := match o with | .r x0 => k (.bool x0) []
def RecOkF25 (Fx : TF25) : Prop := ∀ lk M o, FFF25 Fx (canS sgF25 lk M) = some o → FCalls CX 25 0 (argsE 3 (canS sgF25 lk M).env) (canS sgF25 lk M).mem (valF25 o) (memF25 o)
noncomputable def csF25 (N : Nat) (R : Type) : List (CE R) := [ce11n0 (F11 N) R (fun _ _ => true)]
theorem hcsF25 (N : Nat) (R : Type) : AllE (CeOk CX) (csF25 N R) := ⟨okce11n0 (F11 N) (soundF11 N) R (fun _ _ => true), trivial⟩
inductive OJ25a14 where
  | nx (b0 : List Row)
  | ret (x6 : Bool) (b0 : List Row)
def J25a14 (N : Nat) : Int → List Row → Option OJ25a14 := fun x8 b0 =>
    match x8 != (0 : Int) with
    | true =>
      some (.ret false b0)
    | false =>
      match ((b0.length : Int)) != (3 : Int) with
      | true =>
        some (.ret false b0)
      | false =>
        some (.nx b0)
def LFJ25a14 (N : Nat) (s : St) : Option OJ25a14 := J25a14 N ((Eng.look s.env 8).toI) ((s.mem.getD 0 .dead).rows)
def sgJ25a14 : LSh := ⟨[(7, .one (.own 0)), (8, .one (.cell (.int .i64)))], [.row 48]⟩
def ceJ25a14 : List Cv := []
def seJ25a14 : St → List Nat := fun st => [(Eng.look st.env 7).id]
def xJ25a14wnx : XSh OJ25a14 := ⟨[], ⟨[], [.row 48]⟩, fun st => [0], fun s => .nx ((s.mem.getD 0 .dead).rows)⟩
def xJ25a14wret : XSh OJ25a14 := ⟨[], ⟨[(6, .one (.cell (.bool)))], [.row 48]⟩, fun st => [0], fun s => .ret ((Eng.look s.env 6).toB) ((s.mem.getD 0 .dead).rows)⟩
def xsJ25a14 : Ex → St → Option (XSh OJ25a14) := fun e st => match e with
  | .normal => some xJ25a14wnx
  | .ret => some xJ25a14wret
  | _ => none
def exJ25a14 (o : OJ25a14) : Ex := match o with | .nx b0 => .normal | .ret x6 b0 => .ret
def stJ25a14 (o : OJ25a14) : St := match o with | .nx b0 => ⟨[], [.row 48 b0], [], .unk⟩ | .ret x6 b0 => ⟨[(6, .bool x6)], [.row 48 b0], [], .unk⟩
def elJ25a14 {R : Type} (o : OJ25a14) (k : Ex → St → Option R) : Option R := match o with | .nx b0 => k .normal ⟨[], [.row 48 b0], [], .unk⟩ | .ret x6 b0 => k .ret ⟨[(6, .bool x6)], [.row 48 b0], [], .unk⟩
theorem heJ25a14 {R : Type} (o : OJ25a14) (k : Ex → St → Option R) : elJ25a14 o k = k (exJ25a14 o) (stJ25a14 o) := by cases o <;> rfl
theorem hxJ25a14 : ∀ e st x, xsJ25a14 e st = some x → outOk x e exJ25a14 stJ25a14 := by
  intro e st x h
  unfold xsJ25a14 at h
  repeat' split at h
  all_goals first
    | (injection h with h; subst h; exact fun lk M => ⟨rfl, rfl⟩)
    | cases h
noncomputable def T25uc14 (N : Nat) (R : Type) : LTab R := mkTab ⟨60, 8323136⟩ (csF25 N R) (noY) [] [] []
theorem okT25uc14 (N : Nat) (R : Type) : (T25uc14 N R).Ok CX code25 := mkTab_ok (hcsF25 N R) (noY_ok) (trivial) (trivial) (trivial)
noncomputable def bdJ25a14 : Code := (codeAt code25 [false, true, true]).getD .skip
theorem hsJ25a14 (N : Nat) : ∀ (lk : Nat → AV) (M : List Blk), LFJ25a14 N (canS sgJ25a14 lk M) = evk CX (T25uc14 N OJ25a14) bdJ25a14 14 (canS sgJ25a14 lk M) (kontX CX 1 xsJ25a14) := by intro lk M; kernel_rfl
inductive OL25a122 where
  | ret (x6 : Bool) (b0c0 : Int) (b0c1 : Int) (b0c2 : Int) (b1c0 : Int) (b1c1 : Int) (b1c2 : Int) (b2 : List Row)
  | x0 (b0c0 : Int) (b0c1 : Int) (b0c2 : Int) (b1c0 : Int) (b1c1 : Int) (b1c2 : Int) (b2 : List Row)
def L25a122 (N : Nat) : Nat → Int → Int → Int → Int → Int → Int → Int → Int → List Row → Option OL25a122
  | 0 => fun _ _ _ _ _ _ _ _ _ => none
  | n + 1 => fun x24 x25 b0c0 b0c1 b0c2 b1c0 b1c1 b1c2 b2 =>
    match decide (x25 < x24) with
    | true =>
      tst (decide ((0 : Int) ≤ x25) && decide (x25 < ((b2.length : Int)))) <|
      tst (decide (x25.toNat < b2.length)) <|
      tst (decide ((0 : Int) ≤ x25) && decide (x25 < (3 : Int))) <|
      tst (decide (((0 + (x25.toNat * 1)) + 1) ≤ 3)) <|
      match ((((b2.getD x25.toNat [])).getD 1 .top).toI) != (((([.int .i64 b0c0, .int .i64 b0c1, .int .i64 b0c2] : List AV)).getD (0 + (x25.toNat * 1)) .top).toI) with
      | true =>
        some (.ret false b0c0 b0c1 b0c2 b1c0 b1c1 b1c2 b2)
      | false =>
        tst (decide ((0 : Int) ≤ x25) && decide (x25 < (3 : Int))) <|
        tst (decide (((0 + (x25.toNat * 1)) + 1) ≤ 3)) <|
        match ((((b2.getD x25.toNat [])).getD 2 .top).toI) != (((([.int .i64 b1c0, .int .i64 b1c1, .int .i64 b1c2] : List AV)).getD (0 + (x25.toNat * 1)) .top).toI) with
        | true =>
          some (.ret false b0c0 b0c1 b0c2 b1c0 b1c1 b1c2 b2)
        | false =>
          tst (decide ((0 : Int) ≤ x25) && decide (x25 < (3 : Int))) <|
          tst (decide (((0 + (x25.toNat * 1)) + 1) ≤ 3)) <|
          match !(((((b2.getD x25.toNat [])).getD 3 .top).toB) == (decide ((0 : Int) < (((([.int .i64 b1c0, .int .i64 b1c1, .int .i64 b1c2] : List AV)).getD (0 + (x25.toNat * 1)) .top).toI)))) with
          | true =>
            some (.ret false b0c0 b0c1 b0c2 b1c0 b1c1 b1c2 b2)
          | false =>
            match ((((b2.getD x25.toNat [])).getD 0 .top).toI) != x25 with
            | true =>
              some (.ret false b0c0 b0c1 b0c2 b1c0 b1c1 b1c2 b2)
            | false =>
              L25a122 N n x24 (IntKind.wrap .i64 (x25 + (1 : Int))) b0c0 b0c1 b0c2 b1c0 b1c1 b1c2 b2
    | false =>
      some (.x0 b0c0 b0c1 b0c2 b1c0 b1c1 b1c2 b2)
def LFL25a122 (N : Nat) (n : Nat) (s : St) : Option OL25a122 := L25a122 N n ((Eng.look s.env 24).toI) ((Eng.look s.env 25).toI) (((s.mem.getD 0 .dead).cells.getD 0 .top).toI) (((s.mem.getD 0 .dead).cells.getD 1 .top).toI) (((s.mem.getD 0 .dead).cells.getD 2 .top).toI) (((s.mem.getD 1 .dead).cells.getD 0 .top).toI) (((s.mem.getD 1 .dead).cells.getD 1 .top).toI) (((s.mem.getD 1 .dead).cells.getD 2 .top).toI) ((s.mem.getD 2 .dead).rows)
def sgL25a122 : LSh := ⟨[(4, .one (.ptr 0 0 0)), (5, .one (.ptr 1 0 0)), (23, .one (.own 2)), (24, .one (.cell (.int .i64))), (25, .one (.cell (.int .i64)))], [.var [.int .i64, .int .i64, .int .i64] [.cell (.int .i64), .cell (.int .i64), .cell (.int .i64)], .var [.int .i64, .int .i64, .int .i64] [.cell (.int .i64), .cell (.int .i64), .cell (.int .i64)], .row 48]⟩
def ceL25a122 : List Cv := []
def seL25a122 : St → List Nat := fun st => [(Eng.look st.env 4).id, (Eng.look st.env 5).id, (Eng.look st.env 23).id]
def xL25a122wret : XSh OL25a122 := ⟨[], ⟨[(6, .one (.cell (.bool)))], [.var [.int .i64, .int .i64, .int .i64] [.cell (.int .i64), .cell (.int .i64), .cell (.int .i64)], .var [.int .i64, .int .i64, .int .i64] [.cell (.int .i64), .cell (.int .i64), .cell (.int .i64)], .row 48]⟩, fun st => [0, 1, 2], fun s => .ret ((Eng.look s.env 6).toB) (((s.mem.getD 0 .dead).cells.getD 0 .top).toI) (((s.mem.getD 0 .dead).cells.getD 1 .top).toI) (((s.mem.getD 0 .dead).cells.getD 2 .top).toI) (((s.mem.getD 1 .dead).cells.getD 0 .top).toI) (((s.mem.getD 1 .dead).cells.getD 1 .top).toI) (((s.mem.getD 1 .dead).cells.getD 2 .top).toI) ((s.mem.getD 2 .dead).rows)⟩
def xL25a122wx0 : XSh OL25a122 := ⟨[], ⟨[], [.var [.int .i64, .int .i64, .int .i64] [.cell (.int .i64), .cell (.int .i64), .cell (.int .i64)], .var [.int .i64, .int .i64, .int .i64] [.cell (.int .i64), .cell (.int .i64), .cell (.int .i64)], .row 48]⟩, fun st => [0, 1, 2], fun s => .x0 (((s.mem.getD 0 .dead).cells.getD 0 .top).toI) (((s.mem.getD 0 .dead).cells.getD 1 .top).toI) (((s.mem.getD 0 .dead).cells.getD 2 .top).toI) (((s.mem.getD 1 .dead).cells.getD 0 .top).toI) (((s.mem.getD 1 .dead).cells.getD 1 .top).toI) (((s.mem.getD 1 .dead).cells.getD 2 .top).toI) ((s.mem.getD 2 .dead).rows)⟩
def xsL25a122 : Ex → St → Option (XSh OL25a122) := fun e st => match e with
  | .ret => some xL25a122wret
  | .exit 0 => some xL25a122wx0
  | _ => none
def exL25a122 (o : OL25a122) : Ex := match o with | .ret x6 b0c0 b0c1 b0c2 b1c0 b1c1 b1c2 b2 => .ret | .x0 b0c0 b0c1 b0c2 b1c0 b1c1 b1c2 b2 => (.exit 0)
def stL25a122 (o : OL25a122) : St := match o with | .ret x6 b0c0 b0c1 b0c2 b1c0 b1c1 b1c2 b2 => ⟨[(6, .bool x6)], [.var [.int .i64, .int .i64, .int .i64] [.int .i64 b0c0, .int .i64 b0c1, .int .i64 b0c2], .var [.int .i64, .int .i64, .int .i64] [.int .i64 b1c0, .int .i64 b1c1, .int .i64 b1c2], .row 48 b2], [], .unk⟩ | .x0 b0c0 b0c1 b0c2 b1c0 b1c1 b1c2 b2 => ⟨[], [.var [.int .i64, .int .i64, .int .i64] [.int .i64 b0c0, .int .i64 b0c1, .int .i64 b0c2], .var [.int .i64, .int .i64, .int .i64] [.int .i64 b1c0, .int .i64 b1c1, .int .i64 b1c2], .row 48 b2], [], .unk⟩
def elL25a122 {R : Type} (o : OL25a122) (k : Ex → St → Option R) : Option R := match o with | .ret x6 b0c0 b0c1 b0c2 b1c0 b1c1 b1c2 b2 => k .ret ⟨[(6, .bool x6)], [.var [.int .i64, .int .i64, .int .i64] [.int .i64 b0c0, .int .i64 b0c1, .int .i64 b0c2], .var [.int .i64, .int .i64, .int .i64] [.int .i64 b1c0, .int .i64 b1c1, .int .i64 b1c2], .row 48 b2], [], .unk⟩ | .x0 b0c0 b0c1 b0c2 b1c0 b1c1 b1c2 b2 => k (.exit 0) ⟨[], [.var [.int .i64, .int .i64, .int .i64] [.int .i64 b0c0, .int .i64 b0c1, .int .i64 b0c2], .var [.int .i64, .int .i64, .int .i64] [.int .i64 b1c0, .int .i64 b1c1, .int .i64 b1c2], .row 48 b2], [], .unk⟩
theorem heL25a122 {R : Type} (o : OL25a122) (k : Ex → St → Option R) : elL25a122 o k = k (exL25a122 o) (stL25a122 o) := by cases o <;> rfl
theorem hxL25a122 : ∀ e st x, xsL25a122 e st = some x → outOk x e exL25a122 stL25a122 := by
  intro e st x h
  unfold xsL25a122 at h
  repeat' split at h
  all_goals first
    | (injection h with h; subst h; exact fun lk M => ⟨rfl, rfl⟩)
    | cases h
noncomputable def T25ul122 (N : Nat) (R : Type) : LTab R := mkTab ⟨60, 1152921504573294144⟩ (csF25 N R) (noY) [] [] []
theorem okT25ul122 (N : Nat) (R : Type) : (T25ul122 N R).Ok CX code25 := mkTab_ok (hcsF25 N R) (noY_ok) (trivial) (trivial) (trivial)
noncomputable def bdL25a122 : Code := match codeAt code25 [false, true, false, true, true, true] with | some (.loop c) => c | _ => .skip
theorem hsL25a122 (N : Nat) : ∀ (n : Nat) (lk : Nat → AV) (M : List Blk), LFL25a122 N (n + 1) (canS sgL25a122 lk M) = evk CX (T25ul122 N OL25a122) bdL25a122 (2 * 122) (canS sgL25a122 lk M) (kont CX 3 [] sgL25a122 (fun st => [0, 1, 2]) xsL25a122 (LFL25a122 N n)) := by intro n lk M; kernel_rfl
noncomputable def T25ur1 (N : Nat) (R : Type) : LTab R := mkTab ⟨60, 1152921504606846975⟩ (csF25 N R) (noY) [(122, fun st k => callLoop CX 3 1152921504573294144 ceL25a122 sgL25a122 seL25a122 ⟨60, 1152921504606846975⟩ (LFL25a122 N N) elL25a122 st k)] [] [(14, fun st k => callLoop CX 1 8323136 ceJ25a14 sgJ25a14 seJ25a14 ⟨60, 1152921504606846975⟩ (LFJ25a14 N) elJ25a14 st k)]
theorem okT25ur1 (N : Nat) (R : Type) : (T25ur1 N R).Ok CX code25 := mkTab_ok (hcsF25 N R) (noY_ok) (⟨loop_ok hX (path := [false, true, false, true, true, true]) (by kernel_rfl) (by rfl) (okT25ul122 N OL25a122) (fun _ _ => rfl) (hsL25a122 N) hxL25a122 rfl heL25a122, trivial⟩) (trivial) (⟨cut_ok hX (path := [false, true, true]) (by kernel_rfl) (by rfl) (okT25uc14 N OJ25a14) (hsJ25a14 N) hxJ25a14 rfl heJ25a14, trivial⟩)
def rsF25 : List ResultVar := [.tmp 6]
def F25 : Nat → TF25
  | 0 => fun _ _ _ _ _ _ _ _ _ _ => none
  | N + 1 => fun x0c0 x0c1 x0c2 x0c3 x1c0 x1c1 x1c2 x2c0 x2c1 x2c2 =>
    match F11 N x0c0 x0c1 x0c2 x0c3 with
    | none => none
    | some (.r rx1v1 rb0v1) =>
      match J25a14 N rx1v1 rb0v1 with
      | none => none
      | some (.nx b0v2) =>
        match L25a122 N N ((b0v2.length : Int)) 0 x1c0 x1c1 x1c2 x2c0 x2c1 x2c2 b0v2 with
        | none => none
        | some (.ret x6v3 b0c0v3 b0c1v3 b0c2v3 b1c0v3 b1c1v3 b1c2v3 b2v3) =>
          some (.r x6v3)
        | some (.x0 b0c0v4 b0c1v4 b0c2v4 b1c0v4 b1c1v4 b1c2v4 b2v4) =>
          some (.r true)
      | some (.ret x6v5 b0v5) =>
        some (.r x6v5)
def xRF25 : XSh R25 := ⟨[], ⟨[(0, .one (.cell (.bool)))], []⟩, fun _ => [], fun s => .r ((Eng.look s.env 0).toB)⟩
theorem fsF25 : ∀ (N : Nat) (lk : Nat → AV) (M : List Blk), FFF25 (F25 (N + 1)) (canS sgF25 lk M) = evfn CX (T25ur1 N R25) code25 rsF25 (argsE 3 (canS sgF25 lk M).env) (canS sgF25 lk M).mem (goR CX 0 (fun _ => some xRF25)) := by intro N lk M; kernel_rfl
theorem soundF25 : ∀ N, RecOkF25 (F25 N)
  | 0, lk, M, o, h => by cases h
  | N + 1, lk, M, o, h => fn_sound hX (okT25ur1 N R25) Try.func25 hb25 rfl en25 (by kernel_rfl) (ys := fun _ => some xRF25) (fun st y h => by injection h with h; subst h; exact fun lk M => ⟨rfl, rfl⟩) ((fsF25 N lk M).symm.trans h)
def cvce25n0 : List Cv := [.frza 0 [.slice 38, .slice 3, .raw, .raw]]
def selce25n0 : St → List Nat := fun _ => []
noncomputable def ce25n0 (Fx : TF25) (R : Type) (test : List AV → List Blk → Bool) : CE R := ⟨25, test, fun _ M => some (List.range M.length), fun args M k => tst (Nat.beq args.length 3) (callFn CX 0 cvce25n0 sgF25 selce25n0 (FFF25 Fx) elF25 args M (fun x M' => tst (Nat.ble M.length M'.length) (k x M')))⟩
theorem okce25n0 (Fx : TF25) (h : RecOkF25 Fx) (R : Type) (test : List AV → List Blk → Bool) : CeOk CX (ce25n0 Fx R test) := ce_okc hX (fun o k => by cases o; rfl) h en25
end
end Go.Proofs.Ytbgdiljnmifakaa

namespace Go.Proofs.Ytbgdiljnmifakaa
open Go Go.Eng
set_option maxRecDepth 100000
noncomputable section
inductive R10 where
  | r (x0 : Bool)
abbrev TF10 := Option R10
def sgF10 : LSh := ⟨[], []⟩
def FFF10 (Fx : TF10) (s : St) : Option R10 := Fx 
def valF10 (o : R10) : AV := match o with | .r x0 => .bool x0
def memF10 (o : R10) : List Blk := match o with | .r x0 => []
def elF10 {R : Type} (o : R10) (k : AV → List Blk → Option R) : Option R := match o with | .r x0 => k (.bool x0) []
def RecOkF10 (Fx : TF10) : Prop := ∀ lk M o, FFF10 Fx (canS sgF10 lk M) = some o → FCalls CX 10 0 (argsE 0 (canS sgF10 lk M).env) (canS sgF10 lk M).mem (valF10 o) (memF10 o)
noncomputable def csF10 (N : Nat) (R : Type) : List (CE R) := [ce21n0 (F21 N) R (fun _ _ => true), ce24n0 (F24 N) R (fun _ _ => true), ce25n0 (F25 N) R (fun _ _ => true)]
theorem hcsF10 (N : Nat) (R : Type) : AllE (CeOk CX) (csF10 N R) := ⟨okce21n0 (F21 N) (soundF21 N) R (fun _ _ => true), okce24n0 (F24 N) (soundF24 N) R (fun _ _ => true), okce25n0 (F25 N) (soundF25 N) R (fun _ _ => true), trivial⟩
inductive OJ10a62 where
  | nx (x6 : Bool)
def J10a62 (N : Nat) : Option OJ10a62 := 
    match F24 N ((-1)) with
    | none => none
    | some (.r rx0c2v6 rx0c3v6 rb0v6 rb1v6) =>
      match F25 N rb0v6 rb1v6 rx0c2v6 rx0c3v6 0 0 0 1 3 7 with
      | none => none
      | some (.r rx0v7) =>
        match rx0v7 with
        | true =>
          match F24 N 3 with
          | none => none
          | some (.r rx0c2v8 rx0c3v8 rb0v8 rb1v8) =>
            match F25 N rb0v8 rb1v8 rx0c2v8 rx0c3v8 2 2 0 3 6 7 with
            | none => none
            | some (.r rx0v9) =>
              match rx0v9 with
              | true =>
                match F24 N 2 with
                | none => none
                | some (.r rx0c2v10 rx0c3v10 rb0v10 rb1v10) =>
                  match F25 N rb0v10 rb1v10 rx0c2v10 rx0c3v10 0 2 0 1 6 7 with
                  | none => none
                  | some (.r rx0v11) =>
                    some (.nx rx0v11)
              | false =>
                some (.nx false)
        | false =>
          some (.nx false)
def LFJ10a62 (N : Nat) (s : St) : Option OJ10a62 := J10a62 N 
def sgJ10a62 : LSh := ⟨[], []⟩
def ceJ10a62 : List Cv := []
def seJ10a62 : St → List Nat := fun _ => []
def xJ10a62wnx : XSh OJ10a62 := ⟨[], ⟨[(6, .one (.cell (.bool)))], []⟩, fun _ => [], fun s => .nx ((Eng.look s.env 6).toB)⟩
def xsJ10a62 : Ex → St → Option (XSh OJ10a62) := fun e st => match e with
  | .normal => some xJ10a62wnx
  | _ => none
def exJ10a62 (o : OJ10a62) : Ex := match o with | .nx x6 => .normal
def stJ10a62 (o : OJ10a62) : St := match o with | .nx x6 => ⟨[(6, .bool x6)], [], [], .unk⟩
def elJ10a62 {R : Type} (o : OJ10a62) (k : Ex → St → Option R) : Option R := match o with | .nx x6 => k .normal ⟨[(6, .bool x6)], [], [], .unk⟩
theorem heJ10a62 {R : Type} (o : OJ10a62) (k : Ex → St → Option R) : elJ10a62 o k = k (exJ10a62 o) (stJ10a62 o) := by cases o <;> rfl
theorem hxJ10a62 : ∀ e st x, xsJ10a62 e st = some x → outOk x e exJ10a62 stJ10a62 := by
  intro e st x h
  unfold xsJ10a62 at h
  repeat' split at h
  all_goals first
    | (injection h with h; subst h; exact fun lk M => ⟨rfl, rfl⟩)
    | cases h
noncomputable def T10uc62 (N : Nat) (R : Type) : LTab R := mkTab ⟨64, 137436856384⟩ (csF10 N R) (noY) [] [] []
theorem okT10uc62 (N : Nat) (R : Type) : (T10uc62 N R).Ok CX code10 := mkTab_ok (hcsF10 N R) (noY_ok) (trivial) (trivial) (trivial)
noncomputable def bdJ10a62 : Code := (codeAt code10 [false, true, true, true, true]).getD .skip
theorem hsJ10a62 (N : Nat) : ∀ (lk : Nat → AV) (M : List Blk), LFJ10a62 N (canS sgJ10a62 lk M) = evk CX (T10uc62 N OJ10a62) bdJ10a62 62 (canS sgJ10a62 lk M) (kontX CX 0 xsJ10a62) := by intro lk M; kernel_rfl
noncomputable def T10ur1 (N : Nat) (R : Type) : LTab R := mkTab ⟨64, 18446744073709551615⟩ (csF10 N R) (noY) [] [] [(62, fun st k => callLoop CX 0 137436856384 ceJ10a62 sgJ10a62 seJ10a62 ⟨64, 18446744073709551615⟩ (LFJ10a62 N) elJ10a62 st k)]
theorem okT10ur1 (N : Nat) (R : Type) : (T10ur1 N R).Ok CX code10 := mkTab_ok (hcsF10 N R) (noY_ok) (trivial) (trivial) (⟨cut_ok hX (path := [false, true, true, true, true]) (by kernel_rfl) (by rfl) (okT10uc62 N OJ10a62) (hsJ10a62 N) hxJ10a62 rfl heJ10a62, trivial⟩)
def rsF10 : List ResultVar := [.tmp 0]
def F10 : Nat → TF10
  | 0 => none
  | N + 1 => 
    match F24 N ((-1)) with
    | none => none
    | some (.r rx0c2v1 rx0c3v1 rb0v1 rb1v1) =>
      match F24 N ((-1)) with
      | none => none
      | some (.r rx0c2v2 rx0c3v2 rb0v2 rb1v2) =>
        match F24 N ((-1)) with
        | none => none
        | some (.r rx0c2v3 rx0c3v3 rb0v3 rb1v3) =>
          tst (decide ((2 : Int) < ((rb0v3.length : Int)))) <|
          tst (decide (2 < rb0v3.length)) <|
          match F24 N ((-1)) with
          | none => none
          | some (.r rx0c2v4 rx0c3v4 rb0v4 rb1v4) =>
            match F21 N rb0v4 rb1v4 rx0c2v4 rx0c3v4 2 7 with
            | none => none
            | some (.r rx0v5 rx1v5) =>
              match J10a62 N  with
              | none => none
              | some (.nx x6v12) =>
                match x6v12 with
                | true =>
                  match F25 N rb0v1 rb1v1 1 rx0c3v1 0 0 0 1 8 0 with
                  | none => none
                  | some (.r rx0v13) =>
                    match rx0v13 with
                    | true =>
                      match F25 N rb0v2 rb1v2 rx0c2v2 3 2 2 2 3 6 12 with
                      | none => none
                      | some (.r rx0v14) =>
                        match rx0v14 with
                        | true =>
                          match F25 N (rb0v3.set 2 (Eng.setAt ((rb0v3.getD 2 [])) 3 [.int .i64 6])) rb1v3 rx0c2v3 rx0c3v3 0 0 0 1 3 0 with
                          | none => none
                          | some (.r rx0v15) =>
                            match rx0v15 with
                            | true =>
                              match rx0v5 == (4 : Int) with
                              | true =>
                                some (.r (rx1v5 == (0 : Int)))
                              | false =>
                                some (.r false)
                            | false =>
                              some (.r false)
                        | false =>
                          some (.r false)
                    | false =>
                      some (.r false)
                | false =>
                  some (.r false)
def xRF10 : XSh R10 := ⟨[], ⟨[(0, .one (.cell (.bool)))], []⟩, fun _ => [], fun s => .r ((Eng.look s.env 0).toB)⟩
theorem fsF10 : ∀ (N : Nat) (lk : Nat → AV) (M : List Blk), FFF10 (F10 (N + 1)) (canS sgF10 lk M) = evfn CX (T10ur1 N R10) code10 rsF10 (argsE 0 (canS sgF10 lk M).env) (canS sgF10 lk M).mem (goR CX 0 (fun _ => some xRF10)) := by intro N lk M; kernel_rfl
theorem soundF10 : ∀ N, RecOkF10 (F10 N)
  | 0, lk, M, o, h => by cases h
  | N + 1, lk, M, o, h => fn_sound hX (okT10ur1 N R10) Try.func10 hb10 rfl en10 (by kernel_rfl) (ys := fun _ => some xRF10) (fun st y h => by injection h with h; subst h; exact fun lk M => ⟨rfl, rfl⟩) ((fsF10 N lk M).symm.trans h)
def cvce10n0 : List Cv := []
def selce10n0 : St → List Nat := fun _ => []
noncomputable def ce10n0 (Fx : TF10) (R : Type) (test : List AV → List Blk → Bool) : CE R := ⟨10, test, fun args M => some (selce10n0 ⟨argEnv 0 args, M, [], .unk⟩), fun args M k => tst (Nat.beq args.length 0) (callFn CX 0 cvce10n0 sgF10 selce10n0 (FFF10 Fx) elF10 args M k)⟩
theorem okce10n0 (Fx : TF10) (h : RecOkF10 Fx) (R : Type) (test : List AV → List Blk → Bool) : CeOk CX (ce10n0 Fx R test) := ce_ok hX (fun o k => by cases o; rfl) h en10 (fun args M ids h => by injection h with h; exact ⟨rfl, h.symm⟩)
end
end Go.Proofs.Ytbgdiljnmifakaa

namespace Go.Proofs.Ytbgdiljnmifakaa
open Go Go.Eng
set_option maxRecDepth 100000
noncomputable section
end
end Go.Proofs.Ytbgdiljnmifakaa

namespace Go.Proofs.Ytbgdiljnmifakaa
open Go Go.Eng
set_option maxRecDepth 100000
noncomputable section
end
end Go.Proofs.Ytbgdiljnmifakaa

namespace Go.Proofs.Ytbgdiljnmifakaa
open Go Go.Eng
set_option maxRecDepth 100000
noncomputable section
inductive R30 where
  | r (x0 : Int)
abbrev TF30 := List Row → List Row → Int → Int → Int → Option R30
inductive OL30a7462 where
  | x2 (x5 : Int) (b0c0 : List Row) (b0c1 : List Row) (b0c2 : Int) (b0c3 : Int) (b1c0 : Int) (b1c1 : Int) (b1c2 : Int) (b1c3 : Int) (b1c4 : Int) (b1c5 : Int) (b1c6 : List Row)
def L30a7462 (N : Nat) : Nat → Int → Int → Int → List Row → List Row → Int → Int → Int → Int → Int → Int → Int → Int → List Row → Option OL30a7462
  | 0 => fun _ _ _ _ _ _ _ _ _ _ _ _ _ _ => none
  | n + 1 => fun x1 x5 x8 b0c0 b0c1 b0c2 b0c3 b1c0 b1c1 b1c2 b1c3 b1c4 b1c5 b1c6 =>
    match decide (x8 < ((b1c6.length : Int))) with
    | true =>
      tst (decide ((0 : Int) ≤ x1) && decide (x1 < ((b0c0.length : Int)))) <|
      match decide (b1c1 < ((((b0c0.getD x1.toNat [])).getD 1 .top).toI)) with
      | true =>
        tst (decide ((0 : Int) ≤ x8) && decide (x8 < ((b1c6.length : Int)))) <|
        tst (decide ((0 : Int) ≤ ((((b1c6.getD x8.toNat [])).getD 0 .top).toI)) && decide ((((b1c6.getD x8.toNat [])).getD 0 .top).toI < ((b0c1.length : Int)))) <|
        tst (decide ((0 : Int) ≤ x1) && decide (x1 < ((b0c0.length : Int)))) <|
        match decide (((((b0c0.getD x1.toNat [])).getD 1 .top).toI) ≤ ((((b0c1.getD (((((b1c6.getD x8.toNat [])).getD 0 .top).toI).toNat) [])).getD 0 .top).toI)) with
        | true =>
          tst (decide ((0 : Int) ≤ x8) && decide (x8 < ((b1c6.length : Int)))) <|
          L30a7462 N n x1 (Eng.imax x5 ((((b1c6.getD x8.toNat [])).getD 1 .top).toI)) (IntKind.wrap .i64 (x8 + (1 : Int))) b0c0 b0c1 b0c2 b0c3 b1c0 b1c1 b1c2 b1c3 b1c4 b1c5 b1c6
        | false =>
          L30a7462 N n x1 x5 (IntKind.wrap .i64 (x8 + (1 : Int))) b0c0 b0c1 b0c2 b0c3 b1c0 b1c1 b1c2 b1c3 b1c4 b1c5 b1c6
      | false =>
        L30a7462 N n x1 x5 (IntKind.wrap .i64 (x8 + (1 : Int))) b0c0 b0c1 b0c2 b0c3 b1c0 b1c1 b1c2 b1c3 b1c4 b1c5 b1c6
    | false =>
      some (.x2 x5 b0c0 b0c1 b0c2 b0c3 b1c0 b1c1 b1c2 b1c3 b1c4 b1c5 b1c6)
inductive OL30a58 where
  | x0 (x5 : Int) (b0c0 : List Row) (b0c1 : List Row) (b0c2 : Int) (b0c3 : Int)
def L30a58 (N : Nat) : Nat → Int → Int → Int → List Row → List Row → Int → Int → Option OL30a58
  | 0 => fun _ _ _ _ _ _ _ => none
  | n + 1 => fun x1 x5 x6 b0c0 b0c1 b0c2 b0c3 =>
    match decide (x6 < ((b0c0.length : Int))) with
    | true =>
      tst (decide ((0 : Int) ≤ x6) && decide (x6 < ((b0c0.length : Int)))) <|
      match L30a7462 N N x1 x5 0 b0c0 b0c1 b0c2 b0c3 ((((b0c0.getD x6.toNat [])).getD 0 .top).toI) ((((b0c0.getD x6.toNat [])).getD 1 .top).toI) ((((b0c0.getD x6.toNat [])).getD 2 .top).toI) ((((b0c0.getD x6.toNat [])).getD 3 .top).toI) ((((b0c0.getD x6.toNat [])).getD 4 .top).toI) ((((b0c0.getD x6.toNat [])).getD 5 .top).toI) ((((b0c0.getD x6.toNat [])).getD 6 .top).rows) with
      | none => none
      | some (.x2 x5v1 b0c0v1 b0c1v1 b0c2v1 b0c3v1 b1c0v1 b1c1v1 b1c2v1 b1c3v1 b1c4v1 b1c5v1 b1c6v1) =>
        L30a58 N n x1 x5v1 (IntKind.wrap .i64 (x6 + (1 : Int))) b0c0v1 b0c1v1 b0c2v1 b0c3v1
    | false =>
      some (.x0 x5 b0c0 b0c1 b0c2 b0c3)
def F30 : Nat → TF30
  | 0 => fun _ _ _ _ _ => none
  | N + 1 => fun x0c0 x0c1 x0c2 x0c3 x1 =>
    match L30a58 N N x1 (IntKind.wrap .i64 (x0c3 - (1 : Int))) 0 x0c0 x0c1 x0c2 x0c3 with
    | none => none
    | some (.x0 x5v2 b0c0v2 b0c1v2 b0c2v2 b0c3v2) =>
      some (.r x5v2)
end
end Go.Proofs.Ytbgdiljnmifakaa

namespace Go.Proofs.Ytbgdiljnmifakaa
open Go Go.Eng
set_option maxRecDepth 100000
noncomputable section
end
end Go.Proofs.Ytbgdiljnmifakaa

namespace Go.Proofs.Ytbgdiljnmifakaa
open Go Go.Eng
set_option maxRecDepth 100000
noncomputable section
inductive R41 where
  | r (x0 : Int) (x1 : Bool)
abbrev TF41 := List Row → List Row → Int → Int → Int → Int → Option R41
inductive OJ41a3730 where
  | nx (b0c0 : List Row) (b0c1 : List Row) (b0c2 : Int) (b0c3 : Int) (b1c0 : Int) (b1c1 : Int) (b1c2 : Int) (b1c3 : Int) (b1c4 : Int) (b1c5 : Int) (b1c6 : List Row)
  | x1 (b0c0 : List Row) (b0c1 : List Row) (b0c2 : Int) (b0c3 : Int) (b1c0 : Int) (b1c1 : Int) (b1c2 : Int) (b1c3 : Int) (b1c4 : Int) (b1c5 : Int) (b1c6 : List Row)
def J41a3730 (N : Nat) : Int → Int → List Row → List Row → Int → Int → Int → Int → Int → Int → Int → Int → List Row → Option OJ41a3730 := fun x1 x9 b0c0 b0c1 b0c2 b0c3 b1c0 b1c1 b1c2 b1c3 b1c4 b1c5 b1c6 =>
    match x9 == x1 with
    | true =>
      some (.x1 b0c0 b0c1 b0c2 b0c3 b1c0 b1c1 b1c2 b1c3 b1c4 b1c5 b1c6)
    | false =>
      tst (decide ((0 : Int) ≤ x1) && decide (x1 < ((b0c0.length : Int)))) <|
      match decide (b1c1 < ((((b0c0.getD x1.toNat [])).getD 1 .top).toI)) with
      | true =>
        some (.x1 b0c0 b0c1 b0c2 b0c3 b1c0 b1c1 b1c2 b1c3 b1c4 b1c5 b1c6)
      | false =>
        some (.nx b0c0 b0c1 b0c2 b0c3 b1c0 b1c1 b1c2 b1c3 b1c4 b1c5 b1c6)
inductive OL41a58 where
  | ret (x6 : Int) (x7 : Bool) (b0c0 : List Row) (b0c1 : List Row) (b0c2 : Int) (b0c3 : Int)
  | x0 (x8 : Int) (b0c0 : List Row) (b0c1 : List Row) (b0c2 : Int) (b0c3 : Int)
def L41a58 (N : Nat) : Nat → Int → Int → Int → Int → List Row → List Row → Int → Int → Option OL41a58
  | 0 => fun _ _ _ _ _ _ _ _ => none
  | n + 1 => fun x1 x2 x8 x9 b0c0 b0c1 b0c2 b0c3 =>
    match decide (x9 < ((b0c0.length : Int))) with
    | true =>
      tst (decide ((0 : Int) ≤ x9) && decide (x9 < ((b0c0.length : Int)))) <|
      match J41a3730 N x1 x9 b0c0 b0c1 b0c2 b0c3 ((((b0c0.getD x9.toNat [])).getD 0 .top).toI) ((((b0c0.getD x9.toNat [])).getD 1 .top).toI) ((((b0c0.getD x9.toNat [])).getD 2 .top).toI) ((((b0c0.getD x9.toNat [])).getD 3 .top).toI) ((((b0c0.getD x9.toNat [])).getD 4 .top).toI) ((((b0c0.getD x9.toNat [])).getD 5 .top).toI) ((((b0c0.getD x9.toNat [])).getD 6 .top).rows) with
      | none => none
      | some (.nx b0c0v1 b0c1v1 b0c2v1 b0c3v1 b1c0v1 b1c1v1 b1c2v1 b1c3v1 b1c4v1 b1c5v1 b1c6v1) =>
        tst (!(b1c2v1 == 0)) <|
        tst (!(b1c2v1 == 0)) <|
        match decide ((0 : Int) < (Int.tmod x2 b1c2v1)) with
        | true =>
          match decide ((1152921504606846976 : Int) < (IntKind.wrap .i64 (x8 + (IntKind.wrap .i64 ((IntKind.wrap .i64 ((IntKind.wrap .i64 (Int.tdiv x2 b1c2v1)) + (1 : Int))) * (IntKind.wrap .i64 (b1c5v1 + (IntKind.wrap .i64 ((2 : Int) * b0c2v1))))))))) with
          | true =>
            some (.ret 0 false b0c0v1 b0c1v1 b0c2v1 b0c3v1)
          | false =>
            L41a58 N n x1 x2 (IntKind.wrap .i64 (x8 + (IntKind.wrap .i64 ((IntKind.wrap .i64 ((IntKind.wrap .i64 (Int.tdiv x2 b1c2v1)) + (1 : Int))) * (IntKind.wrap .i64 (b1c5v1 + (IntKind.wrap .i64 ((2 : Int) * b0c2v1)))))))) (IntKind.wrap .i64 (x9 + (1 : Int))) b0c0v1 b0c1v1 b0c2v1 b0c3v1
        | false =>
          match decide ((1152921504606846976 : Int) < (IntKind.wrap .i64 (x8 + (IntKind.wrap .i64 ((IntKind.wrap .i64 (Int.tdiv x2 b1c2v1)) * (IntKind.wrap .i64 (b1c5v1 + (IntKind.wrap .i64 ((2 : Int) * b0c2v1))))))))) with
          | true =>
            some (.ret 0 false b0c0v1 b0c1v1 b0c2v1 b0c3v1)
          | false =>
            L41a58 N n x1 x2 (IntKind.wrap .i64 (x8 + (IntKind.wrap .i64 ((IntKind.wrap .i64 (Int.tdiv x2 b1c2v1)) * (IntKind.wrap .i64 (b1c5v1 + (IntKind.wrap .i64 ((2 : Int) * b0c2v1)))))))) (IntKind.wrap .i64 (x9 + (1 : Int))) b0c0v1 b0c1v1 b0c2v1 b0c3v1
      | some (.x1 b0c0v2 b0c1v2 b0c2v2 b0c3v2 b1c0v2 b1c1v2 b1c2v2 b1c3v2 b1c4v2 b1c5v2 b1c6v2) =>
        L41a58 N n x1 x2 x8 (IntKind.wrap .i64 (x9 + (1 : Int))) b0c0v2 b0c1v2 b0c2v2 b0c3v2
    | false =>
      some (.x0 x8 b0c0 b0c1 b0c2 b0c3)
def F41 : Nat → TF41
  | 0 => fun _ _ _ _ _ _ => none
  | N + 1 => fun x0c0 x0c1 x0c2 x0c3 x1 x2 =>
    match L41a58 N N x1 x2 0 0 x0c0 x0c1 x0c2 x0c3 with
    | none => none
    | some (.ret x6v3 x7v3 b0c0v3 b0c1v3 b0c2v3 b0c3v3) =>
      some (.r x6v3 x7v3)
    | some (.x0 x8v4 b0c0v4 b0c1v4 b0c2v4 b0c3v4) =>
      some (.r x8v4 true)
end
end Go.Proofs.Ytbgdiljnmifakaa

namespace Go.Proofs.Ytbgdiljnmifakaa
open Go Go.Eng
set_option maxRecDepth 100000
noncomputable section
end
end Go.Proofs.Ytbgdiljnmifakaa

namespace Go.Proofs.Ytbgdiljnmifakaa
open Go Go.Eng
set_option maxRecDepth 100000
noncomputable section
end
end Go.Proofs.Ytbgdiljnmifakaa

namespace Go.Proofs.Ytbgdiljnmifakaa
open Go Go.Eng
set_option maxRecDepth 100000
noncomputable section
inductive R29 where
  | r (x0 : Int) (x1 : Bool)
abbrev TF29 := List Row → List Row → Int → Int → Int → Option R29
inductive OL29a124 where
  | ret (x4 : Int) (x5 : Bool) (b0c0 : List Row) (b0c1 : List Row) (b0c2 : Int) (b0c3 : Int) (b1c0 : Int) (b1c1 : Int) (b1c2 : Int) (b1c3 : Int) (b1c4 : Int) (b1c5 : Int) (b1c6 : List Row)
  | x0 (b0c0 : List Row) (b0c1 : List Row) (b0c2 : Int) (b0c3 : Int) (b1c0 : Int) (b1c1 : Int) (b1c2 : Int) (b1c3 : Int) (b1c4 : Int) (b1c5 : Int) (b1c6 : List Row)
def L29a124 (N : Nat) : Nat → Int → Int → Int → List Row → List Row → Int → Int → Int → Int → Int → Int → Int → Int → List Row → Option OL29a124
  | 0 => fun _ _ _ _ _ _ _ _ _ _ _ _ _ _ => none
  | n + 1 => fun x1 x7 x8 b0c0 b0c1 b0c2 b0c3 b1c0 b1c1 b1c2 b1c3 b1c4 b1c5 b1c6 =>
    match decide (x8 ≤ b1c3) with
    | true =>
      match F41 N b0c0 b0c1 b0c2 b0c3 x1 x8 with
      | none => none
      | some (.r rx0v2 rx1v2) =>
        match !rx1v2 with
        | true =>
          some (.ret 0 false b0c0 b0c1 b0c2 b0c3 b1c0 b1c1 b1c2 b1c3 b1c4 b1c5 b1c6)
        | false =>
          match decide (b1c3 < (IntKind.wrap .i64 (x7 + rx0v2))) with
          | true =>
            some (.ret 0 false b0c0 b0c1 b0c2 b0c3 b1c0 b1c1 b1c2 b1c3 b1c4 b1c5 b1c6)
          | false =>
            match (IntKind.wrap .i64 (x7 + rx0v2)) == x8 with
            | true =>
              some (.ret x8 true b0c0 b0c1 b0c2 b0c3 b1c0 b1c1 b1c2 b1c3 b1c4 b1c5 b1c6)
            | false =>
              L29a124 N n x1 x7 (IntKind.wrap .i64 (x7 + rx0v2)) b0c0 b0c1 b0c2 b0c3 b1c0 b1c1 b1c2 b1c3 b1c4 b1c5 b1c6
    | false =>
      some (.x0 b0c0 b0c1 b0c2 b0c3 b1c0 b1c1 b1c2 b1c3 b1c4 b1c5 b1c6)
def F29 : Nat → TF29
  | 0 => fun _ _ _ _ _ => none
  | N + 1 => fun x0c0 x0c1 x0c2 x0c3 x1 =>
    tst (decide ((0 : Int) ≤ x1) && decide (x1 < ((x0c0.length : Int)))) <|
    match F30 N x0c0 x0c1 x0c2 x0c3 x1 with
    | none => none
    | some (.r rx0v1) =>
      match L29a124 N N x1 (IntKind.wrap .i64 (((((x0c0.getD x1.toNat [])).getD 5 .top).toI) + rx0v1)) (IntKind.wrap .i64 (((((x0c0.getD x1.toNat [])).getD 5 .top).toI) + rx0v1)) x0c0 x0c1 x0c2 x0c3 ((((x0c0.getD x1.toNat [])).getD 0 .top).toI) ((((x0c0.getD x1.toNat [])).getD 1 .top).toI) ((((x0c0.getD x1.toNat [])).getD 2 .top).toI) ((((x0c0.getD x1.toNat [])).getD 3 .top).toI) ((((x0c0.getD x1.toNat [])).getD 4 .top).toI) ((((x0c0.getD x1.toNat [])).getD 5 .top).toI) ((((x0c0.getD x1.toNat [])).getD 6 .top).rows) with
      | none => none
      | some (.ret x4v3 x5v3 b0c0v3 b0c1v3 b0c2v3 b0c3v3 b1c0v3 b1c1v3 b1c2v3 b1c3v3 b1c4v3 b1c5v3 b1c6v3) =>
        some (.r x4v3 x5v3)
      | some (.x0 b0c0v4 b0c1v4 b0c2v4 b0c3v4 b1c0v4 b1c1v4 b1c2v4 b1c3v4 b1c4v4 b1c5v4 b1c6v4) =>
        some (.r 0 false)
end
end Go.Proofs.Ytbgdiljnmifakaa

namespace Go.Proofs.Ytbgdiljnmifakaa
open Go Go.Eng
set_option maxRecDepth 100000
noncomputable section
end
end Go.Proofs.Ytbgdiljnmifakaa

namespace Go.Proofs.Ytbgdiljnmifakaa
open Go Go.Eng
set_option maxRecDepth 100000
noncomputable section
end
end Go.Proofs.Ytbgdiljnmifakaa

namespace Go.Proofs.Ytbgdiljnmifakaa
open Go Go.Eng
set_option maxRecDepth 100000
noncomputable section
inductive OL12a122 where
  | x0 (b0c0 : List Row) (b0c1 : List Row) (b0c2 : Int) (b0c3 : Int) (b1 : List Row)
def L12a122 (N : Nat) : Nat → Int → List Row → List Row → Int → Int → List Row → Option OL12a122
  | 0 => fun _ _ _ _ _ _ => none
  | n + 1 => fun x5 b0c0 b0c1 b0c2 b0c3 b1 =>
    match decide (x5 < ((b0c0.length : Int))) with
    | true =>
      match F29 N b0c0 b0c1 b0c2 b0c3 x5 with
      | none => none
      | some (.r rx0v2 rx1v2) =>
        tst (decide ((0 : Int) ≤ x5) && decide (x5 < ((b0c0.length : Int)))) <|
        match F30 N b0c0 b0c1 b0c2 b0c3 x5 with
        | none => none
        | some (.r rx0v3) =>
          tst (decide (((b1.length + (([[.int .i64 ((((b0c0.getD x5.toNat [])).getD 0 .top).toI), .int .i64 rx0v3, .int .i64 rx0v2, .bool rx1v2]] : List Row)).length) * 32) ≤ 140737488355328)) <|
          L12a122 N n (IntKind.wrap .i64 (x5 + (1 : Int))) b0c0 b0c1 b0c2 b0c3 (b1 ++ (([[.int .i64 ((((b0c0.getD x5.toNat [])).getD 0 .top).toI), .int .i64 rx0v3, .int .i64 rx0v2, .bool rx1v2]] : List Row)))
    | false =>
      some (.x0 b0c0 b0c1 b0c2 b0c3 b1)
end
end Go.Proofs.Ytbgdiljnmifakaa

namespace Go.Proofs.Ytbgdiljnmifakaa
open Go Go.Eng
set_option maxRecDepth 100000
noncomputable section
end
end Go.Proofs.Ytbgdiljnmifakaa

namespace Go.Proofs.Ytbgdiljnmifakaa
open Go Go.Eng
set_option maxRecDepth 100000
noncomputable section
end
end Go.Proofs.Ytbgdiljnmifakaa

namespace Go.Proofs.Ytbgdiljnmifakaa
open Go Go.Eng
set_option maxRecDepth 100000
noncomputable section
inductive R37 where
  | r (x0 : Int)
abbrev TF37 := List Row → List Row → Int → Int → Int → Int → Int → Int → Int → Option R37
def sgF37 : LSh := ⟨[(0, .agg [.cell (.slice 38), .cell (.slice 3), .cell (.int .i64), .cell (.int .i64)]), (1, .one (.cell (.int .i64))), (2, .agg [.cell (.int .i64), .cell (.int .i64), .cell (.int .i64)]), (3, .one (.cell (.int .i64)))], []⟩
def FFF37 (Fx : TF37) (s : St) : Option R37 := Fx (((Eng.look s.env 0).cells.getD 0 .top).rows) (((Eng.look s.env 0).cells.getD 1 .top).rows) (((Eng.look s.env 0).cells.getD 2 .top).toI) (((Eng.look s.env 0).cells.getD 3 .top).toI) ((Eng.look s.env 1).toI) (((Eng.look s.env 2).cells.getD 0 .top).toI) (((Eng.look s.env 2).cells.getD 1 .top).toI) (((Eng.look s.env 2).cells.getD 2 .top).toI) ((Eng.look s.env 3).toI)
def valF37 (o : R37) : AV := match o with | .r x0 => .int .i64 x0
def memF37 (o : R37) : List Blk := match o with | .r x0 => []
def elF37 {R : Type} (o : R37) (k : AV → List Blk → Option R) : Option R := match o with | .r x0 => k (.int .i64 x0) []
def RecOkF37 (Fx : TF37) : Prop := ∀ lk M o, FFF37 Fx (canS sgF37 lk M) = some o → FCalls CX 37 0 (argsE 4 (canS sgF37 lk M).env) (canS sgF37 lk M).mem (valF37 o) (memF37 o)
noncomputable def csF37 (N : Nat) (R : Type) : List (CE R) := []
theorem hcsF37 (N : Nat) (R : Type) : AllE (CeOk CX) (csF37 N R) := trivial
inductive OJ37a32050 where
  | nx (x10 : Int) (b0c0 : List Row) (b0c1 : List Row) (b0c2 : Int) (b0c3 : Int) (b1c0 : Int) (b1c1 : Int) (b1c2 : Int) (b2c0 : Int) (b2c1 : Int)
def J37a32050 (N : Nat) : Int → Int → List Row → List Row → Int → Int → Int → Int → Int → Int → Int → Option OJ37a32050 := fun x10 x11 b0c0 b0c1 b0c2 b0c3 b1c0 b1c1 b1c2 b2c0 b2c1 =>
    match decide (x11 < b1c1) with
    | true =>
      match decide (b1c1 < (IntKind.wrap .i64 (x11 + b2c1))) with
      | true =>
        tst (decide ((0 : Int) ≤ b2c0) && decide (b2c0 < ((b0c1.length : Int)))) <|
        some (.nx (Eng.imax x10 ((((b0c1.getD b2c0.toNat [])).getD 0 .top).toI)) b0c0 b0c1 b0c2 b0c3 b1c0 b1c1 b1c2 b2c0 b2c1)
      | false =>
        some (.nx x10 b0c0 b0c1 b0c2 b0c3 b1c0 b1c1 b1c2 b2c0 b2c1)
    | false =>
      some (.nx x10 b0c0 b0c1 b0c2 b0c3 b1c0 b1c1 b1c2 b2c0 b2c1)
def LFJ37a32050 (N : Nat) (s : St) : Option OJ37a32050 := J37a32050 N ((Eng.look s.env 10).toI) ((Eng.look s.env 11).toI) (((s.mem.getD 0 .dead).cells.getD 0 .top).rows) (((s.mem.getD 0 .dead).cells.getD 1 .top).rows) (((s.mem.getD 0 .dead).cells.getD 2 .top).toI) (((s.mem.getD 0 .dead).cells.getD 3 .top).toI) (((s.mem.getD 1 .dead).cells.getD 0 .top).toI) (((s.mem.getD 1 .dead).cells.getD 1 .top).toI) (((s.mem.getD 1 .dead).cells.getD 2 .top).toI) (((s.mem.getD 2 .dead).cells.getD 0 .top).toI) (((s.mem.getD 2 .dead).cells.getD 1 .top).toI)
def sgJ37a32050 : LSh := ⟨[(4, .one (.ptr 0 0 0)), (6, .one (.ptr 1 0 0)), (10, .one (.cell (.int .i64))), (11, .one (.cell (.int .i64))), (13, .one (.ptr 2 0 0))], [.var [.any, .any, .int .i64, .int .i64] [.cell (.slice 38), .cell (.slice 3), .cell (.int .i64), .cell (.int .i64)], .var [.int .i64, .int .i64, .int .i64] [.cell (.int .i64), .cell (.int .i64), .cell (.int .i64)], .var [.int .i64, .int .i64] [.cell (.int .i64), .cell (.int .i64)]]⟩
def ceJ37a32050 : List Cv := []
def seJ37a32050 : St → List Nat := fun st => [(Eng.look st.env 4).id, (Eng.look st.env 6).id, (Eng.look st.env 13).id]
def xJ37a32050wnx : XSh OJ37a32050 := ⟨[], ⟨[(10, .one (.cell (.int .i64)))], [.var [.any, .any, .int .i64, .int .i64] [.cell (.slice 38), .cell (.slice 3), .cell (.int .i64), .cell (.int .i64)], .var [.int .i64, .int .i64, .int .i64] [.cell (.int .i64), .cell (.int .i64), .cell (.int .i64)], .var [.int .i64, .int .i64] [.cell (.int .i64), .cell (.int .i64)]]⟩, fun st => [0, 1, 2], fun s => .nx ((Eng.look s.env 10).toI) (((s.mem.getD 0 .dead).cells.getD 0 .top).rows) (((s.mem.getD 0 .dead).cells.getD 1 .top).rows) (((s.mem.getD 0 .dead).cells.getD 2 .top).toI) (((s.mem.getD 0 .dead).cells.getD 3 .top).toI) (((s.mem.getD 1 .dead).cells.getD 0 .top).toI) (((s.mem.getD 1 .dead).cells.getD 1 .top).toI) (((s.mem.getD 1 .dead).cells.getD 2 .top).toI) (((s.mem.getD 2 .dead).cells.getD 0 .top).toI) (((s.mem.getD 2 .dead).cells.getD 1 .top).toI)⟩
def xsJ37a32050 : Ex → St → Option (XSh OJ37a32050) := fun e st => match e with
  | .normal => some xJ37a32050wnx
  | _ => none
def exJ37a32050 (o : OJ37a32050) : Ex := match o with | .nx x10 b0c0 b0c1 b0c2 b0c3 b1c0 b1c1 b1c2 b2c0 b2c1 => .normal
def stJ37a32050 (o : OJ37a32050) : St := match o with | .nx x10 b0c0 b0c1 b0c2 b0c3 b1c0 b1c1 b1c2 b2c0 b2c1 => ⟨[(10, .int .i64 x10)], [.var [.any, .any, .int .i64, .int .i64] [.list 38 b0c0, .list 3 b0c1, .int .i64 b0c2, .int .i64 b0c3], .var [.int .i64, .int .i64, .int .i64] [.int .i64 b1c0, .int .i64 b1c1, .int .i64 b1c2], .var [.int .i64, .int .i64] [.int .i64 b2c0, .int .i64 b2c1]], [], .unk⟩
def elJ37a32050 {R : Type} (o : OJ37a32050) (k : Ex → St → Option R) : Option R := match o with | .nx x10 b0c0 b0c1 b0c2 b0c3 b1c0 b1c1 b1c2 b2c0 b2c1 => k .normal ⟨[(10, .int .i64 x10)], [.var [.any, .any, .int .i64, .int .i64] [.list 38 b0c0, .list 3 b0c1, .int .i64 b0c2, .int .i64 b0c3], .var [.int .i64, .int .i64, .int .i64] [.int .i64 b1c0, .int .i64 b1c1, .int .i64 b1c2], .var [.int .i64, .int .i64] [.int .i64 b2c0, .int .i64 b2c1]], [], .unk⟩
theorem heJ37a32050 {R : Type} (o : OJ37a32050) (k : Ex → St → Option R) : elJ37a32050 o k = k (exJ37a32050 o) (stJ37a32050 o) := by cases o <;> rfl
theorem hxJ37a32050 : ∀ e st x, xsJ37a32050 e st = some x → outOk x e exJ37a32050 stJ37a32050 := by
  intro e st x h
  unfold xsJ37a32050 at h
  repeat' split at h
  all_goals first
    | (injection h with h; subst h; exact fun lk M => ⟨rfl, rfl⟩)
    | cases h
noncomputable def T37uc32050 (N : Nat) (R : Type) : LTab R := mkTab ⟨59, 9007194959774720⟩ (csF37 N R) (noY) [] [] []
theorem okT37uc32050 (N : Nat) (R : Type) : (T37uc32050 N R).Ok CX code37 := mkTab_ok (hcsF37 N R) (noY_ok) (trivial) (trivial) (trivial)
noncomputable def bdJ37a32050 : Code := (codeAt code37 [false, true, false, false, true, true, false, false, true, false, true, true, true, true]).getD .skip
theorem hsJ37a32050 (N : Nat) : ∀ (lk : Nat → AV) (M : List Blk), LFJ37a32050 N (canS sgJ37a32050 lk M) = evk CX (T37uc32050 N OJ37a32050) bdJ37a32050 32050 (canS sgJ37a32050 lk M) (kontX CX 3 xsJ37a32050) := by intro lk M; kernel_rfl
inductive OL37a250 where
  | x0 (x10 : Int) (b0c0 : List Row) (b0c1 : List Row) (b0c2 : Int) (b0c3 : Int) (b1c0 : Int) (b1c1 : Int) (b1c2 : Int)
def L37a250 (N : Nat) : Nat → Int → Int → List Row → Int → Int → List Row → List Row → Int → Int → Int → Int → Int → Option OL37a250
  | 0 => fun _ _ _ _ _ _ _ _ _ _ _ _ => none
  | n + 1 => fun x10 x11 x26 x27 x28 b0c0 b0c1 b0c2 b0c3 b1c0 b1c1 b1c2 =>
    match decide (x28 < x27) with
    | true =>
      tst (decide ((0 : Int) ≤ x28) && decide (x28 < ((x26.length : Int)))) <|
      match J37a32050 N x10 x11 b0c0 b0c1 b0c2 b0c3 b1c0 b1c1 b1c2 ((((x26.getD x28.toNat [])).getD 0 .top).toI) ((((x26.getD x28.toNat [])).getD 1 .top).toI) with
      | none => none
      | some (.nx x10v1 b0c0v1 b0c1v1 b0c2v1 b0c3v1 b1c0v1 b1c1v1 b1c2v1 b2c0v1 b2c1v1) =>
        L37a250 N n x10v1 (IntKind.wrap .i64 (x11 + b2c1v1)) x26 x27 (IntKind.wrap .i64 (x28 + (1 : Int))) b0c0v1 b0c1v1 b0c2v1 b0c3v1 b1c0v1 b1c1v1 b1c2v1
    | false =>
      some (.x0 x10 b0c0 b0c1 b0c2 b0c3 b1c0 b1c1 b1c2)
def LFL37a250 (N : Nat) (n : Nat) (s : St) : Option OL37a250 := L37a250 N n ((Eng.look s.env 10).toI) ((Eng.look s.env 11).toI) ((Eng.look s.env 26).rows) ((Eng.look s.env 27).toI) ((Eng.look s.env 28).toI) (((s.mem.getD 0 .dead).cells.getD 0 .top).rows) (((s.mem.getD 0 .dead).cells.getD 1 .top).rows) (((s.mem.getD 0 .dead).cells.getD 2 .top).toI) (((s.mem.getD 0 .dead).cells.getD 3 .top).toI) (((s.mem.getD 1 .dead).cells.getD 0 .top).toI) (((s.mem.getD 1 .dead).cells.getD 1 .top).toI) (((s.mem.getD 1 .dead).cells.getD 2 .top).toI)
def sgL37a250 : LSh := ⟨[(4, .one (.ptr 0 0 0)), (6, .one (.ptr 1 0 0)), (10, .one (.cell (.int .i64))), (11, .one (.cell (.int .i64))), (26, .one (.cell (.slice 55))), (27, .one (.cell (.int .i64))), (28, .one (.cell (.int .i64)))], [.var [.any, .any, .int .i64, .int .i64] [.cell (.slice 38), .cell (.slice 3), .cell (.int .i64), .cell (.int .i64)], .var [.int .i64, .int .i64, .int .i64] [.cell (.int .i64), .cell (.int .i64), .cell (.int .i64)]]⟩
def ceL37a250 : List Cv := []
def seL37a250 : St → List Nat := fun st => [(Eng.look st.env 4).id, (Eng.look st.env 6).id]
def xL37a250wx0 : XSh OL37a250 := ⟨[], ⟨[(10, .one (.cell (.int .i64)))], [.var [.any, .any, .int .i64, .int .i64] [.cell (.slice 38), .cell (.slice 3), .cell (.int .i64), .cell (.int .i64)], .var [.int .i64, .int .i64, .int .i64] [.cell (.int .i64), .cell (.int .i64), .cell (.int .i64)]]⟩, fun st => [0, 1], fun s => .x0 ((Eng.look s.env 10).toI) (((s.mem.getD 0 .dead).cells.getD 0 .top).rows) (((s.mem.getD 0 .dead).cells.getD 1 .top).rows) (((s.mem.getD 0 .dead).cells.getD 2 .top).toI) (((s.mem.getD 0 .dead).cells.getD 3 .top).toI) (((s.mem.getD 1 .dead).cells.getD 0 .top).toI) (((s.mem.getD 1 .dead).cells.getD 1 .top).toI) (((s.mem.getD 1 .dead).cells.getD 2 .top).toI)⟩
def xsL37a250 : Ex → St → Option (XSh OL37a250) := fun e st => match e with
  | .exit 0 => some xL37a250wx0
  | _ => none
def exL37a250 (o : OL37a250) : Ex := match o with | .x0 x10 b0c0 b0c1 b0c2 b0c3 b1c0 b1c1 b1c2 => (.exit 0)
def stL37a250 (o : OL37a250) : St := match o with | .x0 x10 b0c0 b0c1 b0c2 b0c3 b1c0 b1c1 b1c2 => ⟨[(10, .int .i64 x10)], [.var [.any, .any, .int .i64, .int .i64] [.list 38 b0c0, .list 3 b0c1, .int .i64 b0c2, .int .i64 b0c3], .var [.int .i64, .int .i64, .int .i64] [.int .i64 b1c0, .int .i64 b1c1, .int .i64 b1c2]], [], .unk⟩
def elL37a250 {R : Type} (o : OL37a250) (k : Ex → St → Option R) : Option R := match o with | .x0 x10 b0c0 b0c1 b0c2 b0c3 b1c0 b1c1 b1c2 => k (.exit 0) ⟨[(10, .int .i64 x10)], [.var [.any, .any, .int .i64, .int .i64] [.list 38 b0c0, .list 3 b0c1, .int .i64 b0c2, .int .i64 b0c3], .var [.int .i64, .int .i64, .int .i64] [.int .i64 b1c0, .int .i64 b1c1, .int .i64 b1c2]], [], .unk⟩
theorem heL37a250 {R : Type} (o : OL37a250) (k : Ex → St → Option R) : elL37a250 o k = k (exL37a250 o) (stL37a250 o) := by cases o <;> rfl
theorem hxL37a250 : ∀ e st x, xsL37a250 e st = some x → outOk x e exL37a250 stL37a250 := by
  intro e st x h
  unfold xsL37a250 at h
  repeat' split at h
  all_goals first
    | (injection h with h; subst h; exact fun lk M => ⟨rfl, rfl⟩)
    | cases h
noncomputable def T37ul250 (N : Nat) (R : Type) : LTab R := mkTab ⟨59, 288230375883287552⟩ (csF37 N R) (noY) [] [] [(32050, fun st k => callLoop CX 3 9007194959774720 ceJ37a32050 sgJ37a32050 seJ37a32050 ⟨59, 288230375883287552⟩ (LFJ37a32050 N) elJ37a32050 st k)]
theorem okT37ul250 (N : Nat) (R : Type) : (T37ul250 N R).Ok CX code37 := mkTab_ok (hcsF37 N R) (noY_ok) (trivial) (trivial) (⟨cut_ok hX (path := [false, true, false, false, true, true, false, false, true, false, true, true, true, true]) (by kernel_rfl) (by rfl) (okT37uc32050 N OJ37a32050) (hsJ37a32050 N) hxJ37a32050 rfl heJ37a32050, trivial⟩)
noncomputable def bdL37a250 : Code := match codeAt code37 [false, true, false, true, true, true, true] with | some (.loop c) => c | _ => .skip
theorem hsL37a250 (N : Nat) : ∀ (n : Nat) (lk : Nat → AV) (M : List Blk), LFL37a250 N (n + 1) (canS sgL37a250 lk M) = evk CX (T37ul250 N OL37a250) bdL37a250 (2 * 250) (canS sgL37a250 lk M) (kont CX 2 [] sgL37a250 (fun st => [0, 1]) xsL37a250 (LFL37a250 N n)) := by intro n lk M; kernel_rfl
noncomputable def T37ur1 (N : Nat) (R : Type) : LTab R := mkTab ⟨59, 576460752303423487⟩ (csF37 N R) (noY) [(250, fun st k => callLoop CX 2 288230375883287552 ceL37a250 sgL37a250 seL37a250 ⟨59, 576460752303423487⟩ (LFL37a250 N N) elL37a250 st k)] [] []
theorem okT37ur1 (N : Nat) (R : Type) : (T37ur1 N R).Ok CX code37 := mkTab_ok (hcsF37 N R) (noY_ok) (⟨loop_ok hX (path := [false, true, false, true, true, true, true]) (by kernel_rfl) (by rfl) (okT37ul250 N OL37a250) (fun _ _ => rfl) (hsL37a250 N) hxL37a250 rfl heL37a250, trivial⟩) (trivial) (trivial)
def rsF37 : List ResultVar := [.tmp 8]
def F37 : Nat → TF37
  | 0 => fun _ _ _ _ _ _ _ _ _ => none
  | N + 1 => fun x0c0 x0c1 x0c2 x0c3 x1 x2c0 x2c1 x2c2 x3 =>
    tst (decide ((0 : Int) ≤ x1) && decide (x1 < ((x0c0.length : Int)))) <|
    tst (!(x2c2 == 0)) <|
    match L37a250 N N ((((x0c0.getD x1.toNat [])).getD 1 .top).toI) (Int.tmod x3 x2c2) ((((x0c0.getD x1.toNat [])).getD 6 .top).rows) ((((((x0c0.getD x1.toNat [])).getD 6 .top).rows).length : Int)) 0 x0c0 x0c1 x0c2 x0c3 x2c0 x2c1 x2c2 with
    | none => none
    | some (.x0 x10v2 b0c0v2 b0c1v2 b0c2v2 b0c3v2 b1c0v2 b1c1v2 b1c2v2) =>
      some (.r x10v2)
def xRF37 : XSh R37 := ⟨[], ⟨[(0, .one (.cell (.int .i64)))], []⟩, fun _ => [], fun s => .r ((Eng.look s.env 0).toI)⟩
theorem fsF37 : ∀ (N : Nat) (lk : Nat → AV) (M : List Blk), FFF37 (F37 (N + 1)) (canS sgF37 lk M) = evfn CX (T37ur1 N R37) code37 rsF37 (argsE 4 (canS sgF37 lk M).env) (canS sgF37 lk M).mem (goR CX 0 (fun _ => some xRF37)) := by intro N lk M; kernel_rfl
theorem soundF37 : ∀ N, RecOkF37 (F37 N)
  | 0, lk, M, o, h => by cases h
  | N + 1, lk, M, o, h => fn_sound hX (okT37ur1 N R37) Try.func37 hb37 rfl en37 (by kernel_rfl) (ys := fun _ => some xRF37) (fun st y h => by injection h with h; subst h; exact fun lk M => ⟨rfl, rfl⟩) ((fsF37 N lk M).symm.trans h)
def cvce37n0 : List Cv := []
def selce37n0 : St → List Nat := fun _ => []
noncomputable def ce37n0 (Fx : TF37) (R : Type) (test : List AV → List Blk → Bool) : CE R := ⟨37, test, fun args M => some (selce37n0 ⟨argEnv 0 args, M, [], .unk⟩), fun args M k => tst (Nat.beq args.length 4) (callFn CX 0 cvce37n0 sgF37 selce37n0 (FFF37 Fx) elF37 args M k)⟩
theorem okce37n0 (Fx : TF37) (h : RecOkF37 Fx) (R : Type) (test : List AV → List Blk → Bool) : CeOk CX (ce37n0 Fx R test) := ce_ok hX (fun o k => by cases o; rfl) h en37 (fun args M ids h => by injection h with h; exact ⟨rfl, h.symm⟩)
end
end Go.Proofs.Ytbgdiljnmifakaa

namespace Go.Proofs.Ytbgdiljnmifakaa
open Go Go.Eng
set_option maxRecDepth 100000
noncomputable section
inductive R16 where
  | r (x0 : Int)
abbrev TF16 := List Row → List Row → Int → Int → List Row → List Row → Int → Option R16
def sgF16 : LSh := ⟨[(0, .agg [.cell (.slice 38), .cell (.slice 3), .cell (.int .i64), .cell (.int .i64)]), (1, .one (.cell (.slice 40))), (2, .one (.cell (.slice 42))), (3, .one (.cell (.int .i64)))], []⟩
def FFF16 (Fx : TF16) (s : St) : Option R16 := Fx (((Eng.look s.env 0).cells.getD 0 .top).rows) (((Eng.look s.env 0).cells.getD 1 .top).rows) (((Eng.look s.env 0).cells.getD 2 .top).toI) (((Eng.look s.env 0).cells.getD 3 .top).toI) ((Eng.look s.env 1).rows) ((Eng.look s.env 2).rows) ((Eng.look s.env 3).toI)
def valF16 (o : R16) : AV := match o with | .r x0 => .int .i64 x0
def memF16 (o : R16) : List Blk := match o with | .r x0 => []
def elF16 {R : Type} (o : R16) (k : AV → List Blk → Option R) : Option R := match o with | .r x0 => k (.int .i64 x0) []
def RecOkF16 (Fx : TF16) : Prop := ∀ lk M o, FFF16 Fx (canS sgF16 lk M) = some o → FCalls CX 16 0 (argsE 4 (canS sgF16 lk M).env) (canS sgF16 lk M).mem (valF16 o) (memF16 o)
noncomputable def csF16 (N : Nat) (R : Type) : List (CE R) := [ce37n0 (F37 N) R (fun _ _ => true)]
theorem hcsF16 (N : Nat) (R : Type) : AllE (CeOk CX) (csF16 N R) := ⟨okce37n0 (F37 N) (soundF37 N) R (fun _ _ => true), trivial⟩
inductive OJ16a29902 where
  | nx (x74 : Bool)
def J16a29902 (N : Nat) : List Row → Int → Int → Int → Int → Int → Option OJ16a29902 := fun x1 x3 x9 x10 x11 x12 =>
    match decide (x10 < x12) with
    | true =>
      some (.nx true)
    | false =>
      match x12 == x10 with
      | true =>
        match x11 == x3 with
        | true =>
          some (.nx true)
        | false =>
          match x9 != x3 with
          | true =>
            tst (decide ((0 : Int) ≤ x11) && decide (x11 < ((x1.length : Int)))) <|
            tst (decide ((0 : Int) < ((((((x1.getD x11.toNat [])).getD 0 .top).rows).length : Int)))) <|
            tst (decide ((0 : Int) ≤ x9) && decide (x9 < ((x1.length : Int)))) <|
            tst (decide ((0 : Int) < ((((((x1.getD x9.toNat [])).getD 0 .top).rows).length : Int)))) <|
            some (.nx (decide (((((((((x1.getD x11.toNat [])).getD 0 .top).rows).getD 0 [])).getD 0 .top).toI) < ((((((((x1.getD x9.toNat [])).getD 0 .top).rows).getD 0 [])).getD 0 .top).toI))))
          | false =>
            some (.nx false)
      | false =>
        some (.nx false)
def LFJ16a29902 (N : Nat) (s : St) : Option OJ16a29902 := J16a29902 N ((Eng.look s.env 1).rows) ((Eng.look s.env 3).toI) ((Eng.look s.env 9).toI) ((Eng.look s.env 10).toI) ((Eng.look s.env 11).toI) ((Eng.look s.env 12).toI)
def sgJ16a29902 : LSh := ⟨[(1, .one (.cell (.slice 40))), (3, .one (.cell (.int .i64))), (9, .one (.cell (.int .i64))), (10, .one (.cell (.int .i64))), (11, .one (.cell (.int .i64))), (12, .one (.cell (.int .i64)))], []⟩
def ceJ16a29902 : List Cv := []
def seJ16a29902 : St → List Nat := fun _ => []
def xJ16a29902wnx : XSh OJ16a29902 := ⟨[], ⟨[(74, .one (.cell (.bool)))], []⟩, fun _ => [], fun s => .nx ((Eng.look s.env 74).toB)⟩
def xsJ16a29902 : Ex → St → Option (XSh OJ16a29902) := fun e st => match e with
  | .normal => some xJ16a29902wnx
  | _ => none
def exJ16a29902 (o : OJ16a29902) : Ex := match o with | .nx x74 => .normal
def stJ16a29902 (o : OJ16a29902) : St := match o with | .nx x74 => ⟨[(74, .bool x74)], [], [], .unk⟩
def elJ16a29902 {R : Type} (o : OJ16a29902) (k : Ex → St → Option R) : Option R := match o with | .nx x74 => k .normal ⟨[(74, .bool x74)], [], [], .unk⟩
theorem heJ16a29902 {R : Type} (o : OJ16a29902) (k : Ex → St → Option R) : elJ16a29902 o k = k (exJ16a29902 o) (stJ16a29902 o) := by cases o <;> rfl
theorem hxJ16a29902 : ∀ e st x, xsJ16a29902 e st = some x → outOk x e exJ16a29902 stJ16a29902 := by
  intro e st x h
  unfold xsJ16a29902 at h
  repeat' split at h
  all_goals first
    | (injection h with h; subst h; exact fun lk M => ⟨rfl, rfl⟩)
    | cases h
noncomputable def T16uc29902 (N : Nat) (R : Type) : LTab R := mkTab ⟨79, 37778931861857650081792⟩ (csF16 N R) (noY) [] [] []
theorem okT16uc29902 (N : Nat) (R : Type) : (T16uc29902 N R).Ok CX code16 := mkTab_ok (hcsF16 N R) (noY_ok) (trivial) (trivial) (trivial)
noncomputable def bdJ16a29902 : Code := (codeAt code16 [false, true, true, true, false, false, true, true, false, false, true, false, true, true]).getD .skip
theorem hsJ16a29902 (N : Nat) : ∀ (lk : Nat → AV) (M : List Blk), LFJ16a29902 N (canS sgJ16a29902 lk M) = evk CX (T16uc29902 N OJ16a29902) bdJ16a29902 29902 (canS sgJ16a29902 lk M) (kontX CX 0 xsJ16a29902) := by intro lk M; kernel_rfl
inductive OL16a58 where
  | x0 (x9 : Int) (b0c0 : List Row) (b0c1 : List Row) (b0c2 : Int) (b0c3 : Int)
def L16a58 (N : Nat) : Nat → List Row → List Row → Int → Int → Int → Int → Int → List Row → List Row → Int → Int → Option OL16a58
  | 0 => fun _ _ _ _ _ _ _ _ _ _ _ => none
  | n + 1 => fun x1 x2 x3 x9 x10 x15 x16 b0c0 b0c1 b0c2 b0c3 =>
    match decide (x16 < x15) with
    | true =>
      tst (decide ((0 : Int) ≤ x16) && decide (x16 < ((x1.length : Int)))) <|
      match ((((((x1.getD x16.toNat [])).getD 0 .top).rows).length : Int)) == (0 : Int) with
      | true =>
        L16a58 N n x1 x2 x3 x9 x10 x15 (IntKind.wrap .i64 (x16 + (1 : Int))) b0c0 b0c1 b0c2 b0c3
      | false =>
        tst (decide ((0 : Int) ≤ x16) && decide (x16 < ((x1.length : Int)))) <|
        tst (decide ((0 : Int) < ((((((x1.getD x16.toNat [])).getD 0 .top).rows).length : Int)))) <|
        tst (decide ((0 : Int) ≤ x16) && decide (x16 < ((x2.length : Int)))) <|
        match F37 N b0c0 b0c1 b0c2 b0c3 x16 ((((((((x1.getD x16.toNat [])).getD 0 .top).rows).getD 0 [])).getD 0 .top).toI) ((((((((x1.getD x16.toNat [])).getD 0 .top).rows).getD 0 [])).getD 1 .top).toI) ((((((((x1.getD x16.toNat [])).getD 0 .top).rows).getD 0 [])).getD 2 .top).toI) (IntKind.wrap .i64 ((((x2.getD x16.toNat [])).getD 1 .top).toI)) with
        | none => none
        | some (.r rx0v1) =>
          match J16a29902 N x1 x3 x9 x10 x16 rx0v1 with
          | none => none
          | some (.nx x74v2) =>
            match x74v2 with
            | true =>
              L16a58 N n x1 x2 x3 x16 rx0v1 x15 (IntKind.wrap .i64 (x16 + (1 : Int))) b0c0 b0c1 b0c2 b0c3
            | false =>
              L16a58 N n x1 x2 x3 x9 x10 x15 (IntKind.wrap .i64 (x16 + (1 : Int))) b0c0 b0c1 b0c2 b0c3
    | false =>
      some (.x0 x9 b0c0 b0c1 b0c2 b0c3)
def LFL16a58 (N : Nat) (n : Nat) (s : St) : Option OL16a58 := L16a58 N n ((Eng.look s.env 1).rows) ((Eng.look s.env 2).rows) ((Eng.look s.env 3).toI) ((Eng.look s.env 9).toI) ((Eng.look s.env 10).toI) ((Eng.look s.env 15).toI) ((Eng.look s.env 16).toI) (((s.mem.getD 0 .dead).cells.getD 0 .top).rows) (((s.mem.getD 0 .dead).cells.getD 1 .top).rows) (((s.mem.getD 0 .dead).cells.getD 2 .top).toI) (((s.mem.getD 0 .dead).cells.getD 3 .top).toI)
def sgL16a58 : LSh := ⟨[(1, .one (.cell (.slice 40))), (2, .one (.cell (.slice 42))), (3, .one (.cell (.int .i64))), (4, .one (.ptr 0 0 0)), (9, .one (.cell (.int .i64))), (10, .one (.cell (.int .i64))), (15, .one (.cell (.int .i64))), (16, .one (.cell (.int .i64)))], [.var [.any, .any, .int .i64, .int .i64] [.cell (.slice 38), .cell (.slice 3), .cell (.int .i64), .cell (.int .i64)]]⟩
def ceL16a58 : List Cv := []
def seL16a58 : St → List Nat := fun st => [(Eng.look st.env 4).id]
def xL16a58wx0 : XSh OL16a58 := ⟨[], ⟨[(9, .one (.cell (.int .i64)))], [.var [.any, .any, .int .i64, .int .i64] [.cell (.slice 38), .cell (.slice 3), .cell (.int .i64), .cell (.int .i64)]]⟩, fun st => [0], fun s => .x0 ((Eng.look s.env 9).toI) (((s.mem.getD 0 .dead).cells.getD 0 .top).rows) (((s.mem.getD 0 .dead).cells.getD 1 .top).rows) (((s.mem.getD 0 .dead).cells.getD 2 .top).toI) (((s.mem.getD 0 .dead).cells.getD 3 .top).toI)⟩
def xsL16a58 : Ex → St → Option (XSh OL16a58) := fun e st => match e with
  | .exit 0 => some xL16a58wx0
  | _ => none
def exL16a58 (o : OL16a58) : Ex := match o with | .x0 x9 b0c0 b0c1 b0c2 b0c3 => (.exit 0)
def stL16a58 (o : OL16a58) : St := match o with | .x0 x9 b0c0 b0c1 b0c2 b0c3 => ⟨[(9, .int .i64 x9)], [.var [.any, .any, .int .i64, .int .i64] [.list 38 b0c0, .list 3 b0c1, .int .i64 b0c2, .int .i64 b0c3]], [], .unk⟩
def elL16a58 {R : Type} (o : OL16a58) (k : Ex → St → Option R) : Option R := match o with | .x0 x9 b0c0 b0c1 b0c2 b0c3 => k (.exit 0) ⟨[(9, .int .i64 x9)], [.var [.any, .any, .int .i64, .int .i64] [.list 38 b0c0, .list 3 b0c1, .int .i64 b0c2, .int .i64 b0c3]], [], .unk⟩
theorem heL16a58 {R : Type} (o : OL16a58) (k : Ex → St → Option R) : elL16a58 o k = k (exL16a58 o) (stL16a58 o) := by cases o <;> rfl
theorem hxL16a58 : ∀ e st x, xsL16a58 e st = some x → outOk x e exL16a58 stL16a58 := by
  intro e st x h
  unfold xsL16a58 at h
  repeat' split at h
  all_goals first
    | (injection h with h; subst h; exact fun lk M => ⟨rfl, rfl⟩)
    | cases h
noncomputable def T16ul58 (N : Nat) (R : Type) : LTab R := mkTab ⟨79, 302231454903657293618688⟩ (csF16 N R) (noY) [] [] [(29902, fun st k => callLoop CX 0 37778931861857650081792 ceJ16a29902 sgJ16a29902 seJ16a29902 ⟨79, 302231454903657293618688⟩ (LFJ16a29902 N) elJ16a29902 st k)]
theorem okT16ul58 (N : Nat) (R : Type) : (T16ul58 N R).Ok CX code16 := mkTab_ok (hcsF16 N R) (noY_ok) (trivial) (trivial) (⟨cut_ok hX (path := [false, true, true, true, false, false, true, true, false, false, true, false, true, true]) (by kernel_rfl) (by rfl) (okT16uc29902 N OJ16a29902) (hsJ16a29902 N) hxJ16a29902 rfl heJ16a29902, trivial⟩)
noncomputable def bdL16a58 : Code := match codeAt code16 [false, true, false, true, true] with | some (.loop c) => c | _ => .skip
theorem hsL16a58 (N : Nat) : ∀ (n : Nat) (lk : Nat → AV) (M : List Blk), LFL16a58 N (n + 1) (canS sgL16a58 lk M) = evk CX (T16ul58 N OL16a58) bdL16a58 (2 * 58) (canS sgL16a58 lk M) (kont CX 1 [] sgL16a58 (fun st => [0]) xsL16a58 (LFL16a58 N n)) := by intro n lk M; kernel_rfl
noncomputable def T16ur1 (N : Nat) (R : Type) : LTab R := mkTab ⟨79, 604462909807314587353087⟩ (csF16 N R) (noY) [(58, fun st k => callLoop CX 1 302231454903657293618688 ceL16a58 sgL16a58 seL16a58 ⟨79, 604462909807314587353087⟩ (LFL16a58 N N) elL16a58 st k)] [] []
theorem okT16ur1 (N : Nat) (R : Type) : (T16ur1 N R).Ok CX code16 := mkTab_ok (hcsF16 N R) (noY_ok) (⟨loop_ok hX (path := [false, true, false, true, true]) (by kernel_rfl) (by rfl) (okT16ul58 N OL16a58) (fun _ _ => rfl) (hsL16a58 N) hxL16a58 rfl heL16a58, trivial⟩) (trivial) (trivial)
def rsF16 : List ResultVar := [.tmp 8]
def F16 : Nat → TF16
  | 0 => fun _ _ _ _ _ _ _ => none
  | N + 1 => fun x0c0 x0c1 x0c2 x0c3 x1 x2 x3 =>
    match L16a58 N N x1 x2 x3 ((-1)) ((-1)) ((x0c0.length : Int)) 0 x0c0 x0c1 x0c2 x0c3 with
    | none => none
    | some (.x0 x9v3 b0c0v3 b0c1v3 b0c2v3 b0c3v3) =>
      some (.r x9v3)
def xRF16 : XSh R16 := ⟨[], ⟨[(0, .one (.cell (.int .i64)))], []⟩, fun _ => [], fun s => .r ((Eng.look s.env 0).toI)⟩
theorem fsF16 : ∀ (N : Nat) (lk : Nat → AV) (M : List Blk), FFF16 (F16 (N + 1)) (canS sgF16 lk M) = evfn CX (T16ur1 N R16) code16 rsF16 (argsE 4 (canS sgF16 lk M).env) (canS sgF16 lk M).mem (goR CX 0 (fun _ => some xRF16)) := by intro N lk M; kernel_rfl
theorem soundF16 : ∀ N, RecOkF16 (F16 N)
  | 0, lk, M, o, h => by cases h
  | N + 1, lk, M, o, h => fn_sound hX (okT16ur1 N R16) Try.func16 hb16 rfl en16 (by kernel_rfl) (ys := fun _ => some xRF16) (fun st y h => by injection h with h; subst h; exact fun lk M => ⟨rfl, rfl⟩) ((fsF16 N lk M).symm.trans h)
def cvce16n0 : List Cv := []
def selce16n0 : St → List Nat := fun _ => []
noncomputable def ce16n0 (Fx : TF16) (R : Type) (test : List AV → List Blk → Bool) : CE R := ⟨16, test, fun args M => some (selce16n0 ⟨argEnv 0 args, M, [], .unk⟩), fun args M k => tst (Nat.beq args.length 4) (callFn CX 0 cvce16n0 sgF16 selce16n0 (FFF16 Fx) elF16 args M k)⟩
theorem okce16n0 (Fx : TF16) (h : RecOkF16 Fx) (R : Type) (test : List AV → List Blk → Bool) : CeOk CX (ce16n0 Fx R test) := ce_ok hX (fun o k => by cases o; rfl) h en16 (fun args M ids h => by injection h with h; exact ⟨rfl, h.symm⟩)
noncomputable def ce16n0l (Fx : TF16) (R : Type) (test : List AV → List Blk → Bool) : CE R := lendCe (ce16n0 Fx R test)
theorem okce16n0l (Fx : TF16) (h : RecOkF16 Fx) (R : Type) (test : List AV → List Blk → Bool) : CeOk CX (ce16n0l Fx R test) := lendCe_ok hX (okce16n0 Fx h R test)
end
end Go.Proofs.Ytbgdiljnmifakaa
