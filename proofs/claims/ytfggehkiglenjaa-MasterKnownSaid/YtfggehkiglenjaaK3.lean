/-
  The functions of the code as typed functions, and that the code runs so. Printed by gen2.py.
  The functions of the code as typed functions, and that the code runs so. Printed by gen2.py.
  The functions of the code as typed functions, and that the code runs so. Printed by gen2.py.
  The functions of the code as typed functions, and that the code runs so. Printed by gen2.py.
  The functions of the code as typed functions, and that the code runs so. Printed by gen2.py.
  The functions of the code as typed functions, and that the code runs so. Printed by gen2.py.
  The functions of the code as typed functions, and that the code runs so. Printed by gen2.py.
  The functions of the code as typed functions, and that the code runs so. Printed by gen2.py.
  The functions of the code as typed functions, and that the code runs so. Printed by gen2.py.
  The functions of the code as typed functions, and that the code runs so. Printed by gen2.py.
  The functions of the code as typed functions, and that the code runs so. Printed by gen2.py.
  The functions of the code as typed functions, and that the code runs so. Printed by gen2.py.
  The functions of the code as typed functions, and that the code runs so. Printed by gen2.py.
  The functions of the code as typed functions, and that the code runs so. Printed by gen2.py.
  What is proved: called with no argument, ceilinglaw33.MasterKnown returns true, whatever the memory. No condition.
-/
import Derived.Test.YtfggehkiglenjaaK2
import Derived.KernelRfl
import Derived.Test.YtfggehkiglenjaaRows
import Derived.WalkKit
import Derived.ProofKit
import Derived.OpenShut
set_option linter.all false
set_option linter.deprecated false
namespace Go.Proofs.Ytfggehkiglenjaa
open Go Go.Eng
set_option maxRecDepth 100000

/-! ### F22: ceiling/master.quiet -/
inductive R22 where
  | r (x0 : Bool)
abbrev TF22 := List Row → Int → Option R22
def sgF22 : LSh := ⟨[(0, .one (.cell (.slice 30))), (1, .one (.cell (.int .i64)))], []⟩
def FFF22 (Fx : TF22) (s : St) : Option R22 := Fx ((Eng.look s.env 0).rows) ((Eng.look s.env 1).toI)
def valF22 (o : R22) : AV := match o with | .r x0 => .bool x0
def memF22 (o : R22) : List Blk := match o with | .r x0 => []
def elF22 {R : Type} (o : R22) (k : AV → List Blk → Option R) : Option R := match o with | .r x0 => k (.bool x0) []
def RecOkF22 (Fx : TF22) : Prop := ∀ lk M o, FFF22 Fx (canS sgF22 lk M) = some o → FCalls CX 22 0 (argsE 2 (canS sgF22 lk M).env) (canS sgF22 lk M).mem (valF22 o) (memF22 o)
def cvce_22_0 : List Cv := []
def selce_22_0 : St → List Nat := fun _ => []
noncomputable def ce_22_0 (Fx : TF22) (R : Type) (test : List AV → List Blk → Bool) : CE R := ⟨22, test, fun args M => some (selce_22_0 ⟨argEnv 0 args, M, [], .unk⟩), fun args M k => tst (Nat.beq args.length 2) (callFn CX 0 cvce_22_0 sgF22 selce_22_0 (FFF22 Fx) elF22 args M k)⟩
theorem okce_22_0 (Fx : TF22) (h : RecOkF22 Fx) (R : Type) (test : List AV → List Blk → Bool) : CeOk CX (ce_22_0 Fx R test) := ce_ok hX (fun o k => by cases o; rfl) h en22 (fun args M ids h => by injection h with h; exact ⟨rfl, h.symm⟩)
noncomputable def csF22 (rec : TF22) (N : Nat) (R : Type) : List (CE R) := [ce_22_0 rec R (fun _ _ => true), ce_23_0 (F23 N) R (fun _ _ => true)]
theorem hcsF22 (rec : TF22) (hrec : RecOkF22 rec) (N : Nat) (R : Type) : AllE (CeOk CX) (csF22 rec N R) := ⟨okce_22_0 rec hrec R (fun _ _ => true), okce_23_0 (F23 N) (soundF23 N) R (fun _ _ => true), trivial⟩
noncomputable def T22_s122 (rec : TF22) (N : Nat) (R : Type) : LTab R := mkTab ⟨39, 549755813887⟩ (csF22 rec N R) (noY) [] [] []
theorem okT22_s122 (rec : TF22) (hrec : RecOkF22 rec) (N : Nat) (R : Type) : (T22_s122 rec N R).Ok CX code22 := mkTab_ok (hcsF22 rec hrec N R) (noY_ok) (trivial) (trivial) (trivial)
def rs22_i122_f31 : List ResultVar := []
inductive OL22_i122_f31_6 where
  | ret (b1_0 : Int) (b2_0 : Int) (b3_0 : List Row) (b4_0 : Bool)
  | x0 (b1_0 : Int) (b2_0 : Int) (b3_0 : List Row) (b4_0 : Bool)
def L22_i122_f31_6 (rec : TF22) (N : Nat) : Nat → List Row → Int → Int → Int → Int → List Row → Bool → Option OL22_i122_f31_6
  | 0 => fun _ _ _ _ _ _ _ => none
  | n + 1 => fun x7 x8 x9 b1_0 b2_0 b3_0 b4_0 =>
  match decide (x9 < x8) with
  | true =>
    tst (decide ((0 : Int) ≤ x9) && decide (x9 < ((x7.length : Int)))) <|
    match decide ((0 : Int) < x9) with
    | true =>
      match ((((x7.getD x9.toNat [])).getD 5 .top).toI) == b1_0 with
      | true =>
        match decide (b2_0 < (0 : Int)) with
        | true =>
          tst (decide ((0 : Int) ≤ x9) && decide (x9 < ((b3_0.length : Int)))) <|
          match (((b3_0.getD x9.toNat [])).getD 0 .top).toB with
          | true =>
            match rec b3_0 x9 with
            | none => none
            | some (.r rx0_3) =>
              match !rx0_3 with
              | true =>
                some (.ret b1_0 b2_0 b3_0 false)
              | false =>
                L22_i122_f31_6 rec N n x7 x8 (IntKind.wrap .i64 (x9 + (1 : Int))) b1_0 b2_0 b3_0 b4_0
          | false =>
            L22_i122_f31_6 rec N n x7 x8 (IntKind.wrap .i64 (x9 + (1 : Int))) b1_0 b2_0 b3_0 b4_0
        | false =>
          match ((((x7.getD x9.toNat [])).getD 6 .top).toI) == b2_0 with
          | true =>
            tst (decide ((0 : Int) ≤ x9) && decide (x9 < ((b3_0.length : Int)))) <|
            match (((b3_0.getD x9.toNat [])).getD 0 .top).toB with
            | true =>
              match rec b3_0 x9 with
              | none => none
              | some (.r rx0_4) =>
                match !rx0_4 with
                | true =>
                  some (.ret b1_0 b2_0 b3_0 false)
                | false =>
                  L22_i122_f31_6 rec N n x7 x8 (IntKind.wrap .i64 (x9 + (1 : Int))) b1_0 b2_0 b3_0 b4_0
            | false =>
              L22_i122_f31_6 rec N n x7 x8 (IntKind.wrap .i64 (x9 + (1 : Int))) b1_0 b2_0 b3_0 b4_0
          | false =>
            L22_i122_f31_6 rec N n x7 x8 (IntKind.wrap .i64 (x9 + (1 : Int))) b1_0 b2_0 b3_0 b4_0
      | false =>
        L22_i122_f31_6 rec N n x7 x8 (IntKind.wrap .i64 (x9 + (1 : Int))) b1_0 b2_0 b3_0 b4_0
    | false =>
      L22_i122_f31_6 rec N n x7 x8 (IntKind.wrap .i64 (x9 + (1 : Int))) b1_0 b2_0 b3_0 b4_0
  | false =>
    some (.x0 b1_0 b2_0 b3_0 b4_0)
def LFL22_i122_f31_6 (rec : TF22) (N : Nat) (n : Nat) (s : St) : Option OL22_i122_f31_6 := L22_i122_f31_6 rec N n ((Eng.look s.env 7).rows) ((Eng.look s.env 8).toI) ((Eng.look s.env 9).toI) (((s.mem.getD 1 .dead).cells.getD 0 .top).toI) (((s.mem.getD 2 .dead).cells.getD 0 .top).toI) (((s.mem.getD 3 .dead).cells.getD 0 .top).rows) (((s.mem.getD 4 .dead).cells.getD 0 .top).toB)
def sgL22_i122_f31_6 : LSh := ⟨[(0, .one (.yld 0)), (2, .one (.ptr 1 0 0)), (3, .one (.ptr 2 0 0)), (7, .one (.cell (.slice 30))), (8, .one (.cell (.int .i64))), (9, .one (.cell (.int .i64)))], [.loop 0 [(2, .one (.ptr 3 0 0)), (4, .one (.ptr 4 0 0))] none, .var [.int .i64] [.cell (.int .i64)], .var [.int .i64] [.cell (.int .i64)], .var [.any] [.cell (.slice 30)], .var [.bool] [.cell (.bool)]]⟩
def ceL22_i122_f31_6 : List Cv := []
def seL22_i122_f31_6 : St → List Nat := fun st => [(Eng.look st.env 0).id, (Eng.look st.env 2).id, (Eng.look st.env 3).id, ((st.mem.getD ((Eng.look st.env 0).id) .dead).lenv.getD 0 (0, .top)).2.id, ((st.mem.getD ((Eng.look st.env 0).id) .dead).lenv.getD 1 (0, .top)).2.id]
def xL22_i122_f31_6_ret : XSh OL22_i122_f31_6 := ⟨[], ⟨[], [.loop 0 [(2, .one (.ptr 3 0 0)), (4, .one (.ptr 4 0 0))] (some .ret), .var [.int .i64] [.cell (.int .i64)], .var [.int .i64] [.cell (.int .i64)], .var [.any] [.cell (.slice 30)], .var [.bool] [.cell (.bool)]]⟩, fun st => [0, 1, 2, 3, 4], fun s => .ret (((s.mem.getD 1 .dead).cells.getD 0 .top).toI) (((s.mem.getD 2 .dead).cells.getD 0 .top).toI) (((s.mem.getD 3 .dead).cells.getD 0 .top).rows) (((s.mem.getD 4 .dead).cells.getD 0 .top).toB)⟩
def xL22_i122_f31_6_x0 : XSh OL22_i122_f31_6 := ⟨[], ⟨[], [.loop 0 [(2, .one (.ptr 3 0 0)), (4, .one (.ptr 4 0 0))] none, .var [.int .i64] [.cell (.int .i64)], .var [.int .i64] [.cell (.int .i64)], .var [.any] [.cell (.slice 30)], .var [.bool] [.cell (.bool)]]⟩, fun st => [0, 1, 2, 3, 4], fun s => .x0 (((s.mem.getD 1 .dead).cells.getD 0 .top).toI) (((s.mem.getD 2 .dead).cells.getD 0 .top).toI) (((s.mem.getD 3 .dead).cells.getD 0 .top).rows) (((s.mem.getD 4 .dead).cells.getD 0 .top).toB)⟩
def xsL22_i122_f31_6 : Ex → St → Option (XSh OL22_i122_f31_6) := fun e st => match e with
  | .ret => some xL22_i122_f31_6_ret
  | .exit 0 => some xL22_i122_f31_6_x0
  | _ => none
def exL22_i122_f31_6 (o : OL22_i122_f31_6) : Ex := match o with | .ret b1_0 b2_0 b3_0 b4_0 => .ret | .x0 b1_0 b2_0 b3_0 b4_0 => (.exit 0)
def stL22_i122_f31_6 (o : OL22_i122_f31_6) : St := match o with | .ret b1_0 b2_0 b3_0 b4_0 => ⟨[], [.loop 0 [(2, .ptr 3 0 0), (4, .ptr 4 0 0)] false (some .ret), .var [.int .i64] [.int .i64 b1_0], .var [.int .i64] [.int .i64 b2_0], .var [.any] [.list 30 b3_0], .var [.bool] [.bool b4_0]], [], .unk⟩ | .x0 b1_0 b2_0 b3_0 b4_0 => ⟨[], [.loop 0 [(2, .ptr 3 0 0), (4, .ptr 4 0 0)] false none, .var [.int .i64] [.int .i64 b1_0], .var [.int .i64] [.int .i64 b2_0], .var [.any] [.list 30 b3_0], .var [.bool] [.bool b4_0]], [], .unk⟩
def elL22_i122_f31_6 {R : Type} (o : OL22_i122_f31_6) (k : Ex → St → Option R) : Option R := match o with | .ret b1_0 b2_0 b3_0 b4_0 => k .ret ⟨[], [.loop 0 [(2, .ptr 3 0 0), (4, .ptr 4 0 0)] false (some .ret), .var [.int .i64] [.int .i64 b1_0], .var [.int .i64] [.int .i64 b2_0], .var [.any] [.list 30 b3_0], .var [.bool] [.bool b4_0]], [], .unk⟩ | .x0 b1_0 b2_0 b3_0 b4_0 => k (.exit 0) ⟨[], [.loop 0 [(2, .ptr 3 0 0), (4, .ptr 4 0 0)] false none, .var [.int .i64] [.int .i64 b1_0], .var [.int .i64] [.int .i64 b2_0], .var [.any] [.list 30 b3_0], .var [.bool] [.bool b4_0]], [], .unk⟩
theorem heL22_i122_f31_6 {R : Type} (o : OL22_i122_f31_6) (k : Ex → St → Option R) : elL22_i122_f31_6 o k = k (exL22_i122_f31_6 o) (stL22_i122_f31_6 o) := by cases o <;> rfl
theorem hxL22_i122_f31_6 : ∀ e st x, xsL22_i122_f31_6 e st = some x → outOk x e exL22_i122_f31_6 stL22_i122_f31_6 := by
  intro e st x h
  unfold xsL22_i122_f31_6 at h
  repeat' split at h
  all_goals first
    | (injection h with h; subst h; exact fun lk M => ⟨rfl, rfl⟩)
    | cases h
noncomputable def T22_i122_f31_l6 (rec : TF22) (N : Nat) (R : Type) : LTab R := mkTab ⟨39, 549755813472⟩ (csF22 rec N R) (pickY [(0, fun id args M k => evyield CX (T22_s122 rec N R) 0 122 id args M k)]) [] [] []
theorem okT22_i122_f31_l6 (rec : TF22) (hrec : RecOkF22 rec) (N : Nat) (R : Type) : (T22_i122_f31_l6 rec N R).Ok CX code31 := mkTab_ok (hcsF22 rec hrec N R) (pickY_ok (es := [(0, fun id args M k => evyield CX (T22_s122 rec N R) 0 122 id args M k)]) ⟨fun {id args M k r} h => evyield_sound hX (okT22_s122 rec hrec N R) (g := nd0.1) (ps := nd0.2.1) ⟨[false, true, false, true, true, true], by rfl, by kernel_rfl⟩ h, trivial⟩) (trivial) (trivial) (trivial)
noncomputable def bdL22_i122_f31_6 : Code := match codeAt code31 [false, true] with | some (.loop c) => c | _ => .skip
theorem hsL22_i122_f31_6 (rec : TF22) (N : Nat) : ∀ (n : Nat) (lk : Nat → AV) (M : List Blk), LFL22_i122_f31_6 rec N (n + 1) (canS sgL22_i122_f31_6 lk M) = evk CX (T22_i122_f31_l6 rec N OL22_i122_f31_6) bdL22_i122_f31_6 (2 * 6) (canS sgL22_i122_f31_6 lk M) (kont CX 5 [] sgL22_i122_f31_6 (fun st => [0, 1, 2, 3, 4]) xsL22_i122_f31_6 (LFL22_i122_f31_6 rec N n)) := by intro n lk M; kernel_rfl
noncomputable def T22_i122_f31_r1 (rec : TF22) (N : Nat) (R : Type) : LTab R := mkTab ⟨39, 549755813887⟩ (csF22 rec N R) (pickY [(0, fun id args M k => evyield CX (T22_s122 rec N R) 0 122 id args M k)]) [(6, fun st k => callLoop CX 5 549755813472 ceL22_i122_f31_6 sgL22_i122_f31_6 seL22_i122_f31_6 ⟨39, 549755813887⟩ (LFL22_i122_f31_6 rec N N) elL22_i122_f31_6 st k)] [] []
theorem okT22_i122_f31_r1 (rec : TF22) (hrec : RecOkF22 rec) (N : Nat) (R : Type) : (T22_i122_f31_r1 rec N R).Ok CX code31 := mkTab_ok (hcsF22 rec hrec N R) (pickY_ok (es := [(0, fun id args M k => evyield CX (T22_s122 rec N R) 0 122 id args M k)]) ⟨fun {id args M k r} h => evyield_sound hX (okT22_s122 rec hrec N R) (g := nd0.1) (ps := nd0.2.1) ⟨[false, true, false, true, true, true], by rfl, by kernel_rfl⟩ h, trivial⟩) (⟨loop_ok hX (path := [false, true]) (by kernel_rfl) (by rfl) (okT22_i122_f31_l6 rec hrec N OL22_i122_f31_6) (fun _ _ => rfl) (hsL22_i122_f31_6 rec N) hxL22_i122_f31_6 rfl heL22_i122_f31_6, trivial⟩) (trivial) (trivial)
inductive OJ22_14 where
  | nx (b0_0 : Bool) (b1_0 : Bool) (b1_1 : Bool) (b1_2 : Bool) (b1_3 : Bool) (b1_4 : Bool) (b1_5 : Int) (b1_6 : Int) (b1_7 : Int)
  | ret (b0_0 : Bool) (b1_0 : Bool) (b1_1 : Bool) (b1_2 : Bool) (b1_3 : Bool) (b1_4 : Bool) (b1_5 : Int) (b1_6 : Int) (b1_7 : Int)
def J22_14 (rec : TF22) (N : Nat) : Bool → Bool → Bool → Bool → Bool → Bool → Int → Int → Int → Option OJ22_14 := fun b0_0 b1_0 b1_1 b1_2 b1_3 b1_4 b1_5 b1_6 b1_7 =>
  match b1_1 with
  | true =>
    some (.ret b1_1 b1_0 b1_1 b1_2 b1_3 b1_4 b1_5 b1_6 b1_7)
  | false =>
    match !b1_3 with
    | true =>
      some (.ret b1_1 b1_0 b1_1 b1_2 b1_3 b1_4 b1_5 b1_6 b1_7)
    | false =>
      match b1_2 with
      | true =>
        some (.ret b1_1 b1_0 b1_1 b1_2 b1_3 b1_4 b1_5 b1_6 b1_7)
      | false =>
        some (.nx b0_0 b1_0 b1_1 b1_2 b1_3 b1_4 b1_5 b1_6 b1_7)
def LFJ22_14 (rec : TF22) (N : Nat) (s : St) : Option OJ22_14 := J22_14 rec N (((s.mem.getD 0 .dead).cells.getD 0 .top).toB) (((s.mem.getD 1 .dead).cells.getD 0 .top).toB) (((s.mem.getD 1 .dead).cells.getD 1 .top).toB) (((s.mem.getD 1 .dead).cells.getD 2 .top).toB) (((s.mem.getD 1 .dead).cells.getD 3 .top).toB) (((s.mem.getD 1 .dead).cells.getD 4 .top).toB) (((s.mem.getD 1 .dead).cells.getD 5 .top).toI) (((s.mem.getD 1 .dead).cells.getD 6 .top).toI) (((s.mem.getD 1 .dead).cells.getD 7 .top).toI)
def sgJ22_14 : LSh := ⟨[(4, .one (.ptr 0 0 0)), (5, .one (.ptr 1 0 0))], [.var [.bool] [.cell (.bool)], .var [.bool, .bool, .bool, .bool, .bool, .int .i64, .int .i64, .int .i64] [.cell (.bool), .cell (.bool), .cell (.bool), .cell (.bool), .cell (.bool), .cell (.int .i64), .cell (.int .i64), .cell (.int .i64)]]⟩
def ceJ22_14 : List Cv := []
def seJ22_14 : St → List Nat := fun st => [(Eng.look st.env 4).id, (Eng.look st.env 5).id]
def xJ22_14_nx : XSh OJ22_14 := ⟨[], ⟨[], [.var [.bool] [.cell (.bool)], .var [.bool, .bool, .bool, .bool, .bool, .int .i64, .int .i64, .int .i64] [.cell (.bool), .cell (.bool), .cell (.bool), .cell (.bool), .cell (.bool), .cell (.int .i64), .cell (.int .i64), .cell (.int .i64)]]⟩, fun st => [0, 1], fun s => .nx (((s.mem.getD 0 .dead).cells.getD 0 .top).toB) (((s.mem.getD 1 .dead).cells.getD 0 .top).toB) (((s.mem.getD 1 .dead).cells.getD 1 .top).toB) (((s.mem.getD 1 .dead).cells.getD 2 .top).toB) (((s.mem.getD 1 .dead).cells.getD 3 .top).toB) (((s.mem.getD 1 .dead).cells.getD 4 .top).toB) (((s.mem.getD 1 .dead).cells.getD 5 .top).toI) (((s.mem.getD 1 .dead).cells.getD 6 .top).toI) (((s.mem.getD 1 .dead).cells.getD 7 .top).toI)⟩
def xJ22_14_ret : XSh OJ22_14 := ⟨[], ⟨[], [.var [.bool] [.cell (.bool)], .var [.bool, .bool, .bool, .bool, .bool, .int .i64, .int .i64, .int .i64] [.cell (.bool), .cell (.bool), .cell (.bool), .cell (.bool), .cell (.bool), .cell (.int .i64), .cell (.int .i64), .cell (.int .i64)]]⟩, fun st => [0, 1], fun s => .ret (((s.mem.getD 0 .dead).cells.getD 0 .top).toB) (((s.mem.getD 1 .dead).cells.getD 0 .top).toB) (((s.mem.getD 1 .dead).cells.getD 1 .top).toB) (((s.mem.getD 1 .dead).cells.getD 2 .top).toB) (((s.mem.getD 1 .dead).cells.getD 3 .top).toB) (((s.mem.getD 1 .dead).cells.getD 4 .top).toB) (((s.mem.getD 1 .dead).cells.getD 5 .top).toI) (((s.mem.getD 1 .dead).cells.getD 6 .top).toI) (((s.mem.getD 1 .dead).cells.getD 7 .top).toI)⟩
def xsJ22_14 : Ex → St → Option (XSh OJ22_14) := fun e st => match e with
  | .normal => some xJ22_14_nx
  | .ret => some xJ22_14_ret
  | _ => none
def exJ22_14 (o : OJ22_14) : Ex := match o with | .nx b0_0 b1_0 b1_1 b1_2 b1_3 b1_4 b1_5 b1_6 b1_7 => .normal | .ret b0_0 b1_0 b1_1 b1_2 b1_3 b1_4 b1_5 b1_6 b1_7 => .ret
def stJ22_14 (o : OJ22_14) : St := match o with | .nx b0_0 b1_0 b1_1 b1_2 b1_3 b1_4 b1_5 b1_6 b1_7 => ⟨[], [.var [.bool] [.bool b0_0], .var [.bool, .bool, .bool, .bool, .bool, .int .i64, .int .i64, .int .i64] [.bool b1_0, .bool b1_1, .bool b1_2, .bool b1_3, .bool b1_4, .int .i64 b1_5, .int .i64 b1_6, .int .i64 b1_7]], [], .unk⟩ | .ret b0_0 b1_0 b1_1 b1_2 b1_3 b1_4 b1_5 b1_6 b1_7 => ⟨[], [.var [.bool] [.bool b0_0], .var [.bool, .bool, .bool, .bool, .bool, .int .i64, .int .i64, .int .i64] [.bool b1_0, .bool b1_1, .bool b1_2, .bool b1_3, .bool b1_4, .int .i64 b1_5, .int .i64 b1_6, .int .i64 b1_7]], [], .unk⟩
def elJ22_14 {R : Type} (o : OJ22_14) (k : Ex → St → Option R) : Option R := match o with | .nx b0_0 b1_0 b1_1 b1_2 b1_3 b1_4 b1_5 b1_6 b1_7 => k .normal ⟨[], [.var [.bool] [.bool b0_0], .var [.bool, .bool, .bool, .bool, .bool, .int .i64, .int .i64, .int .i64] [.bool b1_0, .bool b1_1, .bool b1_2, .bool b1_3, .bool b1_4, .int .i64 b1_5, .int .i64 b1_6, .int .i64 b1_7]], [], .unk⟩ | .ret b0_0 b1_0 b1_1 b1_2 b1_3 b1_4 b1_5 b1_6 b1_7 => k .ret ⟨[], [.var [.bool] [.bool b0_0], .var [.bool, .bool, .bool, .bool, .bool, .int .i64, .int .i64, .int .i64] [.bool b1_0, .bool b1_1, .bool b1_2, .bool b1_3, .bool b1_4, .int .i64 b1_5, .int .i64 b1_6, .int .i64 b1_7]], [], .unk⟩
theorem heJ22_14 {R : Type} (o : OJ22_14) (k : Ex → St → Option R) : elJ22_14 o k = k (exJ22_14 o) (stJ22_14 o) := by cases o <;> rfl
theorem hxJ22_14 : ∀ e st x, xsJ22_14 e st = some x → outOk x e exJ22_14 stJ22_14 := by
  intro e st x h
  unfold xsJ22_14 at h
  repeat' split at h
  all_goals first
    | (injection h with h; subst h; exact fun lk M => ⟨rfl, rfl⟩)
    | cases h
noncomputable def T22_c14 (rec : TF22) (N : Nat) (R : Type) : LTab R := mkTab ⟨39, 16775168⟩ (csF22 rec N R) (noY) [] [] []
theorem okT22_c14 (rec : TF22) (hrec : RecOkF22 rec) (N : Nat) (R : Type) : (T22_c14 rec N R).Ok CX code22 := mkTab_ok (hcsF22 rec hrec N R) (noY_ok) (trivial) (trivial) (trivial)
noncomputable def bdJ22_14 : Code := (codeAt code22 [false, true, true]).getD .skip
theorem hsJ22_14 (rec : TF22) (N : Nat) : ∀ (lk : Nat → AV) (M : List Blk), LFJ22_14 rec N (canS sgJ22_14 lk M) = evk CX (T22_c14 rec N OJ22_14) bdJ22_14 14 (canS sgJ22_14 lk M) (kontX CX 2 xsJ22_14) := by intro lk M; kernel_rfl
noncomputable def T22_r1 (rec : TF22) (N : Nat) (R : Type) : LTab R := mkTab ⟨39, 549755813887⟩ (csF22 rec N R) (noY) [] [(122, fun st k => evrange CX (oneTab ⟨39, 549755813887⟩ (inl 31 (fun args M k => evfn CX (T22_i122_f31_r1 rec N R) code31 rs22_i122_f31 args M k))) 0 [2, 4] (.tmp 26) st k)] [(14, fun st k => callLoop CX 2 16775168 ceJ22_14 sgJ22_14 seJ22_14 ⟨39, 549755813887⟩ (LFJ22_14 rec N) elJ22_14 st k)]
theorem okT22_r1 (rec : TF22) (hrec : RecOkF22 rec) (N : Nat) (R : Type) : (T22_r1 rec N R).Ok CX code22 := mkTab_ok (hcsF22 rec hrec N R) (noY_ok) (trivial) (⟨range_ok hX (path := [false, true, false, true, true, true]) (ps0 := nd0.2.1) (a0 := nd0.2.2.1) (b0 := nd0.2.2.2) (by kernel_rfl) (by rfl) (inl_ok fun {args M k r} h => evfn_sound hX (okT22_i122_f31_r1 rec hrec N R) Try.func31 hb31 rfl en31 (by kernel_rfl) h) (by kernel_rfl), trivial⟩) (⟨cut_ok hX (path := [false, true, true]) (by kernel_rfl) (by rfl) (okT22_c14 rec hrec N OJ22_14) (hsJ22_14 rec N) hxJ22_14 rfl heJ22_14, trivial⟩)
def rsF22 : List ResultVar := [.cell 4 4]
def F22 : Nat → TF22
  | 0 => fun _ _ => none
  | N + 1 => fun x0 x1 =>
  tst (decide ((0 : Int) ≤ x1) && decide (x1 < ((x0.length : Int)))) <|
  match J22_14 (F22 N) N false ((((x0.getD x1.toNat [])).getD 0 .top).toB) ((((x0.getD x1.toNat [])).getD 1 .top).toB) ((((x0.getD x1.toNat [])).getD 2 .top).toB) ((((x0.getD x1.toNat [])).getD 3 .top).toB) ((((x0.getD x1.toNat [])).getD 4 .top).toB) ((((x0.getD x1.toNat [])).getD 5 .top).toI) ((((x0.getD x1.toNat [])).getD 6 .top).toI) ((((x0.getD x1.toNat [])).getD 7 .top).toI) with
  | none => none
  | some (.nx b0_0_1 b1_0_1 b1_1_1 b1_2_1 b1_3_1 b1_4_1 b1_5_1 b1_6_1 b1_7_1) =>
    match F23 N x0 x1 ((-1)) with
    | none => none
    | some (.r rb0_0_2 rb1_0_2 rb2_0_2) =>
      match L22_i122_f31_6 (F22 N) N N rb0_0_2 ((rb0_0_2.length : Int)) 0 rb1_0_2 rb2_0_2 x0 b0_0_1 with
      | none => none
      | some (.ret b1_0_5 b2_0_5 b3_0_5 b4_0_5) =>
        some (.r b4_0_5)
      | some (.x0 b1_0_6 b2_0_6 b3_0_6 b4_0_6) =>
        some (.r true)
  | some (.ret b0_0_7 b1_0_7 b1_1_7 b1_2_7 b1_3_7 b1_4_7 b1_5_7 b1_6_7 b1_7_7) =>
    some (.r b0_0_7)
def xRF22 : XSh R22 := ⟨[], ⟨[(0, .one (.cell (.bool)))], []⟩, fun _ => [], fun s => .r ((Eng.look s.env 0).toB)⟩
theorem fsF22 : ∀ (N : Nat) (lk : Nat → AV) (M : List Blk), FFF22 (F22 (N + 1)) (canS sgF22 lk M) = evfn CX (T22_r1 (F22 N) N R22) code22 rsF22 (argsE 2 (canS sgF22 lk M).env) (canS sgF22 lk M).mem (goR CX 0 (fun _ => some xRF22)) := by intro N lk M; kernel_rfl
theorem soundF22 : ∀ N, RecOkF22 (F22 N)
  | 0, lk, M, o, h => by cases h
  | N + 1, lk, M, o, h => fn_sound hX (okT22_r1 (F22 N) (soundF22 N) N R22) Try.func22 hb22 rfl en22 (by kernel_rfl) (ys := fun _ => some xRF22) (fun st y h => by injection h with h; subst h; exact fun lk M => ⟨rfl, rfl⟩) ((fsF22 N lk M).symm.trans h)
end Go.Proofs.Ytfggehkiglenjaa

namespace Go.Proofs.Ytfggehkiglenjaa
open Go Go.Eng
set_option maxRecDepth 100000

/-! ### F9: ceiling/master.Ready -/
inductive R9 where
  | r (b0 : List Row)
abbrev TF9 := List Row → Option R9
def sgF9 : LSh := ⟨[(0, .one (.cell (.slice 30)))], []⟩
def FFF9 (Fx : TF9) (s : St) : Option R9 := Fx ((Eng.look s.env 0).rows)
def valF9 (o : R9) : AV := match o with | .r b0 => .own 0
def memF9 (o : R9) : List Blk := match o with | .r b0 => [.row 3 b0]
def elF9 {R : Type} (o : R9) (k : AV → List Blk → Option R) : Option R := match o with | .r b0 => k (.own 0) [.row 3 b0]
def RecOkF9 (Fx : TF9) : Prop := ∀ lk M o, FFF9 Fx (canS sgF9 lk M) = some o → FCalls CX 9 0 (argsE 1 (canS sgF9 lk M).env) (canS sgF9 lk M).mem (valF9 o) (memF9 o)
noncomputable def csF9 (N : Nat) (R : Type) : List (CE R) := [ce_16_0 (F16 N) R (fun _ _ => true), ce_22_0 (F22 N) R (fun _ _ => true), ce_23_0 (F23 N) R (fun _ _ => true)]
theorem hcsF9 (N : Nat) (R : Type) : AllE (CeOk CX) (csF9 N R) := ⟨okce_16_0 (F16 N) (soundF16 N) R (fun _ _ => true), okce_22_0 (F22 N) (soundF22 N) R (fun _ _ => true), okce_23_0 (F23 N) (soundF23 N) R (fun _ _ => true), trivial⟩
noncomputable def T9_s223642 (N : Nat) (R : Type) : LTab R := mkTab ⟨69, 590295810358705651711⟩ (csF9 N R) (noY) [] [] []
theorem okT9_s223642 (N : Nat) (R : Type) : (T9_s223642 N R).Ok CX code9 := mkTab_ok (hcsF9 N R) (noY_ok) (trivial) (trivial) (trivial)
def rs9_i223642_f31 : List ResultVar := []
inductive OL9_i223642_f31_6 where
  | ret (b1_0 : Int) (b2_0 : Int) (b3_0 : List Row)
  | x0 (b1_0 : Int) (b2_0 : Int) (b3_0 : List Row)
def L9_i223642_f31_6 (N : Nat) : Nat → List Row → Int → Int → Int → Int → List Row → Option OL9_i223642_f31_6
  | 0 => fun _ _ _ _ _ _ => none
  | n + 1 => fun x7 x8 x9 b1_0 b2_0 b3_0 =>
  match decide (x9 < x8) with
  | true =>
    tst (decide ((0 : Int) ≤ x9) && decide (x9 < ((x7.length : Int)))) <|
    match decide ((0 : Int) < x9) with
    | true =>
      match ((((x7.getD x9.toNat [])).getD 5 .top).toI) == b1_0 with
      | true =>
        match decide (b2_0 < (0 : Int)) with
        | true =>
          tst (decide ((0 : Int) ≤ x9) && decide (x9 < ((b3_0.length : Int)))) <|
          match (((b3_0.getD x9.toNat [])).getD 0 .top).toB with
          | true =>
            match F22 N b3_0 x9 with
            | none => none
            | some (.r rx0_5) =>
              match !rx0_5 with
              | true =>
                some (.ret b1_0 b2_0 b3_0)
              | false =>
                L9_i223642_f31_6 N n x7 x8 (IntKind.wrap .i64 (x9 + (1 : Int))) b1_0 b2_0 b3_0
          | false =>
            L9_i223642_f31_6 N n x7 x8 (IntKind.wrap .i64 (x9 + (1 : Int))) b1_0 b2_0 b3_0
        | false =>
          match ((((x7.getD x9.toNat [])).getD 6 .top).toI) == b2_0 with
          | true =>
            tst (decide ((0 : Int) ≤ x9) && decide (x9 < ((b3_0.length : Int)))) <|
            match (((b3_0.getD x9.toNat [])).getD 0 .top).toB with
            | true =>
              match F22 N b3_0 x9 with
              | none => none
              | some (.r rx0_6) =>
                match !rx0_6 with
                | true =>
                  some (.ret b1_0 b2_0 b3_0)
                | false =>
                  L9_i223642_f31_6 N n x7 x8 (IntKind.wrap .i64 (x9 + (1 : Int))) b1_0 b2_0 b3_0
            | false =>
              L9_i223642_f31_6 N n x7 x8 (IntKind.wrap .i64 (x9 + (1 : Int))) b1_0 b2_0 b3_0
          | false =>
            L9_i223642_f31_6 N n x7 x8 (IntKind.wrap .i64 (x9 + (1 : Int))) b1_0 b2_0 b3_0
      | false =>
        L9_i223642_f31_6 N n x7 x8 (IntKind.wrap .i64 (x9 + (1 : Int))) b1_0 b2_0 b3_0
    | false =>
      L9_i223642_f31_6 N n x7 x8 (IntKind.wrap .i64 (x9 + (1 : Int))) b1_0 b2_0 b3_0
  | false =>
    some (.x0 b1_0 b2_0 b3_0)
def LFL9_i223642_f31_6 (N : Nat) (n : Nat) (s : St) : Option OL9_i223642_f31_6 := L9_i223642_f31_6 N n ((Eng.look s.env 7).rows) ((Eng.look s.env 8).toI) ((Eng.look s.env 9).toI) (((s.mem.getD 1 .dead).cells.getD 0 .top).toI) (((s.mem.getD 2 .dead).cells.getD 0 .top).toI) (((s.mem.getD 3 .dead).cells.getD 0 .top).rows)
def sgL9_i223642_f31_6 : LSh := ⟨[(0, .one (.yld 0)), (2, .one (.ptr 1 0 0)), (3, .one (.ptr 2 0 0)), (7, .one (.cell (.slice 30))), (8, .one (.cell (.int .i64))), (9, .one (.cell (.int .i64)))], [.loop 1 [(1, .one (.ptr 3 0 0))] none, .var [.int .i64] [.cell (.int .i64)], .var [.int .i64] [.cell (.int .i64)], .var [.any] [.cell (.slice 30)]]⟩
def ceL9_i223642_f31_6 : List Cv := []
def seL9_i223642_f31_6 : St → List Nat := fun st => [(Eng.look st.env 0).id, (Eng.look st.env 2).id, (Eng.look st.env 3).id, ((st.mem.getD ((Eng.look st.env 0).id) .dead).lenv.getD 0 (0, .top)).2.id]
def xL9_i223642_f31_6_ret : XSh OL9_i223642_f31_6 := ⟨[], ⟨[], [.loop 1 [(1, .one (.ptr 3 0 0))] (some (.exit 1)), .var [.int .i64] [.cell (.int .i64)], .var [.int .i64] [.cell (.int .i64)], .var [.any] [.cell (.slice 30)]]⟩, fun st => [0, 1, 2, 3], fun s => .ret (((s.mem.getD 1 .dead).cells.getD 0 .top).toI) (((s.mem.getD 2 .dead).cells.getD 0 .top).toI) (((s.mem.getD 3 .dead).cells.getD 0 .top).rows)⟩
def xL9_i223642_f31_6_x0 : XSh OL9_i223642_f31_6 := ⟨[], ⟨[], [.loop 1 [(1, .one (.ptr 3 0 0))] none, .var [.int .i64] [.cell (.int .i64)], .var [.int .i64] [.cell (.int .i64)], .var [.any] [.cell (.slice 30)]]⟩, fun st => [0, 1, 2, 3], fun s => .x0 (((s.mem.getD 1 .dead).cells.getD 0 .top).toI) (((s.mem.getD 2 .dead).cells.getD 0 .top).toI) (((s.mem.getD 3 .dead).cells.getD 0 .top).rows)⟩
def xsL9_i223642_f31_6 : Ex → St → Option (XSh OL9_i223642_f31_6) := fun e st => match e with
  | .ret => some xL9_i223642_f31_6_ret
  | .exit 0 => some xL9_i223642_f31_6_x0
  | _ => none
def exL9_i223642_f31_6 (o : OL9_i223642_f31_6) : Ex := match o with | .ret b1_0 b2_0 b3_0 => .ret | .x0 b1_0 b2_0 b3_0 => (.exit 0)
def stL9_i223642_f31_6 (o : OL9_i223642_f31_6) : St := match o with | .ret b1_0 b2_0 b3_0 => ⟨[], [.loop 1 [(1, .ptr 3 0 0)] false (some (.exit 1)), .var [.int .i64] [.int .i64 b1_0], .var [.int .i64] [.int .i64 b2_0], .var [.any] [.list 30 b3_0]], [], .unk⟩ | .x0 b1_0 b2_0 b3_0 => ⟨[], [.loop 1 [(1, .ptr 3 0 0)] false none, .var [.int .i64] [.int .i64 b1_0], .var [.int .i64] [.int .i64 b2_0], .var [.any] [.list 30 b3_0]], [], .unk⟩
def elL9_i223642_f31_6 {R : Type} (o : OL9_i223642_f31_6) (k : Ex → St → Option R) : Option R := match o with | .ret b1_0 b2_0 b3_0 => k .ret ⟨[], [.loop 1 [(1, .ptr 3 0 0)] false (some (.exit 1)), .var [.int .i64] [.int .i64 b1_0], .var [.int .i64] [.int .i64 b2_0], .var [.any] [.list 30 b3_0]], [], .unk⟩ | .x0 b1_0 b2_0 b3_0 => k (.exit 0) ⟨[], [.loop 1 [(1, .ptr 3 0 0)] false none, .var [.int .i64] [.int .i64 b1_0], .var [.int .i64] [.int .i64 b2_0], .var [.any] [.list 30 b3_0]], [], .unk⟩
theorem heL9_i223642_f31_6 {R : Type} (o : OL9_i223642_f31_6) (k : Ex → St → Option R) : elL9_i223642_f31_6 o k = k (exL9_i223642_f31_6 o) (stL9_i223642_f31_6 o) := by cases o <;> rfl
theorem hxL9_i223642_f31_6 : ∀ e st x, xsL9_i223642_f31_6 e st = some x → outOk x e exL9_i223642_f31_6 stL9_i223642_f31_6 := by
  intro e st x h
  unfold xsL9_i223642_f31_6 at h
  repeat' split at h
  all_goals first
    | (injection h with h; subst h; exact fun lk M => ⟨rfl, rfl⟩)
    | cases h
noncomputable def T9_i223642_f31_l6 (N : Nat) (R : Type) : LTab R := mkTab ⟨39, 549755813472⟩ (csF9 N R) (pickY [(1, fun id args M k => evyield CX (T9_s223642 N R) 1 223642 id args M k)]) [] [] []
theorem okT9_i223642_f31_l6 (N : Nat) (R : Type) : (T9_i223642_f31_l6 N R).Ok CX code31 := mkTab_ok (hcsF9 N R) (pickY_ok (es := [(1, fun id args M k => evyield CX (T9_s223642 N R) 1 223642 id args M k)]) ⟨fun {id args M k r} h => evyield_sound hX (okT9_s223642 N R) (g := nd1.1) (ps := nd1.2.1) ⟨[false, true, false, true, true, false, false, true, true, false, false, true, false, true, true, false, true], by rfl, by kernel_rfl⟩ h, trivial⟩) (trivial) (trivial) (trivial)
noncomputable def bdL9_i223642_f31_6 : Code := match codeAt code31 [false, true] with | some (.loop c) => c | _ => .skip
theorem hsL9_i223642_f31_6 (N : Nat) : ∀ (n : Nat) (lk : Nat → AV) (M : List Blk), LFL9_i223642_f31_6 N (n + 1) (canS sgL9_i223642_f31_6 lk M) = evk CX (T9_i223642_f31_l6 N OL9_i223642_f31_6) bdL9_i223642_f31_6 (2 * 6) (canS sgL9_i223642_f31_6 lk M) (kont CX 4 [] sgL9_i223642_f31_6 (fun st => [0, 1, 2, 3]) xsL9_i223642_f31_6 (LFL9_i223642_f31_6 N n)) := by intro n lk M; kernel_rfl
noncomputable def T9_i223642_f31_r1 (N : Nat) (R : Type) : LTab R := mkTab ⟨39, 549755813887⟩ (csF9 N R) (pickY [(1, fun id args M k => evyield CX (T9_s223642 N R) 1 223642 id args M k)]) [(6, fun st k => callLoop CX 4 549755813472 ceL9_i223642_f31_6 sgL9_i223642_f31_6 seL9_i223642_f31_6 ⟨39, 549755813887⟩ (LFL9_i223642_f31_6 N N) elL9_i223642_f31_6 st k)] [] []
theorem okT9_i223642_f31_r1 (N : Nat) (R : Type) : (T9_i223642_f31_r1 N R).Ok CX code31 := mkTab_ok (hcsF9 N R) (pickY_ok (es := [(1, fun id args M k => evyield CX (T9_s223642 N R) 1 223642 id args M k)]) ⟨fun {id args M k r} h => evyield_sound hX (okT9_s223642 N R) (g := nd1.1) (ps := nd1.2.1) ⟨[false, true, false, true, true, false, false, true, true, false, false, true, false, true, true, false, true], by rfl, by kernel_rfl⟩ h, trivial⟩) (⟨loop_ok hX (path := [false, true]) (by kernel_rfl) (by rfl) (okT9_i223642_f31_l6 N OL9_i223642_f31_6) (fun _ _ => rfl) (hsL9_i223642_f31_6 N) hxL9_i223642_f31_6 rfl heL9_i223642_f31_6, trivial⟩) (trivial) (trivial)
inductive OJ9_27954 where
  | nx (b0_0 : List Row) (b1_0 : Bool) (b1_1 : Bool) (b1_2 : Bool) (b1_3 : Bool) (b1_4 : Bool) (b1_5 : Int) (b1_6 : Int) (b1_7 : Int)
  | x1 (b0_0 : List Row) (b1_0 : Bool) (b1_1 : Bool) (b1_2 : Bool) (b1_3 : Bool) (b1_4 : Bool) (b1_5 : Int) (b1_6 : Int) (b1_7 : Int)
def J9_27954 (N : Nat) : Int → List Row → Bool → Bool → Bool → Bool → Bool → Int → Int → Int → Option OJ9_27954 := fun x3 b0_0 b1_0 b1_1 b1_2 b1_3 b1_4 b1_5 b1_6 b1_7 =>
  match !b1_3 with
  | true =>
    some (.x1 b0_0 b1_0 b1_1 b1_2 b1_3 b1_4 b1_5 b1_6 b1_7)
  | false =>
    match b1_4 with
    | true =>
      some (.x1 b0_0 b1_0 b1_1 b1_2 b1_3 b1_4 b1_5 b1_6 b1_7)
    | false =>
      match decide (b1_5 < (0 : Int)) with
      | true =>
        some (.x1 b0_0 b1_0 b1_1 b1_2 b1_3 b1_4 b1_5 b1_6 b1_7)
      | false =>
        tst (decide ((0 : Int) ≤ b1_5) && decide (b1_5 < ((b0_0.length : Int)))) <|
        match ((((b0_0.getD b1_5.toNat [])).getD 7 .top).toI) != b1_6 with
        | true =>
          some (.x1 b0_0 b1_0 b1_1 b1_2 b1_3 b1_4 b1_5 b1_6 b1_7)
        | false =>
          match F22 N b0_0 x3 with
          | none => none
          | some (.r rx0_2) =>
            match !rx0_2 with
            | true =>
              some (.x1 b0_0 b1_0 b1_1 b1_2 b1_3 b1_4 b1_5 b1_6 b1_7)
            | false =>
              some (.nx b0_0 b1_0 b1_1 b1_2 b1_3 b1_4 b1_5 b1_6 b1_7)
def LFJ9_27954 (N : Nat) (s : St) : Option OJ9_27954 := J9_27954 N ((Eng.look s.env 3).toI) (((s.mem.getD 0 .dead).cells.getD 0 .top).rows) (((s.mem.getD 1 .dead).cells.getD 0 .top).toB) (((s.mem.getD 1 .dead).cells.getD 1 .top).toB) (((s.mem.getD 1 .dead).cells.getD 2 .top).toB) (((s.mem.getD 1 .dead).cells.getD 3 .top).toB) (((s.mem.getD 1 .dead).cells.getD 4 .top).toB) (((s.mem.getD 1 .dead).cells.getD 5 .top).toI) (((s.mem.getD 1 .dead).cells.getD 6 .top).toI) (((s.mem.getD 1 .dead).cells.getD 7 .top).toI)
def sgJ9_27954 : LSh := ⟨[(1, .one (.ptr 0 0 0)), (3, .one (.cell (.int .i64))), (4, .one (.ptr 1 0 0))], [.var [.any] [.cell (.slice 30)], .var [.bool, .bool, .bool, .bool, .bool, .int .i64, .int .i64, .int .i64] [.cell (.bool), .cell (.bool), .cell (.bool), .cell (.bool), .cell (.bool), .cell (.int .i64), .cell (.int .i64), .cell (.int .i64)]]⟩
def ceJ9_27954 : List Cv := []
def seJ9_27954 : St → List Nat := fun st => [(Eng.look st.env 1).id, (Eng.look st.env 4).id]
def xJ9_27954_nx : XSh OJ9_27954 := ⟨[], ⟨[], [.var [.any] [.cell (.slice 30)], .var [.bool, .bool, .bool, .bool, .bool, .int .i64, .int .i64, .int .i64] [.cell (.bool), .cell (.bool), .cell (.bool), .cell (.bool), .cell (.bool), .cell (.int .i64), .cell (.int .i64), .cell (.int .i64)]]⟩, fun st => [0, 1], fun s => .nx (((s.mem.getD 0 .dead).cells.getD 0 .top).rows) (((s.mem.getD 1 .dead).cells.getD 0 .top).toB) (((s.mem.getD 1 .dead).cells.getD 1 .top).toB) (((s.mem.getD 1 .dead).cells.getD 2 .top).toB) (((s.mem.getD 1 .dead).cells.getD 3 .top).toB) (((s.mem.getD 1 .dead).cells.getD 4 .top).toB) (((s.mem.getD 1 .dead).cells.getD 5 .top).toI) (((s.mem.getD 1 .dead).cells.getD 6 .top).toI) (((s.mem.getD 1 .dead).cells.getD 7 .top).toI)⟩
def xJ9_27954_x1 : XSh OJ9_27954 := ⟨[], ⟨[], [.var [.any] [.cell (.slice 30)], .var [.bool, .bool, .bool, .bool, .bool, .int .i64, .int .i64, .int .i64] [.cell (.bool), .cell (.bool), .cell (.bool), .cell (.bool), .cell (.bool), .cell (.int .i64), .cell (.int .i64), .cell (.int .i64)]]⟩, fun st => [0, 1], fun s => .x1 (((s.mem.getD 0 .dead).cells.getD 0 .top).rows) (((s.mem.getD 1 .dead).cells.getD 0 .top).toB) (((s.mem.getD 1 .dead).cells.getD 1 .top).toB) (((s.mem.getD 1 .dead).cells.getD 2 .top).toB) (((s.mem.getD 1 .dead).cells.getD 3 .top).toB) (((s.mem.getD 1 .dead).cells.getD 4 .top).toB) (((s.mem.getD 1 .dead).cells.getD 5 .top).toI) (((s.mem.getD 1 .dead).cells.getD 6 .top).toI) (((s.mem.getD 1 .dead).cells.getD 7 .top).toI)⟩
def xsJ9_27954 : Ex → St → Option (XSh OJ9_27954) := fun e st => match e with
  | .normal => some xJ9_27954_nx
  | .exit 1 => some xJ9_27954_x1
  | _ => none
def exJ9_27954 (o : OJ9_27954) : Ex := match o with | .nx b0_0 b1_0 b1_1 b1_2 b1_3 b1_4 b1_5 b1_6 b1_7 => .normal | .x1 b0_0 b1_0 b1_1 b1_2 b1_3 b1_4 b1_5 b1_6 b1_7 => (.exit 1)
def stJ9_27954 (o : OJ9_27954) : St := match o with | .nx b0_0 b1_0 b1_1 b1_2 b1_3 b1_4 b1_5 b1_6 b1_7 => ⟨[], [.var [.any] [.list 30 b0_0], .var [.bool, .bool, .bool, .bool, .bool, .int .i64, .int .i64, .int .i64] [.bool b1_0, .bool b1_1, .bool b1_2, .bool b1_3, .bool b1_4, .int .i64 b1_5, .int .i64 b1_6, .int .i64 b1_7]], [], .unk⟩ | .x1 b0_0 b1_0 b1_1 b1_2 b1_3 b1_4 b1_5 b1_6 b1_7 => ⟨[], [.var [.any] [.list 30 b0_0], .var [.bool, .bool, .bool, .bool, .bool, .int .i64, .int .i64, .int .i64] [.bool b1_0, .bool b1_1, .bool b1_2, .bool b1_3, .bool b1_4, .int .i64 b1_5, .int .i64 b1_6, .int .i64 b1_7]], [], .unk⟩
def elJ9_27954 {R : Type} (o : OJ9_27954) (k : Ex → St → Option R) : Option R := match o with | .nx b0_0 b1_0 b1_1 b1_2 b1_3 b1_4 b1_5 b1_6 b1_7 => k .normal ⟨[], [.var [.any] [.list 30 b0_0], .var [.bool, .bool, .bool, .bool, .bool, .int .i64, .int .i64, .int .i64] [.bool b1_0, .bool b1_1, .bool b1_2, .bool b1_3, .bool b1_4, .int .i64 b1_5, .int .i64 b1_6, .int .i64 b1_7]], [], .unk⟩ | .x1 b0_0 b1_0 b1_1 b1_2 b1_3 b1_4 b1_5 b1_6 b1_7 => k (.exit 1) ⟨[], [.var [.any] [.list 30 b0_0], .var [.bool, .bool, .bool, .bool, .bool, .int .i64, .int .i64, .int .i64] [.bool b1_0, .bool b1_1, .bool b1_2, .bool b1_3, .bool b1_4, .int .i64 b1_5, .int .i64 b1_6, .int .i64 b1_7]], [], .unk⟩
theorem heJ9_27954 {R : Type} (o : OJ9_27954) (k : Ex → St → Option R) : elJ9_27954 o k = k (exJ9_27954 o) (stJ9_27954 o) := by cases o <;> rfl
theorem hxJ9_27954 : ∀ e st x, xsJ9_27954 e st = some x → outOk x e exJ9_27954 stJ9_27954 := by
  intro e st x h
  unfold xsJ9_27954 at h
  repeat' split at h
  all_goals first
    | (injection h with h; subst h; exact fun lk M => ⟨rfl, rfl⟩)
    | cases h
noncomputable def T9_c27954 (N : Nat) (R : Type) : LTab R := mkTab ⟨69, 35184372023296⟩ (csF9 N R) (noY) [] [] []
theorem okT9_c27954 (N : Nat) (R : Type) : (T9_c27954 N R).Ok CX code9 := mkTab_ok (hcsF9 N R) (noY_ok) (trivial) (trivial) (trivial)
noncomputable def bdJ9_27954 : Code := (codeAt code9 [false, true, false, false, true, true, false, false, true, false, true, true, false, true]).getD .skip
theorem hsJ9_27954 (N : Nat) : ∀ (lk : Nat → AV) (M : List Blk), LFJ9_27954 N (canS sgJ9_27954 lk M) = evk CX (T9_c27954 N OJ9_27954) bdJ9_27954 27954 (canS sgJ9_27954 lk M) (kontX CX 2 xsJ9_27954) := by intro lk M; kernel_rfl
inductive OL9_218 where
  | x0 (b0_0 : List Row) (b1 : List Row)
def L9_218 (N : Nat) : Nat → List Row → Int → Int → List Row → List Row → Option OL9_218
  | 0 => fun _ _ _ _ _ => none
  | n + 1 => fun x9 x10 x11 b0_0 b1 =>
  match decide (x11 < x10) with
  | true =>
    tst (decide ((0 : Int) ≤ x11) && decide (x11 < ((x9.length : Int)))) <|
    match J9_27954 N x11 b0_0 ((((x9.getD x11.toNat [])).getD 0 .top).toB) ((((x9.getD x11.toNat [])).getD 1 .top).toB) ((((x9.getD x11.toNat [])).getD 2 .top).toB) ((((x9.getD x11.toNat [])).getD 3 .top).toB) ((((x9.getD x11.toNat [])).getD 4 .top).toB) ((((x9.getD x11.toNat [])).getD 5 .top).toI) ((((x9.getD x11.toNat [])).getD 6 .top).toI) ((((x9.getD x11.toNat [])).getD 7 .top).toI) with
    | none => none
    | some (.nx b0_0_3 b1_0_3 b1_1_3 b1_2_3 b1_3_3 b1_4_3 b1_5_3 b1_6_3 b1_7_3) =>
      match F23 N b0_0_3 b1_5_3 b1_6_3 with
      | none => none
      | some (.r rb0_0_4 rb1_0_4 rb2_0_4) =>
        match L9_i223642_f31_6 N N rb0_0_4 ((rb0_0_4.length : Int)) 0 rb1_0_4 rb2_0_4 b0_0_3 with
        | none => none
        | some (.ret b1_0_7 b2_0_7 b3_0_7) =>
          L9_218 N n x9 x10 (IntKind.wrap .i64 (x11 + (1 : Int))) b3_0_7 b1
        | some (.x0 b1_0_8 b2_0_8 b3_0_8) =>
          tst (decide (((b1.length + 1) * 8) ≤ 140737488355328)) <|
          L9_218 N n x9 x10 (IntKind.wrap .i64 (x11 + (1 : Int))) b3_0_8 (b1 ++ (([[.int .i64 x11]] : List Row)))
    | some (.x1 b0_0_9 b1_0_9 b1_1_9 b1_2_9 b1_3_9 b1_4_9 b1_5_9 b1_6_9 b1_7_9) =>
      L9_218 N n x9 x10 (IntKind.wrap .i64 (x11 + (1 : Int))) b0_0_9 b1
  | false =>
    some (.x0 b0_0 b1)
def LFL9_218 (N : Nat) (n : Nat) (s : St) : Option OL9_218 := L9_218 N n ((Eng.look s.env 9).rows) ((Eng.look s.env 10).toI) ((Eng.look s.env 11).toI) (((s.mem.getD 0 .dead).cells.getD 0 .top).rows) ((s.mem.getD 1 .dead).rows)
def sgL9_218 : LSh := ⟨[(1, .one (.ptr 0 0 0)), (2, .one (.own 1)), (9, .one (.cell (.slice 30))), (10, .one (.cell (.int .i64))), (11, .one (.cell (.int .i64)))], [.var [.any] [.cell (.slice 30)], .row 3]⟩
def ceL9_218 : List Cv := [.mk 2 3]
def seL9_218 : St → List Nat := fun st => [(Eng.look st.env 1).id, (Eng.look st.env 2).id]
def xL9_218_x0 : XSh OL9_218 := ⟨[], ⟨[(2, .one (.own 1))], [.var [.any] [.cell (.slice 30)], .row 3]⟩, fun st => [0, (Eng.look st.env 2).id], fun s => .x0 (((s.mem.getD 0 .dead).cells.getD 0 .top).rows) ((s.mem.getD 1 .dead).rows)⟩
def xsL9_218 : Ex → St → Option (XSh OL9_218) := fun e st => match e with
  | .exit 0 => some xL9_218_x0
  | _ => none
def exL9_218 (o : OL9_218) : Ex := match o with | .x0 b0_0 b1 => (.exit 0)
def stL9_218 (o : OL9_218) : St := match o with | .x0 b0_0 b1 => ⟨[(2, .own 1)], [.var [.any] [.list 30 b0_0], .row 3 b1], [], .unk⟩
def elL9_218 {R : Type} (o : OL9_218) (k : Ex → St → Option R) : Option R := match o with | .x0 b0_0 b1 => k (.exit 0) ⟨[(2, .own 1)], [.var [.any] [.list 30 b0_0], .row 3 b1], [], .unk⟩
theorem heL9_218 {R : Type} (o : OL9_218) (k : Ex → St → Option R) : elL9_218 o k = k (exL9_218 o) (stL9_218 o) := by cases o <;> rfl
theorem hxL9_218 : ∀ e st x, xsL9_218 e st = some x → outOk x e exL9_218 stL9_218 := by
  intro e st x h
  unfold xsL9_218 at h
  repeat' split at h
  all_goals first
    | (injection h with h; subst h; exact fun lk M => ⟨rfl, rfl⟩)
    | cases h
noncomputable def T9_l218 (N : Nat) (R : Type) : LTab R := mkTab ⟨69, 285926784942311733276⟩ (csF9 N R) (noY) [] [(223642, fun st k => evrange CX (oneTab ⟨69, 285926784942311733276⟩ (inl 31 (fun args M k => evfn CX (T9_i223642_f31_r1 N R) code31 rs9_i223642_f31 args M k))) 1 [1] (.tmp 50) st k)] [(27954, fun st k => callLoop CX 2 35184372023296 ceJ9_27954 sgJ9_27954 seJ9_27954 ⟨69, 285926784942311733276⟩ (LFJ9_27954 N) elJ9_27954 st k)]
theorem okT9_l218 (N : Nat) (R : Type) : (T9_l218 N R).Ok CX code9 := mkTab_ok (hcsF9 N R) (noY_ok) (trivial) (⟨range_ok hX (path := [false, true, false, true, true, false, false, true, true, false, false, true, false, true, true, false, true]) (ps0 := nd1.2.1) (a0 := nd1.2.2.1) (b0 := nd1.2.2.2) (by kernel_rfl) (by rfl) (inl_ok fun {args M k r} h => evfn_sound hX (okT9_i223642_f31_r1 N R) Try.func31 hb31 rfl en31 (by kernel_rfl) h) (by kernel_rfl), trivial⟩) (⟨cut_ok hX (path := [false, true, false, false, true, true, false, false, true, false, true, true, false, true]) (by kernel_rfl) (by rfl) (okT9_c27954 N OJ9_27954) (hsJ9_27954 N) hxJ9_27954 rfl heJ9_27954, trivial⟩)
noncomputable def bdL9_218 : Code := match codeAt code9 [false, true, false, true, true, false, true] with | some (.loop c) => c | _ => .skip
theorem hsL9_218 (N : Nat) : ∀ (n : Nat) (lk : Nat → AV) (M : List Blk), LFL9_218 N (n + 1) (canS sgL9_218 lk M) = evk CX (T9_l218 N OL9_218) bdL9_218 (2 * 218) (canS sgL9_218 lk M) (kont CX 1 [] sgL9_218 (fun st => [0, (Eng.look st.env 2).id]) xsL9_218 (LFL9_218 N n)) := by intro n lk M; kernel_rfl
noncomputable def T9_r1 (N : Nat) (R : Type) : LTab R := mkTab ⟨69, 590295810358705651711⟩ (csF9 N R) (noY) [(218, fun st k => callLoop CX 1 285926784942311733276 ceL9_218 sgL9_218 seL9_218 ⟨69, 590295810358705651711⟩ (LFL9_218 N N) elL9_218 st k)] [] []
theorem okT9_r1 (N : Nat) (R : Type) : (T9_r1 N R).Ok CX code9 := mkTab_ok (hcsF9 N R) (noY_ok) (⟨loop_ok hX (path := [false, true, false, true, true, false, true]) (by kernel_rfl) (by rfl) (okT9_l218 N OL9_218) (fun _ _ => rfl) (hsL9_218 N) hxL9_218 rfl heL9_218, trivial⟩) (trivial) (trivial)
def rsF9 : List ResultVar := [.tmp 2]
def F9 : Nat → TF9
  | 0 => fun _ => none
  | N + 1 => fun x0 =>
  match F16 N x0 with
  | none => none
  | some (.r rx0_1) =>
    match !rx0_1 with
    | true =>
      some (.r (([] : List Row)))
    | false =>
      match L9_218 N N x0 ((x0.length : Int)) 0 x0 (([] : List Row)) with
      | none => none
      | some (.x0 b0_0_10 b1_10) =>
        some (.r b1_10)
def xRF9 : XSh R9 := ⟨[.mk 0 3], ⟨[(0, .one (.own 0))], [.row 3]⟩, fun st => [(Eng.look st.env 0).id], fun s => .r ((s.mem.getD 0 .dead).rows)⟩
theorem fsF9 : ∀ (N : Nat) (lk : Nat → AV) (M : List Blk), FFF9 (F9 (N + 1)) (canS sgF9 lk M) = evfn CX (T9_r1 N R9) code9 rsF9 (argsE 1 (canS sgF9 lk M).env) (canS sgF9 lk M).mem (goR CX 0 (fun _ => some xRF9)) := by intro N lk M; kernel_rfl
theorem soundF9 : ∀ N, RecOkF9 (F9 N)
  | 0, lk, M, o, h => by cases h
  | N + 1, lk, M, o, h => fn_sound hX (okT9_r1 N R9) Try.func9 hb9 rfl en9 (by kernel_rfl) (ys := fun _ => some xRF9) (fun st y h => by injection h with h; subst h; exact fun lk M => ⟨rfl, rfl⟩) ((fsF9 N lk M).symm.trans h)
def cvce_9_0 : List Cv := [.frz 0 (.slice 30)]
def selce_9_0 : St → List Nat := fun _ => []
noncomputable def ce_9_0 (Fx : TF9) (R : Type) (test : List AV → List Blk → Bool) : CE R := ⟨9, test, fun _ _ => none, fun args M k => tst (Nat.beq args.length 1) (callFn CX 0 cvce_9_0 sgF9 selce_9_0 (FFF9 Fx) elF9 args M k)⟩
theorem okce_9_0 (Fx : TF9) (h : RecOkF9 Fx) (R : Type) (test : List AV → List Blk → Bool) : CeOk CX (ce_9_0 Fx R test) := ce_ok hX (fun o k => by cases o; rfl) h en9 (fun args M ids h => by cases h)
def cvce_9_1 : List Cv := []
def selce_9_1 : St → List Nat := fun _ => []
noncomputable def ce_9_1 (Fx : TF9) (R : Type) (test : List AV → List Blk → Bool) : CE R := ⟨9, test, fun args M => some (selce_9_1 ⟨argEnv 0 args, M, [], .unk⟩), fun args M k => tst (Nat.beq args.length 1) (callFn CX 0 cvce_9_1 sgF9 selce_9_1 (FFF9 Fx) elF9 args M k)⟩
theorem okce_9_1 (Fx : TF9) (h : RecOkF9 Fx) (R : Type) (test : List AV → List Blk → Bool) : CeOk CX (ce_9_1 Fx R test) := ce_ok hX (fun o k => by cases o; rfl) h en9 (fun args M ids h => by injection h with h; exact ⟨rfl, h.symm⟩)
end Go.Proofs.Ytfggehkiglenjaa

namespace Go.Proofs.Ytfggehkiglenjaa
open Go Go.Eng
set_option maxRecDepth 100000

/-! ### F17: ceiling/master.Quiet -/
inductive R17 where
  | r (x0 : Bool)
abbrev TF17 := List Row → Int → Option R17
def sgF17 : LSh := ⟨[(0, .one (.cell (.slice 30))), (1, .one (.cell (.int .i64)))], []⟩
def FFF17 (Fx : TF17) (s : St) : Option R17 := Fx ((Eng.look s.env 0).rows) ((Eng.look s.env 1).toI)
def valF17 (o : R17) : AV := match o with | .r x0 => .bool x0
def memF17 (o : R17) : List Blk := match o with | .r x0 => []
def elF17 {R : Type} (o : R17) (k : AV → List Blk → Option R) : Option R := match o with | .r x0 => k (.bool x0) []
def RecOkF17 (Fx : TF17) : Prop := ∀ lk M o, FFF17 Fx (canS sgF17 lk M) = some o → FCalls CX 17 0 (argsE 2 (canS sgF17 lk M).env) (canS sgF17 lk M).mem (valF17 o) (memF17 o)
noncomputable def csF17 (N : Nat) (R : Type) : List (CE R) := [ce_16_0 (F16 N) R (fun _ _ => true), ce_22_0 (F22 N) R (fun _ _ => true)]
theorem hcsF17 (N : Nat) (R : Type) : AllE (CeOk CX) (csF17 N R) := ⟨okce_16_0 (F16 N) (soundF16 N) R (fun _ _ => true), okce_22_0 (F22 N) (soundF22 N) R (fun _ _ => true), trivial⟩
noncomputable def T17_r1 (N : Nat) (R : Type) : LTab R := mkTab ⟨22, 4194303⟩ (csF17 N R) (noY) [] [] []
theorem okT17_r1 (N : Nat) (R : Type) : (T17_r1 N R).Ok CX code17 := mkTab_ok (hcsF17 N R) (noY_ok) (trivial) (trivial) (trivial)
def rsF17 : List ResultVar := [.tmp 4]
def F17 : Nat → TF17
  | 0 => fun _ _ => none
  | N + 1 => fun x0 x1 =>
  match F16 N x0 with
  | none => none
  | some (.r rx0_1) =>
    match rx0_1 with
    | true =>
      match decide ((0 : Int) ≤ x1) with
      | true =>
        match decide (x1 < ((x0.length : Int))) with
        | true =>
          match F22 N x0 x1 with
          | none => none
          | some (.r rx0_2) =>
            some (.r rx0_2)
        | false =>
          some (.r false)
      | false =>
        some (.r false)
    | false =>
      some (.r false)
def xRF17 : XSh R17 := ⟨[], ⟨[(0, .one (.cell (.bool)))], []⟩, fun _ => [], fun s => .r ((Eng.look s.env 0).toB)⟩
theorem fsF17 : ∀ (N : Nat) (lk : Nat → AV) (M : List Blk), FFF17 (F17 (N + 1)) (canS sgF17 lk M) = evfn CX (T17_r1 N R17) code17 rsF17 (argsE 2 (canS sgF17 lk M).env) (canS sgF17 lk M).mem (goR CX 0 (fun _ => some xRF17)) := by intro N lk M; kernel_rfl
theorem soundF17 : ∀ N, RecOkF17 (F17 N)
  | 0, lk, M, o, h => by cases h
  | N + 1, lk, M, o, h => fn_sound hX (okT17_r1 N R17) Try.func17 hb17 rfl en17 (by kernel_rfl) (ys := fun _ => some xRF17) (fun st y h => by injection h with h; subst h; exact fun lk M => ⟨rfl, rfl⟩) ((fsF17 N lk M).symm.trans h)
def cvce_17_0 : List Cv := [.frz 0 (.slice 30)]
def selce_17_0 : St → List Nat := fun _ => []
noncomputable def ce_17_0 (Fx : TF17) (R : Type) (test : List AV → List Blk → Bool) : CE R := ⟨17, test, fun _ _ => none, fun args M k => tst (Nat.beq args.length 2) (callFn CX 0 cvce_17_0 sgF17 selce_17_0 (FFF17 Fx) elF17 args M k)⟩
theorem okce_17_0 (Fx : TF17) (h : RecOkF17 Fx) (R : Type) (test : List AV → List Blk → Bool) : CeOk CX (ce_17_0 Fx R test) := ce_ok hX (fun o k => by cases o; rfl) h en17 (fun args M ids h => by cases h)
def cvce_17_1 : List Cv := []
def selce_17_1 : St → List Nat := fun _ => []
noncomputable def ce_17_1 (Fx : TF17) (R : Type) (test : List AV → List Blk → Bool) : CE R := ⟨17, test, fun args M => some (selce_17_1 ⟨argEnv 0 args, M, [], .unk⟩), fun args M k => tst (Nat.beq args.length 2) (callFn CX 0 cvce_17_1 sgF17 selce_17_1 (FFF17 Fx) elF17 args M k)⟩
theorem okce_17_1 (Fx : TF17) (h : RecOkF17 Fx) (R : Type) (test : List AV → List Blk → Bool) : CeOk CX (ce_17_1 Fx R test) := ce_ok hX (fun o k => by cases o; rfl) h en17 (fun args M ids h => by injection h with h; exact ⟨rfl, h.symm⟩)
end Go.Proofs.Ytfggehkiglenjaa

namespace Go.Proofs.Ytfggehkiglenjaa
open Go Go.Eng
set_option maxRecDepth 100000

/-! ### F14: ceiling/master.Of -/
inductive R14 where
  | r (b0 : List Row)
abbrev TF14 := List Row → Int → Int → Option R14
def sgF14 : LSh := ⟨[(0, .one (.cell (.slice 30))), (1, .one (.cell (.int .i64))), (2, .one (.cell (.int .i64)))], []⟩
def FFF14 (Fx : TF14) (s : St) : Option R14 := Fx ((Eng.look s.env 0).rows) ((Eng.look s.env 1).toI) ((Eng.look s.env 2).toI)
def valF14 (o : R14) : AV := match o with | .r b0 => .own 0
def memF14 (o : R14) : List Blk := match o with | .r b0 => [.row 3 b0]
def elF14 {R : Type} (o : R14) (k : AV → List Blk → Option R) : Option R := match o with | .r b0 => k (.own 0) [.row 3 b0]
def RecOkF14 (Fx : TF14) : Prop := ∀ lk M o, FFF14 Fx (canS sgF14 lk M) = some o → FCalls CX 14 0 (argsE 3 (canS sgF14 lk M).env) (canS sgF14 lk M).mem (valF14 o) (memF14 o)
noncomputable def csF14 (N : Nat) (R : Type) : List (CE R) := [ce_16_0 (F16 N) R (fun _ _ => true), ce_23_0 (F23 N) R (fun _ _ => true)]
theorem hcsF14 (N : Nat) (R : Type) : AllE (CeOk CX) (csF14 N R) := ⟨okce_16_0 (F16 N) (soundF16 N) R (fun _ _ => true), okce_23_0 (F23 N) (soundF23 N) R (fun _ _ => true), trivial⟩
noncomputable def T14_s58 (N : Nat) (R : Type) : LTab R := mkTab ⟨25, 33554431⟩ (csF14 N R) (noY) [] [] []
theorem okT14_s58 (N : Nat) (R : Type) : (T14_s58 N R).Ok CX code14 := mkTab_ok (hcsF14 N R) (noY_ok) (trivial) (trivial) (trivial)
def rs14_i58_f31 : List ResultVar := []
inductive OL14_i58_f31_6 where
  | x0 (b1_0 : Int) (b2_0 : Int) (b4 : List Row)
def L14_i58_f31_6 (N : Nat) : Nat → List Row → Int → Int → Int → Int → List Row → Option OL14_i58_f31_6
  | 0 => fun _ _ _ _ _ _ => none
  | n + 1 => fun x7 x8 x9 b1_0 b2_0 b4 =>
  match decide (x9 < x8) with
  | true =>
    tst (decide ((0 : Int) ≤ x9) && decide (x9 < ((x7.length : Int)))) <|
    match decide ((0 : Int) < x9) with
    | true =>
      match ((((x7.getD x9.toNat [])).getD 5 .top).toI) == b1_0 with
      | true =>
        match decide (b2_0 < (0 : Int)) with
        | true =>
          tst (decide (((b4.length + 1) * 8) ≤ 140737488355328)) <|
          L14_i58_f31_6 N n x7 x8 (IntKind.wrap .i64 (x9 + (1 : Int))) b1_0 b2_0 (b4 ++ (([[.int .i64 x9]] : List Row)))
        | false =>
          match ((((x7.getD x9.toNat [])).getD 6 .top).toI) == b2_0 with
          | true =>
            tst (decide (((b4.length + 1) * 8) ≤ 140737488355328)) <|
            L14_i58_f31_6 N n x7 x8 (IntKind.wrap .i64 (x9 + (1 : Int))) b1_0 b2_0 (b4 ++ (([[.int .i64 x9]] : List Row)))
          | false =>
            L14_i58_f31_6 N n x7 x8 (IntKind.wrap .i64 (x9 + (1 : Int))) b1_0 b2_0 b4
      | false =>
        L14_i58_f31_6 N n x7 x8 (IntKind.wrap .i64 (x9 + (1 : Int))) b1_0 b2_0 b4
    | false =>
      L14_i58_f31_6 N n x7 x8 (IntKind.wrap .i64 (x9 + (1 : Int))) b1_0 b2_0 b4
  | false =>
    some (.x0 b1_0 b2_0 b4)
def LFL14_i58_f31_6 (N : Nat) (n : Nat) (s : St) : Option OL14_i58_f31_6 := L14_i58_f31_6 N n ((Eng.look s.env 7).rows) ((Eng.look s.env 8).toI) ((Eng.look s.env 9).toI) (((s.mem.getD 1 .dead).cells.getD 0 .top).toI) (((s.mem.getD 2 .dead).cells.getD 0 .top).toI) ((s.mem.getD 4 .dead).rows)
def sgL14_i58_f31_6 : LSh := ⟨[(0, .one (.yld 0)), (2, .one (.ptr 1 0 0)), (3, .one (.ptr 2 0 0)), (7, .one (.cell (.slice 30))), (8, .one (.cell (.int .i64))), (9, .one (.cell (.int .i64)))], [.loop 2 [(6, .one (.ptr 3 0 0))] none, .var [.int .i64] [.cell (.int .i64)], .var [.int .i64] [.cell (.int .i64)], .var [.any] [.own 4], .row 3]⟩
def ceL14_i58_f31_6 : List Cv := [.mkc (fun env M => ((M.getD ((Eng.look env 0).id) .dead).lenv.getD 0 (0, .top)).2.id) 0 3]
def seL14_i58_f31_6 : St → List Nat := fun st => [(Eng.look st.env 0).id, (Eng.look st.env 2).id, (Eng.look st.env 3).id, ((st.mem.getD ((Eng.look st.env 0).id) .dead).lenv.getD 0 (0, .top)).2.id, ((st.mem.getD (((st.mem.getD ((Eng.look st.env 0).id) .dead).lenv.getD 0 (0, .top)).2.id) .dead).cells.getD 0 .top).id]
def xL14_i58_f31_6_x0 : XSh OL14_i58_f31_6 := ⟨[], ⟨[], [.loop 2 [(6, .one (.ptr 3 0 0))] none, .var [.int .i64] [.cell (.int .i64)], .var [.int .i64] [.cell (.int .i64)], .var [.any] [.own 4], .row 3]⟩, fun st => [0, 1, 2, 3, ((st.mem.getD 3 .dead).cells.getD 0 .top).id], fun s => .x0 (((s.mem.getD 1 .dead).cells.getD 0 .top).toI) (((s.mem.getD 2 .dead).cells.getD 0 .top).toI) ((s.mem.getD 4 .dead).rows)⟩
def xsL14_i58_f31_6 : Ex → St → Option (XSh OL14_i58_f31_6) := fun e st => match e with
  | .exit 0 => some xL14_i58_f31_6_x0
  | _ => none
def exL14_i58_f31_6 (o : OL14_i58_f31_6) : Ex := match o with | .x0 b1_0 b2_0 b4 => (.exit 0)
def stL14_i58_f31_6 (o : OL14_i58_f31_6) : St := match o with | .x0 b1_0 b2_0 b4 => ⟨[], [.loop 2 [(6, .ptr 3 0 0)] false none, .var [.int .i64] [.int .i64 b1_0], .var [.int .i64] [.int .i64 b2_0], .var [.any] [.own 4], .row 3 b4], [], .unk⟩
def elL14_i58_f31_6 {R : Type} (o : OL14_i58_f31_6) (k : Ex → St → Option R) : Option R := match o with | .x0 b1_0 b2_0 b4 => k (.exit 0) ⟨[], [.loop 2 [(6, .ptr 3 0 0)] false none, .var [.int .i64] [.int .i64 b1_0], .var [.int .i64] [.int .i64 b2_0], .var [.any] [.own 4], .row 3 b4], [], .unk⟩
theorem heL14_i58_f31_6 {R : Type} (o : OL14_i58_f31_6) (k : Ex → St → Option R) : elL14_i58_f31_6 o k = k (exL14_i58_f31_6 o) (stL14_i58_f31_6 o) := by cases o <;> rfl
theorem hxL14_i58_f31_6 : ∀ e st x, xsL14_i58_f31_6 e st = some x → outOk x e exL14_i58_f31_6 stL14_i58_f31_6 := by
  intro e st x h
  unfold xsL14_i58_f31_6 at h
  repeat' split at h
  all_goals first
    | (injection h with h; subst h; exact fun lk M => ⟨rfl, rfl⟩)
    | cases h
noncomputable def T14_i58_f31_l6 (N : Nat) (R : Type) : LTab R := mkTab ⟨39, 549755813472⟩ (csF14 N R) (pickY [(2, fun id args M k => evyield CX (T14_s58 N R) 2 58 id args M k)]) [] [] []
theorem okT14_i58_f31_l6 (N : Nat) (R : Type) : (T14_i58_f31_l6 N R).Ok CX code31 := mkTab_ok (hcsF14 N R) (pickY_ok (es := [(2, fun id args M k => evyield CX (T14_s58 N R) 2 58 id args M k)]) ⟨fun {id args M k r} h => evyield_sound hX (okT14_s58 N R) (g := nd2.1) (ps := nd2.2.1) ⟨[false, true, false, true, true], by rfl, by kernel_rfl⟩ h, trivial⟩) (trivial) (trivial) (trivial)
noncomputable def bdL14_i58_f31_6 : Code := match codeAt code31 [false, true] with | some (.loop c) => c | _ => .skip
theorem hsL14_i58_f31_6 (N : Nat) : ∀ (n : Nat) (lk : Nat → AV) (M : List Blk), LFL14_i58_f31_6 N (n + 1) (canS sgL14_i58_f31_6 lk M) = evk CX (T14_i58_f31_l6 N OL14_i58_f31_6) bdL14_i58_f31_6 (2 * 6) (canS sgL14_i58_f31_6 lk M) (kont CX 4 [] sgL14_i58_f31_6 (fun st => [0, 1, 2, 3, ((st.mem.getD 3 .dead).cells.getD 0 .top).id]) xsL14_i58_f31_6 (LFL14_i58_f31_6 N n)) := by intro n lk M; kernel_rfl
noncomputable def T14_i58_f31_r1 (N : Nat) (R : Type) : LTab R := mkTab ⟨39, 549755813887⟩ (csF14 N R) (pickY [(2, fun id args M k => evyield CX (T14_s58 N R) 2 58 id args M k)]) [(6, fun st k => callLoop CX 4 549755813472 ceL14_i58_f31_6 sgL14_i58_f31_6 seL14_i58_f31_6 ⟨39, 549755813887⟩ (LFL14_i58_f31_6 N N) elL14_i58_f31_6 st k)] [] []
theorem okT14_i58_f31_r1 (N : Nat) (R : Type) : (T14_i58_f31_r1 N R).Ok CX code31 := mkTab_ok (hcsF14 N R) (pickY_ok (es := [(2, fun id args M k => evyield CX (T14_s58 N R) 2 58 id args M k)]) ⟨fun {id args M k r} h => evyield_sound hX (okT14_s58 N R) (g := nd2.1) (ps := nd2.2.1) ⟨[false, true, false, true, true], by rfl, by kernel_rfl⟩ h, trivial⟩) (⟨loop_ok hX (path := [false, true]) (by kernel_rfl) (by rfl) (okT14_i58_f31_l6 N OL14_i58_f31_6) (fun _ _ => rfl) (hsL14_i58_f31_6 N) hxL14_i58_f31_6 rfl heL14_i58_f31_6, trivial⟩) (trivial) (trivial)
noncomputable def T14_r1 (N : Nat) (R : Type) : LTab R := mkTab ⟨25, 33554431⟩ (csF14 N R) (noY) [] [(58, fun st k => evrange CX (oneTab ⟨25, 33554431⟩ (inl 31 (fun args M k => evfn CX (T14_i58_f31_r1 N R) code31 rs14_i58_f31 args M k))) 2 [6] (.tmp 18) st k)] []
theorem okT14_r1 (N : Nat) (R : Type) : (T14_r1 N R).Ok CX code14 := mkTab_ok (hcsF14 N R) (noY_ok) (trivial) (⟨range_ok hX (path := [false, true, false, true, true]) (ps0 := nd2.2.1) (a0 := nd2.2.2.1) (b0 := nd2.2.2.2) (by kernel_rfl) (by rfl) (inl_ok fun {args M k r} h => evfn_sound hX (okT14_i58_f31_r1 N R) Try.func31 hb31 rfl en31 (by kernel_rfl) h) (by kernel_rfl), trivial⟩) (trivial)
def rsF14 : List ResultVar := [.cell 6 23]
def F14 : Nat → TF14
  | 0 => fun _ _ _ => none
  | N + 1 => fun x0 x1 x2 =>
  match F16 N x0 with
  | none => none
  | some (.r rx0_1) =>
    match !rx0_1 with
    | true =>
      some (.r (([] : List Row)))
    | false =>
      match decide (x2 < (0 : Int)) with
      | true =>
        some (.r (([] : List Row)))
      | false =>
        match F23 N x0 x1 x2 with
        | none => none
        | some (.r rb0_0_2 rb1_0_2 rb2_0_2) =>
          match L14_i58_f31_6 N N rb0_0_2 ((rb0_0_2.length : Int)) 0 rb1_0_2 rb2_0_2 (([] : List Row)) with
          | none => none
          | some (.x0 b1_0_3 b2_0_3 b4_3) =>
            some (.r b4_3)
def xRF14 : XSh R14 := ⟨[.mk 0 3], ⟨[(0, .one (.own 0))], [.row 3]⟩, fun st => [(Eng.look st.env 0).id], fun s => .r ((s.mem.getD 0 .dead).rows)⟩
theorem fsF14 : ∀ (N : Nat) (lk : Nat → AV) (M : List Blk), FFF14 (F14 (N + 1)) (canS sgF14 lk M) = evfn CX (T14_r1 N R14) code14 rsF14 (argsE 3 (canS sgF14 lk M).env) (canS sgF14 lk M).mem (goR CX 0 (fun _ => some xRF14)) := by intro N lk M; kernel_rfl
theorem soundF14 : ∀ N, RecOkF14 (F14 N)
  | 0, lk, M, o, h => by cases h
  | N + 1, lk, M, o, h => fn_sound hX (okT14_r1 N R14) Try.func14 hb14 rfl en14 (by kernel_rfl) (ys := fun _ => some xRF14) (fun st y h => by injection h with h; subst h; exact fun lk M => ⟨rfl, rfl⟩) ((fsF14 N lk M).symm.trans h)
def cvce_14_0 : List Cv := []
def selce_14_0 : St → List Nat := fun _ => []
noncomputable def ce_14_0 (Fx : TF14) (R : Type) (test : List AV → List Blk → Bool) : CE R := ⟨14, test, fun args M => some (selce_14_0 ⟨argEnv 0 args, M, [], .unk⟩), fun args M k => tst (Nat.beq args.length 3) (callFn CX 0 cvce_14_0 sgF14 selce_14_0 (FFF14 Fx) elF14 args M k)⟩
theorem okce_14_0 (Fx : TF14) (h : RecOkF14 Fx) (R : Type) (test : List AV → List Blk → Bool) : CeOk CX (ce_14_0 Fx R test) := ce_ok hX (fun o k => by cases o; rfl) h en14 (fun args M ids h => by injection h with h; exact ⟨rfl, h.symm⟩)
def cvce_14_1 : List Cv := [.frz 0 (.slice 30)]
def selce_14_1 : St → List Nat := fun _ => []
noncomputable def ce_14_1 (Fx : TF14) (R : Type) (test : List AV → List Blk → Bool) : CE R := ⟨14, test, fun _ _ => none, fun args M k => tst (Nat.beq args.length 3) (callFn CX 0 cvce_14_1 sgF14 selce_14_1 (FFF14 Fx) elF14 args M k)⟩
theorem okce_14_1 (Fx : TF14) (h : RecOkF14 Fx) (R : Type) (test : List AV → List Blk → Bool) : CeOk CX (ce_14_1 Fx R test) := ce_ok hX (fun o k => by cases o; rfl) h en14 (fun args M ids h => by cases h)
end Go.Proofs.Ytfggehkiglenjaa

namespace Go.Proofs.Ytfggehkiglenjaa
open Go Go.Eng
set_option maxRecDepth 100000

/-! ### F20: ceiling/master.Over -/
inductive R20 where
  | r (x0 : Bool)
abbrev TF20 := List Row → Int → Int → Option R20
def sgF20 : LSh := ⟨[(0, .one (.cell (.slice 30))), (1, .one (.cell (.int .i64))), (2, .one (.cell (.int .i64)))], []⟩
def FFF20 (Fx : TF20) (s : St) : Option R20 := Fx ((Eng.look s.env 0).rows) ((Eng.look s.env 1).toI) ((Eng.look s.env 2).toI)
def valF20 (o : R20) : AV := match o with | .r x0 => .bool x0
def memF20 (o : R20) : List Blk := match o with | .r x0 => []
def elF20 {R : Type} (o : R20) (k : AV → List Blk → Option R) : Option R := match o with | .r x0 => k (.bool x0) []
def RecOkF20 (Fx : TF20) : Prop := ∀ lk M o, FFF20 Fx (canS sgF20 lk M) = some o → FCalls CX 20 0 (argsE 3 (canS sgF20 lk M).env) (canS sgF20 lk M).mem (valF20 o) (memF20 o)
noncomputable def csF20 (N : Nat) (R : Type) : List (CE R) := [ce_14_0 (F14 N) R (fun _ _ => true), ce_16_0 (F16 N) R (fun _ _ => true)]
theorem hcsF20 (N : Nat) (R : Type) : AllE (CeOk CX) (csF20 N R) := ⟨okce_14_0 (F14 N) (soundF14 N) R (fun _ _ => true), okce_16_0 (F16 N) (soundF16 N) R (fun _ _ => true), trivial⟩
inductive OJ20_6 where
  | nx
  | ret (x6 : Bool)
def J20_6 (N : Nat) : List Row → Int → Option OJ20_6 := fun x0 x1 =>
  match F16 N x0 with
  | none => none
  | some (.r rx0_1) =>
    match !rx0_1 with
    | true =>
      some (.ret false)
    | false =>
      match decide (x1 < (0 : Int)) with
      | true =>
        some (.ret false)
      | false =>
        match decide (((x0.length : Int)) ≤ x1) with
        | true =>
          some (.ret false)
        | false =>
          some .nx
def LFJ20_6 (N : Nat) (s : St) : Option OJ20_6 := J20_6 N ((Eng.look s.env 0).rows) ((Eng.look s.env 1).toI)
def sgJ20_6 : LSh := ⟨[(0, .one (.cell (.slice 30))), (1, .one (.cell (.int .i64)))], []⟩
def ceJ20_6 : List Cv := []
def seJ20_6 : St → List Nat := fun _ => []
def xJ20_6_nx : XSh OJ20_6 := ⟨[], ⟨[], []⟩, fun _ => [], fun s => .nx ⟩
def xJ20_6_ret : XSh OJ20_6 := ⟨[], ⟨[(6, .one (.cell (.bool)))], []⟩, fun _ => [], fun s => .ret ((Eng.look s.env 6).toB)⟩
def xsJ20_6 : Ex → St → Option (XSh OJ20_6) := fun e st => match e with
  | .normal => some xJ20_6_nx
  | .ret => some xJ20_6_ret
  | _ => none
def exJ20_6 (o : OJ20_6) : Ex := match o with | .nx => .normal | .ret x6 => .ret
def stJ20_6 (o : OJ20_6) : St := match o with | .nx => ⟨[], [], [], .unk⟩ | .ret x6 => ⟨[(6, .bool x6)], [], [], .unk⟩
def elJ20_6 {R : Type} (o : OJ20_6) (k : Ex → St → Option R) : Option R := match o with | .nx => k .normal ⟨[], [], [], .unk⟩ | .ret x6 => k .ret ⟨[(6, .bool x6)], [], [], .unk⟩
theorem heJ20_6 {R : Type} (o : OJ20_6) (k : Ex → St → Option R) : elJ20_6 o k = k (exJ20_6 o) (stJ20_6 o) := by cases o <;> rfl
theorem hxJ20_6 : ∀ e st x, xsJ20_6 e st = some x → outOk x e exJ20_6 stJ20_6 := by
  intro e st x h
  unfold xsJ20_6 at h
  repeat' split at h
  all_goals first
    | (injection h with h; subst h; exact fun lk M => ⟨rfl, rfl⟩)
    | cases h
noncomputable def T20_c6 (N : Nat) (R : Type) : LTab R := mkTab ⟨38, 4193856⟩ (csF20 N R) (noY) [] [] []
theorem okT20_c6 (N : Nat) (R : Type) : (T20_c6 N R).Ok CX code20 := mkTab_ok (hcsF20 N R) (noY_ok) (trivial) (trivial) (trivial)
noncomputable def bdJ20_6 : Code := (codeAt code20 [false, true]).getD .skip
theorem hsJ20_6 (N : Nat) : ∀ (lk : Nat → AV) (M : List Blk), LFJ20_6 N (canS sgJ20_6 lk M) = evk CX (T20_c6 N OJ20_6) bdJ20_6 6 (canS sgJ20_6 lk M) (kontX CX 0 xsJ20_6) := by intro lk M; kernel_rfl
inductive OL20_58 where
  | ret (x6 : Bool) (b0 : List Row)
  | x0 (b0 : List Row)
def L20_58 (N : Nat) : Nat → List Row → Int → Int → List Row → Option OL20_58
  | 0 => fun _ _ _ _ => none
  | n + 1 => fun x0 x26 x27 b0 =>
  match decide (x27 < x26) with
  | true =>
    tst (decide ((0 : Int) ≤ x27) && decide (x27 < ((b0.length : Int)))) <|
    tst (decide (x27.toNat < b0.length)) <|
    tst (decide ((0 : Int) ≤ ((((b0.getD x27.toNat [])).getD 0 .top).toI)) && decide ((((b0.getD x27.toNat [])).getD 0 .top).toI < ((x0.length : Int)))) <|
    match !((((x0.getD (((((b0.getD x27.toNat [])).getD 0 .top).toI).toNat) [])).getD 1 .top).toB) with
    | true =>
      some (.ret false b0)
    | false =>
      L20_58 N n x0 x26 (IntKind.wrap .i64 (x27 + (1 : Int))) b0
  | false =>
    some (.x0 b0)
def LFL20_58 (N : Nat) (n : Nat) (s : St) : Option OL20_58 := L20_58 N n ((Eng.look s.env 0).rows) ((Eng.look s.env 26).toI) ((Eng.look s.env 27).toI) ((s.mem.getD 0 .dead).rows)
def sgL20_58 : LSh := ⟨[(0, .one (.cell (.slice 30))), (25, .one (.own 0)), (26, .one (.cell (.int .i64))), (27, .one (.cell (.int .i64)))], [.row 3]⟩
def ceL20_58 : List Cv := []
def seL20_58 : St → List Nat := fun st => [(Eng.look st.env 25).id]
def xL20_58_ret : XSh OL20_58 := ⟨[], ⟨[(6, .one (.cell (.bool)))], [.row 3]⟩, fun st => [0], fun s => .ret ((Eng.look s.env 6).toB) ((s.mem.getD 0 .dead).rows)⟩
def xL20_58_x0 : XSh OL20_58 := ⟨[], ⟨[], [.row 3]⟩, fun st => [0], fun s => .x0 ((s.mem.getD 0 .dead).rows)⟩
def xsL20_58 : Ex → St → Option (XSh OL20_58) := fun e st => match e with
  | .ret => some xL20_58_ret
  | .exit 0 => some xL20_58_x0
  | _ => none
def exL20_58 (o : OL20_58) : Ex := match o with | .ret x6 b0 => .ret | .x0 b0 => (.exit 0)
def stL20_58 (o : OL20_58) : St := match o with | .ret x6 b0 => ⟨[(6, .bool x6)], [.row 3 b0], [], .unk⟩ | .x0 b0 => ⟨[], [.row 3 b0], [], .unk⟩
def elL20_58 {R : Type} (o : OL20_58) (k : Ex → St → Option R) : Option R := match o with | .ret x6 b0 => k .ret ⟨[(6, .bool x6)], [.row 3 b0], [], .unk⟩ | .x0 b0 => k (.exit 0) ⟨[], [.row 3 b0], [], .unk⟩
theorem heL20_58 {R : Type} (o : OL20_58) (k : Ex → St → Option R) : elL20_58 o k = k (exL20_58 o) (stL20_58 o) := by cases o <;> rfl
theorem hxL20_58 : ∀ e st x, xsL20_58 e st = some x → outOk x e exL20_58 stL20_58 := by
  intro e st x h
  unfold xsL20_58 at h
  repeat' split at h
  all_goals first
    | (injection h with h; subst h; exact fun lk M => ⟨rfl, rfl⟩)
    | cases h
noncomputable def T20_l58 (N : Nat) (R : Type) : LTab R := mkTab ⟨38, 274743689536⟩ (csF20 N R) (noY) [] [] []
theorem okT20_l58 (N : Nat) (R : Type) : (T20_l58 N R).Ok CX code20 := mkTab_ok (hcsF20 N R) (noY_ok) (trivial) (trivial) (trivial)
noncomputable def bdL20_58 : Code := match codeAt code20 [false, true, false, true, true] with | some (.loop c) => c | _ => .skip
theorem hsL20_58 (N : Nat) : ∀ (n : Nat) (lk : Nat → AV) (M : List Blk), LFL20_58 N (n + 1) (canS sgL20_58 lk M) = evk CX (T20_l58 N OL20_58) bdL20_58 (2 * 58) (canS sgL20_58 lk M) (kont CX 1 [] sgL20_58 (fun st => [0]) xsL20_58 (LFL20_58 N n)) := by intro n lk M; kernel_rfl
noncomputable def T20_r1 (N : Nat) (R : Type) : LTab R := mkTab ⟨38, 274877906943⟩ (csF20 N R) (noY) [(58, fun st k => callLoop CX 1 274743689536 ceL20_58 sgL20_58 seL20_58 ⟨38, 274877906943⟩ (LFL20_58 N N) elL20_58 st k)] [] [(6, fun st k => callLoop CX 0 4193856 ceJ20_6 sgJ20_6 seJ20_6 ⟨38, 274877906943⟩ (LFJ20_6 N) elJ20_6 st k)]
theorem okT20_r1 (N : Nat) (R : Type) : (T20_r1 N R).Ok CX code20 := mkTab_ok (hcsF20 N R) (noY_ok) (⟨loop_ok hX (path := [false, true, false, true, true]) (by kernel_rfl) (by rfl) (okT20_l58 N OL20_58) (fun _ _ => rfl) (hsL20_58 N) hxL20_58 rfl heL20_58, trivial⟩) (trivial) (⟨cut_ok hX (path := [false, true]) (by kernel_rfl) (by rfl) (okT20_c6 N OJ20_6) (hsJ20_6 N) hxJ20_6 rfl heJ20_6, trivial⟩)
def rsF20 : List ResultVar := [.tmp 6]
def F20 : Nat → TF20
  | 0 => fun _ _ _ => none
  | N + 1 => fun x0 x1 x2 =>
  match J20_6 N x0 x1 with
  | none => none
  | some (.nx) =>
    match F14 N x0 x1 x2 with
    | none => none
    | some (.r rb0_3) =>
      match L20_58 N N x0 ((rb0_3.length : Int)) 0 rb0_3 with
      | none => none
      | some (.ret x6_4 b0_4) =>
        some (.r x6_4)
      | some (.x0 b0_5) =>
        some (.r true)
  | some (.ret x6_6) =>
    some (.r x6_6)
def xRF20 : XSh R20 := ⟨[], ⟨[(0, .one (.cell (.bool)))], []⟩, fun _ => [], fun s => .r ((Eng.look s.env 0).toB)⟩
theorem fsF20 : ∀ (N : Nat) (lk : Nat → AV) (M : List Blk), FFF20 (F20 (N + 1)) (canS sgF20 lk M) = evfn CX (T20_r1 N R20) code20 rsF20 (argsE 3 (canS sgF20 lk M).env) (canS sgF20 lk M).mem (goR CX 0 (fun _ => some xRF20)) := by intro N lk M; kernel_rfl
theorem soundF20 : ∀ N, RecOkF20 (F20 N)
  | 0, lk, M, o, h => by cases h
  | N + 1, lk, M, o, h => fn_sound hX (okT20_r1 N R20) Try.func20 hb20 rfl en20 (by kernel_rfl) (ys := fun _ => some xRF20) (fun st y h => by injection h with h; subst h; exact fun lk M => ⟨rfl, rfl⟩) ((fsF20 N lk M).symm.trans h)
def cvce_20_0 : List Cv := []
def selce_20_0 : St → List Nat := fun _ => []
noncomputable def ce_20_0 (Fx : TF20) (R : Type) (test : List AV → List Blk → Bool) : CE R := ⟨20, test, fun args M => some (selce_20_0 ⟨argEnv 0 args, M, [], .unk⟩), fun args M k => tst (Nat.beq args.length 3) (callFn CX 0 cvce_20_0 sgF20 selce_20_0 (FFF20 Fx) elF20 args M k)⟩
theorem okce_20_0 (Fx : TF20) (h : RecOkF20 Fx) (R : Type) (test : List AV → List Blk → Bool) : CeOk CX (ce_20_0 Fx R test) := ce_ok hX (fun o k => by cases o; rfl) h en20 (fun args M ids h => by injection h with h; exact ⟨rfl, h.symm⟩)
def cvce_20_1 : List Cv := [.frz 0 (.slice 30)]
def selce_20_1 : St → List Nat := fun _ => []
noncomputable def ce_20_1 (Fx : TF20) (R : Type) (test : List AV → List Blk → Bool) : CE R := ⟨20, test, fun _ _ => none, fun args M k => tst (Nat.beq args.length 3) (callFn CX 0 cvce_20_1 sgF20 selce_20_1 (FFF20 Fx) elF20 args M k)⟩
theorem okce_20_1 (Fx : TF20) (h : RecOkF20 Fx) (R : Type) (test : List AV → List Blk → Bool) : CeOk CX (ce_20_1 Fx R test) := ce_ok hX (fun o k => by cases o; rfl) h en20 (fun args M ids h => by cases h)
end Go.Proofs.Ytfggehkiglenjaa

namespace Go.Proofs.Ytfggehkiglenjaa
open Go Go.Eng
set_option maxRecDepth 100000

/-! ### F21: ceiling/ceilinglaw33.some -/
inductive R21 where
  | r (b0 : List Row)
abbrev TF21 := Option R21
def sgF21 : LSh := ⟨[], []⟩
def FFF21 (Fx : TF21) (s : St) : Option R21 := Fx 
def valF21 (o : R21) : AV := match o with | .r b0 => .own 0
def memF21 (o : R21) : List Blk := match o with | .r b0 => [.row 30 b0]
def elF21 {R : Type} (o : R21) (k : AV → List Blk → Option R) : Option R := match o with | .r b0 => k (.own 0) [.row 30 b0]
def RecOkF21 (Fx : TF21) : Prop := ∀ lk M o, FFF21 Fx (canS sgF21 lk M) = some o → FCalls CX 21 0 (argsE 0 (canS sgF21 lk M).env) (canS sgF21 lk M).mem (valF21 o) (memF21 o)
noncomputable def csF21 (N : Nat) (R : Type) : List (CE R) := []
theorem hcsF21 (N : Nat) (R : Type) : AllE (CeOk CX) (csF21 N R) := trivial
noncomputable def T21_r1 (N : Nat) (R : Type) : LTab R := mkTab ⟨7, 127⟩ (csF21 N R) (noY) [] [] []
theorem okT21_r1 (N : Nat) (R : Type) : (T21_r1 N R).Ok CX code21 := mkTab_ok (hcsF21 N R) (noY_ok) (trivial) (trivial) (trivial)
def rsF21 : List ResultVar := [.tmp 0]
def F21 : Nat → TF21
  | 0 => none
  | N + 1 => some (.r (([[.bool true, .bool false, .bool false, .bool false, .bool false, .int .i64 ((-1)), .int .i64 ((-1)), .int .i64 0], [.bool true, .bool false, .bool false, .bool true, .bool false, .int .i64 0, .int .i64 0, .int .i64 ((-1))], [.bool true, .bool false, .bool false, .bool true, .bool false, .int .i64 0, .int .i64 0, .int .i64 ((-1))], [.bool true, .bool false, .bool false, .bool true, .bool false, .int .i64 1, .int .i64 0, .int .i64 ((-1))], [.bool true, .bool false, .bool false, .bool true, .bool false, .int .i64 2, .int .i64 1, .int .i64 ((-1))]] : List Row)))
def xRF21 : XSh R21 := ⟨[], ⟨[(0, .one (.own 0))], [.row 30]⟩, fun st => [(Eng.look st.env 0).id], fun s => .r ((s.mem.getD 0 .dead).rows)⟩
theorem fsF21 : ∀ (N : Nat) (lk : Nat → AV) (M : List Blk), FFF21 (F21 (N + 1)) (canS sgF21 lk M) = evfn CX (T21_r1 N R21) code21 rsF21 (argsE 0 (canS sgF21 lk M).env) (canS sgF21 lk M).mem (goR CX 0 (fun _ => some xRF21)) := by intro N lk M; kernel_rfl
theorem soundF21 : ∀ N, RecOkF21 (F21 N)
  | 0, lk, M, o, h => by cases h
  | N + 1, lk, M, o, h => fn_sound hX (okT21_r1 N R21) Try.func21 hb21 rfl en21 (by kernel_rfl) (ys := fun _ => some xRF21) (fun st y h => by injection h with h; subst h; exact fun lk M => ⟨rfl, rfl⟩) ((fsF21 N lk M).symm.trans h)
def cvce_21_0 : List Cv := []
def selce_21_0 : St → List Nat := fun _ => []
noncomputable def ce_21_0 (Fx : TF21) (R : Type) (test : List AV → List Blk → Bool) : CE R := ⟨21, test, fun args M => some (selce_21_0 ⟨argEnv 0 args, M, [], .unk⟩), fun args M k => tst (Nat.beq args.length 0) (callFn CX 0 cvce_21_0 sgF21 selce_21_0 (FFF21 Fx) elF21 args M k)⟩
theorem okce_21_0 (Fx : TF21) (h : RecOkF21 Fx) (R : Type) (test : List AV → List Blk → Bool) : CeOk CX (ce_21_0 Fx R test) := ce_ok hX (fun o k => by cases o; rfl) h en21 (fun args M ids h => by injection h with h; exact ⟨rfl, h.symm⟩)
end Go.Proofs.Ytfggehkiglenjaa

namespace Go.Proofs.Ytfggehkiglenjaa
open Go Go.Eng
set_option maxRecDepth 100000

/-! ### F25: ceiling/master.Abort.1 -/
inductive R25 where
  | r (b0_0 : List Row) (b1 : List AV)
abbrev TF25 := Int → List Row → List AV → Option R25
def sgF25 : LSh := ⟨[(0, .one (.cell (.int .i64))), (1, .one (.ptr 0 0 0)), (2, .one (.ptr 1 0 0)), (3, .one (.ptr 2 0 0))], [.var [.any] [.cell (.slice 30)], .arr [.bool, .bool, .bool, .bool, .bool, .bool, .bool, .bool, .bool, .bool, .bool, .bool, .bool, .bool, .bool, .bool, .bool, .bool, .bool, .bool, .bool, .bool, .bool, .bool, .bool, .bool, .bool, .bool, .bool, .bool, .bool, .bool], .var [.any] [.cl 25 [(0, 0, 0), (1, 0, 0), (2, 0, 0)]]]⟩
def FFF25 (Fx : TF25) (s : St) : Option R25 := Fx ((Eng.look s.env 0).toI) (((s.mem.getD 0 .dead).cells.getD 0 .top).rows) ((s.mem.getD 1 .dead).cells)
def valF25 (o : R25) : AV := match o with | .r b0_0 b1 => .tup []
def memF25 (o : R25) : List Blk := match o with | .r b0_0 b1 => [.var [.any] [.list 30 b0_0], .var [.bool, .bool, .bool, .bool, .bool, .bool, .bool, .bool, .bool, .bool, .bool, .bool, .bool, .bool, .bool, .bool, .bool, .bool, .bool, .bool, .bool, .bool, .bool, .bool, .bool, .bool, .bool, .bool, .bool, .bool, .bool, .bool] b1, .var [.any] [.clos 25 [] [.ptr 0 0 0, .ptr 1 0 0, .ptr 2 0 0]]]
def elF25 {R : Type} (o : R25) (k : AV → List Blk → Option R) : Option R := match o with | .r b0_0 b1 => k (.tup []) [.var [.any] [.list 30 b0_0], .var [.bool, .bool, .bool, .bool, .bool, .bool, .bool, .bool, .bool, .bool, .bool, .bool, .bool, .bool, .bool, .bool, .bool, .bool, .bool, .bool, .bool, .bool, .bool, .bool, .bool, .bool, .bool, .bool, .bool, .bool, .bool, .bool] b1, .var [.any] [.clos 25 [] [.ptr 0 0 0, .ptr 1 0 0, .ptr 2 0 0]]]
def RecOkF25 (Fx : TF25) : Prop := ∀ lk M o, FFF25 Fx (canS sgF25 lk M) = some o → FCalls CX 25 3 (argsE 4 (canS sgF25 lk M).env) (canS sgF25 lk M).mem (valF25 o) (memF25 o)
def cvce_25_0 : List Cv := []
def selce_25_0 : St → List Nat := fun st => [(Eng.look st.env 1).id, (Eng.look st.env 2).id, (Eng.look st.env 3).id]
noncomputable def ce_25_0 (Fx : TF25) (R : Type) (test : List AV → List Blk → Bool) : CE R := ⟨25, test, fun args M => some (selce_25_0 ⟨argEnv 0 args, M, [], .unk⟩), fun args M k => tst (Nat.beq args.length 4) (callFn CX 3 cvce_25_0 sgF25 selce_25_0 (FFF25 Fx) elF25 args M k)⟩
theorem okce_25_0 (Fx : TF25) (h : RecOkF25 Fx) (R : Type) (test : List AV → List Blk → Bool) : CeOk CX (ce_25_0 Fx R test) := ce_ok hX (fun o k => by cases o; rfl) h en25 (fun args M ids h => by injection h with h; exact ⟨rfl, h.symm⟩)
noncomputable def csF25 (rec : TF25) (N : Nat) (R : Type) : List (CE R) := [ce_23_0 (F23 N) R (fun _ _ => true), ce_25_0 rec R (fun _ _ => true)]
theorem hcsF25 (rec : TF25) (hrec : RecOkF25 rec) (N : Nat) (R : Type) : AllE (CeOk CX) (csF25 rec N R) := ⟨okce_23_0 (F23 N) (soundF23 N) R (fun _ _ => true), okce_25_0 rec hrec R (fun _ _ => true), trivial⟩
noncomputable def T25_s30 (rec : TF25) (N : Nat) (R : Type) : LTab R := mkTab ⟨50, 1125899906842623⟩ (csF25 rec N R) (noY) [] [] []
theorem okT25_s30 (rec : TF25) (hrec : RecOkF25 rec) (N : Nat) (R : Type) : (T25_s30 rec N R).Ok CX code25 := mkTab_ok (hcsF25 rec hrec N R) (noY_ok) (trivial) (trivial) (trivial)
def rs25_i30_f31 : List ResultVar := []
inductive OL25_i30_f31_6 where
  | x0 (b1_0 : Int) (b2_0 : Int) (b4_0 : List Row) (b5 : List AV)
def L25_i30_f31_6 (rec : TF25) (N : Nat) : Nat → List Row → Int → Int → Int → Int → List Row → List AV → Option OL25_i30_f31_6
  | 0 => fun _ _ _ _ _ _ _ => none
  | n + 1 => fun x7 x8 x9 b1_0 b2_0 b4_0 b5 =>
  match decide (x9 < x8) with
  | true =>
    tst (decide ((0 : Int) ≤ x9) && decide (x9 < ((x7.length : Int)))) <|
    match decide ((0 : Int) < x9) with
    | true =>
      match ((((x7.getD x9.toNat [])).getD 5 .top).toI) == b1_0 with
      | true =>
        match decide (b2_0 < (0 : Int)) with
        | true =>
          match rec x9 b4_0 b5 with
          | none => none
          | some (.r rb0_0_3 rb1_3) =>
            L25_i30_f31_6 rec N n x7 x8 (IntKind.wrap .i64 (x9 + (1 : Int))) b1_0 b2_0 rb0_0_3 rb1_3
        | false =>
          match ((((x7.getD x9.toNat [])).getD 6 .top).toI) == b2_0 with
          | true =>
            match rec x9 b4_0 b5 with
            | none => none
            | some (.r rb0_0_4 rb1_4) =>
              L25_i30_f31_6 rec N n x7 x8 (IntKind.wrap .i64 (x9 + (1 : Int))) b1_0 b2_0 rb0_0_4 rb1_4
          | false =>
            L25_i30_f31_6 rec N n x7 x8 (IntKind.wrap .i64 (x9 + (1 : Int))) b1_0 b2_0 b4_0 b5
      | false =>
        L25_i30_f31_6 rec N n x7 x8 (IntKind.wrap .i64 (x9 + (1 : Int))) b1_0 b2_0 b4_0 b5
    | false =>
      L25_i30_f31_6 rec N n x7 x8 (IntKind.wrap .i64 (x9 + (1 : Int))) b1_0 b2_0 b4_0 b5
  | false =>
    some (.x0 b1_0 b2_0 b4_0 b5)
def LFL25_i30_f31_6 (rec : TF25) (N : Nat) (n : Nat) (s : St) : Option OL25_i30_f31_6 := L25_i30_f31_6 rec N n ((Eng.look s.env 7).rows) ((Eng.look s.env 8).toI) ((Eng.look s.env 9).toI) (((s.mem.getD 1 .dead).cells.getD 0 .top).toI) (((s.mem.getD 2 .dead).cells.getD 0 .top).toI) (((s.mem.getD 4 .dead).cells.getD 0 .top).rows) ((s.mem.getD 5 .dead).cells)
def sgL25_i30_f31_6 : LSh := ⟨[(0, .one (.yld 0)), (2, .one (.ptr 1 0 0)), (3, .one (.ptr 2 0 0)), (7, .one (.cell (.slice 30))), (8, .one (.cell (.int .i64))), (9, .one (.cell (.int .i64)))], [.loop 3 [(3, .one (.ptr 3 0 0))] none, .var [.int .i64] [.cell (.int .i64)], .var [.int .i64] [.cell (.int .i64)], .var [.any] [.cl 25 [(4, 0, 0), (5, 0, 0), (3, 0, 0)]], .var [.any] [.cell (.slice 30)], .arr [.bool, .bool, .bool, .bool, .bool, .bool, .bool, .bool, .bool, .bool, .bool, .bool, .bool, .bool, .bool, .bool, .bool, .bool, .bool, .bool, .bool, .bool, .bool, .bool, .bool, .bool, .bool, .bool, .bool, .bool, .bool, .bool]]⟩
def ceL25_i30_f31_6 : List Cv := []
def seL25_i30_f31_6 : St → List Nat := fun st => [(Eng.look st.env 0).id, (Eng.look st.env 2).id, (Eng.look st.env 3).id, ((st.mem.getD ((Eng.look st.env 0).id) .dead).lenv.getD 0 (0, .top)).2.id, (((st.mem.getD (((st.mem.getD ((Eng.look st.env 0).id) .dead).lenv.getD 0 (0, .top)).2.id) .dead).cells.getD 0 .top).caps.getD 0 .top).id, (((st.mem.getD (((st.mem.getD ((Eng.look st.env 0).id) .dead).lenv.getD 0 (0, .top)).2.id) .dead).cells.getD 0 .top).caps.getD 1 .top).id]
def xL25_i30_f31_6_x0 : XSh OL25_i30_f31_6 := ⟨[], ⟨[], [.loop 3 [(3, .one (.ptr 3 0 0))] none, .var [.int .i64] [.cell (.int .i64)], .var [.int .i64] [.cell (.int .i64)], .var [.any] [.cl 25 [(4, 0, 0), (5, 0, 0), (3, 0, 0)]], .var [.any] [.cell (.slice 30)], .arr [.bool, .bool, .bool, .bool, .bool, .bool, .bool, .bool, .bool, .bool, .bool, .bool, .bool, .bool, .bool, .bool, .bool, .bool, .bool, .bool, .bool, .bool, .bool, .bool, .bool, .bool, .bool, .bool, .bool, .bool, .bool, .bool]]⟩, fun st => [0, 1, 2, 3, 4, 5], fun s => .x0 (((s.mem.getD 1 .dead).cells.getD 0 .top).toI) (((s.mem.getD 2 .dead).cells.getD 0 .top).toI) (((s.mem.getD 4 .dead).cells.getD 0 .top).rows) ((s.mem.getD 5 .dead).cells)⟩
def xsL25_i30_f31_6 : Ex → St → Option (XSh OL25_i30_f31_6) := fun e st => match e with
  | .exit 0 => some xL25_i30_f31_6_x0
  | _ => none
def exL25_i30_f31_6 (o : OL25_i30_f31_6) : Ex := match o with | .x0 b1_0 b2_0 b4_0 b5 => (.exit 0)
def stL25_i30_f31_6 (o : OL25_i30_f31_6) : St := match o with | .x0 b1_0 b2_0 b4_0 b5 => ⟨[], [.loop 3 [(3, .ptr 3 0 0)] false none, .var [.int .i64] [.int .i64 b1_0], .var [.int .i64] [.int .i64 b2_0], .var [.any] [.clos 25 [] [.ptr 4 0 0, .ptr 5 0 0, .ptr 3 0 0]], .var [.any] [.list 30 b4_0], .var [.bool, .bool, .bool, .bool, .bool, .bool, .bool, .bool, .bool, .bool, .bool, .bool, .bool, .bool, .bool, .bool, .bool, .bool, .bool, .bool, .bool, .bool, .bool, .bool, .bool, .bool, .bool, .bool, .bool, .bool, .bool, .bool] b5], [], .unk⟩
def elL25_i30_f31_6 {R : Type} (o : OL25_i30_f31_6) (k : Ex → St → Option R) : Option R := match o with | .x0 b1_0 b2_0 b4_0 b5 => k (.exit 0) ⟨[], [.loop 3 [(3, .ptr 3 0 0)] false none, .var [.int .i64] [.int .i64 b1_0], .var [.int .i64] [.int .i64 b2_0], .var [.any] [.clos 25 [] [.ptr 4 0 0, .ptr 5 0 0, .ptr 3 0 0]], .var [.any] [.list 30 b4_0], .var [.bool, .bool, .bool, .bool, .bool, .bool, .bool, .bool, .bool, .bool, .bool, .bool, .bool, .bool, .bool, .bool, .bool, .bool, .bool, .bool, .bool, .bool, .bool, .bool, .bool, .bool, .bool, .bool, .bool, .bool, .bool, .bool] b5], [], .unk⟩
theorem heL25_i30_f31_6 {R : Type} (o : OL25_i30_f31_6) (k : Ex → St → Option R) : elL25_i30_f31_6 o k = k (exL25_i30_f31_6 o) (stL25_i30_f31_6 o) := by cases o <;> rfl
theorem hxL25_i30_f31_6 : ∀ e st x, xsL25_i30_f31_6 e st = some x → outOk x e exL25_i30_f31_6 stL25_i30_f31_6 := by
  intro e st x h
  unfold xsL25_i30_f31_6 at h
  repeat' split at h
  all_goals first
    | (injection h with h; subst h; exact fun lk M => ⟨rfl, rfl⟩)
    | cases h
noncomputable def T25_i30_f31_l6 (rec : TF25) (N : Nat) (R : Type) : LTab R := mkTab ⟨39, 549755813472⟩ (csF25 rec N R) (pickY [(3, fun id args M k => evyield CX (T25_s30 rec N R) 3 30 id args M k)]) [] [] []
theorem okT25_i30_f31_l6 (rec : TF25) (hrec : RecOkF25 rec) (N : Nat) (R : Type) : (T25_i30_f31_l6 rec N R).Ok CX code31 := mkTab_ok (hcsF25 rec hrec N R) (pickY_ok (es := [(3, fun id args M k => evyield CX (T25_s30 rec N R) 3 30 id args M k)]) ⟨fun {id args M k r} h => evyield_sound hX (okT25_s30 rec hrec N R) (g := nd3.1) (ps := nd3.2.1) ⟨[false, true, true, true], by rfl, by kernel_rfl⟩ h, trivial⟩) (trivial) (trivial) (trivial)
noncomputable def bdL25_i30_f31_6 : Code := match codeAt code31 [false, true] with | some (.loop c) => c | _ => .skip
theorem hsL25_i30_f31_6 (rec : TF25) (N : Nat) : ∀ (n : Nat) (lk : Nat → AV) (M : List Blk), LFL25_i30_f31_6 rec N (n + 1) (canS sgL25_i30_f31_6 lk M) = evk CX (T25_i30_f31_l6 rec N OL25_i30_f31_6) bdL25_i30_f31_6 (2 * 6) (canS sgL25_i30_f31_6 lk M) (kont CX 6 [] sgL25_i30_f31_6 (fun st => [0, 1, 2, 3, 4, 5]) xsL25_i30_f31_6 (LFL25_i30_f31_6 rec N n)) := by intro n lk M; kernel_rfl
noncomputable def T25_i30_f31_r1 (rec : TF25) (N : Nat) (R : Type) : LTab R := mkTab ⟨39, 549755813887⟩ (csF25 rec N R) (pickY [(3, fun id args M k => evyield CX (T25_s30 rec N R) 3 30 id args M k)]) [(6, fun st k => callLoop CX 6 549755813472 ceL25_i30_f31_6 sgL25_i30_f31_6 seL25_i30_f31_6 ⟨39, 549755813887⟩ (LFL25_i30_f31_6 rec N N) elL25_i30_f31_6 st k)] [] []
theorem okT25_i30_f31_r1 (rec : TF25) (hrec : RecOkF25 rec) (N : Nat) (R : Type) : (T25_i30_f31_r1 rec N R).Ok CX code31 := mkTab_ok (hcsF25 rec hrec N R) (pickY_ok (es := [(3, fun id args M k => evyield CX (T25_s30 rec N R) 3 30 id args M k)]) ⟨fun {id args M k r} h => evyield_sound hX (okT25_s30 rec hrec N R) (g := nd3.1) (ps := nd3.2.1) ⟨[false, true, true, true], by rfl, by kernel_rfl⟩ h, trivial⟩) (⟨loop_ok hX (path := [false, true]) (by kernel_rfl) (by rfl) (okT25_i30_f31_l6 rec hrec N OL25_i30_f31_6) (fun _ _ => rfl) (hsL25_i30_f31_6 rec N) hxL25_i30_f31_6 rfl heL25_i30_f31_6, trivial⟩) (trivial) (trivial)
inductive OJ25_2 where
  | nx (b0_0 : List Row) (b1 : List AV)
  | ret (b0_0 : List Row) (b1 : List AV)
def J25_2 (rec : TF25) (N : Nat) : Int → List Row → List AV → Option OJ25_2 := fun x0 b0_0 b1 =>
  match decide (x0 < (0 : Int)) with
  | true =>
    some (.ret b0_0 b1)
  | false =>
    match decide (((b0_0.length : Int)) ≤ x0) with
    | true =>
      some (.ret b0_0 b1)
    | false =>
      tst (decide ((0 : Int) ≤ x0) && decide (x0 < (32 : Int))) <|
      tst (decide (((0 + (x0.toNat * 1)) + 1) ≤ 32)) <|
      match (b1.getD (0 + (x0.toNat * 1)) .top).toB with
      | true =>
        some (.ret b0_0 b1)
      | false =>
        tst (decide ((0 : Int) ≤ x0) && decide (x0 < ((b0_0.length : Int)))) <|
        match !((((b0_0.getD x0.toNat [])).getD 0 .top).toB) with
        | true =>
          some (.ret b0_0 b1)
        | false =>
          tst (decide ((0 : Int) ≤ x0) && decide (x0 < ((b0_0.length : Int)))) <|
          match (((b0_0.getD x0.toNat [])).getD 1 .top).toB with
          | true =>
            some (.ret b0_0 b1)
          | false =>
            tst (decide ((0 : Int) ≤ x0) && decide (x0 < ((b0_0.length : Int)))) <|
            match (((b0_0.getD x0.toNat [])).getD 2 .top).toB with
            | true =>
              some (.ret b0_0 b1)
            | false =>
              some (.nx b0_0 b1)
def LFJ25_2 (rec : TF25) (N : Nat) (s : St) : Option OJ25_2 := J25_2 rec N ((Eng.look s.env 0).toI) (((s.mem.getD 0 .dead).cells.getD 0 .top).rows) ((s.mem.getD 1 .dead).cells)
def sgJ25_2 : LSh := ⟨[(0, .one (.cell (.int .i64))), (1, .one (.ptr 0 0 0)), (2, .one (.ptr 1 0 0))], [.var [.any] [.cell (.slice 30)], .arr [.bool, .bool, .bool, .bool, .bool, .bool, .bool, .bool, .bool, .bool, .bool, .bool, .bool, .bool, .bool, .bool, .bool, .bool, .bool, .bool, .bool, .bool, .bool, .bool, .bool, .bool, .bool, .bool, .bool, .bool, .bool, .bool]]⟩
def ceJ25_2 : List Cv := []
def seJ25_2 : St → List Nat := fun st => [(Eng.look st.env 1).id, (Eng.look st.env 2).id]
def xJ25_2_nx : XSh OJ25_2 := ⟨[], ⟨[], [.var [.any] [.cell (.slice 30)], .arr [.bool, .bool, .bool, .bool, .bool, .bool, .bool, .bool, .bool, .bool, .bool, .bool, .bool, .bool, .bool, .bool, .bool, .bool, .bool, .bool, .bool, .bool, .bool, .bool, .bool, .bool, .bool, .bool, .bool, .bool, .bool, .bool]]⟩, fun st => [0, 1], fun s => .nx (((s.mem.getD 0 .dead).cells.getD 0 .top).rows) ((s.mem.getD 1 .dead).cells)⟩
def xJ25_2_ret : XSh OJ25_2 := ⟨[], ⟨[], [.var [.any] [.cell (.slice 30)], .arr [.bool, .bool, .bool, .bool, .bool, .bool, .bool, .bool, .bool, .bool, .bool, .bool, .bool, .bool, .bool, .bool, .bool, .bool, .bool, .bool, .bool, .bool, .bool, .bool, .bool, .bool, .bool, .bool, .bool, .bool, .bool, .bool]]⟩, fun st => [0, 1], fun s => .ret (((s.mem.getD 0 .dead).cells.getD 0 .top).rows) ((s.mem.getD 1 .dead).cells)⟩
def xsJ25_2 : Ex → St → Option (XSh OJ25_2) := fun e st => match e with
  | .normal => some xJ25_2_nx
  | .ret => some xJ25_2_ret
  | _ => none
def exJ25_2 (o : OJ25_2) : Ex := match o with | .nx b0_0 b1 => .normal | .ret b0_0 b1 => .ret
def stJ25_2 (o : OJ25_2) : St := match o with | .nx b0_0 b1 => ⟨[], [.var [.any] [.list 30 b0_0], .var [.bool, .bool, .bool, .bool, .bool, .bool, .bool, .bool, .bool, .bool, .bool, .bool, .bool, .bool, .bool, .bool, .bool, .bool, .bool, .bool, .bool, .bool, .bool, .bool, .bool, .bool, .bool, .bool, .bool, .bool, .bool, .bool] b1], [], .unk⟩ | .ret b0_0 b1 => ⟨[], [.var [.any] [.list 30 b0_0], .var [.bool, .bool, .bool, .bool, .bool, .bool, .bool, .bool, .bool, .bool, .bool, .bool, .bool, .bool, .bool, .bool, .bool, .bool, .bool, .bool, .bool, .bool, .bool, .bool, .bool, .bool, .bool, .bool, .bool, .bool, .bool, .bool] b1], [], .unk⟩
def elJ25_2 {R : Type} (o : OJ25_2) (k : Ex → St → Option R) : Option R := match o with | .nx b0_0 b1 => k .normal ⟨[], [.var [.any] [.list 30 b0_0], .var [.bool, .bool, .bool, .bool, .bool, .bool, .bool, .bool, .bool, .bool, .bool, .bool, .bool, .bool, .bool, .bool, .bool, .bool, .bool, .bool, .bool, .bool, .bool, .bool, .bool, .bool, .bool, .bool, .bool, .bool, .bool, .bool] b1], [], .unk⟩ | .ret b0_0 b1 => k .ret ⟨[], [.var [.any] [.list 30 b0_0], .var [.bool, .bool, .bool, .bool, .bool, .bool, .bool, .bool, .bool, .bool, .bool, .bool, .bool, .bool, .bool, .bool, .bool, .bool, .bool, .bool, .bool, .bool, .bool, .bool, .bool, .bool, .bool, .bool, .bool, .bool, .bool, .bool] b1], [], .unk⟩
theorem heJ25_2 {R : Type} (o : OJ25_2) (k : Ex → St → Option R) : elJ25_2 o k = k (exJ25_2 o) (stJ25_2 o) := by cases o <;> rfl
theorem hxJ25_2 : ∀ e st x, xsJ25_2 e st = some x → outOk x e exJ25_2 stJ25_2 := by
  intro e st x h
  unfold xsJ25_2 at h
  repeat' split at h
  all_goals first
    | (injection h with h; subst h; exact fun lk M => ⟨rfl, rfl⟩)
    | cases h
noncomputable def T25_c2 (rec : TF25) (N : Nat) (R : Type) : LTab R := mkTab ⟨50, 2199023255488⟩ (csF25 rec N R) (noY) [] [] []
theorem okT25_c2 (rec : TF25) (hrec : RecOkF25 rec) (N : Nat) (R : Type) : (T25_c2 rec N R).Ok CX code25 := mkTab_ok (hcsF25 rec hrec N R) (noY_ok) (trivial) (trivial) (trivial)
noncomputable def bdJ25_2 : Code := (codeAt code25 [false]).getD .skip
theorem hsJ25_2 (rec : TF25) (N : Nat) : ∀ (lk : Nat → AV) (M : List Blk), LFJ25_2 rec N (canS sgJ25_2 lk M) = evk CX (T25_c2 rec N OJ25_2) bdJ25_2 2 (canS sgJ25_2 lk M) (kontX CX 2 xsJ25_2) := by intro lk M; kernel_rfl
noncomputable def T25_r1 (rec : TF25) (N : Nat) (R : Type) : LTab R := mkTab ⟨50, 1125899906842623⟩ (csF25 rec N R) (noY) [] [(30, fun st k => evrange CX (oneTab ⟨50, 1125899906842623⟩ (inl 31 (fun args M k => evfn CX (T25_i30_f31_r1 rec N R) code31 rs25_i30_f31 args M k))) 3 [3] (.tmp 45) st k)] [(2, fun st k => callLoop CX 2 2199023255488 ceJ25_2 sgJ25_2 seJ25_2 ⟨50, 1125899906842623⟩ (LFJ25_2 rec N) elJ25_2 st k)]
theorem okT25_r1 (rec : TF25) (hrec : RecOkF25 rec) (N : Nat) (R : Type) : (T25_r1 rec N R).Ok CX code25 := mkTab_ok (hcsF25 rec hrec N R) (noY_ok) (trivial) (⟨range_ok hX (path := [false, true, true, true]) (ps0 := nd3.2.1) (a0 := nd3.2.2.1) (b0 := nd3.2.2.2) (by kernel_rfl) (by rfl) (inl_ok fun {args M k r} h => evfn_sound hX (okT25_i30_f31_r1 rec hrec N R) Try.func31 hb31 rfl en31 (by kernel_rfl) h) (by kernel_rfl), trivial⟩) (⟨cut_ok hX (path := [false]) (by kernel_rfl) (by rfl) (okT25_c2 rec hrec N OJ25_2) (hsJ25_2 rec N) hxJ25_2 rfl heJ25_2, trivial⟩)
def rsF25 : List ResultVar := []
def F25 : Nat → TF25
  | 0 => fun _ _ _ => none
  | N + 1 => fun x0 b0_0 b1 =>
  match J25_2 (F25 N) N x0 b0_0 b1 with
  | none => none
  | some (.nx b0_0_1 b1_1) =>
    tst (decide ((0 : Int) ≤ x0) && decide (x0 < (32 : Int))) <|
    tst (decide (((0 + (x0.toNat * 1)) + 1) ≤ 32) && true) <|
    match F23 N b0_0_1 x0 ((-1)) with
    | none => none
    | some (.r rb0_0_2 rb1_0_2 rb2_0_2) =>
      match L25_i30_f31_6 (F25 N) N N rb0_0_2 ((rb0_0_2.length : Int)) 0 rb1_0_2 rb2_0_2 b0_0_1 (Eng.setAt b1_1 (0 + (x0.toNat * 1)) [.bool true]) with
      | none => none
      | some (.x0 b1_0_5 b2_0_5 b4_0_5 b5_5) =>
        some (.r b4_0_5 b5_5)
  | some (.ret b0_0_6 b1_6) =>
    some (.r b0_0_6 b1_6)
def xRF25 : XSh R25 := ⟨[], ⟨[], [.var [.any] [.cell (.slice 30)], .arr [.bool, .bool, .bool, .bool, .bool, .bool, .bool, .bool, .bool, .bool, .bool, .bool, .bool, .bool, .bool, .bool, .bool, .bool, .bool, .bool, .bool, .bool, .bool, .bool, .bool, .bool, .bool, .bool, .bool, .bool, .bool, .bool], .var [.any] [.cl 25 [(0, 0, 0), (1, 0, 0), (2, 0, 0)]]]⟩, fun st => [0, 1, 2], fun s => .r (((s.mem.getD 0 .dead).cells.getD 0 .top).rows) ((s.mem.getD 1 .dead).cells)⟩
theorem fsF25 : ∀ (N : Nat) (lk : Nat → AV) (M : List Blk), FFF25 (F25 (N + 1)) (canS sgF25 lk M) = evfn CX (T25_r1 (F25 N) N R25) code25 rsF25 (argsE 4 (canS sgF25 lk M).env) (canS sgF25 lk M).mem (goRt CX 3 0 (fun _ => some xRF25)) := by intro N lk M; kernel_rfl
theorem soundF25 : ∀ N, RecOkF25 (F25 N)
  | 0, lk, M, o, h => by cases h
  | N + 1, lk, M, o, h => fn_soundt hX (okT25_r1 (F25 N) (soundF25 N) N R25) Try.func25 hb25 rfl en25 (by kernel_rfl) (ys := fun _ => some xRF25) (fun st y h => by injection h with h; subst h; exact fun lk M => ⟨rfl, rfl⟩) ((fsF25 N lk M).symm.trans h)
end Go.Proofs.Ytfggehkiglenjaa

namespace Go.Proofs.Ytfggehkiglenjaa
open Go Go.Eng
set_option maxRecDepth 100000

/-! ### F26: ceiling/master.chosen -/
inductive R26 where
  | r (b0 : List Row)
abbrev TF26 := List Row → Bool → Bool → Bool → Bool → Bool → Bool → Bool → Bool → Bool → Bool → Bool → Bool → Bool → Bool → Bool → Bool → Bool → Bool → Bool → Bool → Bool → Bool → Bool → Bool → Bool → Bool → Bool → Bool → Bool → Bool → Bool → Bool → Option R26
def sgF26 : LSh := ⟨[(0, .one (.cell (.slice 30))), (1, .agg [.cell (.bool), .cell (.bool), .cell (.bool), .cell (.bool), .cell (.bool), .cell (.bool), .cell (.bool), .cell (.bool), .cell (.bool), .cell (.bool), .cell (.bool), .cell (.bool), .cell (.bool), .cell (.bool), .cell (.bool), .cell (.bool), .cell (.bool), .cell (.bool), .cell (.bool), .cell (.bool), .cell (.bool), .cell (.bool), .cell (.bool), .cell (.bool), .cell (.bool), .cell (.bool), .cell (.bool), .cell (.bool), .cell (.bool), .cell (.bool), .cell (.bool), .cell (.bool)])], []⟩
def FFF26 (Fx : TF26) (s : St) : Option R26 := Fx ((Eng.look s.env 0).rows) (((Eng.look s.env 1).cells.getD 0 .top).toB) (((Eng.look s.env 1).cells.getD 1 .top).toB) (((Eng.look s.env 1).cells.getD 2 .top).toB) (((Eng.look s.env 1).cells.getD 3 .top).toB) (((Eng.look s.env 1).cells.getD 4 .top).toB) (((Eng.look s.env 1).cells.getD 5 .top).toB) (((Eng.look s.env 1).cells.getD 6 .top).toB) (((Eng.look s.env 1).cells.getD 7 .top).toB) (((Eng.look s.env 1).cells.getD 8 .top).toB) (((Eng.look s.env 1).cells.getD 9 .top).toB) (((Eng.look s.env 1).cells.getD 10 .top).toB) (((Eng.look s.env 1).cells.getD 11 .top).toB) (((Eng.look s.env 1).cells.getD 12 .top).toB) (((Eng.look s.env 1).cells.getD 13 .top).toB) (((Eng.look s.env 1).cells.getD 14 .top).toB) (((Eng.look s.env 1).cells.getD 15 .top).toB) (((Eng.look s.env 1).cells.getD 16 .top).toB) (((Eng.look s.env 1).cells.getD 17 .top).toB) (((Eng.look s.env 1).cells.getD 18 .top).toB) (((Eng.look s.env 1).cells.getD 19 .top).toB) (((Eng.look s.env 1).cells.getD 20 .top).toB) (((Eng.look s.env 1).cells.getD 21 .top).toB) (((Eng.look s.env 1).cells.getD 22 .top).toB) (((Eng.look s.env 1).cells.getD 23 .top).toB) (((Eng.look s.env 1).cells.getD 24 .top).toB) (((Eng.look s.env 1).cells.getD 25 .top).toB) (((Eng.look s.env 1).cells.getD 26 .top).toB) (((Eng.look s.env 1).cells.getD 27 .top).toB) (((Eng.look s.env 1).cells.getD 28 .top).toB) (((Eng.look s.env 1).cells.getD 29 .top).toB) (((Eng.look s.env 1).cells.getD 30 .top).toB) (((Eng.look s.env 1).cells.getD 31 .top).toB)
def valF26 (o : R26) : AV := match o with | .r b0 => .own 0
def memF26 (o : R26) : List Blk := match o with | .r b0 => [.row 3 b0]
def elF26 {R : Type} (o : R26) (k : AV → List Blk → Option R) : Option R := match o with | .r b0 => k (.own 0) [.row 3 b0]
def RecOkF26 (Fx : TF26) : Prop := ∀ lk M o, FFF26 Fx (canS sgF26 lk M) = some o → FCalls CX 26 0 (argsE 2 (canS sgF26 lk M).env) (canS sgF26 lk M).mem (valF26 o) (memF26 o)
noncomputable def csF26 (N : Nat) (R : Type) : List (CE R) := []
theorem hcsF26 (N : Nat) (R : Type) : AllE (CeOk CX) (csF26 N R) := trivial
inductive OL26_26 where
  | x0 (b0 : List AV) (b1 : List Row)
def L26_26 (N : Nat) : Nat → Int → Int → List AV → List Row → Option OL26_26
  | 0 => fun _ _ _ _ => none
  | n + 1 => fun x7 x8 b0 b1 =>
  match decide (x8 < x7) with
  | true =>
    tst (decide ((0 : Int) ≤ x8) && decide (x8 < (32 : Int))) <|
    tst (decide (((0 + (x8.toNat * 1)) + 1) ≤ 32)) <|
    match (b0.getD (0 + (x8.toNat * 1)) .top).toB with
    | true =>
      tst (decide (((b1.length + 1) * 8) ≤ 140737488355328)) <|
      L26_26 N n x7 (IntKind.wrap .i64 (x8 + (1 : Int))) b0 (b1 ++ (([[.int .i64 x8]] : List Row)))
    | false =>
      L26_26 N n x7 (IntKind.wrap .i64 (x8 + (1 : Int))) b0 b1
  | false =>
    some (.x0 b0 b1)
def LFL26_26 (N : Nat) (n : Nat) (s : St) : Option OL26_26 := L26_26 N n ((Eng.look s.env 7).toI) ((Eng.look s.env 8).toI) ((s.mem.getD 0 .dead).cells) ((s.mem.getD 1 .dead).rows)
def sgL26_26 : LSh := ⟨[(3, .one (.ptr 0 0 0)), (4, .one (.own 1)), (7, .one (.cell (.int .i64))), (8, .one (.cell (.int .i64)))], [.arr [.bool, .bool, .bool, .bool, .bool, .bool, .bool, .bool, .bool, .bool, .bool, .bool, .bool, .bool, .bool, .bool, .bool, .bool, .bool, .bool, .bool, .bool, .bool, .bool, .bool, .bool, .bool, .bool, .bool, .bool, .bool, .bool], .row 3]⟩
def ceL26_26 : List Cv := [.mk 4 3]
def seL26_26 : St → List Nat := fun st => [(Eng.look st.env 3).id, (Eng.look st.env 4).id]
def xL26_26_x0 : XSh OL26_26 := ⟨[], ⟨[(4, .one (.own 1))], [.arr [.bool, .bool, .bool, .bool, .bool, .bool, .bool, .bool, .bool, .bool, .bool, .bool, .bool, .bool, .bool, .bool, .bool, .bool, .bool, .bool, .bool, .bool, .bool, .bool, .bool, .bool, .bool, .bool, .bool, .bool, .bool, .bool], .row 3]⟩, fun st => [0, (Eng.look st.env 4).id], fun s => .x0 ((s.mem.getD 0 .dead).cells) ((s.mem.getD 1 .dead).rows)⟩
def xsL26_26 : Ex → St → Option (XSh OL26_26) := fun e st => match e with
  | .exit 0 => some xL26_26_x0
  | _ => none
def exL26_26 (o : OL26_26) : Ex := match o with | .x0 b0 b1 => (.exit 0)
def stL26_26 (o : OL26_26) : St := match o with | .x0 b0 b1 => ⟨[(4, .own 1)], [.var [.bool, .bool, .bool, .bool, .bool, .bool, .bool, .bool, .bool, .bool, .bool, .bool, .bool, .bool, .bool, .bool, .bool, .bool, .bool, .bool, .bool, .bool, .bool, .bool, .bool, .bool, .bool, .bool, .bool, .bool, .bool, .bool] b0, .row 3 b1], [], .unk⟩
def elL26_26 {R : Type} (o : OL26_26) (k : Ex → St → Option R) : Option R := match o with | .x0 b0 b1 => k (.exit 0) ⟨[(4, .own 1)], [.var [.bool, .bool, .bool, .bool, .bool, .bool, .bool, .bool, .bool, .bool, .bool, .bool, .bool, .bool, .bool, .bool, .bool, .bool, .bool, .bool, .bool, .bool, .bool, .bool, .bool, .bool, .bool, .bool, .bool, .bool, .bool, .bool] b0, .row 3 b1], [], .unk⟩
theorem heL26_26 {R : Type} (o : OL26_26) (k : Ex → St → Option R) : elL26_26 o k = k (exL26_26 o) (stL26_26 o) := by cases o <;> rfl
theorem hxL26_26 : ∀ e st x, xsL26_26 e st = some x → outOk x e exL26_26 stL26_26 := by
  intro e st x h
  unfold xsL26_26 at h
  repeat' split at h
  all_goals first
    | (injection h with h; subst h; exact fun lk M => ⟨rfl, rfl⟩)
    | cases h
noncomputable def T26_l26 (N : Nat) (R : Type) : LTab R := mkTab ⟨20, 524080⟩ (csF26 N R) (noY) [] [] []
theorem okT26_l26 (N : Nat) (R : Type) : (T26_l26 N R).Ok CX code26 := mkTab_ok (hcsF26 N R) (noY_ok) (trivial) (trivial) (trivial)
noncomputable def bdL26_26 : Code := match codeAt code26 [false, true, false, true] with | some (.loop c) => c | _ => .skip
theorem hsL26_26 (N : Nat) : ∀ (n : Nat) (lk : Nat → AV) (M : List Blk), LFL26_26 N (n + 1) (canS sgL26_26 lk M) = evk CX (T26_l26 N OL26_26) bdL26_26 (2 * 26) (canS sgL26_26 lk M) (kont CX 1 [] sgL26_26 (fun st => [0, (Eng.look st.env 4).id]) xsL26_26 (LFL26_26 N n)) := by intro n lk M; kernel_rfl
noncomputable def T26_r1 (N : Nat) (R : Type) : LTab R := mkTab ⟨20, 1048575⟩ (csF26 N R) (noY) [(26, fun st k => callLoop CX 1 524080 ceL26_26 sgL26_26 seL26_26 ⟨20, 1048575⟩ (LFL26_26 N N) elL26_26 st k)] [] []
theorem okT26_r1 (N : Nat) (R : Type) : (T26_r1 N R).Ok CX code26 := mkTab_ok (hcsF26 N R) (noY_ok) (⟨loop_ok hX (path := [false, true, false, true]) (by kernel_rfl) (by rfl) (okT26_l26 N OL26_26) (fun _ _ => rfl) (hsL26_26 N) hxL26_26 rfl heL26_26, trivial⟩) (trivial) (trivial)
def rsF26 : List ResultVar := [.tmp 4]
def F26 : Nat → TF26
  | 0 => fun _ _ _ _ _ _ _ _ _ _ _ _ _ _ _ _ _ _ _ _ _ _ _ _ _ _ _ _ _ _ _ _ _ => none
  | N + 1 => fun x0 x1_0 x1_1 x1_2 x1_3 x1_4 x1_5 x1_6 x1_7 x1_8 x1_9 x1_10 x1_11 x1_12 x1_13 x1_14 x1_15 x1_16 x1_17 x1_18 x1_19 x1_20 x1_21 x1_22 x1_23 x1_24 x1_25 x1_26 x1_27 x1_28 x1_29 x1_30 x1_31 =>
  match L26_26 N N ((x0.length : Int)) 0 (([.bool x1_0, .bool x1_1, .bool x1_2, .bool x1_3, .bool x1_4, .bool x1_5, .bool x1_6, .bool x1_7, .bool x1_8, .bool x1_9, .bool x1_10, .bool x1_11, .bool x1_12, .bool x1_13, .bool x1_14, .bool x1_15, .bool x1_16, .bool x1_17, .bool x1_18, .bool x1_19, .bool x1_20, .bool x1_21, .bool x1_22, .bool x1_23, .bool x1_24, .bool x1_25, .bool x1_26, .bool x1_27, .bool x1_28, .bool x1_29, .bool x1_30, .bool x1_31] : List AV)) (([] : List Row)) with
  | none => none
  | some (.x0 b0_1 b1_1) =>
    some (.r b1_1)
def xRF26 : XSh R26 := ⟨[], ⟨[(0, .one (.own 0))], [.row 3]⟩, fun st => [(Eng.look st.env 0).id], fun s => .r ((s.mem.getD 0 .dead).rows)⟩
theorem fsF26 : ∀ (N : Nat) (lk : Nat → AV) (M : List Blk), FFF26 (F26 (N + 1)) (canS sgF26 lk M) = evfn CX (T26_r1 N R26) code26 rsF26 (argsE 2 (canS sgF26 lk M).env) (canS sgF26 lk M).mem (goR CX 0 (fun _ => some xRF26)) := by intro N lk M; kernel_rfl
theorem soundF26 : ∀ N, RecOkF26 (F26 N)
  | 0, lk, M, o, h => by cases h
  | N + 1, lk, M, o, h => fn_sound hX (okT26_r1 N R26) Try.func26 hb26 rfl en26 (by kernel_rfl) (ys := fun _ => some xRF26) (fun st y h => by injection h with h; subst h; exact fun lk M => ⟨rfl, rfl⟩) ((fsF26 N lk M).symm.trans h)
def cvce_26_0 : List Cv := []
def selce_26_0 : St → List Nat := fun _ => []
noncomputable def ce_26_0 (Fx : TF26) (R : Type) (test : List AV → List Blk → Bool) : CE R := ⟨26, test, fun args M => some (selce_26_0 ⟨argEnv 0 args, M, [], .unk⟩), fun args M k => tst (Nat.beq args.length 2) (callFn CX 0 cvce_26_0 sgF26 selce_26_0 (FFF26 Fx) elF26 args M k)⟩
theorem okce_26_0 (Fx : TF26) (h : RecOkF26 Fx) (R : Type) (test : List AV → List Blk → Bool) : CeOk CX (ce_26_0 Fx R test) := ce_ok hX (fun o k => by cases o; rfl) h en26 (fun args M ids h => by injection h with h; exact ⟨rfl, h.symm⟩)
end Go.Proofs.Ytfggehkiglenjaa

namespace Go.Proofs.Ytfggehkiglenjaa
open Go Go.Eng
set_option maxRecDepth 100000

/-! ### F11: ceiling/master.Abort -/
inductive R11 where
  | r (b0 : List Row)
abbrev TF11 := List Row → List Row → Option R11
def sgF11 : LSh := ⟨[(0, .one (.cell (.slice 30))), (1, .one (.cell (.slice 3)))], []⟩
def FFF11 (Fx : TF11) (s : St) : Option R11 := Fx ((Eng.look s.env 0).rows) ((Eng.look s.env 1).rows)
def valF11 (o : R11) : AV := match o with | .r b0 => .own 0
def memF11 (o : R11) : List Blk := match o with | .r b0 => [.row 3 b0]
def elF11 {R : Type} (o : R11) (k : AV → List Blk → Option R) : Option R := match o with | .r b0 => k (.own 0) [.row 3 b0]
def RecOkF11 (Fx : TF11) : Prop := ∀ lk M o, FFF11 Fx (canS sgF11 lk M) = some o → FCalls CX 11 0 (argsE 2 (canS sgF11 lk M).env) (canS sgF11 lk M).mem (valF11 o) (memF11 o)
noncomputable def csF11 (N : Nat) (R : Type) : List (CE R) := [ce_16_0 (F16 N) R (fun _ _ => true), ce_25_0 (F25 N) R (fun _ _ => true), ce_26_0 (F26 N) R (fun _ _ => true)]
theorem hcsF11 (N : Nat) (R : Type) : AllE (CeOk CX) (csF11 N R) := ⟨okce_16_0 (F16 N) (soundF16 N) R (fun _ _ => true), okce_25_0 (F25 N) (soundF25 N) R (fun _ _ => true), okce_26_0 (F26 N) (soundF26 N) R (fun _ _ => true), trivial⟩
inductive OL11_506 where
  | x0 (b1_0 : List Row) (b2 : List AV)
def L11_506 (N : Nat) : Nat → List Row → Int → Int → List Row → List AV → Option OL11_506
  | 0 => fun _ _ _ _ _ => none
  | n + 1 => fun x13 x14 x15 b1_0 b2 =>
  match decide (x15 < x14) with
  | true =>
    tst (decide ((0 : Int) ≤ x15) && decide (x15 < ((x13.length : Int)))) <|
    match F25 N ((((x13.getD x15.toNat [])).getD 0 .top).toI) b1_0 b2 with
    | none => none
    | some (.r rb0_0_2 rb1_2) =>
      L11_506 N n x13 x14 (IntKind.wrap .i64 (x15 + (1 : Int))) rb0_0_2 rb1_2
  | false =>
    some (.x0 b1_0 b2)
def LFL11_506 (N : Nat) (n : Nat) (s : St) : Option OL11_506 := L11_506 N n ((Eng.look s.env 13).rows) ((Eng.look s.env 14).toI) ((Eng.look s.env 15).toI) (((s.mem.getD 1 .dead).cells.getD 0 .top).rows) ((s.mem.getD 2 .dead).cells)
def sgL11_506 : LSh := ⟨[(6, .one (.ptr 0 0 0)), (13, .one (.cell (.slice 3))), (14, .one (.cell (.int .i64))), (15, .one (.cell (.int .i64)))], [.var [.any] [.cl 25 [(1, 0, 0), (2, 0, 0), (0, 0, 0)]], .var [.any] [.cell (.slice 30)], .arr [.bool, .bool, .bool, .bool, .bool, .bool, .bool, .bool, .bool, .bool, .bool, .bool, .bool, .bool, .bool, .bool, .bool, .bool, .bool, .bool, .bool, .bool, .bool, .bool, .bool, .bool, .bool, .bool, .bool, .bool, .bool, .bool]]⟩
def ceL11_506 : List Cv := []
def seL11_506 : St → List Nat := fun st => [(Eng.look st.env 6).id, (((st.mem.getD ((Eng.look st.env 6).id) .dead).cells.getD 0 .top).caps.getD 0 .top).id, (((st.mem.getD ((Eng.look st.env 6).id) .dead).cells.getD 0 .top).caps.getD 1 .top).id]
def xL11_506_x0 : XSh OL11_506 := ⟨[], ⟨[], [.var [.any] [.cl 25 [(1, 0, 0), (2, 0, 0), (0, 0, 0)]], .var [.any] [.cell (.slice 30)], .arr [.bool, .bool, .bool, .bool, .bool, .bool, .bool, .bool, .bool, .bool, .bool, .bool, .bool, .bool, .bool, .bool, .bool, .bool, .bool, .bool, .bool, .bool, .bool, .bool, .bool, .bool, .bool, .bool, .bool, .bool, .bool, .bool]]⟩, fun st => [0, 1, 2], fun s => .x0 (((s.mem.getD 1 .dead).cells.getD 0 .top).rows) ((s.mem.getD 2 .dead).cells)⟩
def xsL11_506 : Ex → St → Option (XSh OL11_506) := fun e st => match e with
  | .exit 0 => some xL11_506_x0
  | _ => none
def exL11_506 (o : OL11_506) : Ex := match o with | .x0 b1_0 b2 => (.exit 0)
def stL11_506 (o : OL11_506) : St := match o with | .x0 b1_0 b2 => ⟨[], [.var [.any] [.clos 25 [] [.ptr 1 0 0, .ptr 2 0 0, .ptr 0 0 0]], .var [.any] [.list 30 b1_0], .var [.bool, .bool, .bool, .bool, .bool, .bool, .bool, .bool, .bool, .bool, .bool, .bool, .bool, .bool, .bool, .bool, .bool, .bool, .bool, .bool, .bool, .bool, .bool, .bool, .bool, .bool, .bool, .bool, .bool, .bool, .bool, .bool] b2], [], .unk⟩
def elL11_506 {R : Type} (o : OL11_506) (k : Ex → St → Option R) : Option R := match o with | .x0 b1_0 b2 => k (.exit 0) ⟨[], [.var [.any] [.clos 25 [] [.ptr 1 0 0, .ptr 2 0 0, .ptr 0 0 0]], .var [.any] [.list 30 b1_0], .var [.bool, .bool, .bool, .bool, .bool, .bool, .bool, .bool, .bool, .bool, .bool, .bool, .bool, .bool, .bool, .bool, .bool, .bool, .bool, .bool, .bool, .bool, .bool, .bool, .bool, .bool, .bool, .bool, .bool, .bool, .bool, .bool] b2], [], .unk⟩
theorem heL11_506 {R : Type} (o : OL11_506) (k : Ex → St → Option R) : elL11_506 o k = k (exL11_506 o) (stL11_506 o) := by cases o <;> rfl
theorem hxL11_506 : ∀ e st x, xsL11_506 e st = some x → outOk x e exL11_506 stL11_506 := by
  intro e st x h
  unfold xsL11_506 at h
  repeat' split at h
  all_goals first
    | (injection h with h; subst h; exact fun lk M => ⟨rfl, rfl⟩)
    | cases h
noncomputable def T11_l506 (N : Nat) (R : Type) : LTab R := mkTab ⟨26, 8356096⟩ (csF11 N R) (noY) [] [] []
theorem okT11_l506 (N : Nat) (R : Type) : (T11_l506 N R).Ok CX code11 := mkTab_ok (hcsF11 N R) (noY_ok) (trivial) (trivial) (trivial)
noncomputable def bdL11_506 : Code := match codeAt code11 [false, true, false, true, true, true, true, true] with | some (.loop c) => c | _ => .skip
theorem hsL11_506 (N : Nat) : ∀ (n : Nat) (lk : Nat → AV) (M : List Blk), LFL11_506 N (n + 1) (canS sgL11_506 lk M) = evk CX (T11_l506 N OL11_506) bdL11_506 (2 * 506) (canS sgL11_506 lk M) (kont CX 3 [] sgL11_506 (fun st => [0, 1, 2]) xsL11_506 (LFL11_506 N n)) := by intro n lk M; kernel_rfl
noncomputable def T11_r1 (N : Nat) (R : Type) : LTab R := mkTab ⟨26, 67108863⟩ (csF11 N R) (noY) [(506, fun st k => callLoop CX 3 8356096 ceL11_506 sgL11_506 seL11_506 ⟨26, 67108863⟩ (LFL11_506 N N) elL11_506 st k)] [] []
theorem okT11_r1 (N : Nat) (R : Type) : (T11_r1 N R).Ok CX code11 := mkTab_ok (hcsF11 N R) (noY_ok) (⟨loop_ok hX (path := [false, true, false, true, true, true, true, true]) (by kernel_rfl) (by rfl) (okT11_l506 N OL11_506) (fun _ _ => rfl) (hsL11_506 N) hxL11_506 rfl heL11_506, trivial⟩) (trivial) (trivial)
def rsF11 : List ResultVar := [.tmp 4]
def F11 : Nat → TF11
  | 0 => fun _ _ => none
  | N + 1 => fun x0 x1 =>
  match F16 N x0 with
  | none => none
  | some (.r rx0_1) =>
    match !rx0_1 with
    | true =>
      some (.r (([] : List Row)))
    | false =>
      match L11_506 N N x1 ((x1.length : Int)) 0 x0 (([.bool false, .bool false, .bool false, .bool false, .bool false, .bool false, .bool false, .bool false, .bool false, .bool false, .bool false, .bool false, .bool false, .bool false, .bool false, .bool false, .bool false, .bool false, .bool false, .bool false, .bool false, .bool false, .bool false, .bool false, .bool false, .bool false, .bool false, .bool false, .bool false, .bool false, .bool false, .bool false] : List AV)) with
      | none => none
      | some (.x0 b1_0_3 b2_3) =>
        match F26 N b1_0_3 ((b2_3.getD 0 .top).toB) ((b2_3.getD 1 .top).toB) ((b2_3.getD 2 .top).toB) ((b2_3.getD 3 .top).toB) ((b2_3.getD 4 .top).toB) ((b2_3.getD 5 .top).toB) ((b2_3.getD 6 .top).toB) ((b2_3.getD 7 .top).toB) ((b2_3.getD 8 .top).toB) ((b2_3.getD 9 .top).toB) ((b2_3.getD 10 .top).toB) ((b2_3.getD 11 .top).toB) ((b2_3.getD 12 .top).toB) ((b2_3.getD 13 .top).toB) ((b2_3.getD 14 .top).toB) ((b2_3.getD 15 .top).toB) ((b2_3.getD 16 .top).toB) ((b2_3.getD 17 .top).toB) ((b2_3.getD 18 .top).toB) ((b2_3.getD 19 .top).toB) ((b2_3.getD 20 .top).toB) ((b2_3.getD 21 .top).toB) ((b2_3.getD 22 .top).toB) ((b2_3.getD 23 .top).toB) ((b2_3.getD 24 .top).toB) ((b2_3.getD 25 .top).toB) ((b2_3.getD 26 .top).toB) ((b2_3.getD 27 .top).toB) ((b2_3.getD 28 .top).toB) ((b2_3.getD 29 .top).toB) ((b2_3.getD 30 .top).toB) ((b2_3.getD 31 .top).toB) with
        | none => none
        | some (.r rb0_4) =>
          some (.r rb0_4)
def xRF11 : XSh R11 := ⟨[.mk 0 3], ⟨[(0, .one (.own 0))], [.row 3]⟩, fun st => [(Eng.look st.env 0).id], fun s => .r ((s.mem.getD 0 .dead).rows)⟩
theorem fsF11 : ∀ (N : Nat) (lk : Nat → AV) (M : List Blk), FFF11 (F11 (N + 1)) (canS sgF11 lk M) = evfn CX (T11_r1 N R11) code11 rsF11 (argsE 2 (canS sgF11 lk M).env) (canS sgF11 lk M).mem (goR CX 0 (fun _ => some xRF11)) := by intro N lk M; kernel_rfl
theorem soundF11 : ∀ N, RecOkF11 (F11 N)
  | 0, lk, M, o, h => by cases h
  | N + 1, lk, M, o, h => fn_sound hX (okT11_r1 N R11) Try.func11 hb11 rfl en11 (by kernel_rfl) (ys := fun _ => some xRF11) (fun st y h => by injection h with h; subst h; exact fun lk M => ⟨rfl, rfl⟩) ((fsF11 N lk M).symm.trans h)
def cvce_11_0 : List Cv := [.frz 1 (.slice 3)]
def selce_11_0 : St → List Nat := fun _ => []
noncomputable def ce_11_0 (Fx : TF11) (R : Type) (test : List AV → List Blk → Bool) : CE R := ⟨11, test, fun _ _ => none, fun args M k => tst (Nat.beq args.length 2) (callFn CX 0 cvce_11_0 sgF11 selce_11_0 (FFF11 Fx) elF11 args M k)⟩
theorem okce_11_0 (Fx : TF11) (h : RecOkF11 Fx) (R : Type) (test : List AV → List Blk → Bool) : CeOk CX (ce_11_0 Fx R test) := ce_ok hX (fun o k => by cases o; rfl) h en11 (fun args M ids h => by cases h)
def cvce_11_1 : List Cv := [.frz 0 (.slice 30), .frz 1 (.slice 3)]
def selce_11_1 : St → List Nat := fun _ => []
noncomputable def ce_11_1 (Fx : TF11) (R : Type) (test : List AV → List Blk → Bool) : CE R := ⟨11, test, fun _ _ => none, fun args M k => tst (Nat.beq args.length 2) (callFn CX 0 cvce_11_1 sgF11 selce_11_1 (FFF11 Fx) elF11 args M k)⟩
theorem okce_11_1 (Fx : TF11) (h : RecOkF11 Fx) (R : Type) (test : List AV → List Blk → Bool) : CeOk CX (ce_11_1 Fx R test) := ce_ok hX (fun o k => by cases o; rfl) h en11 (fun args M ids h => by cases h)
def cvce_11_2 : List Cv := []
def selce_11_2 : St → List Nat := fun _ => []
noncomputable def ce_11_2 (Fx : TF11) (R : Type) (test : List AV → List Blk → Bool) : CE R := ⟨11, test, fun args M => some (selce_11_2 ⟨argEnv 0 args, M, [], .unk⟩), fun args M k => tst (Nat.beq args.length 2) (callFn CX 0 cvce_11_2 sgF11 selce_11_2 (FFF11 Fx) elF11 args M k)⟩
theorem okce_11_2 (Fx : TF11) (h : RecOkF11 Fx) (R : Type) (test : List AV → List Blk → Bool) : CeOk CX (ce_11_2 Fx R test) := ce_ok hX (fun o k => by cases o; rfl) h en11 (fun args M ids h => by injection h with h; exact ⟨rfl, h.symm⟩)
def cvce_11_3 : List Cv := [.frz 0 (.slice 30)]
def selce_11_3 : St → List Nat := fun _ => []
noncomputable def ce_11_3 (Fx : TF11) (R : Type) (test : List AV → List Blk → Bool) : CE R := ⟨11, test, fun _ _ => none, fun args M k => tst (Nat.beq args.length 2) (callFn CX 0 cvce_11_3 sgF11 selce_11_3 (FFF11 Fx) elF11 args M k)⟩
theorem okce_11_3 (Fx : TF11) (h : RecOkF11 Fx) (R : Type) (test : List AV → List Blk → Bool) : CeOk CX (ce_11_3 Fx R test) := ce_ok hX (fun o k => by cases o; rfl) h en11 (fun args M ids h => by cases h)
end Go.Proofs.Ytfggehkiglenjaa

namespace Go.Proofs.Ytfggehkiglenjaa
open Go Go.Eng
set_option maxRecDepth 100000

/-! ### F29: ceiling/master.Depends.1 -/
inductive R29 where
  | r (b0_0 : List Row) (b1 : List AV)
abbrev TF29 := Int → List Row → List AV → Option R29
def sgF29 : LSh := ⟨[(0, .one (.cell (.int .i64))), (1, .one (.ptr 0 0 0)), (2, .one (.ptr 1 0 0)), (3, .one (.ptr 2 0 0))], [.var [.any] [.cell (.slice 30)], .arr [.bool, .bool, .bool, .bool, .bool, .bool, .bool, .bool, .bool, .bool, .bool, .bool, .bool, .bool, .bool, .bool, .bool, .bool, .bool, .bool, .bool, .bool, .bool, .bool, .bool, .bool, .bool, .bool, .bool, .bool, .bool, .bool], .var [.any] [.cl 29 [(0, 0, 0), (1, 0, 0), (2, 0, 0)]]]⟩
def FFF29 (Fx : TF29) (s : St) : Option R29 := Fx ((Eng.look s.env 0).toI) (((s.mem.getD 0 .dead).cells.getD 0 .top).rows) ((s.mem.getD 1 .dead).cells)
def valF29 (o : R29) : AV := match o with | .r b0_0 b1 => .tup []
def memF29 (o : R29) : List Blk := match o with | .r b0_0 b1 => [.var [.any] [.list 30 b0_0], .var [.bool, .bool, .bool, .bool, .bool, .bool, .bool, .bool, .bool, .bool, .bool, .bool, .bool, .bool, .bool, .bool, .bool, .bool, .bool, .bool, .bool, .bool, .bool, .bool, .bool, .bool, .bool, .bool, .bool, .bool, .bool, .bool] b1, .var [.any] [.clos 29 [] [.ptr 0 0 0, .ptr 1 0 0, .ptr 2 0 0]]]
def elF29 {R : Type} (o : R29) (k : AV → List Blk → Option R) : Option R := match o with | .r b0_0 b1 => k (.tup []) [.var [.any] [.list 30 b0_0], .var [.bool, .bool, .bool, .bool, .bool, .bool, .bool, .bool, .bool, .bool, .bool, .bool, .bool, .bool, .bool, .bool, .bool, .bool, .bool, .bool, .bool, .bool, .bool, .bool, .bool, .bool, .bool, .bool, .bool, .bool, .bool, .bool] b1, .var [.any] [.clos 29 [] [.ptr 0 0 0, .ptr 1 0 0, .ptr 2 0 0]]]
def RecOkF29 (Fx : TF29) : Prop := ∀ lk M o, FFF29 Fx (canS sgF29 lk M) = some o → FCalls CX 29 3 (argsE 4 (canS sgF29 lk M).env) (canS sgF29 lk M).mem (valF29 o) (memF29 o)
def cvce_29_0 : List Cv := []
def selce_29_0 : St → List Nat := fun st => [(Eng.look st.env 1).id, (Eng.look st.env 2).id, (Eng.look st.env 3).id]
noncomputable def ce_29_0 (Fx : TF29) (R : Type) (test : List AV → List Blk → Bool) : CE R := ⟨29, test, fun args M => some (selce_29_0 ⟨argEnv 0 args, M, [], .unk⟩), fun args M k => tst (Nat.beq args.length 4) (callFn CX 3 cvce_29_0 sgF29 selce_29_0 (FFF29 Fx) elF29 args M k)⟩
theorem okce_29_0 (Fx : TF29) (h : RecOkF29 Fx) (R : Type) (test : List AV → List Blk → Bool) : CeOk CX (ce_29_0 Fx R test) := ce_ok hX (fun o k => by cases o; rfl) h en29 (fun args M ids h => by injection h with h; exact ⟨rfl, h.symm⟩)
noncomputable def csF29 (rec : TF29) (N : Nat) (R : Type) : List (CE R) := [ce_23_0 (F23 N) R (fun _ _ => true), ce_29_0 rec R (fun _ _ => true)]
theorem hcsF29 (rec : TF29) (hrec : RecOkF29 rec) (N : Nat) (R : Type) : AllE (CeOk CX) (csF29 rec N R) := ⟨okce_23_0 (F23 N) (soundF23 N) R (fun _ _ => true), okce_29_0 rec hrec R (fun _ _ => true), trivial⟩
noncomputable def T29_s6 (rec : TF29) (N : Nat) (R : Type) : LTab R := mkTab ⟨15, 32767⟩ (csF29 rec N R) (noY) [] [] []
theorem okT29_s6 (rec : TF29) (hrec : RecOkF29 rec) (N : Nat) (R : Type) : (T29_s6 rec N R).Ok CX code29 := mkTab_ok (hcsF29 rec hrec N R) (noY_ok) (trivial) (trivial) (trivial)
def rs29_i6_f31 : List ResultVar := []
inductive OL29_i6_f31_6 where
  | x0 (b1_0 : Int) (b2_0 : Int) (b3 : List AV) (b5_0 : List Row)
def L29_i6_f31_6 (rec : TF29) (N : Nat) : Nat → List Row → Int → Int → Int → Int → List AV → List Row → Option OL29_i6_f31_6
  | 0 => fun _ _ _ _ _ _ _ => none
  | n + 1 => fun x7 x8 x9 b1_0 b2_0 b3 b5_0 =>
  match decide (x9 < x8) with
  | true =>
    tst (decide ((0 : Int) ≤ x9) && decide (x9 < ((x7.length : Int)))) <|
    match decide ((0 : Int) < x9) with
    | true =>
      match ((((x7.getD x9.toNat [])).getD 5 .top).toI) == b1_0 with
      | true =>
        match decide (b2_0 < (0 : Int)) with
        | true =>
          tst (decide ((0 : Int) ≤ x9) && decide (x9 < (32 : Int))) <|
          tst (decide (((0 + (x9.toNat * 1)) + 1) ≤ 32) && true) <|
          match rec x9 b5_0 (Eng.setAt b3 (0 + (x9.toNat * 1)) [.bool true]) with
          | none => none
          | some (.r rb0_0_2 rb1_2) =>
            L29_i6_f31_6 rec N n x7 x8 (IntKind.wrap .i64 (x9 + (1 : Int))) b1_0 b2_0 rb1_2 rb0_0_2
        | false =>
          match ((((x7.getD x9.toNat [])).getD 6 .top).toI) == b2_0 with
          | true =>
            tst (decide ((0 : Int) ≤ x9) && decide (x9 < (32 : Int))) <|
            tst (decide (((0 + (x9.toNat * 1)) + 1) ≤ 32) && true) <|
            match rec x9 b5_0 (Eng.setAt b3 (0 + (x9.toNat * 1)) [.bool true]) with
            | none => none
            | some (.r rb0_0_3 rb1_3) =>
              L29_i6_f31_6 rec N n x7 x8 (IntKind.wrap .i64 (x9 + (1 : Int))) b1_0 b2_0 rb1_3 rb0_0_3
          | false =>
            L29_i6_f31_6 rec N n x7 x8 (IntKind.wrap .i64 (x9 + (1 : Int))) b1_0 b2_0 b3 b5_0
      | false =>
        L29_i6_f31_6 rec N n x7 x8 (IntKind.wrap .i64 (x9 + (1 : Int))) b1_0 b2_0 b3 b5_0
    | false =>
      L29_i6_f31_6 rec N n x7 x8 (IntKind.wrap .i64 (x9 + (1 : Int))) b1_0 b2_0 b3 b5_0
  | false =>
    some (.x0 b1_0 b2_0 b3 b5_0)
def LFL29_i6_f31_6 (rec : TF29) (N : Nat) (n : Nat) (s : St) : Option OL29_i6_f31_6 := L29_i6_f31_6 rec N n ((Eng.look s.env 7).rows) ((Eng.look s.env 8).toI) ((Eng.look s.env 9).toI) (((s.mem.getD 1 .dead).cells.getD 0 .top).toI) (((s.mem.getD 2 .dead).cells.getD 0 .top).toI) ((s.mem.getD 3 .dead).cells) (((s.mem.getD 5 .dead).cells.getD 0 .top).rows)
def sgL29_i6_f31_6 : LSh := ⟨[(0, .one (.yld 0)), (2, .one (.ptr 1 0 0)), (3, .one (.ptr 2 0 0)), (7, .one (.cell (.slice 30))), (8, .one (.cell (.int .i64))), (9, .one (.cell (.int .i64)))], [.loop 4 [(2, .one (.ptr 3 0 0)), (3, .one (.ptr 4 0 0))] none, .var [.int .i64] [.cell (.int .i64)], .var [.int .i64] [.cell (.int .i64)], .arr [.bool, .bool, .bool, .bool, .bool, .bool, .bool, .bool, .bool, .bool, .bool, .bool, .bool, .bool, .bool, .bool, .bool, .bool, .bool, .bool, .bool, .bool, .bool, .bool, .bool, .bool, .bool, .bool, .bool, .bool, .bool, .bool], .var [.any] [.cl 29 [(5, 0, 0), (3, 0, 0), (4, 0, 0)]], .var [.any] [.cell (.slice 30)]]⟩
def ceL29_i6_f31_6 : List Cv := []
def seL29_i6_f31_6 : St → List Nat := fun st => [(Eng.look st.env 0).id, (Eng.look st.env 2).id, (Eng.look st.env 3).id, ((st.mem.getD ((Eng.look st.env 0).id) .dead).lenv.getD 0 (0, .top)).2.id, ((st.mem.getD ((Eng.look st.env 0).id) .dead).lenv.getD 1 (0, .top)).2.id, (((st.mem.getD (((st.mem.getD ((Eng.look st.env 0).id) .dead).lenv.getD 1 (0, .top)).2.id) .dead).cells.getD 0 .top).caps.getD 0 .top).id]
def xL29_i6_f31_6_x0 : XSh OL29_i6_f31_6 := ⟨[], ⟨[], [.loop 4 [(2, .one (.ptr 3 0 0)), (3, .one (.ptr 4 0 0))] none, .var [.int .i64] [.cell (.int .i64)], .var [.int .i64] [.cell (.int .i64)], .arr [.bool, .bool, .bool, .bool, .bool, .bool, .bool, .bool, .bool, .bool, .bool, .bool, .bool, .bool, .bool, .bool, .bool, .bool, .bool, .bool, .bool, .bool, .bool, .bool, .bool, .bool, .bool, .bool, .bool, .bool, .bool, .bool], .var [.any] [.cl 29 [(5, 0, 0), (3, 0, 0), (4, 0, 0)]], .var [.any] [.cell (.slice 30)]]⟩, fun st => [0, 1, 2, 3, 4, 5], fun s => .x0 (((s.mem.getD 1 .dead).cells.getD 0 .top).toI) (((s.mem.getD 2 .dead).cells.getD 0 .top).toI) ((s.mem.getD 3 .dead).cells) (((s.mem.getD 5 .dead).cells.getD 0 .top).rows)⟩
def xsL29_i6_f31_6 : Ex → St → Option (XSh OL29_i6_f31_6) := fun e st => match e with
  | .exit 0 => some xL29_i6_f31_6_x0
  | _ => none
def exL29_i6_f31_6 (o : OL29_i6_f31_6) : Ex := match o with | .x0 b1_0 b2_0 b3 b5_0 => (.exit 0)
def stL29_i6_f31_6 (o : OL29_i6_f31_6) : St := match o with | .x0 b1_0 b2_0 b3 b5_0 => ⟨[], [.loop 4 [(2, .ptr 3 0 0), (3, .ptr 4 0 0)] false none, .var [.int .i64] [.int .i64 b1_0], .var [.int .i64] [.int .i64 b2_0], .var [.bool, .bool, .bool, .bool, .bool, .bool, .bool, .bool, .bool, .bool, .bool, .bool, .bool, .bool, .bool, .bool, .bool, .bool, .bool, .bool, .bool, .bool, .bool, .bool, .bool, .bool, .bool, .bool, .bool, .bool, .bool, .bool] b3, .var [.any] [.clos 29 [] [.ptr 5 0 0, .ptr 3 0 0, .ptr 4 0 0]], .var [.any] [.list 30 b5_0]], [], .unk⟩
def elL29_i6_f31_6 {R : Type} (o : OL29_i6_f31_6) (k : Ex → St → Option R) : Option R := match o with | .x0 b1_0 b2_0 b3 b5_0 => k (.exit 0) ⟨[], [.loop 4 [(2, .ptr 3 0 0), (3, .ptr 4 0 0)] false none, .var [.int .i64] [.int .i64 b1_0], .var [.int .i64] [.int .i64 b2_0], .var [.bool, .bool, .bool, .bool, .bool, .bool, .bool, .bool, .bool, .bool, .bool, .bool, .bool, .bool, .bool, .bool, .bool, .bool, .bool, .bool, .bool, .bool, .bool, .bool, .bool, .bool, .bool, .bool, .bool, .bool, .bool, .bool] b3, .var [.any] [.clos 29 [] [.ptr 5 0 0, .ptr 3 0 0, .ptr 4 0 0]], .var [.any] [.list 30 b5_0]], [], .unk⟩
theorem heL29_i6_f31_6 {R : Type} (o : OL29_i6_f31_6) (k : Ex → St → Option R) : elL29_i6_f31_6 o k = k (exL29_i6_f31_6 o) (stL29_i6_f31_6 o) := by cases o <;> rfl
theorem hxL29_i6_f31_6 : ∀ e st x, xsL29_i6_f31_6 e st = some x → outOk x e exL29_i6_f31_6 stL29_i6_f31_6 := by
  intro e st x h
  unfold xsL29_i6_f31_6 at h
  repeat' split at h
  all_goals first
    | (injection h with h; subst h; exact fun lk M => ⟨rfl, rfl⟩)
    | cases h
noncomputable def T29_i6_f31_l6 (rec : TF29) (N : Nat) (R : Type) : LTab R := mkTab ⟨39, 549755813472⟩ (csF29 rec N R) (pickY [(4, fun id args M k => evyield CX (T29_s6 rec N R) 4 6 id args M k)]) [] [] []
theorem okT29_i6_f31_l6 (rec : TF29) (hrec : RecOkF29 rec) (N : Nat) (R : Type) : (T29_i6_f31_l6 rec N R).Ok CX code31 := mkTab_ok (hcsF29 rec hrec N R) (pickY_ok (es := [(4, fun id args M k => evyield CX (T29_s6 rec N R) 4 6 id args M k)]) ⟨fun {id args M k r} h => evyield_sound hX (okT29_s6 rec hrec N R) (g := nd4.1) (ps := nd4.2.1) ⟨[false, true], by rfl, by kernel_rfl⟩ h, trivial⟩) (trivial) (trivial) (trivial)
noncomputable def bdL29_i6_f31_6 : Code := match codeAt code31 [false, true] with | some (.loop c) => c | _ => .skip
theorem hsL29_i6_f31_6 (rec : TF29) (N : Nat) : ∀ (n : Nat) (lk : Nat → AV) (M : List Blk), LFL29_i6_f31_6 rec N (n + 1) (canS sgL29_i6_f31_6 lk M) = evk CX (T29_i6_f31_l6 rec N OL29_i6_f31_6) bdL29_i6_f31_6 (2 * 6) (canS sgL29_i6_f31_6 lk M) (kont CX 6 [] sgL29_i6_f31_6 (fun st => [0, 1, 2, 3, 4, 5]) xsL29_i6_f31_6 (LFL29_i6_f31_6 rec N n)) := by intro n lk M; kernel_rfl
noncomputable def T29_i6_f31_r1 (rec : TF29) (N : Nat) (R : Type) : LTab R := mkTab ⟨39, 549755813887⟩ (csF29 rec N R) (pickY [(4, fun id args M k => evyield CX (T29_s6 rec N R) 4 6 id args M k)]) [(6, fun st k => callLoop CX 6 549755813472 ceL29_i6_f31_6 sgL29_i6_f31_6 seL29_i6_f31_6 ⟨39, 549755813887⟩ (LFL29_i6_f31_6 rec N N) elL29_i6_f31_6 st k)] [] []
theorem okT29_i6_f31_r1 (rec : TF29) (hrec : RecOkF29 rec) (N : Nat) (R : Type) : (T29_i6_f31_r1 rec N R).Ok CX code31 := mkTab_ok (hcsF29 rec hrec N R) (pickY_ok (es := [(4, fun id args M k => evyield CX (T29_s6 rec N R) 4 6 id args M k)]) ⟨fun {id args M k r} h => evyield_sound hX (okT29_s6 rec hrec N R) (g := nd4.1) (ps := nd4.2.1) ⟨[false, true], by rfl, by kernel_rfl⟩ h, trivial⟩) (⟨loop_ok hX (path := [false, true]) (by kernel_rfl) (by rfl) (okT29_i6_f31_l6 rec hrec N OL29_i6_f31_6) (fun _ _ => rfl) (hsL29_i6_f31_6 rec N) hxL29_i6_f31_6 rfl heL29_i6_f31_6, trivial⟩) (trivial) (trivial)
noncomputable def T29_r1 (rec : TF29) (N : Nat) (R : Type) : LTab R := mkTab ⟨15, 32767⟩ (csF29 rec N R) (noY) [] [(6, fun st k => evrange CX (oneTab ⟨15, 32767⟩ (inl 31 (fun args M k => evfn CX (T29_i6_f31_r1 rec N R) code31 rs29_i6_f31 args M k))) 4 [2, 3] (.tmp 8) st k)] []
theorem okT29_r1 (rec : TF29) (hrec : RecOkF29 rec) (N : Nat) (R : Type) : (T29_r1 rec N R).Ok CX code29 := mkTab_ok (hcsF29 rec hrec N R) (noY_ok) (trivial) (⟨range_ok hX (path := [false, true]) (ps0 := nd4.2.1) (a0 := nd4.2.2.1) (b0 := nd4.2.2.2) (by kernel_rfl) (by rfl) (inl_ok fun {args M k r} h => evfn_sound hX (okT29_i6_f31_r1 rec hrec N R) Try.func31 hb31 rfl en31 (by kernel_rfl) h) (by kernel_rfl), trivial⟩) (trivial)
def rsF29 : List ResultVar := []
def F29 : Nat → TF29
  | 0 => fun _ _ _ => none
  | N + 1 => fun x0 b0_0 b1 =>
  match F23 N b0_0 x0 ((-1)) with
  | none => none
  | some (.r rb0_0_1 rb1_0_1 rb2_0_1) =>
    match L29_i6_f31_6 (F29 N) N N rb0_0_1 ((rb0_0_1.length : Int)) 0 rb1_0_1 rb2_0_1 b1 b0_0 with
    | none => none
    | some (.x0 b1_0_4 b2_0_4 b3_4 b5_0_4) =>
      some (.r b5_0_4 b3_4)
def xRF29 : XSh R29 := ⟨[], ⟨[], [.var [.any] [.cell (.slice 30)], .arr [.bool, .bool, .bool, .bool, .bool, .bool, .bool, .bool, .bool, .bool, .bool, .bool, .bool, .bool, .bool, .bool, .bool, .bool, .bool, .bool, .bool, .bool, .bool, .bool, .bool, .bool, .bool, .bool, .bool, .bool, .bool, .bool], .var [.any] [.cl 29 [(0, 0, 0), (1, 0, 0), (2, 0, 0)]]]⟩, fun st => [0, 1, 2], fun s => .r (((s.mem.getD 0 .dead).cells.getD 0 .top).rows) ((s.mem.getD 1 .dead).cells)⟩
theorem fsF29 : ∀ (N : Nat) (lk : Nat → AV) (M : List Blk), FFF29 (F29 (N + 1)) (canS sgF29 lk M) = evfn CX (T29_r1 (F29 N) N R29) code29 rsF29 (argsE 4 (canS sgF29 lk M).env) (canS sgF29 lk M).mem (goRt CX 3 0 (fun _ => some xRF29)) := by intro N lk M; kernel_rfl
theorem soundF29 : ∀ N, RecOkF29 (F29 N)
  | 0, lk, M, o, h => by cases h
  | N + 1, lk, M, o, h => fn_soundt hX (okT29_r1 (F29 N) (soundF29 N) N R29) Try.func29 hb29 rfl en29 (by kernel_rfl) (ys := fun _ => some xRF29) (fun st y h => by injection h with h; subst h; exact fun lk M => ⟨rfl, rfl⟩) ((fsF29 N lk M).symm.trans h)
end Go.Proofs.Ytfggehkiglenjaa

namespace Go.Proofs.Ytfggehkiglenjaa
open Go Go.Eng
set_option maxRecDepth 100000

/-! ### F15: ceiling/master.Depends -/
inductive R15 where
  | r (b0 : List Row)
abbrev TF15 := List Row → Int → Option R15
def sgF15 : LSh := ⟨[(0, .one (.cell (.slice 30))), (1, .one (.cell (.int .i64)))], []⟩
def FFF15 (Fx : TF15) (s : St) : Option R15 := Fx ((Eng.look s.env 0).rows) ((Eng.look s.env 1).toI)
def valF15 (o : R15) : AV := match o with | .r b0 => .own 0
def memF15 (o : R15) : List Blk := match o with | .r b0 => [.row 3 b0]
def elF15 {R : Type} (o : R15) (k : AV → List Blk → Option R) : Option R := match o with | .r b0 => k (.own 0) [.row 3 b0]
def RecOkF15 (Fx : TF15) : Prop := ∀ lk M o, FFF15 Fx (canS sgF15 lk M) = some o → FCalls CX 15 0 (argsE 2 (canS sgF15 lk M).env) (canS sgF15 lk M).mem (valF15 o) (memF15 o)
noncomputable def csF15 (N : Nat) (R : Type) : List (CE R) := [ce_16_0 (F16 N) R (fun _ _ => true), ce_26_0 (F26 N) R (fun _ _ => true), ce_29_0 (F29 N) R (fun _ _ => true)]
theorem hcsF15 (N : Nat) (R : Type) : AllE (CeOk CX) (csF15 N R) := ⟨okce_16_0 (F16 N) (soundF16 N) R (fun _ _ => true), okce_26_0 (F26 N) (soundF26 N) R (fun _ _ => true), okce_29_0 (F29 N) (soundF29 N) R (fun _ _ => true), trivial⟩
noncomputable def T15_r1 (N : Nat) (R : Type) : LTab R := mkTab ⟨17, 131071⟩ (csF15 N R) (noY) [] [] []
theorem okT15_r1 (N : Nat) (R : Type) : (T15_r1 N R).Ok CX code15 := mkTab_ok (hcsF15 N R) (noY_ok) (trivial) (trivial) (trivial)
def rsF15 : List ResultVar := [.tmp 4]
def F15 : Nat → TF15
  | 0 => fun _ _ => none
  | N + 1 => fun x0 x1 =>
  match F16 N x0 with
  | none => none
  | some (.r rx0_1) =>
    match !rx0_1 with
    | true =>
      some (.r (([] : List Row)))
    | false =>
      match F29 N x1 x0 (([.bool false, .bool false, .bool false, .bool false, .bool false, .bool false, .bool false, .bool false, .bool false, .bool false, .bool false, .bool false, .bool false, .bool false, .bool false, .bool false, .bool false, .bool false, .bool false, .bool false, .bool false, .bool false, .bool false, .bool false, .bool false, .bool false, .bool false, .bool false, .bool false, .bool false, .bool false, .bool false] : List AV)) with
      | none => none
      | some (.r rb0_0_2 rb1_2) =>
        match F26 N rb0_0_2 ((rb1_2.getD 0 .top).toB) ((rb1_2.getD 1 .top).toB) ((rb1_2.getD 2 .top).toB) ((rb1_2.getD 3 .top).toB) ((rb1_2.getD 4 .top).toB) ((rb1_2.getD 5 .top).toB) ((rb1_2.getD 6 .top).toB) ((rb1_2.getD 7 .top).toB) ((rb1_2.getD 8 .top).toB) ((rb1_2.getD 9 .top).toB) ((rb1_2.getD 10 .top).toB) ((rb1_2.getD 11 .top).toB) ((rb1_2.getD 12 .top).toB) ((rb1_2.getD 13 .top).toB) ((rb1_2.getD 14 .top).toB) ((rb1_2.getD 15 .top).toB) ((rb1_2.getD 16 .top).toB) ((rb1_2.getD 17 .top).toB) ((rb1_2.getD 18 .top).toB) ((rb1_2.getD 19 .top).toB) ((rb1_2.getD 20 .top).toB) ((rb1_2.getD 21 .top).toB) ((rb1_2.getD 22 .top).toB) ((rb1_2.getD 23 .top).toB) ((rb1_2.getD 24 .top).toB) ((rb1_2.getD 25 .top).toB) ((rb1_2.getD 26 .top).toB) ((rb1_2.getD 27 .top).toB) ((rb1_2.getD 28 .top).toB) ((rb1_2.getD 29 .top).toB) ((rb1_2.getD 30 .top).toB) ((rb1_2.getD 31 .top).toB) with
        | none => none
        | some (.r rb0_3) =>
          some (.r rb0_3)
def xRF15 : XSh R15 := ⟨[.mk 0 3], ⟨[(0, .one (.own 0))], [.row 3]⟩, fun st => [(Eng.look st.env 0).id], fun s => .r ((s.mem.getD 0 .dead).rows)⟩
theorem fsF15 : ∀ (N : Nat) (lk : Nat → AV) (M : List Blk), FFF15 (F15 (N + 1)) (canS sgF15 lk M) = evfn CX (T15_r1 N R15) code15 rsF15 (argsE 2 (canS sgF15 lk M).env) (canS sgF15 lk M).mem (goR CX 0 (fun _ => some xRF15)) := by intro N lk M; kernel_rfl
theorem soundF15 : ∀ N, RecOkF15 (F15 N)
  | 0, lk, M, o, h => by cases h
  | N + 1, lk, M, o, h => fn_sound hX (okT15_r1 N R15) Try.func15 hb15 rfl en15 (by kernel_rfl) (ys := fun _ => some xRF15) (fun st y h => by injection h with h; subst h; exact fun lk M => ⟨rfl, rfl⟩) ((fsF15 N lk M).symm.trans h)
def cvce_15_0 : List Cv := []
def selce_15_0 : St → List Nat := fun _ => []
noncomputable def ce_15_0 (Fx : TF15) (R : Type) (test : List AV → List Blk → Bool) : CE R := ⟨15, test, fun args M => some (selce_15_0 ⟨argEnv 0 args, M, [], .unk⟩), fun args M k => tst (Nat.beq args.length 2) (callFn CX 0 cvce_15_0 sgF15 selce_15_0 (FFF15 Fx) elF15 args M k)⟩
theorem okce_15_0 (Fx : TF15) (h : RecOkF15 Fx) (R : Type) (test : List AV → List Blk → Bool) : CeOk CX (ce_15_0 Fx R test) := ce_ok hX (fun o k => by cases o; rfl) h en15 (fun args M ids h => by injection h with h; exact ⟨rfl, h.symm⟩)
def cvce_15_1 : List Cv := [.frz 0 (.slice 30)]
def selce_15_1 : St → List Nat := fun _ => []
noncomputable def ce_15_1 (Fx : TF15) (R : Type) (test : List AV → List Blk → Bool) : CE R := ⟨15, test, fun _ _ => none, fun args M k => tst (Nat.beq args.length 2) (callFn CX 0 cvce_15_1 sgF15 selce_15_1 (FFF15 Fx) elF15 args M k)⟩
theorem okce_15_1 (Fx : TF15) (h : RecOkF15 Fx) (R : Type) (test : List AV → List Blk → Bool) : CeOk CX (ce_15_1 Fx R test) := ce_ok hX (fun o k => by cases o; rfl) h en15 (fun args M ids h => by cases h)
end Go.Proofs.Ytfggehkiglenjaa

namespace Go.Proofs.Ytfggehkiglenjaa
open Go Go.Eng
set_option maxRecDepth 100000

/-! ### F8: ceiling/ceilingref33.Same -/
inductive R8 where
  | r (x0 : Bool)
abbrev TF8 := List Row → List Row → Option R8
def sgF8 : LSh := ⟨[(0, .one (.cell (.slice 3))), (1, .one (.cell (.slice 3)))], []⟩
def FFF8 (Fx : TF8) (s : St) : Option R8 := Fx ((Eng.look s.env 0).rows) ((Eng.look s.env 1).rows)
def valF8 (o : R8) : AV := match o with | .r x0 => .bool x0
def memF8 (o : R8) : List Blk := match o with | .r x0 => []
def elF8 {R : Type} (o : R8) (k : AV → List Blk → Option R) : Option R := match o with | .r x0 => k (.bool x0) []
def RecOkF8 (Fx : TF8) : Prop := ∀ lk M o, FFF8 Fx (canS sgF8 lk M) = some o → FCalls CX 8 0 (argsE 2 (canS sgF8 lk M).env) (canS sgF8 lk M).mem (valF8 o) (memF8 o)
noncomputable def csF8 (N : Nat) (R : Type) : List (CE R) := []
theorem hcsF8 (N : Nat) (R : Type) : AllE (CeOk CX) (csF8 N R) := trivial
inductive OL8_58 where
  | ret (x4 : Bool)
  | x0
def L8_58 (N : Nat) : Nat → List Row → List Row → Int → Option OL8_58
  | 0 => fun _ _ _ => none
  | n + 1 => fun x0 x1 x5 =>
  match decide (x5 < ((x0.length : Int))) with
  | true =>
    tst (decide ((0 : Int) ≤ x5) && decide (x5 < ((x0.length : Int)))) <|
    tst (decide ((0 : Int) ≤ x5) && decide (x5 < ((x1.length : Int)))) <|
    match ((((x0.getD x5.toNat [])).getD 0 .top).toI) != ((((x1.getD x5.toNat [])).getD 0 .top).toI) with
    | true =>
      some (.ret false)
    | false =>
      L8_58 N n x0 x1 (IntKind.wrap .i64 (x5 + (1 : Int)))
  | false =>
    some .x0
def LFL8_58 (N : Nat) (n : Nat) (s : St) : Option OL8_58 := L8_58 N n ((Eng.look s.env 0).rows) ((Eng.look s.env 1).rows) ((Eng.look s.env 5).toI)
def sgL8_58 : LSh := ⟨[(0, .one (.cell (.slice 3))), (1, .one (.cell (.slice 3))), (5, .one (.cell (.int .i64)))], []⟩
def ceL8_58 : List Cv := []
def seL8_58 : St → List Nat := fun _ => []
def xL8_58_ret : XSh OL8_58 := ⟨[], ⟨[(4, .one (.cell (.bool)))], []⟩, fun _ => [], fun s => .ret ((Eng.look s.env 4).toB)⟩
def xL8_58_x0 : XSh OL8_58 := ⟨[], ⟨[], []⟩, fun _ => [], fun s => .x0 ⟩
def xsL8_58 : Ex → St → Option (XSh OL8_58) := fun e st => match e with
  | .ret => some xL8_58_ret
  | .exit 0 => some xL8_58_x0
  | _ => none
def exL8_58 (o : OL8_58) : Ex := match o with | .ret x4 => .ret | .x0 => (.exit 0)
def stL8_58 (o : OL8_58) : St := match o with | .ret x4 => ⟨[(4, .bool x4)], [], [], .unk⟩ | .x0 => ⟨[], [], [], .unk⟩
def elL8_58 {R : Type} (o : OL8_58) (k : Ex → St → Option R) : Option R := match o with | .ret x4 => k .ret ⟨[(4, .bool x4)], [], [], .unk⟩ | .x0 => k (.exit 0) ⟨[], [], [], .unk⟩
theorem heL8_58 {R : Type} (o : OL8_58) (k : Ex → St → Option R) : elL8_58 o k = k (exL8_58 o) (stL8_58 o) := by cases o <;> rfl
theorem hxL8_58 : ∀ e st x, xsL8_58 e st = some x → outOk x e exL8_58 stL8_58 := by
  intro e st x h
  unfold xsL8_58 at h
  repeat' split at h
  all_goals first
    | (injection h with h; subst h; exact fun lk M => ⟨rfl, rfl⟩)
    | cases h
noncomputable def T8_l58 (N : Nat) (R : Type) : LTab R := mkTab ⟨26, 67106864⟩ (csF8 N R) (noY) [] [] []
theorem okT8_l58 (N : Nat) (R : Type) : (T8_l58 N R).Ok CX code8 := mkTab_ok (hcsF8 N R) (noY_ok) (trivial) (trivial) (trivial)
noncomputable def bdL8_58 : Code := match codeAt code8 [false, true, false, true, true] with | some (.loop c) => c | _ => .skip
theorem hsL8_58 (N : Nat) : ∀ (n : Nat) (lk : Nat → AV) (M : List Blk), LFL8_58 N (n + 1) (canS sgL8_58 lk M) = evk CX (T8_l58 N OL8_58) bdL8_58 (2 * 58) (canS sgL8_58 lk M) (kont CX 0 [] sgL8_58 (fun _ => []) xsL8_58 (LFL8_58 N n)) := by intro n lk M; kernel_rfl
noncomputable def T8_r1 (N : Nat) (R : Type) : LTab R := mkTab ⟨26, 67108863⟩ (csF8 N R) (noY) [(58, fun st k => callLoop CX 0 67106864 ceL8_58 sgL8_58 seL8_58 ⟨26, 67108863⟩ (LFL8_58 N N) elL8_58 st k)] [] []
theorem okT8_r1 (N : Nat) (R : Type) : (T8_r1 N R).Ok CX code8 := mkTab_ok (hcsF8 N R) (noY_ok) (⟨loop_ok hX (path := [false, true, false, true, true]) (by kernel_rfl) (by rfl) (okT8_l58 N OL8_58) (fun _ _ => rfl) (hsL8_58 N) hxL8_58 rfl heL8_58, trivial⟩) (trivial) (trivial)
def rsF8 : List ResultVar := [.tmp 4]
def F8 : Nat → TF8
  | 0 => fun _ _ => none
  | N + 1 => fun x0 x1 =>
  match ((x0.length : Int)) != ((x1.length : Int)) with
  | true =>
    some (.r false)
  | false =>
    match L8_58 N N x0 x1 0 with
    | none => none
    | some (.ret x4_1) =>
      some (.r x4_1)
    | some (.x0) =>
      some (.r true)
def xRF8 : XSh R8 := ⟨[], ⟨[(0, .one (.cell (.bool)))], []⟩, fun _ => [], fun s => .r ((Eng.look s.env 0).toB)⟩
theorem fsF8 : ∀ (N : Nat) (lk : Nat → AV) (M : List Blk), FFF8 (F8 (N + 1)) (canS sgF8 lk M) = evfn CX (T8_r1 N R8) code8 rsF8 (argsE 2 (canS sgF8 lk M).env) (canS sgF8 lk M).mem (goR CX 0 (fun _ => some xRF8)) := by intro N lk M; kernel_rfl
theorem soundF8 : ∀ N, RecOkF8 (F8 N)
  | 0, lk, M, o, h => by cases h
  | N + 1, lk, M, o, h => fn_sound hX (okT8_r1 N R8) Try.func8 hb8 rfl en8 (by kernel_rfl) (ys := fun _ => some xRF8) (fun st y h => by injection h with h; subst h; exact fun lk M => ⟨rfl, rfl⟩) ((fsF8 N lk M).symm.trans h)
def cvce_8_0 : List Cv := [.frz 0 (.slice 3), .frz 1 (.slice 3)]
def selce_8_0 : St → List Nat := fun _ => []
noncomputable def ce_8_0 (Fx : TF8) (R : Type) (test : List AV → List Blk → Bool) : CE R := ⟨8, test, fun _ _ => none, fun args M k => tst (Nat.beq args.length 2) (callFn CX 0 cvce_8_0 sgF8 selce_8_0 (FFF8 Fx) elF8 args M k)⟩
theorem okce_8_0 (Fx : TF8) (h : RecOkF8 Fx) (R : Type) (test : List AV → List Blk → Bool) : CeOk CX (ce_8_0 Fx R test) := ce_ok hX (fun o k => by cases o; rfl) h en8 (fun args M ids h => by cases h)
end Go.Proofs.Ytfggehkiglenjaa

namespace Go.Proofs.Ytfggehkiglenjaa
open Go Go.Eng
set_option maxRecDepth 100000

/-! ### F13: ceiling/ceilinglaw33.works -/
inductive R13 where
  | r (x0 : Bool)
abbrev TF13 := Option R13
def sgF13 : LSh := ⟨[], []⟩
def FFF13 (Fx : TF13) (s : St) : Option R13 := Fx 
def valF13 (o : R13) : AV := match o with | .r x0 => .bool x0
def memF13 (o : R13) : List Blk := match o with | .r x0 => []
def elF13 {R : Type} (o : R13) (k : AV → List Blk → Option R) : Option R := match o with | .r x0 => k (.bool x0) []
def RecOkF13 (Fx : TF13) : Prop := ∀ lk M o, FFF13 Fx (canS sgF13 lk M) = some o → FCalls CX 13 0 (argsE 0 (canS sgF13 lk M).env) (canS sgF13 lk M).mem (valF13 o) (memF13 o)
noncomputable def csF13 (N : Nat) (R : Type) : List (CE R) := [ce_8_0 (F8 N) R (fun _ _ => true), ce_9_0 (F9 N) R (fun _ _ => true), ce_11_0 (F11 N) R (testV CX cvce_11_0 sgF11 selce_11_0), ce_11_1 (F11 N) R (testV CX cvce_11_1 sgF11 selce_11_1), ce_15_0 (F15 N) R (fun _ _ => true), ce_17_0 (F17 N) R (fun _ _ => true), ce_20_0 (F20 N) R (fun _ _ => true), ce_21_0 (F21 N) R (fun _ _ => true)]
theorem hcsF13 (N : Nat) (R : Type) : AllE (CeOk CX) (csF13 N R) := ⟨okce_8_0 (F8 N) (soundF8 N) R (fun _ _ => true), okce_9_0 (F9 N) (soundF9 N) R (fun _ _ => true), okce_11_0 (F11 N) (soundF11 N) R (testV CX cvce_11_0 sgF11 selce_11_0), okce_11_1 (F11 N) (soundF11 N) R (testV CX cvce_11_1 sgF11 selce_11_1), okce_15_0 (F15 N) (soundF15 N) R (fun _ _ => true), okce_17_0 (F17 N) (soundF17 N) R (fun _ _ => true), okce_20_0 (F20 N) (soundF20 N) R (fun _ _ => true), okce_21_0 (F21 N) (soundF21 N) R (fun _ _ => true), trivial⟩
inductive OJ13_510 where
  | nx (x7 : Bool) (b0 : List Row) (b1 : List Row) (b2 : List Row) (b3 : List Row) (b4 : List Row)
def J13_510 (N : Nat) : List Row → List Row → List Row → List Row → List Row → Option OJ13_510 := fun b0 b1 b2 b3 b4 =>
  match F9 N b0 with
  | none => none
  | some (.r rb0_7) =>
    match F8 N rb0_7 (([[.int .i64 1], [.int .i64 2]] : List Row)) with
    | none => none
    | some (.r rx0_8) =>
      match rx0_8 with
      | true =>
        match F9 N b1 with
        | none => none
        | some (.r rb0_9) =>
          match ((rb0_9.length : Int)) == (0 : Int) with
          | true =>
            match F17 N b1 2 with
            | none => none
            | some (.r rx0_10) =>
              match !rx0_10 with
              | true =>
                match F17 N b1 1 with
                | none => none
                | some (.r rx0_11) =>
                  match rx0_11 with
                  | true =>
                    match F9 N b2 with
                    | none => none
                    | some (.r rb0_12) =>
                      match F8 N rb0_12 (([[.int .i64 1], [.int .i64 2]] : List Row)) with
                      | none => none
                      | some (.r rx0_13) =>
                        match rx0_13 with
                        | true =>
                          match F9 N b3 with
                          | none => none
                          | some (.r rb0_14) =>
                            match F8 N rb0_14 (([[.int .i64 2]] : List Row)) with
                            | none => none
                            | some (.r rx0_15) =>
                              match rx0_15 with
                              | true =>
                                match F9 N b4 with
                                | none => none
                                | some (.r rb0_16) =>
                                  some (.nx (((rb0_16.length : Int)) == (0 : Int)) b0 b1 b2 b3 b4)
                              | false =>
                                some (.nx false b0 b1 b2 b3 b4)
                        | false =>
                          some (.nx false b0 b1 b2 b3 b4)
                  | false =>
                    some (.nx false b0 b1 b2 b3 b4)
              | false =>
                some (.nx false b0 b1 b2 b3 b4)
          | false =>
            some (.nx false b0 b1 b2 b3 b4)
      | false =>
        some (.nx false b0 b1 b2 b3 b4)
def LFJ13_510 (N : Nat) (s : St) : Option OJ13_510 := J13_510 N ((s.mem.getD 0 .dead).rows) ((s.mem.getD 1 .dead).rows) ((s.mem.getD 2 .dead).rows) ((s.mem.getD 3 .dead).rows) ((s.mem.getD 4 .dead).rows)
def sgJ13_510 : LSh := ⟨[(1, .one (.own 0)), (2, .one (.own 1)), (3, .one (.own 2)), (4, .one (.own 3)), (5, .one (.own 4))], [.row 30, .row 30, .row 30, .row 30, .row 30]⟩
def ceJ13_510 : List Cv := []
def seJ13_510 : St → List Nat := fun st => [(Eng.look st.env 1).id, (Eng.look st.env 2).id, (Eng.look st.env 3).id, (Eng.look st.env 4).id, (Eng.look st.env 5).id]
def xJ13_510_nx : XSh OJ13_510 := ⟨[.frzb (fun env M => 4) 30, .frzb (fun env M => 3) 30, .frzb (fun env M => 2) 30, .frzb (fun env M => 1) 30], ⟨[(7, .one (.cell (.bool)))], [.fro 30, .fro 30, .fro 30, .fro 30, .fro 30]⟩, fun st => [0, 1, 2, 3, 4], fun s => .nx ((Eng.look s.env 7).toB) ((s.mem.getD 0 .dead).rows) ((s.mem.getD 1 .dead).rows) ((s.mem.getD 2 .dead).rows) ((s.mem.getD 3 .dead).rows) ((s.mem.getD 4 .dead).rows)⟩
def xsJ13_510 : Ex → St → Option (XSh OJ13_510) := fun e st => match e with
  | .normal => some xJ13_510_nx
  | _ => none
def exJ13_510 (o : OJ13_510) : Ex := match o with | .nx x7 b0 b1 b2 b3 b4 => .normal
def stJ13_510 (o : OJ13_510) : St := match o with | .nx x7 b0 b1 b2 b3 b4 => ⟨[(7, .bool x7)], [.fro 30 b0, .fro 30 b1, .fro 30 b2, .fro 30 b3, .fro 30 b4], [], .unk⟩
def elJ13_510 {R : Type} (o : OJ13_510) (k : Ex → St → Option R) : Option R := match o with | .nx x7 b0 b1 b2 b3 b4 => k .normal ⟨[(7, .bool x7)], [.fro 30 b0, .fro 30 b1, .fro 30 b2, .fro 30 b3, .fro 30 b4], [], .unk⟩
theorem heJ13_510 {R : Type} (o : OJ13_510) (k : Ex → St → Option R) : elJ13_510 o k = k (exJ13_510 o) (stJ13_510 o) := by cases o <;> rfl
theorem hxJ13_510 : ∀ e st x, xsJ13_510 e st = some x → outOk x e exJ13_510 stJ13_510 := by
  intro e st x h
  unfold xsJ13_510 at h
  repeat' split at h
  all_goals first
    | (injection h with h; subst h; exact fun lk M => ⟨rfl, rfl⟩)
    | cases h
noncomputable def T13_c510 (N : Nat) (R : Type) : LTab R := mkTab ⟨125, 1180591620708821368960⟩ (csF13 N R) (noY) [] [] []
theorem okT13_c510 (N : Nat) (R : Type) : (T13_c510 N R).Ok CX code13 := mkTab_ok (hcsF13 N R) (noY_ok) (trivial) (trivial) (trivial)
noncomputable def bdJ13_510 : Code := (codeAt code13 [false, true, true, true, true, true, true, true]).getD .skip
theorem hsJ13_510 (N : Nat) : ∀ (lk : Nat → AV) (M : List Blk), LFJ13_510 N (canS sgJ13_510 lk M) = evk CX (T13_c510 N OJ13_510) bdJ13_510 510 (canS sgJ13_510 lk M) (kontX CX 5 xsJ13_510) := by intro lk M; kernel_rfl
inductive OJ13_1022 where
  | nx (x8 : Bool)
def J13_1022 (N : Nat) : List Row → Option OJ13_1022 := fun x1 =>
  match F15 N x1 0 with
  | none => none
  | some (.r rb0_18) =>
    match F8 N rb0_18 (([[.int .i64 1], [.int .i64 2], [.int .i64 3], [.int .i64 4]] : List Row)) with
    | none => none
    | some (.r rx0_19) =>
      match rx0_19 with
      | true =>
        match F15 N x1 1 with
        | none => none
        | some (.r rb0_20) =>
          match F8 N rb0_20 (([[.int .i64 3]] : List Row)) with
          | none => none
          | some (.r rx0_21) =>
            match rx0_21 with
            | true =>
              match F11 N x1 (([[.int .i64 1]] : List Row)) with
              | none => none
              | some (.r rb0_22) =>
                match F8 N rb0_22 (([[.int .i64 1], [.int .i64 3]] : List Row)) with
                | none => none
                | some (.r rx0_23) =>
                  match rx0_23 with
                  | true =>
                    match F11 N x1 (([[.int .i64 0], [.int .i64 0]] : List Row)) with
                    | none => none
                    | some (.r rb0_24) =>
                      match F8 N rb0_24 (([[.int .i64 0], [.int .i64 1], [.int .i64 2], [.int .i64 3], [.int .i64 4]] : List Row)) with
                      | none => none
                      | some (.r rx0_25) =>
                        some (.nx rx0_25)
                  | false =>
                    some (.nx false)
            | false =>
              some (.nx false)
      | false =>
        some (.nx false)
def LFJ13_1022 (N : Nat) (s : St) : Option OJ13_1022 := J13_1022 N ((Eng.look s.env 1).rows)
def sgJ13_1022 : LSh := ⟨[(1, .one (.cell (.slice 30)))], []⟩
def ceJ13_1022 : List Cv := [.frz 1 (.slice 30)]
def seJ13_1022 : St → List Nat := fun _ => []
def xJ13_1022_nx : XSh OJ13_1022 := ⟨[], ⟨[(8, .one (.cell (.bool)))], []⟩, fun _ => [], fun s => .nx ((Eng.look s.env 8).toB)⟩
def xsJ13_1022 : Ex → St → Option (XSh OJ13_1022) := fun e st => match e with
  | .normal => some xJ13_1022_nx
  | _ => none
def exJ13_1022 (o : OJ13_1022) : Ex := match o with | .nx x8 => .normal
def stJ13_1022 (o : OJ13_1022) : St := match o with | .nx x8 => ⟨[(8, .bool x8)], [], [], .unk⟩
def elJ13_1022 {R : Type} (o : OJ13_1022) (k : Ex → St → Option R) : Option R := match o with | .nx x8 => k .normal ⟨[(8, .bool x8)], [], [], .unk⟩
theorem heJ13_1022 {R : Type} (o : OJ13_1022) (k : Ex → St → Option R) : elJ13_1022 o k = k (exJ13_1022 o) (stJ13_1022 o) := by cases o <;> rfl
theorem hxJ13_1022 : ∀ e st x, xsJ13_1022 e st = some x → outOk x e exJ13_1022 stJ13_1022 := by
  intro e st x h
  unfold xsJ13_1022 at h
  repeat' split at h
  all_goals first
    | (injection h with h; subst h; exact fun lk M => ⟨rfl, rfl⟩)
    | cases h
noncomputable def T13_c1022 (N : Nat) (R : Type) : LTab R := mkTab ⟨125, 19807039447974463680974684416⟩ (csF13 N R) (noY) [] [] []
theorem okT13_c1022 (N : Nat) (R : Type) : (T13_c1022 N R).Ok CX code13 := mkTab_ok (hcsF13 N R) (noY_ok) (trivial) (trivial) (trivial)
noncomputable def bdJ13_1022 : Code := (codeAt code13 [false, true, true, true, true, true, true, true, true]).getD .skip
theorem hsJ13_1022 (N : Nat) : ∀ (lk : Nat → AV) (M : List Blk), LFJ13_1022 N (canS sgJ13_1022 lk M) = evk CX (T13_c1022 N OJ13_1022) bdJ13_1022 1022 (canS sgJ13_1022 lk M) (kontX CX 0 xsJ13_1022) := by intro lk M; kernel_rfl
noncomputable def T13_r1 (N : Nat) (R : Type) : LTab R := mkTab ⟨125, 42535295865117307932921825928971026431⟩ (csF13 N R) (noY) [] [] [(510, fun st k => callLoop CX 5 1180591620708821368960 ceJ13_510 sgJ13_510 seJ13_510 ⟨125, 42535295865117307932921825928971026431⟩ (LFJ13_510 N) elJ13_510 st k), (1022, fun st k => callLoop CX 0 19807039447974463680974684416 ceJ13_1022 sgJ13_1022 seJ13_1022 ⟨125, 42535295865117307932921825928971026431⟩ (LFJ13_1022 N) elJ13_1022 st k)]
theorem okT13_r1 (N : Nat) (R : Type) : (T13_r1 N R).Ok CX code13 := mkTab_ok (hcsF13 N R) (noY_ok) (trivial) (trivial) (⟨cut_ok hX (path := [false, true, true, true, true, true, true, true]) (by kernel_rfl) (by rfl) (okT13_c510 N OJ13_510) (hsJ13_510 N) hxJ13_510 rfl heJ13_510, cut_ok hX (path := [false, true, true, true, true, true, true, true, true]) (by kernel_rfl) (by rfl) (okT13_c1022 N OJ13_1022) (hsJ13_1022 N) hxJ13_1022 rfl heJ13_1022, trivial⟩)
def rsF13 : List ResultVar := [.tmp 0]
def F13 : Nat → TF13
  | 0 => none
  | N + 1 => match F21 N  with
| none => none
| some (.r rb0_1) =>
  match F21 N  with
  | none => none
  | some (.r rb0_2) =>
    match F21 N  with
    | none => none
    | some (.r rb0_3) =>
      match F21 N  with
      | none => none
      | some (.r rb0_4) =>
        match F21 N  with
        | none => none
        | some (.r rb0_5) =>
          match F21 N  with
          | none => none
          | some (.r rb0_6) =>
            tst (decide ((4 : Int) < ((rb0_2.length : Int)))) <|
            tst (decide (4 < rb0_2.length)) <|
            tst (decide ((4 : Int) < ((rb0_3.length : Int)))) <|
            tst (decide (4 < rb0_3.length)) <|
            tst (decide ((4 : Int) < (((rb0_3.set 4 (Eng.setAt ((rb0_3.getD 4 [])) 1 [.bool true])).length : Int)))) <|
            tst (decide (4 < ((rb0_3.set 4 (Eng.setAt ((rb0_3.getD 4 [])) 1 [.bool true])).length))) <|
            tst (decide ((1 : Int) < ((rb0_4.length : Int)))) <|
            tst (decide (1 < rb0_4.length)) <|
            tst (decide ((0 : Int) < ((rb0_5.length : Int)))) <|
            tst (decide (0 < rb0_5.length)) <|
            tst (decide ((1 : Int) < ((rb0_6.length : Int)))) <|
            tst (decide (1 < rb0_6.length)) <|
            match J13_510 N rb0_1 (rb0_2.set 4 (Eng.setAt ((rb0_2.getD 4 [])) 3 [.bool false])) ((rb0_3.set 4 (Eng.setAt ((rb0_3.getD 4 [])) 1 [.bool true])).set 4 (Eng.setAt (((rb0_3.set 4 (Eng.setAt ((rb0_3.getD 4 [])) 1 [.bool true])).getD 4 [])) 3 [.bool false])) (rb0_4.set 1 (Eng.setAt ((rb0_4.getD 1 [])) 4 [.bool true])) (rb0_5.set 0 (Eng.setAt ((rb0_5.getD 0 [])) 7 [.int .i64 ((-1))])) with
            | none => none
            | some (.nx x7_17 b0_17 b1_17 b2_17 b3_17 b4_17) =>
              match J13_1022 N b0_17 with
              | none => none
              | some (.nx x8_26) =>
                match x7_17 with
                | true =>
                  match x8_26 with
                  | true =>
                    match F9 N (rb0_6.set 1 (Eng.setAt ((rb0_6.getD 1 [])) 2 [.bool true])) with
                    | none => none
                    | some (.r rb0_27) =>
                      match ((rb0_27.length : Int)) == (0 : Int) with
                      | true =>
                        match F11 N (rb0_6.set 1 (Eng.setAt ((rb0_6.getD 1 [])) 2 [.bool true])) (([[.int .i64 0]] : List Row)) with
                        | none => none
                        | some (.r rb0_28) =>
                          match F8 N rb0_28 (([[.int .i64 0], [.int .i64 2], [.int .i64 4]] : List Row)) with
                          | none => none
                          | some (.r rx0_29) =>
                            match rx0_29 with
                            | true =>
                              match F20 N b0_17 0 0 with
                              | none => none
                              | some (.r rx0_30) =>
                                match !rx0_30 with
                                | true =>
                                  match F20 N b0_17 0 1 with
                                  | none => none
                                  | some (.r rx0_31) =>
                                    match rx0_31 with
                                    | true =>
                                      match F20 N b0_17 9 0 with
                                      | none => none
                                      | some (.r rx0_32) =>
                                        some (.r (!rx0_32))
                                    | false =>
                                      some (.r false)
                                | false =>
                                  some (.r false)
                            | false =>
                              some (.r false)
                      | false =>
                        some (.r false)
                  | false =>
                    some (.r false)
                | false =>
                  some (.r false)
def xRF13 : XSh R13 := ⟨[], ⟨[(0, .one (.cell (.bool)))], []⟩, fun _ => [], fun s => .r ((Eng.look s.env 0).toB)⟩
theorem fsF13 : ∀ (N : Nat) (lk : Nat → AV) (M : List Blk), FFF13 (F13 (N + 1)) (canS sgF13 lk M) = evfn CX (T13_r1 N R13) code13 rsF13 (argsE 0 (canS sgF13 lk M).env) (canS sgF13 lk M).mem (goR CX 0 (fun _ => some xRF13)) := by intro N lk M; kernel_rfl
theorem soundF13 : ∀ N, RecOkF13 (F13 N)
  | 0, lk, M, o, h => by cases h
  | N + 1, lk, M, o, h => fn_sound hX (okT13_r1 N R13) Try.func13 hb13 rfl en13 (by kernel_rfl) (ys := fun _ => some xRF13) (fun st y h => by injection h with h; subst h; exact fun lk M => ⟨rfl, rfl⟩) ((fsF13 N lk M).symm.trans h)
def cvce_13_0 : List Cv := []
def selce_13_0 : St → List Nat := fun _ => []
noncomputable def ce_13_0 (Fx : TF13) (R : Type) (test : List AV → List Blk → Bool) : CE R := ⟨13, test, fun args M => some (selce_13_0 ⟨argEnv 0 args, M, [], .unk⟩), fun args M k => tst (Nat.beq args.length 0) (callFn CX 0 cvce_13_0 sgF13 selce_13_0 (FFF13 Fx) elF13 args M k)⟩
theorem okce_13_0 (Fx : TF13) (h : RecOkF13 Fx) (R : Type) (test : List AV → List Blk → Bool) : CeOk CX (ce_13_0 Fx R test) := ce_ok hX (fun o k => by cases o; rfl) h en13 (fun args M ids h => by injection h with h; exact ⟨rfl, h.symm⟩)
end Go.Proofs.Ytfggehkiglenjaa

namespace Go.Proofs.Ytfggehkiglenjaa
open Go Go.Eng
set_option maxRecDepth 100000

/-! ### F7: ceiling/ceilinglaw33.MasterKnown -/
inductive R7 where
  | r (x0 : Bool)
abbrev TF7 := Option R7
def sgF7 : LSh := ⟨[], []⟩
def FFF7 (Fx : TF7) (s : St) : Option R7 := Fx 
def valF7 (o : R7) : AV := match o with | .r x0 => .bool x0
def memF7 (o : R7) : List Blk := match o with | .r x0 => []
def elF7 {R : Type} (o : R7) (k : AV → List Blk → Option R) : Option R := match o with | .r x0 => k (.bool x0) []
def RecOkF7 (Fx : TF7) : Prop := ∀ lk M o, FFF7 Fx (canS sgF7 lk M) = some o → FCalls CX 7 0 (argsE 0 (canS sgF7 lk M).env) (canS sgF7 lk M).mem (valF7 o) (memF7 o)
noncomputable def csF7 (N : Nat) (R : Type) : List (CE R) := [ce_9_0 (F9 N) R (fun _ _ => true), ce_11_1 (F11 N) R (fun _ _ => true), ce_13_0 (F13 N) R (fun _ _ => true), ce_14_1 (F14 N) R (fun _ _ => true), ce_15_1 (F15 N) R (fun _ _ => true), ce_16_1 (F16 N) R (fun _ _ => true), ce_17_0 (F17 N) R (fun _ _ => true), ce_20_1 (F20 N) R (fun _ _ => true), ce_21_0 (F21 N) R (fun _ _ => true)]
theorem hcsF7 (N : Nat) (R : Type) : AllE (CeOk CX) (csF7 N R) := ⟨okce_9_0 (F9 N) (soundF9 N) R (fun _ _ => true), okce_11_1 (F11 N) (soundF11 N) R (fun _ _ => true), okce_13_0 (F13 N) (soundF13 N) R (fun _ _ => true), okce_14_1 (F14 N) (soundF14 N) R (fun _ _ => true), okce_15_1 (F15 N) (soundF15 N) R (fun _ _ => true), okce_16_1 (F16 N) (soundF16 N) R (fun _ _ => true), okce_17_0 (F17 N) (soundF17 N) R (fun _ _ => true), okce_20_1 (F20 N) (soundF20 N) R (fun _ _ => true), okce_21_0 (F21 N) (soundF21 N) R (fun _ _ => true), trivial⟩
inductive OJ7_6 where
  | nx
  | ret (x0 : Bool)
def J7_6 (N : Nat) : Option OJ7_6 := match F16 N ([]) with
| none => none
| some (.r rx0_1) =>
  match !rx0_1 with
  | true =>
    some (.ret false)
  | false =>
    match F9 N ([]) with
    | none => none
    | some (.r rb0_2) =>
      match ((rb0_2.length : Int)) != (0 : Int) with
      | true =>
        some (.ret false)
      | false =>
        match F17 N ([]) 0 with
        | none => none
        | some (.r rx0_3) =>
          match rx0_3 with
          | true =>
            some (.ret false)
          | false =>
            match F20 N ([]) 0 0 with
            | none => none
            | some (.r rx0_4) =>
              match rx0_4 with
              | true =>
                some (.ret false)
              | false =>
                some .nx
def LFJ7_6 (N : Nat) (s : St) : Option OJ7_6 := J7_6 N 
def sgJ7_6 : LSh := ⟨[], []⟩
def ceJ7_6 : List Cv := []
def seJ7_6 : St → List Nat := fun _ => []
def xJ7_6_nx : XSh OJ7_6 := ⟨[], ⟨[], []⟩, fun _ => [], fun s => .nx ⟩
def xJ7_6_ret : XSh OJ7_6 := ⟨[], ⟨[(0, .one (.cell (.bool)))], []⟩, fun _ => [], fun s => .ret ((Eng.look s.env 0).toB)⟩
def xsJ7_6 : Ex → St → Option (XSh OJ7_6) := fun e st => match e with
  | .normal => some xJ7_6_nx
  | .ret => some xJ7_6_ret
  | _ => none
def exJ7_6 (o : OJ7_6) : Ex := match o with | .nx => .normal | .ret x0 => .ret
def stJ7_6 (o : OJ7_6) : St := match o with | .nx => ⟨[], [], [], .unk⟩ | .ret x0 => ⟨[(0, .bool x0)], [], [], .unk⟩
def elJ7_6 {R : Type} (o : OJ7_6) (k : Ex → St → Option R) : Option R := match o with | .nx => k .normal ⟨[], [], [], .unk⟩ | .ret x0 => k .ret ⟨[(0, .bool x0)], [], [], .unk⟩
theorem heJ7_6 {R : Type} (o : OJ7_6) (k : Ex → St → Option R) : elJ7_6 o k = k (exJ7_6 o) (stJ7_6 o) := by cases o <;> rfl
theorem hxJ7_6 : ∀ e st x, xsJ7_6 e st = some x → outOk x e exJ7_6 stJ7_6 := by
  intro e st x h
  unfold xsJ7_6 at h
  repeat' split at h
  all_goals first
    | (injection h with h; subst h; exact fun lk M => ⟨rfl, rfl⟩)
    | cases h
noncomputable def T7_c6 (N : Nat) (R : Type) : LTab R := mkTab ⟨131, 131057⟩ (csF7 N R) (noY) [] [] []
theorem okT7_c6 (N : Nat) (R : Type) : (T7_c6 N R).Ok CX code7 := mkTab_ok (hcsF7 N R) (noY_ok) (trivial) (trivial) (trivial)
noncomputable def bdJ7_6 : Code := (codeAt code7 [false, true]).getD .skip
theorem hsJ7_6 (N : Nat) : ∀ (lk : Nat → AV) (M : List Blk), LFJ7_6 N (canS sgJ7_6 lk M) = evk CX (T7_c6 N OJ7_6) bdJ7_6 6 (canS sgJ7_6 lk M) (kontX CX 0 xsJ7_6) := by intro lk M; kernel_rfl
inductive OL7_500732788732 where
  | x3 (b0 : List Row)
def L7_500732788732 (N : Nat) : Nat → List Row → Option OL7_500732788732
  | 0 => fun _ => none
  | n + 1 => fun b0 =>
  match decide (((b0.length : Int)) < (33 : Int)) with
  | true =>
    tst (decide (((b0.length + 1) * 32) ≤ 140737488355328)) <|
    L7_500732788732 N n (b0 ++ (([[.bool false, .bool false, .bool false, .bool false, .bool false, .int .i64 0, .int .i64 0, .int .i64 ((-1))]] : List Row)))
  | false =>
    some (.x3 b0)
def LFL7_500732788732 (N : Nat) (n : Nat) (s : St) : Option OL7_500732788732 := L7_500732788732 N n ((s.mem.getD 0 .dead).rows)
def sgL7_500732788732 : LSh := ⟨[(2, .one (.own 0))], [.row 30]⟩
def ceL7_500732788732 : List Cv := []
def seL7_500732788732 : St → List Nat := fun st => [(Eng.look st.env 2).id]
def xL7_500732788732_x3 : XSh OL7_500732788732 := ⟨[], ⟨[(2, .one (.own 0))], [.row 30]⟩, fun st => [(Eng.look st.env 2).id], fun s => .x3 ((s.mem.getD 0 .dead).rows)⟩
def xsL7_500732788732 : Ex → St → Option (XSh OL7_500732788732) := fun e st => match e with
  | .exit 3 => some xL7_500732788732_x3
  | _ => none
def exL7_500732788732 (o : OL7_500732788732) : Ex := match o with | .x3 b0 => (.exit 3)
def stL7_500732788732 (o : OL7_500732788732) : St := match o with | .x3 b0 => ⟨[(2, .own 0)], [.row 30 b0], [], .unk⟩
def elL7_500732788732 {R : Type} (o : OL7_500732788732) (k : Ex → St → Option R) : Option R := match o with | .x3 b0 => k (.exit 3) ⟨[(2, .own 0)], [.row 30 b0], [], .unk⟩
theorem heL7_500732788732 {R : Type} (o : OL7_500732788732) (k : Ex → St → Option R) : elL7_500732788732 o k = k (exL7_500732788732 o) (stL7_500732788732 o) := by cases o <;> rfl
theorem hxL7_500732788732 : ∀ e st x, xsL7_500732788732 e st = some x → outOk x e exL7_500732788732 stL7_500732788732 := by
  intro e st x h
  unfold xsL7_500732788732 at h
  repeat' split at h
  all_goals first
    | (injection h with h; subst h; exact fun lk M => ⟨rfl, rfl⟩)
    | cases h
noncomputable def T7_l500732788732 (N : Nat) (R : Type) : LTab R := mkTab ⟨131, 1228268632728463241501474820⟩ (csF7 N R) (noY) [] [] []
theorem okT7_l500732788732 (N : Nat) (R : Type) : (T7_l500732788732 N R).Ok CX code7 := mkTab_ok (hcsF7 N R) (noY_ok) (trivial) (trivial) (trivial)
noncomputable def bdL7_500732788732 : Code := match codeAt code7 [false, false, true, true, true, true, true, true, true, true, true, true, true, true, true, true, true, true, true, true, true, true, true, true, true, false, true, false, true, false, false, true, false, false, true, false, true, true] with | some (.loop c) => c | _ => .skip
theorem hsL7_500732788732 (N : Nat) : ∀ (n : Nat) (lk : Nat → AV) (M : List Blk), LFL7_500732788732 N (n + 1) (canS sgL7_500732788732 lk M) = evk CX (T7_l500732788732 N OL7_500732788732) bdL7_500732788732 (2 * 500732788732) (canS sgL7_500732788732 lk M) (kont CX 0 [] sgL7_500732788732 (fun st => [(Eng.look st.env 2).id]) xsL7_500732788732 (LFL7_500732788732 N n)) := by intro n lk M; kernel_rfl
inductive OJ7_3730 where
  | nx (b0 : List Row)
def J7_3730 (N : Nat) : Int → List Row → Option OJ7_3730 := fun x1 b0 =>
  match x1 == (0 : Int) with
  | true =>
    tst (decide ((0 : Int) < ((b0.length : Int)))) <|
    tst (decide (0 < b0.length)) <|
    some (.nx (b0.set 0 (Eng.setAt ((b0.getD 0 [])) 5 [.int .i64 0])))
  | false =>
    match x1 == (1 : Int) with
    | true =>
      tst (decide ((0 : Int) < ((b0.length : Int)))) <|
      tst (decide (0 < b0.length)) <|
      some (.nx (b0.set 0 (Eng.setAt ((b0.getD 0 [])) 6 [.int .i64 0])))
    | false =>
      match x1 == (2 : Int) with
      | true =>
        tst (decide ((1 : Int) < ((b0.length : Int)))) <|
        tst (decide (1 < b0.length)) <|
        some (.nx (b0.set 1 (Eng.setAt ((b0.getD 1 [])) 5 [.int .i64 1])))
      | false =>
        match x1 == (3 : Int) with
        | true =>
          tst (decide ((1 : Int) < ((b0.length : Int)))) <|
          tst (decide (1 < b0.length)) <|
          some (.nx (b0.set 1 (Eng.setAt ((b0.getD 1 [])) 5 [.int .i64 ((-1))])))
        | false =>
          match x1 == (4 : Int) with
          | true =>
            tst (decide ((1 : Int) < ((b0.length : Int)))) <|
            tst (decide (1 < b0.length)) <|
            some (.nx (b0.set 1 (Eng.setAt ((b0.getD 1 [])) 6 [.int .i64 ((-1))])))
          | false =>
            match x1 == (5 : Int) with
            | true =>
              tst (decide ((1 : Int) < ((b0.length : Int)))) <|
              tst (decide (1 < b0.length)) <|
              some (.nx (b0.set 1 (Eng.setAt ((b0.getD 1 [])) 0 [.bool false])))
            | false =>
              match x1 == (6 : Int) with
              | true =>
                tst (decide ((1 : Int) < ((b0.length : Int)))) <|
                tst (decide (1 < b0.length)) <|
                some (.nx (b0.set 1 (Eng.setAt ((b0.getD 1 [])) 1 [.bool true])))
              | false =>
                match x1 == (7 : Int) with
                | true =>
                  tst (decide ((1 : Int) < ((b0.length : Int)))) <|
                  tst (decide (1 < b0.length)) <|
                  some (.nx (b0.set 1 (Eng.setAt ((b0.getD 1 [])) 7 [.int .i64 0])))
                | false =>
                  match x1 == (8 : Int) with
                  | true =>
                    tst (decide ((0 : Int) < ((b0.length : Int)))) <|
                    tst (decide (0 < b0.length)) <|
                    some (.nx (b0.set 0 (Eng.setAt ((b0.getD 0 [])) 7 [.int .i64 ((-2))])))
                  | false =>
                    match x1 == (9 : Int) with
                    | true =>
                      tst (decide ((0 : Int) < ((b0.length : Int)))) <|
                      tst (decide (0 < b0.length)) <|
                      tst (decide ((0 : Int) < (((b0.set 0 (Eng.setAt ((b0.getD 0 [])) 0 [.bool false])).length : Int)))) <|
                      tst (decide (0 < ((b0.set 0 (Eng.setAt ((b0.getD 0 [])) 0 [.bool false])).length))) <|
                      some (.nx ((b0.set 0 (Eng.setAt ((b0.getD 0 [])) 0 [.bool false])).set 0 (Eng.setAt (((b0.set 0 (Eng.setAt ((b0.getD 0 [])) 0 [.bool false])).getD 0 [])) 7 [.int .i64 ((-1))])))
                    | false =>
                      match x1 == (10 : Int) with
                      | true =>
                        tst (decide ((3 : Int) < ((b0.length : Int)))) <|
                        tst (decide (3 < b0.length)) <|
                        some (.nx (b0.set 3 (Eng.setAt ((b0.getD 3 [])) 0 [.bool false, .bool true, .bool false, .bool false, .bool false, .int .i64 1, .int .i64 0, .int .i64 ((-1))])))
                      | false =>
                        match x1 == (11 : Int) with
                        | true =>
                          match L7_500732788732 N N b0 with
                          | none => none
                          | some (.x3 b0_7) =>
                            some (.nx b0_7)
                        | false =>
                          some (.nx b0)
def LFJ7_3730 (N : Nat) (s : St) : Option OJ7_3730 := J7_3730 N ((Eng.look s.env 1).toI) ((s.mem.getD 0 .dead).rows)
def sgJ7_3730 : LSh := ⟨[(1, .one (.cell (.int .i64))), (2, .one (.own 0))], [.row 30]⟩
def ceJ7_3730 : List Cv := []
def seJ7_3730 : St → List Nat := fun st => [(Eng.look st.env 2).id]
def xJ7_3730_nx : XSh OJ7_3730 := ⟨[], ⟨[(2, .one (.own 0))], [.row 30]⟩, fun st => [(Eng.look st.env 2).id], fun s => .nx ((s.mem.getD 0 .dead).rows)⟩
def xsJ7_3730 : Ex → St → Option (XSh OJ7_3730) := fun e st => match e with
  | .normal => some xJ7_3730_nx
  | _ => none
def exJ7_3730 (o : OJ7_3730) : Ex := match o with | .nx b0 => .normal
def stJ7_3730 (o : OJ7_3730) : St := match o with | .nx b0 => ⟨[(2, .own 0)], [.row 30 b0], [], .unk⟩
def elJ7_3730 {R : Type} (o : OJ7_3730) (k : Ex → St → Option R) : Option R := match o with | .nx b0 => k .normal ⟨[(2, .own 0)], [.row 30 b0], [], .unk⟩
theorem heJ7_3730 {R : Type} (o : OJ7_3730) (k : Ex → St → Option R) : elJ7_3730 o k = k (exJ7_3730 o) (stJ7_3730 o) := by cases o <;> rfl
theorem hxJ7_3730 : ∀ e st x, xsJ7_3730 e st = some x → outOk x e exJ7_3730 stJ7_3730 := by
  intro e st x h
  unfold xsJ7_3730 at h
  repeat' split at h
  all_goals first
    | (injection h with h; subst h; exact fun lk M => ⟨rfl, rfl⟩)
    | cases h
noncomputable def T7_c3730 (N : Nat) (R : Type) : LTab R := mkTab ⟨131, 1237940039285380274894929924⟩ (csF7 N R) (noY) [(500732788732, fun st k => callLoop CX 0 1228268632728463241501474820 ceL7_500732788732 sgL7_500732788732 seL7_500732788732 ⟨131, 1237940039285380274894929924⟩ (LFL7_500732788732 N N) elL7_500732788732 st k)] [] []
theorem okT7_c3730 (N : Nat) (R : Type) : (T7_c3730 N R).Ok CX code7 := mkTab_ok (hcsF7 N R) (noY_ok) (⟨loop_ok hX (path := [false, false, true, true, true, true, true, true, true, true, true, true, true, true, true, true, true, true, true, true, true, true, true, true, true, false, true, false, true, false, false, true, false, false, true, false, true, true]) (by kernel_rfl) (by rfl) (okT7_l500732788732 N OL7_500732788732) (fun _ _ => rfl) (hsL7_500732788732 N) hxL7_500732788732 rfl heL7_500732788732, trivial⟩) (trivial) (trivial)
noncomputable def bdJ7_3730 : Code := (codeAt code7 [false, true, false, false, true, false, false, true, false, true, true]).getD .skip
theorem hsJ7_3730 (N : Nat) : ∀ (lk : Nat → AV) (M : List Blk), LFJ7_3730 N (canS sgJ7_3730 lk M) = evk CX (T7_c3730 N OJ7_3730) bdJ7_3730 3730 (canS sgJ7_3730 lk M) (kontX CX 0 xsJ7_3730) := by intro lk M; kernel_rfl
inductive OL7_58 where
  | ret (x0 : Bool)
  | x0
def L7_58 (N : Nat) : Nat → Int → Option OL7_58
  | 0 => fun _ => none
  | n + 1 => fun x1 =>
  match decide (x1 < (12 : Int)) with
  | true =>
    match F21 N  with
    | none => none
    | some (.r rb0_6) =>
      match J7_3730 N x1 rb0_6 with
      | none => none
      | some (.nx b0_8) =>
        match F16 N b0_8 with
        | none => none
        | some (.r rx0_9) =>
          match rx0_9 with
          | true =>
            some (.ret false)
          | false =>
            match F11 N b0_8 (([[.int .i64 0]] : List Row)) with
            | none => none
            | some (.r rb0_10) =>
              match ((rb0_10.length : Int)) != (0 : Int) with
              | true =>
                some (.ret false)
              | false =>
                L7_58 N n (IntKind.wrap .i64 (x1 + (1 : Int)))
  | false =>
    some .x0
def LFL7_58 (N : Nat) (n : Nat) (s : St) : Option OL7_58 := L7_58 N n ((Eng.look s.env 1).toI)
def sgL7_58 : LSh := ⟨[(1, .one (.cell (.int .i64)))], []⟩
def ceL7_58 : List Cv := []
def seL7_58 : St → List Nat := fun _ => []
def xL7_58_ret : XSh OL7_58 := ⟨[], ⟨[(0, .one (.cell (.bool)))], []⟩, fun _ => [], fun s => .ret ((Eng.look s.env 0).toB)⟩
def xL7_58_x0 : XSh OL7_58 := ⟨[], ⟨[], []⟩, fun _ => [], fun s => .x0 ⟩
def xsL7_58 : Ex → St → Option (XSh OL7_58) := fun e st => match e with
  | .ret => some xL7_58_ret
  | .exit 0 => some xL7_58_x0
  | _ => none
def exL7_58 (o : OL7_58) : Ex := match o with | .ret x0 => .ret | .x0 => (.exit 0)
def stL7_58 (o : OL7_58) : St := match o with | .ret x0 => ⟨[(0, .bool x0)], [], [], .unk⟩ | .x0 => ⟨[], [], [], .unk⟩
def elL7_58 {R : Type} (o : OL7_58) (k : Ex → St → Option R) : Option R := match o with | .ret x0 => k .ret ⟨[(0, .bool x0)], [], [], .unk⟩ | .x0 => k (.exit 0) ⟨[], [], [], .unk⟩
theorem heL7_58 {R : Type} (o : OL7_58) (k : Ex → St → Option R) : elL7_58 o k = k (exL7_58 o) (stL7_58 o) := by cases o <;> rfl
theorem hxL7_58 : ∀ e st x, xsL7_58 e st = some x → outOk x e exL7_58 stL7_58 := by
  intro e st x h
  unfold xsL7_58 at h
  repeat' split at h
  all_goals first
    | (injection h with h; subst h; exact fun lk M => ⟨rfl, rfl⟩)
    | cases h
noncomputable def T7_l58 (N : Nat) (R : Type) : LTab R := mkTab ⟨131, 633825300114114700748351471623⟩ (csF7 N R) (noY) [] [] [(3730, fun st k => callLoop CX 0 1237940039285380274894929924 ceJ7_3730 sgJ7_3730 seJ7_3730 ⟨131, 633825300114114700748351471623⟩ (LFJ7_3730 N) elJ7_3730 st k)]
theorem okT7_l58 (N : Nat) (R : Type) : (T7_l58 N R).Ok CX code7 := mkTab_ok (hcsF7 N R) (noY_ok) (trivial) (trivial) (⟨cut_ok hX (path := [false, true, false, false, true, false, false, true, false, true, true]) (by kernel_rfl) (by rfl) (okT7_c3730 N OJ7_3730) (hsJ7_3730 N) hxJ7_3730 rfl heJ7_3730, trivial⟩)
noncomputable def bdL7_58 : Code := match codeAt code7 [false, true, false, true, true] with | some (.loop c) => c | _ => .skip
theorem hsL7_58 (N : Nat) : ∀ (n : Nat) (lk : Nat → AV) (M : List Blk), LFL7_58 N (n + 1) (canS sgL7_58 lk M) = evk CX (T7_l58 N OL7_58) bdL7_58 (2 * 58) (canS sgL7_58 lk M) (kont CX 0 [] sgL7_58 (fun _ => []) xsL7_58 (LFL7_58 N n)) := by intro n lk M; kernel_rfl
inductive OJ7_14 where
  | nx
  | ret (x0 : Bool)
def J7_14 (N : Nat) : Option OJ7_14 := match L7_58 N N 0 with
| none => none
| some (.ret x0_11) =>
  some (.ret x0_11)
| some (.x0) =>
  some .nx
def LFJ7_14 (N : Nat) (s : St) : Option OJ7_14 := J7_14 N 
def sgJ7_14 : LSh := ⟨[], []⟩
def ceJ7_14 : List Cv := []
def seJ7_14 : St → List Nat := fun _ => []
def xJ7_14_nx : XSh OJ7_14 := ⟨[], ⟨[], []⟩, fun _ => [], fun s => .nx ⟩
def xJ7_14_ret : XSh OJ7_14 := ⟨[], ⟨[(0, .one (.cell (.bool)))], []⟩, fun _ => [], fun s => .ret ((Eng.look s.env 0).toB)⟩
def xsJ7_14 : Ex → St → Option (XSh OJ7_14) := fun e st => match e with
  | .normal => some xJ7_14_nx
  | .ret => some xJ7_14_ret
  | _ => none
def exJ7_14 (o : OJ7_14) : Ex := match o with | .nx => .normal | .ret x0 => .ret
def stJ7_14 (o : OJ7_14) : St := match o with | .nx => ⟨[], [], [], .unk⟩ | .ret x0 => ⟨[(0, .bool x0)], [], [], .unk⟩
def elJ7_14 {R : Type} (o : OJ7_14) (k : Ex → St → Option R) : Option R := match o with | .nx => k .normal ⟨[], [], [], .unk⟩ | .ret x0 => k .ret ⟨[(0, .bool x0)], [], [], .unk⟩
theorem heJ7_14 {R : Type} (o : OJ7_14) (k : Ex → St → Option R) : elJ7_14 o k = k (exJ7_14 o) (stJ7_14 o) := by cases o <;> rfl
theorem hxJ7_14 : ∀ e st x, xsJ7_14 e st = some x → outOk x e exJ7_14 stJ7_14 := by
  intro e st x h
  unfold xsJ7_14 at h
  repeat' split at h
  all_goals first
    | (injection h with h; subst h; exact fun lk M => ⟨rfl, rfl⟩)
    | cases h
noncomputable def T7_c14 (N : Nat) (R : Type) : LTab R := mkTab ⟨131, 633825300114114700748351471623⟩ (csF7 N R) (noY) [(58, fun st k => callLoop CX 0 633825300114114700748351471623 ceL7_58 sgL7_58 seL7_58 ⟨131, 633825300114114700748351471623⟩ (LFL7_58 N N) elL7_58 st k)] [] []
theorem okT7_c14 (N : Nat) (R : Type) : (T7_c14 N R).Ok CX code7 := mkTab_ok (hcsF7 N R) (noY_ok) (⟨loop_ok hX (path := [false, true, false, true, true]) (by kernel_rfl) (by rfl) (okT7_l58 N OL7_58) (fun _ _ => rfl) (hsL7_58 N) hxL7_58 rfl heL7_58, trivial⟩) (trivial) (trivial)
noncomputable def bdJ7_14 : Code := (codeAt code7 [false, true, true]).getD .skip
theorem hsJ7_14 (N : Nat) : ∀ (lk : Nat → AV) (M : List Blk), LFJ7_14 N (canS sgJ7_14 lk M) = evk CX (T7_c14 N OJ7_14) bdJ7_14 14 (canS sgJ7_14 lk M) (kontX CX 0 xsJ7_14) := by intro lk M; kernel_rfl
noncomputable def T7_r1 (N : Nat) (R : Type) : LTab R := mkTab ⟨131, 2722258935367507707706996859454145691647⟩ (csF7 N R) (noY) [] [] [(6, fun st k => callLoop CX 0 131057 ceJ7_6 sgJ7_6 seJ7_6 ⟨131, 2722258935367507707706996859454145691647⟩ (LFJ7_6 N) elJ7_6 st k), (14, fun st k => callLoop CX 0 633825300114114700748351471623 ceJ7_14 sgJ7_14 seJ7_14 ⟨131, 2722258935367507707706996859454145691647⟩ (LFJ7_14 N) elJ7_14 st k)]
theorem okT7_r1 (N : Nat) (R : Type) : (T7_r1 N R).Ok CX code7 := mkTab_ok (hcsF7 N R) (noY_ok) (trivial) (trivial) (⟨cut_ok hX (path := [false, true]) (by kernel_rfl) (by rfl) (okT7_c6 N OJ7_6) (hsJ7_6 N) hxJ7_6 rfl heJ7_6, cut_ok hX (path := [false, true, true]) (by kernel_rfl) (by rfl) (okT7_c14 N OJ7_14) (hsJ7_14 N) hxJ7_14 rfl heJ7_14, trivial⟩)
def rsF7 : List ResultVar := [.tmp 0]
def F7 : Nat → TF7
  | 0 => none
  | N + 1 => match J7_6 N  with
| none => none
| some (.nx) =>
  match J7_14 N  with
  | none => none
  | some (.nx) =>
    match F21 N  with
    | none => none
    | some (.r rb0_14) =>
      match F11 N rb0_14 (([[.int .i64 ((-1))], [.int .i64 5], [.int .i64 1099511627776]] : List Row)) with
      | none => none
      | some (.r rb0_15) =>
        match ((rb0_15.length : Int)) == (0 : Int) with
        | true =>
          match F15 N rb0_14 ((-1)) with
          | none => none
          | some (.r rb0_16) =>
            match ((rb0_16.length : Int)) == (0 : Int) with
            | true =>
              match F15 N rb0_14 9 with
              | none => none
              | some (.r rb0_17) =>
                match ((rb0_17.length : Int)) == (0 : Int) with
                | true =>
                  match F14 N rb0_14 ((-1)) ((-1)) with
                  | none => none
                  | some (.r rb0_18) =>
                    match ((rb0_18.length : Int)) == (0 : Int) with
                    | true =>
                      match F17 N rb0_14 0 with
                      | none => none
                      | some (.r rx0_19) =>
                        match !rx0_19 with
                        | true =>
                          match F13 N  with
                          | none => none
                          | some (.r rx0_20) =>
                            some (.r rx0_20)
                        | false =>
                          some (.r false)
                    | false =>
                      some (.r false)
                | false =>
                  some (.r false)
            | false =>
              some (.r false)
        | false =>
          some (.r false)
  | some (.ret x0_21) =>
    some (.r x0_21)
| some (.ret x0_22) =>
  some (.r x0_22)
def xRF7 : XSh R7 := ⟨[], ⟨[(0, .one (.cell (.bool)))], []⟩, fun _ => [], fun s => .r ((Eng.look s.env 0).toB)⟩
theorem fsF7 : ∀ (N : Nat) (lk : Nat → AV) (M : List Blk), FFF7 (F7 (N + 1)) (canS sgF7 lk M) = evfn CX (T7_r1 N R7) code7 rsF7 (argsE 0 (canS sgF7 lk M).env) (canS sgF7 lk M).mem (goR CX 0 (fun _ => some xRF7)) := by intro N lk M; kernel_rfl
theorem soundF7 : ∀ N, RecOkF7 (F7 N)
  | 0, lk, M, o, h => by cases h
  | N + 1, lk, M, o, h => fn_sound hX (okT7_r1 N R7) Try.func7 hb7 rfl en7 (by kernel_rfl) (ys := fun _ => some xRF7) (fun st y h => by injection h with h; subst h; exact fun lk M => ⟨rfl, rfl⟩) ((fsF7 N lk M).symm.trans h)
end Go.Proofs.Ytfggehkiglenjaa

namespace Go.Proofs.Ytfggehkiglenjaa
open Go Go.Eng Go.ChangeShapes Go.WideShapes Go.ChangeAt Go.RowKit

theorem own : ownKnob Try.prog.godebug = none := by kernel_rfl
theorem laidOut : laidOutB Try.prog = true := by kernel_rfl

theorem run7 : F7 60 = some (.r true) := by kernel_rfl

theorem law7 (xs : List AV) (h : ArgsAV CX [] xs) : ∃ m M', FCalls CX 7 m xs [] (.bool true) M' := by
  cases xs with
  | nil => exact ⟨_, _, soundF7 60 (fun _ => .top) [] (.r true) run7⟩
  | cons x xs => exact h.elim

set_option maxRecDepth 100000 in
theorem lifted7 (os : Os) (started : os.Started) (H : Type) (enc : TypeId × Value → H) :
    ReturnsInHanded {} Try.checked os 7 .any (Rows.masterKnownSpec.pre6 enc Try.prog Try.f7 Rows.masterKnownRow.domain false) (Rows.masterKnownSpec.post enc Try.prog Try.f7 false true false false) := by
  refine returnsInHanded_of_change (C := Try.checked) own started (by kernel_rfl) Try.func7
    (ChangeSpec.witness6 (enc := enc) (C := Try.checked) false ⟨#[], #[], []⟩ 8 (by kernel_rfl) (by kernel_rfl) (by kernel_rfl) (by kernel_rfl)) ?_
  intro W base args ds gs before hval hW _ _
  exact law_contract (X := CX) hX (fun _ => rfl) laidOut (ts := []) (tb := 4) (n := 8) (by kernel_rfl) (by kernel_rfl) Try.underlying4 (by kernel_rfl) (by kernel_rfl) rfl
    (fun ds hds => by cases ds with | nil => rfl | cons _ _ => simp at hds) law7 W base args ds gs before hval hW

theorem masterKnown_holds : Rows.MasterKnownSaid :=
  OpenClaim.holds_of_wide 7 Try.f7 rfl rfl rfl rfl rfl rfl rfl ⟨rfl, rfl, rfl, rfl, rfl⟩ rfl rfl rfl rfl rfl (by kernel_rfl) Try.func7 (by kernel_rfl)
    (of_decide_eq_true (by kernel_rfl)) (by unfold Func.isWrapper; first | (rw [if_pos (by decide +kernel)]; kernel_rfl) | (rw [if_neg (by decide +kernel)]; exact ⟨rfl, rfl⟩))
    (fun os started H enc _ => lifted7 os started H enc)

#print axioms masterKnown_holds
end Go.Proofs.Ytfggehkiglenjaa
