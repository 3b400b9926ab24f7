/-
  The functions of the code as typed functions, and that the code runs so. Printed by gen2.py.
  Plain laws of chapter 39: when a task set is right (both texts).
  Plain laws of chapter 39: blocking, demand.
  Plain laws of chapter 39: response times.
  Plain laws of chapter 39: RespMore, what lies behind it: less work, no greater response time.
  Plain laws of chapter 39: a processor that works on the job with the highest active priority; what is left of its work.
  Plain laws of chapter 39: on such a processor the jobs of a task that is met end in its response time.
  Plain laws of chapter 39: the simulated processor, the parts that it asks: task sets of any size, active priority, pick.
  Plain laws of chapter 39: response times, errors, large task sets.
  Plain laws of chapter 39: the examples.
  Plain laws of chapter 39: RespCalls.
  Plain laws of chapter 39: RespAll.
  Plain laws of chapter 39: the simulated processor, its loops; RespSimulated.
  What is proved: ceilinglaw39.RespSimulated returns true for every input, and leaves its arguments as they were. No condition.
-/
import Derived.Test.YtbgdiljnmifakaaSi4
import Derived.Test.YtbgdiljnmifakaaSi5
import Derived.KernelRfl
import Derived.Test.YtbgdiljnmifakaaRows
import Derived.WalkKit
import Derived.ProofKit
import Derived.OpenShut
set_option linter.all false
set_option linter.deprecated false
namespace Go.Proofs.Ytbgdiljnmifakaa
open Go Go.Eng
set_option maxRecDepth 100000
noncomputable section
inductive R4 where
  | r (x0 : Bool)
abbrev TF4 := List Row → List Row → Int → Int → List Row → Option R4
def sgF4 : LSh := ⟨[(0, .agg [.cell (.slice 38), .cell (.slice 3), .cell (.int .i64), .cell (.int .i64)]), (1, .one (.cell (.slice 42)))], []⟩
def FFF4 (Fx : TF4) (s : St) : Option R4 := Fx (((Eng.look s.env 0).cells.getD 0 .top).rows) (((Eng.look s.env 0).cells.getD 1 .top).rows) (((Eng.look s.env 0).cells.getD 2 .top).toI) (((Eng.look s.env 0).cells.getD 3 .top).toI) ((Eng.look s.env 1).rows)
def valF4 (o : R4) : AV := match o with | .r x0 => .bool x0
def memF4 (o : R4) : List Blk := match o with | .r x0 => []
def RecOkF4 (Fx : TF4) : Prop := ∀ lk M o, FFF4 Fx (canS sgF4 lk M) = some o → FCalls CX 4 0 (argsE 2 (canS sgF4 lk M).env) (canS sgF4 lk M).mem (valF4 o) (memF4 o)
noncomputable def csF4 (N : Nat) (R : Type) : List (CE R) := [ce10n0 (F10 N) R (fun _ _ => true), ce11n0 (F11 N) R (fun _ _ => true), ce14n0 (F14 N) R (fun _ _ => true), ce16n0l (F16 N) R (fun _ _ => true)]
theorem hcsF4 (N : Nat) (R : Type) : AllE (CeOk CX) (csF4 N R) := ⟨okce10n0 (F10 N) (soundF10 N) R (fun _ _ => true), okce11n0 (F11 N) (soundF11 N) R (fun _ _ => true), okce14n0 (F14 N) (soundF14 N) R (fun _ _ => true), okce16n0l (F16 N) (soundF16 N) R (fun _ _ => true), trivial⟩
inductive OJ4a14 where
  | nx (b0c0 : List Row) (b0c1 : List Row) (b0c2 : Int) (b0c3 : Int)
  | ret (x4 : Bool) (b0c0 : List Row) (b0c1 : List Row) (b0c2 : Int) (b0c3 : Int)
def J4a14 (N : Nat) : List Row → List Row → List Row → Int → Int → Option OJ4a14 := fun x1 b0c0 b0c1 b0c2 b0c3 =>
    match F14 N b0c0 b0c1 b0c2 b0c3 with
    | none => none
    | some (.r rx0v1) =>
      match !rx0v1 with
      | true =>
        match F10 N  with
        | none => none
        | some (.r rx0v2) =>
          some (.ret rx0v2 b0c0 b0c1 b0c2 b0c3)
      | false =>
        match decide ((6 : Int) < ((b0c0.length : Int))) with
        | true =>
          match F10 N  with
          | none => none
          | some (.r rx0v3) =>
            some (.ret rx0v3 b0c0 b0c1 b0c2 b0c3)
        | false =>
          match decide (((x1.length : Int)) < ((b0c0.length : Int))) with
          | true =>
            match F10 N  with
            | none => none
            | some (.r rx0v4) =>
              some (.ret rx0v4 b0c0 b0c1 b0c2 b0c3)
          | false =>
            some (.nx b0c0 b0c1 b0c2 b0c3)
def LFJ4a14 (N : Nat) (s : St) : Option OJ4a14 := J4a14 N ((Eng.look s.env 1).rows) (((s.mem.getD 0 .dead).cells.getD 0 .top).rows) (((s.mem.getD 0 .dead).cells.getD 1 .top).rows) (((s.mem.getD 0 .dead).cells.getD 2 .top).toI) (((s.mem.getD 0 .dead).cells.getD 3 .top).toI)
def sgJ4a14 : LSh := ⟨[(1, .one (.cell (.slice 42))), (2, .one (.ptr 0 0 0))], [.var [.any, .any, .int .i64, .int .i64] [.cell (.slice 38), .cell (.slice 3), .cell (.int .i64), .cell (.int .i64)]]⟩
def ceJ4a14 : List Cv := []
def seJ4a14 : St → List Nat := fun st => [(Eng.look st.env 2).id]
def xJ4a14wnx : XSh OJ4a14 := ⟨[], ⟨[], [.var [.any, .any, .int .i64, .int .i64] [.cell (.slice 38), .cell (.slice 3), .cell (.int .i64), .cell (.int .i64)]]⟩, fun st => [0], fun s => .nx (((s.mem.getD 0 .dead).cells.getD 0 .top).rows) (((s.mem.getD 0 .dead).cells.getD 1 .top).rows) (((s.mem.getD 0 .dead).cells.getD 2 .top).toI) (((s.mem.getD 0 .dead).cells.getD 3 .top).toI)⟩
def xJ4a14wret : XSh OJ4a14 := ⟨[], ⟨[(4, .one (.cell (.bool)))], [.var [.any, .any, .int .i64, .int .i64] [.cell (.slice 38), .cell (.slice 3), .cell (.int .i64), .cell (.int .i64)]]⟩, fun st => [0], fun s => .ret ((Eng.look s.env 4).toB) (((s.mem.getD 0 .dead).cells.getD 0 .top).rows) (((s.mem.getD 0 .dead).cells.getD 1 .top).rows) (((s.mem.getD 0 .dead).cells.getD 2 .top).toI) (((s.mem.getD 0 .dead).cells.getD 3 .top).toI)⟩
def xsJ4a14 : Ex → St → Option (XSh OJ4a14) := fun e st => match e with
  | .normal => some xJ4a14wnx
  | .ret => some xJ4a14wret
  | _ => none
def exJ4a14 (o : OJ4a14) : Ex := match o with | .nx b0c0 b0c1 b0c2 b0c3 => .normal | .ret x4 b0c0 b0c1 b0c2 b0c3 => .ret
def stJ4a14 (o : OJ4a14) : St := match o with | .nx b0c0 b0c1 b0c2 b0c3 => ⟨[], [.var [.any, .any, .int .i64, .int .i64] [.list 38 b0c0, .list 3 b0c1, .int .i64 b0c2, .int .i64 b0c3]], [], .unk⟩ | .ret x4 b0c0 b0c1 b0c2 b0c3 => ⟨[(4, .bool x4)], [.var [.any, .any, .int .i64, .int .i64] [.list 38 b0c0, .list 3 b0c1, .int .i64 b0c2, .int .i64 b0c3]], [], .unk⟩
def elJ4a14 {R : Type} (o : OJ4a14) (k : Ex → St → Option R) : Option R := match o with | .nx b0c0 b0c1 b0c2 b0c3 => k .normal ⟨[], [.var [.any, .any, .int .i64, .int .i64] [.list 38 b0c0, .list 3 b0c1, .int .i64 b0c2, .int .i64 b0c3]], [], .unk⟩ | .ret x4 b0c0 b0c1 b0c2 b0c3 => k .ret ⟨[(4, .bool x4)], [.var [.any, .any, .int .i64, .int .i64] [.list 38 b0c0, .list 3 b0c1, .int .i64 b0c2, .int .i64 b0c3]], [], .unk⟩
theorem heJ4a14 {R : Type} (o : OJ4a14) (k : Ex → St → Option R) : elJ4a14 o k = k (exJ4a14 o) (stJ4a14 o) := by cases o <;> rfl
theorem hxJ4a14 : ∀ e st x, xsJ4a14 e st = some x → outOk x e exJ4a14 stJ4a14 := by
  intro e st x h
  unfold xsJ4a14 at h
  repeat' split at h
  all_goals first
    | (injection h with h; subst h; exact fun lk M => ⟨rfl, rfl⟩)
    | cases h
noncomputable def T4uc14 (N : Nat) (R : Type) : LTab R := withGh [(22, ([.opn (.tmp 9) (.tmp 12) 0], [.close (.tmp 9)])), (26, ([.opn (.tmp 9) (.tmp 10) 0], [])), (32, ([], [.close (.tmp 9)])), (37, ([.opn (.tmp 9) (.tmp 15) 0], [.close (.tmp 9)]))] (mkTab ⟨218, 68719214608⟩ (csF4 N R) (noY) [] [] [])
theorem okT4uc14 (N : Nat) (R : Type) : (T4uc14 N R).Ok CX code4 := withGh_ok _ (mkTab_ok (hcsF4 N R) (noY_ok) (trivial) (trivial) (trivial))
noncomputable def bdJ4a14 : Code := (codeAt code4 [false, true, true]).getD .skip
theorem hsJ4a14 (N : Nat) : ∀ (lk : Nat → AV) (M : List Blk), LFJ4a14 N (canS sgJ4a14 lk M) = evk CX (T4uc14 N OJ4a14) bdJ4a14 14 (canS sgJ4a14 lk M) (kontX CX 1 xsJ4a14) := by intro lk M; kernel_rfl
inductive OL4a122 where
  | ret (x4 : Bool)
  | x0
def L4a122 (N : Nat) : Nat → List Row → Int → Int → Option OL4a122
  | 0 => fun _ _ _ => none
  | n + 1 => fun x37 x38 x39 =>
    match decide (x39 < x38) with
    | true =>
      tst (decide ((0 : Int) ≤ x39) && decide (x39 < ((x37.length : Int)))) <|
      match decide ((60 : Int) < ((((x37.getD x39.toNat [])).getD 2 .top).toI)) with
      | true =>
        match F10 N  with
        | none => none
        | some (.r rx0v6) =>
          some (.ret rx0v6)
      | false =>
        match decide ((100 : Int) < ((((x37.getD x39.toNat [])).getD 4 .top).toI)) with
        | true =>
          match F10 N  with
          | none => none
          | some (.r rx0v7) =>
            some (.ret rx0v7)
        | false =>
          L4a122 N n x37 x38 (IntKind.wrap .i64 (x39 + (1 : Int)))
    | false =>
      some .x0
def LFL4a122 (N : Nat) (n : Nat) (s : St) : Option OL4a122 := L4a122 N n ((Eng.look s.env 37).rows) ((Eng.look s.env 38).toI) ((Eng.look s.env 39).toI)
def sgL4a122 : LSh := ⟨[(37, .one (.cell (.slice 38))), (38, .one (.cell (.int .i64))), (39, .one (.cell (.int .i64)))], []⟩
def ceL4a122 : List Cv := []
def seL4a122 : St → List Nat := fun _ => []
def xL4a122wret : XSh OL4a122 := ⟨[], ⟨[(4, .one (.cell (.bool)))], []⟩, fun _ => [], fun s => .ret ((Eng.look s.env 4).toB)⟩
def xL4a122wx0 : XSh OL4a122 := ⟨[], ⟨[], []⟩, fun _ => [], fun s => .x0 ⟩
def xsL4a122 : Ex → St → Option (XSh OL4a122) := fun e st => match e with
  | .ret => some xL4a122wret
  | .exit 0 => some xL4a122wx0
  | _ => none
def exL4a122 (o : OL4a122) : Ex := match o with | .ret x4 => .ret | .x0 => (.exit 0)
def stL4a122 (o : OL4a122) : St := match o with | .ret x4 => ⟨[(4, .bool x4)], [], [], .unk⟩ | .x0 => ⟨[], [], [], .unk⟩
def elL4a122 {R : Type} (o : OL4a122) (k : Ex → St → Option R) : Option R := match o with | .ret x4 => k .ret ⟨[(4, .bool x4)], [], [], .unk⟩ | .x0 => k (.exit 0) ⟨[], [], [], .unk⟩
theorem heL4a122 {R : Type} (o : OL4a122) (k : Ex → St → Option R) : elL4a122 o k = k (exL4a122 o) (stL4a122 o) := by cases o <;> rfl
theorem hxL4a122 : ∀ e st x, xsL4a122 e st = some x → outOk x e exL4a122 stL4a122 := by
  intro e st x h
  unfold xsL4a122 at h
  repeat' split at h
  all_goals first
    | (injection h with h; subst h; exact fun lk M => ⟨rfl, rfl⟩)
    | cases h
noncomputable def T4ul122 (N : Nat) (R : Type) : LTab R := withGh [(22, ([.opn (.tmp 9) (.tmp 12) 0], [.close (.tmp 9)])), (26, ([.opn (.tmp 9) (.tmp 10) 0], [])), (32, ([], [.close (.tmp 9)])), (37, ([.opn (.tmp 9) (.tmp 15) 0], [.close (.tmp 9)]))] (mkTab ⟨218, 9006649498927184⟩ (csF4 N R) (noY) [] [] [])
theorem okT4ul122 (N : Nat) (R : Type) : (T4ul122 N R).Ok CX code4 := withGh_ok _ (mkTab_ok (hcsF4 N R) (noY_ok) (trivial) (trivial) (trivial))
noncomputable def bdL4a122 : Code := match codeAt code4 [false, true, false, true, true, true] with | some (.loop c) => c | _ => .skip
theorem hsL4a122 (N : Nat) : ∀ (n : Nat) (lk : Nat → AV) (M : List Blk), LFL4a122 N (n + 1) (canS sgL4a122 lk M) = evk CX (T4ul122 N OL4a122) bdL4a122 (2 * 122) (canS sgL4a122 lk M) (kont CX 0 [] sgL4a122 (fun _ => []) xsL4a122 (LFL4a122 N n)) := by intro n lk M; kernel_rfl
inductive OJ4a30 where
  | nx (b0c0 : List Row) (b0c1 : List Row) (b0c2 : Int) (b0c3 : Int)
  | ret (x4 : Bool) (b0c0 : List Row) (b0c1 : List Row) (b0c2 : Int) (b0c3 : Int)
def J4a30 (N : Nat) : List Row → List Row → Int → Int → Option OJ4a30 := fun b0c0 b0c1 b0c2 b0c3 =>
    match L4a122 N N b0c0 ((b0c0.length : Int)) 0 with
    | none => none
    | some (.ret x4v8) =>
      some (.ret x4v8 b0c0 b0c1 b0c2 b0c3)
    | some (.x0) =>
      some (.nx b0c0 b0c1 b0c2 b0c3)
def LFJ4a30 (N : Nat) (s : St) : Option OJ4a30 := J4a30 N (((s.mem.getD 0 .dead).cells.getD 0 .top).rows) (((s.mem.getD 0 .dead).cells.getD 1 .top).rows) (((s.mem.getD 0 .dead).cells.getD 2 .top).toI) (((s.mem.getD 0 .dead).cells.getD 3 .top).toI)
def sgJ4a30 : LSh := ⟨[(2, .one (.ptr 0 0 0))], [.var [.any, .any, .int .i64, .int .i64] [.cell (.slice 38), .cell (.slice 3), .cell (.int .i64), .cell (.int .i64)]]⟩
def ceJ4a30 : List Cv := []
def seJ4a30 : St → List Nat := fun st => [(Eng.look st.env 2).id]
def xJ4a30wnx : XSh OJ4a30 := ⟨[], ⟨[], [.var [.any, .any, .int .i64, .int .i64] [.cell (.slice 38), .cell (.slice 3), .cell (.int .i64), .cell (.int .i64)]]⟩, fun st => [0], fun s => .nx (((s.mem.getD 0 .dead).cells.getD 0 .top).rows) (((s.mem.getD 0 .dead).cells.getD 1 .top).rows) (((s.mem.getD 0 .dead).cells.getD 2 .top).toI) (((s.mem.getD 0 .dead).cells.getD 3 .top).toI)⟩
def xJ4a30wret : XSh OJ4a30 := ⟨[], ⟨[(4, .one (.cell (.bool)))], [.var [.any, .any, .int .i64, .int .i64] [.cell (.slice 38), .cell (.slice 3), .cell (.int .i64), .cell (.int .i64)]]⟩, fun st => [0], fun s => .ret ((Eng.look s.env 4).toB) (((s.mem.getD 0 .dead).cells.getD 0 .top).rows) (((s.mem.getD 0 .dead).cells.getD 1 .top).rows) (((s.mem.getD 0 .dead).cells.getD 2 .top).toI) (((s.mem.getD 0 .dead).cells.getD 3 .top).toI)⟩
def xsJ4a30 : Ex → St → Option (XSh OJ4a30) := fun e st => match e with
  | .normal => some xJ4a30wnx
  | .ret => some xJ4a30wret
  | _ => none
def exJ4a30 (o : OJ4a30) : Ex := match o with | .nx b0c0 b0c1 b0c2 b0c3 => .normal | .ret x4 b0c0 b0c1 b0c2 b0c3 => .ret
def stJ4a30 (o : OJ4a30) : St := match o with | .nx b0c0 b0c1 b0c2 b0c3 => ⟨[], [.var [.any, .any, .int .i64, .int .i64] [.list 38 b0c0, .list 3 b0c1, .int .i64 b0c2, .int .i64 b0c3]], [], .unk⟩ | .ret x4 b0c0 b0c1 b0c2 b0c3 => ⟨[(4, .bool x4)], [.var [.any, .any, .int .i64, .int .i64] [.list 38 b0c0, .list 3 b0c1, .int .i64 b0c2, .int .i64 b0c3]], [], .unk⟩
def elJ4a30 {R : Type} (o : OJ4a30) (k : Ex → St → Option R) : Option R := match o with | .nx b0c0 b0c1 b0c2 b0c3 => k .normal ⟨[], [.var [.any, .any, .int .i64, .int .i64] [.list 38 b0c0, .list 3 b0c1, .int .i64 b0c2, .int .i64 b0c3]], [], .unk⟩ | .ret x4 b0c0 b0c1 b0c2 b0c3 => k .ret ⟨[(4, .bool x4)], [.var [.any, .any, .int .i64, .int .i64] [.list 38 b0c0, .list 3 b0c1, .int .i64 b0c2, .int .i64 b0c3]], [], .unk⟩
theorem heJ4a30 {R : Type} (o : OJ4a30) (k : Ex → St → Option R) : elJ4a30 o k = k (exJ4a30 o) (stJ4a30 o) := by cases o <;> rfl
theorem hxJ4a30 : ∀ e st x, xsJ4a30 e st = some x → outOk x e exJ4a30 stJ4a30 := by
  intro e st x h
  unfold xsJ4a30 at h
  repeat' split at h
  all_goals first
    | (injection h with h; subst h; exact fun lk M => ⟨rfl, rfl⟩)
    | cases h
noncomputable def T4uc30 (N : Nat) (R : Type) : LTab R := withGh [(22, ([.opn (.tmp 9) (.tmp 12) 0], [.close (.tmp 9)])), (26, ([.opn (.tmp 9) (.tmp 10) 0], [])), (32, ([], [.close (.tmp 9)])), (37, ([.opn (.tmp 9) (.tmp 15) 0], [.close (.tmp 9)]))] (mkTab ⟨218, 9007130535264336⟩ (csF4 N R) (noY) [(122, fun st k => callLoop CX 0 9006649498927184 ceL4a122 sgL4a122 seL4a122 ⟨218, 9007130535264336⟩ (LFL4a122 N N) elL4a122 st k)] [] [])
theorem okT4uc30 (N : Nat) (R : Type) : (T4uc30 N R).Ok CX code4 := withGh_ok _ (mkTab_ok (hcsF4 N R) (noY_ok) (⟨loop_ok hX (path := [false, true, false, true, true, true]) (by kernel_rfl) (by rfl) (okT4ul122 N OL4a122) (fun _ _ => rfl) (hsL4a122 N) hxL4a122 rfl heL4a122, trivial⟩) (trivial) (trivial))
noncomputable def bdJ4a30 : Code := (codeAt code4 [false, true, true, true]).getD .skip
theorem hsJ4a30 (N : Nat) : ∀ (lk : Nat → AV) (M : List Blk), LFJ4a30 N (canS sgJ4a30 lk M) = evk CX (T4uc30 N OJ4a30) bdJ4a30 30 (canS sgJ4a30 lk M) (kontX CX 1 xsJ4a30) := by intro lk M; kernel_rfl
inductive OJ4a126 where
  | nx (b0c0 : List Row) (b0c1 : List Row) (b0c2 : Int) (b0c3 : Int) (b1 : List Row)
  | ret (x4 : Bool) (b0c0 : List Row) (b0c1 : List Row) (b0c2 : Int) (b0c3 : Int) (b1 : List Row)
def J4a126 (N : Nat) : Int → List Row → List Row → Int → Int → List Row → Option OJ4a126 := fun x8 b0c0 b0c1 b0c2 b0c3 b1 =>
    match x8 != (0 : Int) with
    | true =>
      some (.ret false b0c0 b0c1 b0c2 b0c3 b1)
    | false =>
      match ((b1.length : Int)) != ((b0c0.length : Int)) with
      | true =>
        some (.ret false b0c0 b0c1 b0c2 b0c3 b1)
      | false =>
        some (.nx b0c0 b0c1 b0c2 b0c3 b1)
def LFJ4a126 (N : Nat) (s : St) : Option OJ4a126 := J4a126 N ((Eng.look s.env 8).toI) (((s.mem.getD 0 .dead).cells.getD 0 .top).rows) (((s.mem.getD 0 .dead).cells.getD 1 .top).rows) (((s.mem.getD 0 .dead).cells.getD 2 .top).toI) (((s.mem.getD 0 .dead).cells.getD 3 .top).toI) ((s.mem.getD 1 .dead).rows)
def sgJ4a126 : LSh := ⟨[(2, .one (.ptr 0 0 0)), (7, .one (.own 1)), (8, .one (.cell (.int .i64)))], [.var [.any, .any, .int .i64, .int .i64] [.cell (.slice 38), .cell (.slice 3), .cell (.int .i64), .cell (.int .i64)], .row 48]⟩
def ceJ4a126 : List Cv := []
def seJ4a126 : St → List Nat := fun st => [(Eng.look st.env 2).id, (Eng.look st.env 7).id]
def xJ4a126wnx : XSh OJ4a126 := ⟨[], ⟨[], [.var [.any, .any, .int .i64, .int .i64] [.cell (.slice 38), .cell (.slice 3), .cell (.int .i64), .cell (.int .i64)], .row 48]⟩, fun st => [0, 1], fun s => .nx (((s.mem.getD 0 .dead).cells.getD 0 .top).rows) (((s.mem.getD 0 .dead).cells.getD 1 .top).rows) (((s.mem.getD 0 .dead).cells.getD 2 .top).toI) (((s.mem.getD 0 .dead).cells.getD 3 .top).toI) ((s.mem.getD 1 .dead).rows)⟩
def xJ4a126wret : XSh OJ4a126 := ⟨[], ⟨[(4, .one (.cell (.bool)))], [.var [.any, .any, .int .i64, .int .i64] [.cell (.slice 38), .cell (.slice 3), .cell (.int .i64), .cell (.int .i64)], .row 48]⟩, fun st => [0, 1], fun s => .ret ((Eng.look s.env 4).toB) (((s.mem.getD 0 .dead).cells.getD 0 .top).rows) (((s.mem.getD 0 .dead).cells.getD 1 .top).rows) (((s.mem.getD 0 .dead).cells.getD 2 .top).toI) (((s.mem.getD 0 .dead).cells.getD 3 .top).toI) ((s.mem.getD 1 .dead).rows)⟩
def xsJ4a126 : Ex → St → Option (XSh OJ4a126) := fun e st => match e with
  | .normal => some xJ4a126wnx
  | .ret => some xJ4a126wret
  | _ => none
def exJ4a126 (o : OJ4a126) : Ex := match o with | .nx b0c0 b0c1 b0c2 b0c3 b1 => .normal | .ret x4 b0c0 b0c1 b0c2 b0c3 b1 => .ret
def stJ4a126 (o : OJ4a126) : St := match o with | .nx b0c0 b0c1 b0c2 b0c3 b1 => ⟨[], [.var [.any, .any, .int .i64, .int .i64] [.list 38 b0c0, .list 3 b0c1, .int .i64 b0c2, .int .i64 b0c3], .row 48 b1], [], .unk⟩ | .ret x4 b0c0 b0c1 b0c2 b0c3 b1 => ⟨[(4, .bool x4)], [.var [.any, .any, .int .i64, .int .i64] [.list 38 b0c0, .list 3 b0c1, .int .i64 b0c2, .int .i64 b0c3], .row 48 b1], [], .unk⟩
def elJ4a126 {R : Type} (o : OJ4a126) (k : Ex → St → Option R) : Option R := match o with | .nx b0c0 b0c1 b0c2 b0c3 b1 => k .normal ⟨[], [.var [.any, .any, .int .i64, .int .i64] [.list 38 b0c0, .list 3 b0c1, .int .i64 b0c2, .int .i64 b0c3], .row 48 b1], [], .unk⟩ | .ret x4 b0c0 b0c1 b0c2 b0c3 b1 => k .ret ⟨[(4, .bool x4)], [.var [.any, .any, .int .i64, .int .i64] [.list 38 b0c0, .list 3 b0c1, .int .i64 b0c2, .int .i64 b0c3], .row 48 b1], [], .unk⟩
theorem heJ4a126 {R : Type} (o : OJ4a126) (k : Ex → St → Option R) : elJ4a126 o k = k (exJ4a126 o) (stJ4a126 o) := by cases o <;> rfl
theorem hxJ4a126 : ∀ e st x, xsJ4a126 e st = some x → outOk x e exJ4a126 stJ4a126 := by
  intro e st x h
  unfold xsJ4a126 at h
  repeat' split at h
  all_goals first
    | (injection h with h; subst h; exact fun lk M => ⟨rfl, rfl⟩)
    | cases h
noncomputable def T4uc126 (N : Nat) (R : Type) : LTab R := withGh [(22, ([.opn (.tmp 9) (.tmp 12) 0], [.close (.tmp 9)])), (26, ([.opn (.tmp 9) (.tmp 10) 0], [])), (32, ([], [.close (.tmp 9)])), (37, ([.opn (.tmp 9) (.tmp 15) 0], [.close (.tmp 9)]))] (mkTab ⟨218, 294859674803201114128⟩ (csF4 N R) (noY) [] [] [])
theorem okT4uc126 (N : Nat) (R : Type) : (T4uc126 N R).Ok CX code4 := withGh_ok _ (mkTab_ok (hcsF4 N R) (noY_ok) (trivial) (trivial) (trivial))
noncomputable def bdJ4a126 : Code := (codeAt code4 [false, true, true, true, true, true]).getD .skip
theorem hsJ4a126 (N : Nat) : ∀ (lk : Nat → AV) (M : List Blk), LFJ4a126 N (canS sgJ4a126 lk M) = evk CX (T4uc126 N OJ4a126) bdJ4a126 126 (canS sgJ4a126 lk M) (kontX CX 2 xsJ4a126) := by intro lk M; kernel_rfl
inductive OL4a523554 where
  | x4 (b0 : List Row)
def L4a523554 (N : Nat) : Nat → List Row → Int → List Row → Int → Int → List Row → Option OL4a523554
  | 0 => fun _ _ _ _ _ _ => none
  | n + 1 => fun x1 x11 x77 x78 x79 b0 =>
    match decide (x79 < x78) with
    | true =>
      tst (decide ((0 : Int) ≤ x79) && decide (x79 < ((x77.length : Int)))) <|
      match decide (((((x77.getD x79.toNat [])).getD 4 .top).toI) ≤ x11) with
      | true =>
        tst (!(((((x77.getD x79.toNat [])).getD 2 .top).toI) == 0)) <|
        match (Int.tmod (IntKind.wrap .i64 (x11 - ((((x77.getD x79.toNat [])).getD 4 .top).toI))) ((((x77.getD x79.toNat [])).getD 2 .top).toI)) == (0 : Int) with
        | true =>
          tst (decide (x79.toNat < b0.length) && true && (((b0.getD x79.toNat [])).getD 0 .top).isSub) <|
          tst (decide ((0 : Int) ≤ x79) && decide (x79 < ((b0.length : Int)))) <|
          tst (decide (x79.toNat < b0.length)) <|
          tst (Nat.beq x79.toNat x79.toNat) <|
          tst (decide ((0 : Int) ≤ x79) && decide (x79 < ((x1.length : Int)))) <|
          tst (!(((((x77.getD x79.toNat [])).getD 5 .top).toI) == 0)) <|
          tst (decide (((((((b0.getD x79.toNat [])).getD 0 .top).rows).length + 1) * 24) ≤ 140737488355328)) <|
          tst (decide ((0 : Int) ≤ x79) && decide (x79 < ((b0.length : Int)))) <|
          tst (decide (x79.toNat < b0.length) && (Nat.beq x79.toNat x79.toNat && true)) <|
          L4a523554 N n x1 x11 x77 x78 (IntKind.wrap .i64 (x79 + (1 : Int))) (b0.set x79.toNat (((b0.getD x79.toNat [])).set 0 (.sub 44 (((((b0.getD x79.toNat [])).getD 0 .top).rows) ++ (([[.int .i64 x11, .int .i64 0, .int .i64 (IntKind.wrap .i64 ((1 : Int) + (Int.tmod (IntKind.wrap .i64 ((((x1.getD x79.toNat [])).getD 0 .top).toI)) ((((x77.getD x79.toNat [])).getD 5 .top).toI))))]] : List Row))))))
        | false =>
          L4a523554 N n x1 x11 x77 x78 (IntKind.wrap .i64 (x79 + (1 : Int))) b0
      | false =>
        L4a523554 N n x1 x11 x77 x78 (IntKind.wrap .i64 (x79 + (1 : Int))) b0
    | false =>
      some (.x4 b0)
def LFL4a523554 (N : Nat) (n : Nat) (s : St) : Option OL4a523554 := L4a523554 N n ((Eng.look s.env 1).rows) ((Eng.look s.env 11).toI) ((Eng.look s.env 77).rows) ((Eng.look s.env 78).toI) ((Eng.look s.env 79).toI) ((s.mem.getD 0 .dead).rows)
def sgL4a523554 : LSh := ⟨[(1, .one (.cell (.slice 42))), (9, .one (.own 0)), (11, .one (.cell (.int .i64))), (77, .one (.cell (.slice 38))), (78, .one (.cell (.int .i64))), (79, .one (.cell (.int .i64)))], [.nst 40]⟩
def ceL4a523554 : List Cv := []
def seL4a523554 : St → List Nat := fun st => [(Eng.look st.env 9).id]
def xL4a523554wx4 : XSh OL4a523554 := ⟨[], ⟨[], [.nst 40]⟩, fun st => [0], fun s => .x4 ((s.mem.getD 0 .dead).rows)⟩
def xsL4a523554 : Ex → St → Option (XSh OL4a523554) := fun e st => match e with
  | .exit 4 => some xL4a523554wx4
  | _ => none
def exL4a523554 (o : OL4a523554) : Ex := match o with | .x4 b0 => (.exit 4)
def stL4a523554 (o : OL4a523554) : St := match o with | .x4 b0 => ⟨[], [.nst 40 b0 none], [], .unk⟩
def elL4a523554 {R : Type} (o : OL4a523554) (k : Ex → St → Option R) : Option R := match o with | .x4 b0 => k (.exit 4) ⟨[], [.nst 40 b0 none], [], .unk⟩
theorem heL4a523554 {R : Type} (o : OL4a523554) (k : Ex → St → Option R) : elL4a523554 o k = k (exL4a523554 o) (stL4a523554 o) := by cases o <;> rfl
theorem hxL4a523554 : ∀ e st x, xsL4a523554 e st = some x → outOk x e exL4a523554 stL4a523554 := by
  intro e st x h
  unfold xsL4a523554 at h
  repeat' split at h
  all_goals first
    | (injection h with h; subst h; exact fun lk M => ⟨rfl, rfl⟩)
    | cases h
noncomputable def T4ul523554 (N : Nat) (R : Type) : LTab R := withGh [(22, ([.opn (.tmp 9) (.tmp 12) 0], [.close (.tmp 9)])), (26, ([.opn (.tmp 9) (.tmp 10) 0], [])), (32, ([], [.close (.tmp 9)])), (37, ([.opn (.tmp 9) (.tmp 15) 0], [.close (.tmp 9)]))] (mkTab ⟨218, 1329227995784311409993999745693003776⟩ (csF4 N R) (noY) [] [] [])
theorem okT4ul523554 (N : Nat) (R : Type) : (T4ul523554 N R).Ok CX code4 := withGh_ok _ (mkTab_ok (hcsF4 N R) (noY_ok) (trivial) (trivial) (trivial))
noncomputable def bdL4a523554 : Code := match codeAt code4 [false, true, false, false, false, true, false, false, true, false, true, true, true, true, true, true, true, true] with | some (.loop c) => c | _ => .skip
theorem hsL4a523554 (N : Nat) : ∀ (n : Nat) (lk : Nat → AV) (M : List Blk), LFL4a523554 N (n + 1) (canS sgL4a523554 lk M) = evk CX (T4ul523554 N OL4a523554) bdL4a523554 (2 * 523554) (canS sgL4a523554 lk M) (kont CX 1 [] sgL4a523554 (fun st => [0]) xsL4a523554 (LFL4a523554 N n)) := by intro n lk M; kernel_rfl
inductive OJ4a130888 where
  | nx (b0c0 : List Row) (b0c1 : List Row) (b0c2 : Int) (b0c3 : Int) (b1 : List Row)
def J4a130888 (N : Nat) : List Row → Int → List Row → List Row → Int → Int → List Row → Option OJ4a130888 := fun x1 x11 b0c0 b0c1 b0c2 b0c3 b1 =>
    match L4a523554 N N x1 x11 b0c0 ((b0c0.length : Int)) 0 b1 with
    | none => none
    | some (.x4 b0v13) =>
      some (.nx b0c0 b0c1 b0c2 b0c3 b0v13)
def LFJ4a130888 (N : Nat) (s : St) : Option OJ4a130888 := J4a130888 N ((Eng.look s.env 1).rows) ((Eng.look s.env 11).toI) (((s.mem.getD 0 .dead).cells.getD 0 .top).rows) (((s.mem.getD 0 .dead).cells.getD 1 .top).rows) (((s.mem.getD 0 .dead).cells.getD 2 .top).toI) (((s.mem.getD 0 .dead).cells.getD 3 .top).toI) ((s.mem.getD 1 .dead).rows)
def sgJ4a130888 : LSh := ⟨[(1, .one (.cell (.slice 42))), (2, .one (.ptr 0 0 0)), (9, .one (.own 1)), (11, .one (.cell (.int .i64)))], [.var [.any, .any, .int .i64, .int .i64] [.cell (.slice 38), .cell (.slice 3), .cell (.int .i64), .cell (.int .i64)], .nst 40]⟩
def ceJ4a130888 : List Cv := []
def seJ4a130888 : St → List Nat := fun st => [(Eng.look st.env 2).id, (Eng.look st.env 9).id]
def xJ4a130888wnx : XSh OJ4a130888 := ⟨[], ⟨[], [.var [.any, .any, .int .i64, .int .i64] [.cell (.slice 38), .cell (.slice 3), .cell (.int .i64), .cell (.int .i64)], .nst 40]⟩, fun st => [0, 1], fun s => .nx (((s.mem.getD 0 .dead).cells.getD 0 .top).rows) (((s.mem.getD 0 .dead).cells.getD 1 .top).rows) (((s.mem.getD 0 .dead).cells.getD 2 .top).toI) (((s.mem.getD 0 .dead).cells.getD 3 .top).toI) ((s.mem.getD 1 .dead).rows)⟩
def xsJ4a130888 : Ex → St → Option (XSh OJ4a130888) := fun e st => match e with
  | .normal => some xJ4a130888wnx
  | _ => none
def exJ4a130888 (o : OJ4a130888) : Ex := match o with | .nx b0c0 b0c1 b0c2 b0c3 b1 => .normal
def stJ4a130888 (o : OJ4a130888) : St := match o with | .nx b0c0 b0c1 b0c2 b0c3 b1 => ⟨[], [.var [.any, .any, .int .i64, .int .i64] [.list 38 b0c0, .list 3 b0c1, .int .i64 b0c2, .int .i64 b0c3], .nst 40 b1 none], [], .unk⟩
def elJ4a130888 {R : Type} (o : OJ4a130888) (k : Ex → St → Option R) : Option R := match o with | .nx b0c0 b0c1 b0c2 b0c3 b1 => k .normal ⟨[], [.var [.any, .any, .int .i64, .int .i64] [.list 38 b0c0, .list 3 b0c1, .int .i64 b0c2, .int .i64 b0c3], .nst 40 b1 none], [], .unk⟩
theorem heJ4a130888 {R : Type} (o : OJ4a130888) (k : Ex → St → Option R) : elJ4a130888 o k = k (exJ4a130888 o) (stJ4a130888 o) := by cases o <;> rfl
theorem hxJ4a130888 : ∀ e st x, xsJ4a130888 e st = some x → outOk x e exJ4a130888 stJ4a130888 := by
  intro e st x h
  unfold xsJ4a130888 at h
  repeat' split at h
  all_goals first
    | (injection h with h; subst h; exact fun lk M => ⟨rfl, rfl⟩)
    | cases h
noncomputable def T4uc130888 (N : Nat) (R : Type) : LTab R := withGh [(22, ([.opn (.tmp 9) (.tmp 12) 0], [.close (.tmp 9)])), (26, ([.opn (.tmp 9) (.tmp 10) 0], [])), (32, ([], [.close (.tmp 9)])), (37, ([.opn (.tmp 9) (.tmp 15) 0], [.close (.tmp 9)]))] (mkTab ⟨218, 1329227995784840315040081145956937728⟩ (csF4 N R) (noY) [(523554, fun st k => callLoop CX 1 1329227995784311409993999745693003776 ceL4a523554 sgL4a523554 seL4a523554 ⟨218, 1329227995784840315040081145956937728⟩ (LFL4a523554 N N) elL4a523554 st k)] [] [])
theorem okT4uc130888 (N : Nat) (R : Type) : (T4uc130888 N R).Ok CX code4 := withGh_ok _ (mkTab_ok (hcsF4 N R) (noY_ok) (⟨loop_ok hX (path := [false, true, false, false, false, true, false, false, true, false, true, true, true, true, true, true, true, true]) (by kernel_rfl) (by rfl) (okT4ul523554 N OL4a523554) (fun _ _ => rfl) (hsL4a523554 N) hxL4a523554 rfl heL4a523554, trivial⟩) (trivial) (trivial))
noncomputable def bdJ4a130888 : Code := (codeAt code4 [false, false, false, true, false, false, true, false, true, true, true, true, true, true, true, true]).getD .skip
theorem hsJ4a130888 (N : Nat) : ∀ (lk : Nat → AV) (M : List Blk), LFJ4a130888 N (canS sgJ4a130888 lk M) = evk CX (T4uc130888 N OJ4a130888) bdJ4a130888 130888 (canS sgJ4a130888 lk M) (kontX CX 2 xsJ4a130888) := by intro lk M; kernel_rfl
inductive OL4a4090 where
  | ret (x4 : Bool) (b0c0 : List Row) (b0c1 : List Row) (b0c2 : Int) (b0c3 : Int) (b1 : List Row) (b2 : List Row)
  | x2 (b0c0 : List Row) (b0c1 : List Row) (b0c2 : Int) (b0c3 : Int) (b1 : List Row) (b2 : List Row)
def L4a4090 (N : Nat) : Nat → List Row → Int → Int → List Row → List Row → Int → Int → List Row → List Row → Option OL4a4090
  | 0 => fun _ _ _ _ _ _ _ _ _ => none
  | n + 1 => fun x1 x10 x11 b0c0 b0c1 b0c2 b0c3 b1 b2 =>
    match decide (x11 < (500 : Int)) with
    | true =>
      match J4a130888 N x1 x11 b0c0 b0c1 b0c2 b0c3 b2 with
      | none => none
      | some (.nx b0c0v14 b0c1v14 b0c2v14 b0c3v14 b1v14) =>
        match F16 N b0c0v14 b0c1v14 b0c2v14 b0c3v14 (b1v14.map (fun r => r.map Eng.AV.froz)) x1 x10 with
        | none => none
        | some (.r rx0v15) =>
          match decide (rx0v15 < (0 : Int)) with
          | true =>
            L4a4090 N n x1 rx0v15 (IntKind.wrap .i64 (x11 + (1 : Int))) b0c0v14 b0c1v14 b0c2v14 b0c3v14 b1 b1v14
          | false =>
            tst (decide (rx0v15.toNat < b1v14.length) && true && (((b1v14.getD rx0v15.toNat [])).getD 0 .top).isSub) <|
            tst (decide ((0 : Int) ≤ rx0v15) && decide (rx0v15 < ((b1v14.length : Int)))) <|
            tst (decide (rx0v15.toNat < b1v14.length)) <|
            tst (Nat.beq rx0v15.toNat rx0v15.toNat) <|
            tst (decide ((0 : Int) < ((((((b1v14.getD rx0v15.toNat [])).getD 0 .top).rows).length : Int)))) <|
            tst (decide (0 < (((((b1v14.getD rx0v15.toNat [])).getD 0 .top).rows).length))) <|
            tst (decide (0 < (((((b1v14.getD rx0v15.toNat [])).getD 0 .top).rows).length))) <|
            tst (decide (0 < ((((((b1v14.getD rx0v15.toNat [])).getD 0 .top).rows).set 0 (Eng.setAt ((((((b1v14.getD rx0v15.toNat [])).getD 0 .top).rows).getD 0 [])) 1 [.int .i64 (IntKind.wrap .i64 (((((((((b1v14.getD rx0v15.toNat [])).getD 0 .top).rows).getD 0 [])).getD 1 .top).toI) + (1 : Int)))])).length))) <|
            tst (decide (0 < ((((((b1v14.getD rx0v15.toNat [])).getD 0 .top).rows).set 0 (Eng.setAt ((((((b1v14.getD rx0v15.toNat [])).getD 0 .top).rows).getD 0 [])) 1 [.int .i64 (IntKind.wrap .i64 (((((((((b1v14.getD rx0v15.toNat [])).getD 0 .top).rows).getD 0 [])).getD 1 .top).toI) + (1 : Int)))])).length))) <|
            match decide ((((((((((b1v14.getD rx0v15.toNat [])).getD 0 .top).rows).set 0 (Eng.setAt ((((((b1v14.getD rx0v15.toNat [])).getD 0 .top).rows).getD 0 [])) 1 [.int .i64 (IntKind.wrap .i64 (((((((((b1v14.getD rx0v15.toNat [])).getD 0 .top).rows).getD 0 [])).getD 1 .top).toI) + (1 : Int)))])).getD 0 [])).getD 1 .top).toI) < (((((((((b1v14.getD rx0v15.toNat [])).getD 0 .top).rows).set 0 (Eng.setAt ((((((b1v14.getD rx0v15.toNat [])).getD 0 .top).rows).getD 0 [])) 1 [.int .i64 (IntKind.wrap .i64 (((((((((b1v14.getD rx0v15.toNat [])).getD 0 .top).rows).getD 0 [])).getD 1 .top).toI) + (1 : Int)))])).getD 0 [])).getD 2 .top).toI)) with
            | true =>
              L4a4090 N n x1 rx0v15 (IntKind.wrap .i64 (x11 + (1 : Int))) b0c0v14 b0c1v14 b0c2v14 b0c3v14 b1 (b1v14.set rx0v15.toNat (((b1v14.getD rx0v15.toNat [])).set 0 (.sub 44 (((((b1v14.getD rx0v15.toNat [])).getD 0 .top).rows).set 0 (Eng.setAt ((((((b1v14.getD rx0v15.toNat [])).getD 0 .top).rows).getD 0 [])) 1 [.int .i64 (IntKind.wrap .i64 (((((((((b1v14.getD rx0v15.toNat [])).getD 0 .top).rows).getD 0 [])).getD 1 .top).toI) + (1 : Int)))])))))
            | false =>
              tst (decide ((0 : Int) ≤ rx0v15) && decide (rx0v15 < ((b1.length : Int)))) <|
              tst (decide (rx0v15.toNat < b1.length)) <|
              match (((b1.getD rx0v15.toNat [])).getD 3 .top).toB with
              | true =>
                tst (decide (0 < ((((((b1v14.getD rx0v15.toNat [])).getD 0 .top).rows).set 0 (Eng.setAt ((((((b1v14.getD rx0v15.toNat [])).getD 0 .top).rows).getD 0 [])) 1 [.int .i64 (IntKind.wrap .i64 (((((((((b1v14.getD rx0v15.toNat [])).getD 0 .top).rows).getD 0 [])).getD 1 .top).toI) + (1 : Int)))])).length))) <|
                tst (decide ((0 : Int) ≤ rx0v15) && decide (rx0v15 < ((b1.length : Int)))) <|
                tst (decide (rx0v15.toNat < b1.length)) <|
                match decide (((((b1.getD rx0v15.toNat [])).getD 2 .top).toI) < (IntKind.wrap .i64 ((IntKind.wrap .i64 (x11 + (1 : Int))) - (((((((((b1v14.getD rx0v15.toNat [])).getD 0 .top).rows).set 0 (Eng.setAt ((((((b1v14.getD rx0v15.toNat [])).getD 0 .top).rows).getD 0 [])) 1 [.int .i64 (IntKind.wrap .i64 (((((((((b1v14.getD rx0v15.toNat [])).getD 0 .top).rows).getD 0 [])).getD 1 .top).toI) + (1 : Int)))])).getD 0 [])).getD 0 .top).toI)))) with
                | true =>
                  some (.ret false b0c0v14 b0c1v14 b0c2v14 b0c3v14 b1 (b1v14.set rx0v15.toNat (((b1v14.getD rx0v15.toNat [])).set 0 (.sub 44 (((((b1v14.getD rx0v15.toNat [])).getD 0 .top).rows).set 0 (Eng.setAt ((((((b1v14.getD rx0v15.toNat [])).getD 0 .top).rows).getD 0 [])) 1 [.int .i64 (IntKind.wrap .i64 (((((((((b1v14.getD rx0v15.toNat [])).getD 0 .top).rows).getD 0 [])).getD 1 .top).toI) + (1 : Int)))]))))))
                | false =>
                  tst (decide ((0 : Int) ≤ rx0v15) && decide (rx0v15 < ((b1v14.length : Int)))) <|
                  tst (decide (rx0v15.toNat < b1v14.length)) <|
                  tst (Nat.beq rx0v15.toNat rx0v15.toNat) <|
                  tst (decide ((1 : Int) ≤ (((((((b1v14.getD rx0v15.toNat [])).getD 0 .top).rows).set 0 (Eng.setAt ((((((b1v14.getD rx0v15.toNat [])).getD 0 .top).rows).getD 0 [])) 1 [.int .i64 (IntKind.wrap .i64 (((((((((b1v14.getD rx0v15.toNat [])).getD 0 .top).rows).getD 0 [])).getD 1 .top).toI) + (1 : Int)))])).length : Int))) && decide (((((((b1v14.getD rx0v15.toNat [])).getD 0 .top).rows).set 0 (Eng.setAt ((((((b1v14.getD rx0v15.toNat [])).getD 0 .top).rows).getD 0 [])) 1 [.int .i64 (IntKind.wrap .i64 (((((((((b1v14.getD rx0v15.toNat [])).getD 0 .top).rows).getD 0 [])).getD 1 .top).toI) + (1 : Int)))])).length : Int) ≤ (((((((b1v14.getD rx0v15.toNat [])).getD 0 .top).rows).set 0 (Eng.setAt ((((((b1v14.getD rx0v15.toNat [])).getD 0 .top).rows).getD 0 [])) 1 [.int .i64 (IntKind.wrap .i64 (((((((((b1v14.getD rx0v15.toNat [])).getD 0 .top).rows).getD 0 [])).getD 1 .top).toI) + (1 : Int)))])).length : Int))) && decide (((((((b1v14.getD rx0v15.toNat [])).getD 0 .top).rows).set 0 (Eng.setAt ((((((b1v14.getD rx0v15.toNat [])).getD 0 .top).rows).getD 0 [])) 1 [.int .i64 (IntKind.wrap .i64 (((((((((b1v14.getD rx0v15.toNat [])).getD 0 .top).rows).getD 0 [])).getD 1 .top).toI) + (1 : Int)))])).length : Int) ≤ (((((((b1v14.getD rx0v15.toNat [])).getD 0 .top).rows).set 0 (Eng.setAt ((((((b1v14.getD rx0v15.toNat [])).getD 0 .top).rows).getD 0 [])) 1 [.int .i64 (IntKind.wrap .i64 (((((((((b1v14.getD rx0v15.toNat [])).getD 0 .top).rows).getD 0 [])).getD 1 .top).toI) + (1 : Int)))])).length : Int)))) <|
                  tst (decide ((0 : Int) ≤ rx0v15) && decide (rx0v15 < ((b1v14.length : Int)))) <|
                  tst (decide (rx0v15.toNat < b1v14.length) && (Nat.beq rx0v15.toNat rx0v15.toNat && true)) <|
                  tst (decide ((0 : Int) ≤ rx0v15) && decide (rx0v15 < ((b1v14.length : Int)))) <|
                  tst (decide (rx0v15.toNat < b1v14.length)) <|
                  tst (Nat.beq rx0v15.toNat rx0v15.toNat) <|
                  match ((((((((b1v14.getD rx0v15.toNat [])).getD 0 .top).rows).set 0 (Eng.setAt ((((((b1v14.getD rx0v15.toNat [])).getD 0 .top).rows).getD 0 [])) 1 [.int .i64 (IntKind.wrap .i64 (((((((((b1v14.getD rx0v15.toNat [])).getD 0 .top).rows).getD 0 [])).getD 1 .top).toI) + (1 : Int)))])).drop 1).length : Int)) == (0 : Int) with
                  | true =>
                    L4a4090 N n x1 ((-1)) (IntKind.wrap .i64 (x11 + (1 : Int))) b0c0v14 b0c1v14 b0c2v14 b0c3v14 b1 (b1v14.set rx0v15.toNat (((b1v14.getD rx0v15.toNat [])).set 0 (.sub 44 ((((((b1v14.getD rx0v15.toNat [])).getD 0 .top).rows).set 0 (Eng.setAt ((((((b1v14.getD rx0v15.toNat [])).getD 0 .top).rows).getD 0 [])) 1 [.int .i64 (IntKind.wrap .i64 (((((((((b1v14.getD rx0v15.toNat [])).getD 0 .top).rows).getD 0 [])).getD 1 .top).toI) + (1 : Int)))])).drop 1))))
                  | false =>
                    L4a4090 N n x1 rx0v15 (IntKind.wrap .i64 (x11 + (1 : Int))) b0c0v14 b0c1v14 b0c2v14 b0c3v14 b1 (b1v14.set rx0v15.toNat (((b1v14.getD rx0v15.toNat [])).set 0 (.sub 44 ((((((b1v14.getD rx0v15.toNat [])).getD 0 .top).rows).set 0 (Eng.setAt ((((((b1v14.getD rx0v15.toNat [])).getD 0 .top).rows).getD 0 [])) 1 [.int .i64 (IntKind.wrap .i64 (((((((((b1v14.getD rx0v15.toNat [])).getD 0 .top).rows).getD 0 [])).getD 1 .top).toI) + (1 : Int)))])).drop 1))))
              | false =>
                tst (decide ((0 : Int) ≤ rx0v15) && decide (rx0v15 < ((b1v14.length : Int)))) <|
                tst (decide (rx0v15.toNat < b1v14.length)) <|
                tst (Nat.beq rx0v15.toNat rx0v15.toNat) <|
                tst (decide ((1 : Int) ≤ (((((((b1v14.getD rx0v15.toNat [])).getD 0 .top).rows).set 0 (Eng.setAt ((((((b1v14.getD rx0v15.toNat [])).getD 0 .top).rows).getD 0 [])) 1 [.int .i64 (IntKind.wrap .i64 (((((((((b1v14.getD rx0v15.toNat [])).getD 0 .top).rows).getD 0 [])).getD 1 .top).toI) + (1 : Int)))])).length : Int))) && decide (((((((b1v14.getD rx0v15.toNat [])).getD 0 .top).rows).set 0 (Eng.setAt ((((((b1v14.getD rx0v15.toNat [])).getD 0 .top).rows).getD 0 [])) 1 [.int .i64 (IntKind.wrap .i64 (((((((((b1v14.getD rx0v15.toNat [])).getD 0 .top).rows).getD 0 [])).getD 1 .top).toI) + (1 : Int)))])).length : Int) ≤ (((((((b1v14.getD rx0v15.toNat [])).getD 0 .top).rows).set 0 (Eng.setAt ((((((b1v14.getD rx0v15.toNat [])).getD 0 .top).rows).getD 0 [])) 1 [.int .i64 (IntKind.wrap .i64 (((((((((b1v14.getD rx0v15.toNat [])).getD 0 .top).rows).getD 0 [])).getD 1 .top).toI) + (1 : Int)))])).length : Int))) && decide (((((((b1v14.getD rx0v15.toNat [])).getD 0 .top).rows).set 0 (Eng.setAt ((((((b1v14.getD rx0v15.toNat [])).getD 0 .top).rows).getD 0 [])) 1 [.int .i64 (IntKind.wrap .i64 (((((((((b1v14.getD rx0v15.toNat [])).getD 0 .top).rows).getD 0 [])).getD 1 .top).toI) + (1 : Int)))])).length : Int) ≤ (((((((b1v14.getD rx0v15.toNat [])).getD 0 .top).rows).set 0 (Eng.setAt ((((((b1v14.getD rx0v15.toNat [])).getD 0 .top).rows).getD 0 [])) 1 [.int .i64 (IntKind.wrap .i64 (((((((((b1v14.getD rx0v15.toNat [])).getD 0 .top).rows).getD 0 [])).getD 1 .top).toI) + (1 : Int)))])).length : Int)))) <|
                tst (decide ((0 : Int) ≤ rx0v15) && decide (rx0v15 < ((b1v14.length : Int)))) <|
                tst (decide (rx0v15.toNat < b1v14.length) && (Nat.beq rx0v15.toNat rx0v15.toNat && true)) <|
                tst (decide ((0 : Int) ≤ rx0v15) && decide (rx0v15 < ((b1v14.length : Int)))) <|
                tst (decide (rx0v15.toNat < b1v14.length)) <|
                tst (Nat.beq rx0v15.toNat rx0v15.toNat) <|
                match ((((((((b1v14.getD rx0v15.toNat [])).getD 0 .top).rows).set 0 (Eng.setAt ((((((b1v14.getD rx0v15.toNat [])).getD 0 .top).rows).getD 0 [])) 1 [.int .i64 (IntKind.wrap .i64 (((((((((b1v14.getD rx0v15.toNat [])).getD 0 .top).rows).getD 0 [])).getD 1 .top).toI) + (1 : Int)))])).drop 1).length : Int)) == (0 : Int) with
                | true =>
                  L4a4090 N n x1 ((-1)) (IntKind.wrap .i64 (x11 + (1 : Int))) b0c0v14 b0c1v14 b0c2v14 b0c3v14 b1 (b1v14.set rx0v15.toNat (((b1v14.getD rx0v15.toNat [])).set 0 (.sub 44 ((((((b1v14.getD rx0v15.toNat [])).getD 0 .top).rows).set 0 (Eng.setAt ((((((b1v14.getD rx0v15.toNat [])).getD 0 .top).rows).getD 0 [])) 1 [.int .i64 (IntKind.wrap .i64 (((((((((b1v14.getD rx0v15.toNat [])).getD 0 .top).rows).getD 0 [])).getD 1 .top).toI) + (1 : Int)))])).drop 1))))
                | false =>
                  L4a4090 N n x1 rx0v15 (IntKind.wrap .i64 (x11 + (1 : Int))) b0c0v14 b0c1v14 b0c2v14 b0c3v14 b1 (b1v14.set rx0v15.toNat (((b1v14.getD rx0v15.toNat [])).set 0 (.sub 44 ((((((b1v14.getD rx0v15.toNat [])).getD 0 .top).rows).set 0 (Eng.setAt ((((((b1v14.getD rx0v15.toNat [])).getD 0 .top).rows).getD 0 [])) 1 [.int .i64 (IntKind.wrap .i64 (((((((((b1v14.getD rx0v15.toNat [])).getD 0 .top).rows).getD 0 [])).getD 1 .top).toI) + (1 : Int)))])).drop 1))))
    | false =>
      some (.x2 b0c0 b0c1 b0c2 b0c3 b1 b2)
def LFL4a4090 (N : Nat) (n : Nat) (s : St) : Option OL4a4090 := L4a4090 N n ((Eng.look s.env 1).rows) ((Eng.look s.env 10).toI) ((Eng.look s.env 11).toI) (((s.mem.getD 0 .dead).cells.getD 0 .top).rows) (((s.mem.getD 0 .dead).cells.getD 1 .top).rows) (((s.mem.getD 0 .dead).cells.getD 2 .top).toI) (((s.mem.getD 0 .dead).cells.getD 3 .top).toI) ((s.mem.getD 1 .dead).rows) ((s.mem.getD 2 .dead).rows)
def sgL4a4090 : LSh := ⟨[(1, .one (.cell (.slice 42))), (2, .one (.ptr 0 0 0)), (7, .one (.own 1)), (9, .one (.own 2)), (10, .one (.cell (.int .i64))), (11, .one (.cell (.int .i64)))], [.var [.any, .any, .int .i64, .int .i64] [.cell (.slice 38), .cell (.slice 3), .cell (.int .i64), .cell (.int .i64)], .row 48, .nst 40]⟩
def ceL4a4090 : List Cv := []
def seL4a4090 : St → List Nat := fun st => [(Eng.look st.env 2).id, (Eng.look st.env 7).id, (Eng.look st.env 9).id]
def xL4a4090wret : XSh OL4a4090 := ⟨[.gh (.close (.tmp 9))], ⟨[(4, .one (.cell (.bool)))], [.var [.any, .any, .int .i64, .int .i64] [.cell (.slice 38), .cell (.slice 3), .cell (.int .i64), .cell (.int .i64)], .row 48, .nst 40]⟩, fun st => [0, 1, 2], fun s => .ret ((Eng.look s.env 4).toB) (((s.mem.getD 0 .dead).cells.getD 0 .top).rows) (((s.mem.getD 0 .dead).cells.getD 1 .top).rows) (((s.mem.getD 0 .dead).cells.getD 2 .top).toI) (((s.mem.getD 0 .dead).cells.getD 3 .top).toI) ((s.mem.getD 1 .dead).rows) ((s.mem.getD 2 .dead).rows)⟩
def xL4a4090wx2 : XSh OL4a4090 := ⟨[], ⟨[], [.var [.any, .any, .int .i64, .int .i64] [.cell (.slice 38), .cell (.slice 3), .cell (.int .i64), .cell (.int .i64)], .row 48, .nst 40]⟩, fun st => [0, 1, 2], fun s => .x2 (((s.mem.getD 0 .dead).cells.getD 0 .top).rows) (((s.mem.getD 0 .dead).cells.getD 1 .top).rows) (((s.mem.getD 0 .dead).cells.getD 2 .top).toI) (((s.mem.getD 0 .dead).cells.getD 3 .top).toI) ((s.mem.getD 1 .dead).rows) ((s.mem.getD 2 .dead).rows)⟩
def xsL4a4090 : Ex → St → Option (XSh OL4a4090) := fun e st => match e with
  | .ret => some xL4a4090wret
  | .exit 2 => some xL4a4090wx2
  | _ => none
def exL4a4090 (o : OL4a4090) : Ex := match o with | .ret x4 b0c0 b0c1 b0c2 b0c3 b1 b2 => .ret | .x2 b0c0 b0c1 b0c2 b0c3 b1 b2 => (.exit 2)
def stL4a4090 (o : OL4a4090) : St := match o with | .ret x4 b0c0 b0c1 b0c2 b0c3 b1 b2 => ⟨[(4, .bool x4)], [.var [.any, .any, .int .i64, .int .i64] [.list 38 b0c0, .list 3 b0c1, .int .i64 b0c2, .int .i64 b0c3], .row 48 b1, .nst 40 b2 none], [], .unk⟩ | .x2 b0c0 b0c1 b0c2 b0c3 b1 b2 => ⟨[], [.var [.any, .any, .int .i64, .int .i64] [.list 38 b0c0, .list 3 b0c1, .int .i64 b0c2, .int .i64 b0c3], .row 48 b1, .nst 40 b2 none], [], .unk⟩
def elL4a4090 {R : Type} (o : OL4a4090) (k : Ex → St → Option R) : Option R := match o with | .ret x4 b0c0 b0c1 b0c2 b0c3 b1 b2 => k .ret ⟨[(4, .bool x4)], [.var [.any, .any, .int .i64, .int .i64] [.list 38 b0c0, .list 3 b0c1, .int .i64 b0c2, .int .i64 b0c3], .row 48 b1, .nst 40 b2 none], [], .unk⟩ | .x2 b0c0 b0c1 b0c2 b0c3 b1 b2 => k (.exit 2) ⟨[], [.var [.any, .any, .int .i64, .int .i64] [.list 38 b0c0, .list 3 b0c1, .int .i64 b0c2, .int .i64 b0c3], .row 48 b1, .nst 40 b2 none], [], .unk⟩
theorem heL4a4090 {R : Type} (o : OL4a4090) (k : Ex → St → Option R) : elL4a4090 o k = k (exL4a4090 o) (stL4a4090 o) := by cases o <;> rfl
theorem hxL4a4090 : ∀ e st x, xsL4a4090 e st = some x → outOk x e exL4a4090 stL4a4090 := by
  intro e st x h
  unfold xsL4a4090 at h
  repeat' split at h
  all_goals first
    | (injection h with h; subst h; exact fun lk M => ⟨rfl, rfl⟩)
    | cases h
noncomputable def T4ul4090 (N : Nat) (R : Type) : LTab R := withGh [(22, ([.opn (.tmp 9) (.tmp 12) 0], [.close (.tmp 9)])), (26, ([.opn (.tmp 9) (.tmp 10) 0], [])), (32, ([], [.close (.tmp 9)])), (37, ([.opn (.tmp 9) (.tmp 15) 0], [.close (.tmp 9)]))] (mkTab ⟨218, 6129982163463555433433388108601232012108473619089226768⟩ (csF4 N R) (noY) [] [] [(130888, fun st k => callLoop CX 2 1329227995784840315040081145956937728 ceJ4a130888 sgJ4a130888 seJ4a130888 ⟨218, 6129982163463555433433388108601232012108473619089226768⟩ (LFJ4a130888 N) elJ4a130888 st k)])
theorem okT4ul4090 (N : Nat) (R : Type) : (T4ul4090 N R).Ok CX code4 := withGh_ok _ (mkTab_ok (hcsF4 N R) (noY_ok) (trivial) (trivial) (⟨cut_ok hX (path := [false, false, false, true, false, false, true, false, true, true, true, true, true, true, true, true]) (by kernel_rfl) (by rfl) (okT4uc130888 N OJ4a130888) (hsJ4a130888 N) hxJ4a130888 rfl heJ4a130888, trivial⟩))
noncomputable def bdL4a4090 : Code := match codeAt code4 [false, true, false, true, true, true, true, true, true, true, true] with | some (.loop c) => c | _ => .skip
theorem hsL4a4090 (N : Nat) : ∀ (n : Nat) (lk : Nat → AV) (M : List Blk), LFL4a4090 N (n + 1) (canS sgL4a4090 lk M) = evk CX (T4ul4090 N OL4a4090) bdL4a4090 (2 * 4090) (canS sgL4a4090 lk M) (kont CX 3 [.gh (.close (.tmp 9))] sgL4a4090 (fun st => [0, 1, 2]) xsL4a4090 (LFL4a4090 N n)) := by intro n lk M; kernel_rfl
inductive OJ4a1022 where
  | nx (b0c0 : List Row) (b0c1 : List Row) (b0c2 : Int) (b0c3 : Int) (b1 : List Row) (b2 : List Row)
  | ret (x4 : Bool) (b0c0 : List Row) (b0c1 : List Row) (b0c2 : Int) (b0c3 : Int) (b1 : List Row) (b2 : List Row)
def J4a1022 (N : Nat) : List Row → Int → List Row → List Row → Int → Int → List Row → List Row → Option OJ4a1022 := fun x1 x10 b0c0 b0c1 b0c2 b0c3 b1 b2 =>
    match L4a4090 N N x1 x10 0 b0c0 b0c1 b0c2 b0c3 b1 b2 with
    | none => none
    | some (.ret x4v16 b0c0v16 b0c1v16 b0c2v16 b0c3v16 b1v16 b2v16) =>
      some (.ret x4v16 b0c0v16 b0c1v16 b0c2v16 b0c3v16 b1v16 b2v16)
    | some (.x2 b0c0v17 b0c1v17 b0c2v17 b0c3v17 b1v17 b2v17) =>
      some (.nx b0c0v17 b0c1v17 b0c2v17 b0c3v17 b1v17 b2v17)
def LFJ4a1022 (N : Nat) (s : St) : Option OJ4a1022 := J4a1022 N ((Eng.look s.env 1).rows) ((Eng.look s.env 10).toI) (((s.mem.getD 0 .dead).cells.getD 0 .top).rows) (((s.mem.getD 0 .dead).cells.getD 1 .top).rows) (((s.mem.getD 0 .dead).cells.getD 2 .top).toI) (((s.mem.getD 0 .dead).cells.getD 3 .top).toI) ((s.mem.getD 1 .dead).rows) ((s.mem.getD 2 .dead).rows)
def sgJ4a1022 : LSh := ⟨[(1, .one (.cell (.slice 42))), (2, .one (.ptr 0 0 0)), (7, .one (.own 1)), (9, .one (.own 2)), (10, .one (.cell (.int .i64)))], [.var [.any, .any, .int .i64, .int .i64] [.cell (.slice 38), .cell (.slice 3), .cell (.int .i64), .cell (.int .i64)], .row 48, .nst 40]⟩
def ceJ4a1022 : List Cv := []
def seJ4a1022 : St → List Nat := fun st => [(Eng.look st.env 2).id, (Eng.look st.env 7).id, (Eng.look st.env 9).id]
def xJ4a1022wnx : XSh OJ4a1022 := ⟨[], ⟨[], [.var [.any, .any, .int .i64, .int .i64] [.cell (.slice 38), .cell (.slice 3), .cell (.int .i64), .cell (.int .i64)], .row 48, .nst 40]⟩, fun st => [0, 1, 2], fun s => .nx (((s.mem.getD 0 .dead).cells.getD 0 .top).rows) (((s.mem.getD 0 .dead).cells.getD 1 .top).rows) (((s.mem.getD 0 .dead).cells.getD 2 .top).toI) (((s.mem.getD 0 .dead).cells.getD 3 .top).toI) ((s.mem.getD 1 .dead).rows) ((s.mem.getD 2 .dead).rows)⟩
def xJ4a1022wret : XSh OJ4a1022 := ⟨[], ⟨[(4, .one (.cell (.bool)))], [.var [.any, .any, .int .i64, .int .i64] [.cell (.slice 38), .cell (.slice 3), .cell (.int .i64), .cell (.int .i64)], .row 48, .nst 40]⟩, fun st => [0, 1, 2], fun s => .ret ((Eng.look s.env 4).toB) (((s.mem.getD 0 .dead).cells.getD 0 .top).rows) (((s.mem.getD 0 .dead).cells.getD 1 .top).rows) (((s.mem.getD 0 .dead).cells.getD 2 .top).toI) (((s.mem.getD 0 .dead).cells.getD 3 .top).toI) ((s.mem.getD 1 .dead).rows) ((s.mem.getD 2 .dead).rows)⟩
def xsJ4a1022 : Ex → St → Option (XSh OJ4a1022) := fun e st => match e with
  | .normal => some xJ4a1022wnx
  | .ret => some xJ4a1022wret
  | _ => none
def exJ4a1022 (o : OJ4a1022) : Ex := match o with | .nx b0c0 b0c1 b0c2 b0c3 b1 b2 => .normal | .ret x4 b0c0 b0c1 b0c2 b0c3 b1 b2 => .ret
def stJ4a1022 (o : OJ4a1022) : St := match o with | .nx b0c0 b0c1 b0c2 b0c3 b1 b2 => ⟨[], [.var [.any, .any, .int .i64, .int .i64] [.list 38 b0c0, .list 3 b0c1, .int .i64 b0c2, .int .i64 b0c3], .row 48 b1, .nst 40 b2 none], [], .unk⟩ | .ret x4 b0c0 b0c1 b0c2 b0c3 b1 b2 => ⟨[(4, .bool x4)], [.var [.any, .any, .int .i64, .int .i64] [.list 38 b0c0, .list 3 b0c1, .int .i64 b0c2, .int .i64 b0c3], .row 48 b1, .nst 40 b2 none], [], .unk⟩
def elJ4a1022 {R : Type} (o : OJ4a1022) (k : Ex → St → Option R) : Option R := match o with | .nx b0c0 b0c1 b0c2 b0c3 b1 b2 => k .normal ⟨[], [.var [.any, .any, .int .i64, .int .i64] [.list 38 b0c0, .list 3 b0c1, .int .i64 b0c2, .int .i64 b0c3], .row 48 b1, .nst 40 b2 none], [], .unk⟩ | .ret x4 b0c0 b0c1 b0c2 b0c3 b1 b2 => k .ret ⟨[(4, .bool x4)], [.var [.any, .any, .int .i64, .int .i64] [.list 38 b0c0, .list 3 b0c1, .int .i64 b0c2, .int .i64 b0c3], .row 48 b1, .nst 40 b2 none], [], .unk⟩
theorem heJ4a1022 {R : Type} (o : OJ4a1022) (k : Ex → St → Option R) : elJ4a1022 o k = k (exJ4a1022 o) (stJ4a1022 o) := by cases o <;> rfl
theorem hxJ4a1022 : ∀ e st x, xsJ4a1022 e st = some x → outOk x e exJ4a1022 stJ4a1022 := by
  intro e st x h
  unfold xsJ4a1022 at h
  repeat' split at h
  all_goals first
    | (injection h with h; subst h; exact fun lk M => ⟨rfl, rfl⟩)
    | cases h
noncomputable def T4uc1022 (N : Nat) (R : Type) : LTab R := withGh [(22, ([.opn (.tmp 9) (.tmp 12) 0], [.close (.tmp 9)])), (26, ([.opn (.tmp 9) (.tmp 10) 0], [])), (32, ([], [.close (.tmp 9)])), (37, ([.opn (.tmp 9) (.tmp 15) 0], [.close (.tmp 9)]))] (mkTab ⟨218, 6129982163463555433433388108601232012108473619089226768⟩ (csF4 N R) (noY) [(4090, fun st k => callLoop CX 3 6129982163463555433433388108601232012108473619089226768 ceL4a4090 sgL4a4090 seL4a4090 ⟨218, 6129982163463555433433388108601232012108473619089226768⟩ (LFL4a4090 N N) elL4a4090 st k)] [] [])
theorem okT4uc1022 (N : Nat) (R : Type) : (T4uc1022 N R).Ok CX code4 := withGh_ok _ (mkTab_ok (hcsF4 N R) (noY_ok) (⟨loop_ok hX (path := [false, true, false, true, true, true, true, true, true, true, true]) (by kernel_rfl) (by rfl) (okT4ul4090 N OL4a4090) (fun _ _ => rfl) (hsL4a4090 N) hxL4a4090 rfl heL4a4090, trivial⟩) (trivial) (trivial))
noncomputable def bdJ4a1022 : Code := (codeAt code4 [false, true, true, true, true, true, true, true, true]).getD .skip
theorem hsJ4a1022 (N : Nat) : ∀ (lk : Nat → AV) (M : List Blk), LFJ4a1022 N (canS sgJ4a1022 lk M) = evk CX (T4uc1022 N OJ4a1022) bdJ4a1022 1022 (canS sgJ4a1022 lk M) (kontX CX 3 xsJ4a1022) := by intro lk M; kernel_rfl
inductive OL4a8186 where
  | ret (x4 : Bool) (b0 : List Row) (b1 : List Row)
  | x6 (b0 : List Row) (b1 : List Row)
def L4a8186 (N : Nat) : Nat → Int → Int → List Row → List Row → Option OL4a8186
  | 0 => fun _ _ _ _ => none
  | n + 1 => fun x183 x184 b0 b1 =>
    match decide (x184 < x183) with
    | true =>
      tst (decide (x184.toNat < b1.length) && true && (((b1.getD x184.toNat [])).getD 0 .top).isSub) <|
      tst (decide ((0 : Int) ≤ x184) && decide (x184 < ((b0.length : Int)))) <|
      tst (decide (x184.toNat < b0.length)) <|
      match (((b0.getD x184.toNat [])).getD 3 .top).toB with
      | true =>
        tst (decide ((0 : Int) ≤ x184) && decide (x184 < ((b1.length : Int)))) <|
        tst (decide (x184.toNat < b1.length)) <|
        tst (Nat.beq x184.toNat x184.toNat) <|
        match decide ((0 : Int) < ((((((b1.getD x184.toNat [])).getD 0 .top).rows).length : Int))) with
        | true =>
          tst (decide ((0 : Int) ≤ x184) && decide (x184 < ((b1.length : Int)))) <|
          tst (decide (x184.toNat < b1.length)) <|
          tst (Nat.beq x184.toNat x184.toNat) <|
          tst (decide ((0 : Int) < ((((((b1.getD x184.toNat [])).getD 0 .top).rows).length : Int)))) <|
          tst (decide (0 < (((((b1.getD x184.toNat [])).getD 0 .top).rows).length))) <|
          tst (decide ((0 : Int) ≤ x184) && decide (x184 < ((b0.length : Int)))) <|
          tst (decide (x184.toNat < b0.length)) <|
          match decide (((((b0.getD x184.toNat [])).getD 2 .top).toI) < (IntKind.wrap .i64 ((500 : Int) - ((((((((b1.getD x184.toNat [])).getD 0 .top).rows).getD 0 [])).getD 0 .top).toI)))) with
          | true =>
            some (.ret false b0 (b1.set x184.toNat (((b1.getD x184.toNat [])).set 0 (.sub 44 ((((b1.getD x184.toNat [])).getD 0 .top).rows)))))
          | false =>
            L4a8186 N n x183 (IntKind.wrap .i64 (x184 + (1 : Int))) b0 (b1.set x184.toNat (((b1.getD x184.toNat [])).set 0 (.sub 44 ((((b1.getD x184.toNat [])).getD 0 .top).rows))))
        | false =>
          L4a8186 N n x183 (IntKind.wrap .i64 (x184 + (1 : Int))) b0 (b1.set x184.toNat (((b1.getD x184.toNat [])).set 0 (.sub 44 ((((b1.getD x184.toNat [])).getD 0 .top).rows))))
      | false =>
        L4a8186 N n x183 (IntKind.wrap .i64 (x184 + (1 : Int))) b0 (b1.set x184.toNat (((b1.getD x184.toNat [])).set 0 (.sub 44 ((((b1.getD x184.toNat [])).getD 0 .top).rows))))
    | false =>
      some (.x6 b0 b1)
def LFL4a8186 (N : Nat) (n : Nat) (s : St) : Option OL4a8186 := L4a8186 N n ((Eng.look s.env 183).toI) ((Eng.look s.env 184).toI) ((s.mem.getD 0 .dead).rows) ((s.mem.getD 1 .dead).rows)
def sgL4a8186 : LSh := ⟨[(7, .one (.own 0)), (9, .one (.own 1)), (183, .one (.cell (.int .i64))), (184, .one (.cell (.int .i64)))], [.row 48, .nst 40]⟩
def ceL4a8186 : List Cv := []
def seL4a8186 : St → List Nat := fun st => [(Eng.look st.env 7).id, (Eng.look st.env 9).id]
def xL4a8186wret : XSh OL4a8186 := ⟨[], ⟨[(4, .one (.cell (.bool)))], [.row 48, .nst 40]⟩, fun st => [0, 1], fun s => .ret ((Eng.look s.env 4).toB) ((s.mem.getD 0 .dead).rows) ((s.mem.getD 1 .dead).rows)⟩
def xL4a8186wx6 : XSh OL4a8186 := ⟨[], ⟨[], [.row 48, .nst 40]⟩, fun st => [0, 1], fun s => .x6 ((s.mem.getD 0 .dead).rows) ((s.mem.getD 1 .dead).rows)⟩
def xsL4a8186 : Ex → St → Option (XSh OL4a8186) := fun e st => match e with
  | .ret => some xL4a8186wret
  | .exit 6 => some xL4a8186wx6
  | _ => none
def exL4a8186 (o : OL4a8186) : Ex := match o with | .ret x4 b0 b1 => .ret | .x6 b0 b1 => (.exit 6)
def stL4a8186 (o : OL4a8186) : St := match o with | .ret x4 b0 b1 => ⟨[(4, .bool x4)], [.row 48 b0, .nst 40 b1 none], [], .unk⟩ | .x6 b0 b1 => ⟨[], [.row 48 b0, .nst 40 b1 none], [], .unk⟩
def elL4a8186 {R : Type} (o : OL4a8186) (k : Ex → St → Option R) : Option R := match o with | .ret x4 b0 b1 => k .ret ⟨[(4, .bool x4)], [.row 48 b0, .nst 40 b1 none], [], .unk⟩ | .x6 b0 b1 => k (.exit 6) ⟨[], [.row 48 b0, .nst 40 b1 none], [], .unk⟩
theorem heL4a8186 {R : Type} (o : OL4a8186) (k : Ex → St → Option R) : elL4a8186 o k = k (exL4a8186 o) (stL4a8186 o) := by cases o <;> rfl
theorem hxL4a8186 : ∀ e st x, xsL4a8186 e st = some x → outOk x e exL4a8186 stL4a8186 := by
  intro e st x h
  unfold xsL4a8186 at h
  repeat' split at h
  all_goals first
    | (injection h with h; subst h; exact fun lk M => ⟨rfl, rfl⟩)
    | cases h
noncomputable def T4ul8186 (N : Nat) (R : Type) : LTab R := withGh [(22, ([.opn (.tmp 9) (.tmp 12) 0], [.close (.tmp 9)])), (26, ([.opn (.tmp 9) (.tmp 10) 0], [])), (32, ([], [.close (.tmp 9)])), (37, ([.opn (.tmp 9) (.tmp 15) 0], [.close (.tmp 9)]))] (mkTab ⟨218, 210624583312594444741981833633607312203385243863198396553684353040⟩ (csF4 N R) (noY) [] [] [])
theorem okT4ul8186 (N : Nat) (R : Type) : (T4ul8186 N R).Ok CX code4 := withGh_ok _ (mkTab_ok (hcsF4 N R) (noY_ok) (trivial) (trivial) (trivial))
noncomputable def bdL4a8186 : Code := match codeAt code4 [false, true, false, true, true, true, true, true, true, true, true, true] with | some (.loop c) => c | _ => .skip
theorem hsL4a8186 (N : Nat) : ∀ (n : Nat) (lk : Nat → AV) (M : List Blk), LFL4a8186 N (n + 1) (canS sgL4a8186 lk M) = evk CX (T4ul8186 N OL4a8186) bdL4a8186 (2 * 8186) (canS sgL4a8186 lk M) (kont CX 2 [] sgL4a8186 (fun st => [0, 1]) xsL4a8186 (LFL4a8186 N n)) := by intro n lk M; kernel_rfl
noncomputable def T4ur1 (N : Nat) (R : Type) : LTab R := withGh [(22, ([.opn (.tmp 9) (.tmp 12) 0], [.close (.tmp 9)])), (26, ([.opn (.tmp 9) (.tmp 10) 0], [])), (32, ([], [.close (.tmp 9)])), (37, ([.opn (.tmp 9) (.tmp 15) 0], [.close (.tmp 9)]))] (mkTab ⟨218, 421249166674228746791672110734681729275580381602196445017243910143⟩ (csF4 N R) (noY) [(8186, fun st k => callLoop CX 2 210624583312594444741981833633607312203385243863198396553684353040 ceL4a8186 sgL4a8186 seL4a8186 ⟨218, 421249166674228746791672110734681729275580381602196445017243910143⟩ (LFL4a8186 N N) elL4a8186 st k)] [] [(14, fun st k => callLoop CX 1 68719214608 ceJ4a14 sgJ4a14 seJ4a14 ⟨218, 421249166674228746791672110734681729275580381602196445017243910143⟩ (LFJ4a14 N) elJ4a14 st k), (30, fun st k => callLoop CX 1 9007130535264336 ceJ4a30 sgJ4a30 seJ4a30 ⟨218, 421249166674228746791672110734681729275580381602196445017243910143⟩ (LFJ4a30 N) elJ4a30 st k), (126, fun st k => callLoop CX 2 294859674803201114128 ceJ4a126 sgJ4a126 seJ4a126 ⟨218, 421249166674228746791672110734681729275580381602196445017243910143⟩ (LFJ4a126 N) elJ4a126 st k), (1022, fun st k => callLoop CX 3 6129982163463555433433388108601232012108473619089226768 ceJ4a1022 sgJ4a1022 seJ4a1022 ⟨218, 421249166674228746791672110734681729275580381602196445017243910143⟩ (LFJ4a1022 N) elJ4a1022 st k)])
theorem okT4ur1 (N : Nat) (R : Type) : (T4ur1 N R).Ok CX code4 := withGh_ok _ (mkTab_ok (hcsF4 N R) (noY_ok) (⟨loop_ok hX (path := [false, true, false, true, true, true, true, true, true, true, true, true]) (by kernel_rfl) (by rfl) (okT4ul8186 N OL4a8186) (fun _ _ => rfl) (hsL4a8186 N) hxL4a8186 rfl heL4a8186, trivial⟩) (trivial) (⟨cut_ok hX (path := [false, true, true]) (by kernel_rfl) (by rfl) (okT4uc14 N OJ4a14) (hsJ4a14 N) hxJ4a14 rfl heJ4a14, cut_ok hX (path := [false, true, true, true]) (by kernel_rfl) (by rfl) (okT4uc30 N OJ4a30) (hsJ4a30 N) hxJ4a30 rfl heJ4a30, cut_ok hX (path := [false, true, true, true, true, true]) (by kernel_rfl) (by rfl) (okT4uc126 N OJ4a126) (hsJ4a126 N) hxJ4a126 rfl heJ4a126, cut_ok hX (path := [false, true, true, true, true, true, true, true, true]) (by kernel_rfl) (by rfl) (okT4uc1022 N OJ4a1022) (hsJ4a1022 N) hxJ4a1022 rfl heJ4a1022, trivial⟩))
def rsF4 : List ResultVar := [.tmp 4]
def F4 : Nat → TF4
  | 0 => fun _ _ _ _ _ => none
  | N + 1 => fun x0c0 x0c1 x0c2 x0c3 x1 =>
    match J4a14 N x1 x0c0 x0c1 0 1 with
    | none => none
    | some (.nx b0c0v5 b0c1v5 b0c2v5 b0c3v5) =>
      match J4a30 N b0c0v5 b0c1v5 b0c2v5 b0c3v5 with
      | none => none
      | some (.nx b0c0v10 b0c1v10 b0c2v10 b0c3v10) =>
        match F11 N b0c0v10 b0c1v10 b0c2v10 b0c3v10 with
        | none => none
        | some (.r rx1v11 rb0v11) =>
          match J4a126 N rx1v11 b0c0v10 b0c1v10 b0c2v10 b0c3v10 rb0v11 with
          | none => none
          | some (.nx b0c0v12 b0c1v12 b0c2v12 b0c3v12 b1v12) =>
            tst (decide ((0 : Int) ≤ ((b0c0v12.length : Int))) && decide ((b0c0v12.length : Int) ≤ ((b0c0v12.length : Int))) && decide (((b0c0v12.length : Int)) * 24 ≤ (140737488355328 : Int))) <|
            match J4a1022 N x1 ((-1)) b0c0v12 b0c1v12 b0c2v12 b0c3v12 b1v12 (List.replicate (((b0c0v12.length : Int)).toNat) ([.sub 44 ([])] : Row)) with
            | none => none
            | some (.nx b0c0v18 b0c1v18 b0c2v18 b0c3v18 b1v18 b2v18) =>
              match L4a8186 N N ((b2v18.length : Int)) 0 b1v18 b2v18 with
              | none => none
              | some (.ret x4v19 b0v19 b1v19) =>
                some (.r x4v19)
              | some (.x6 b0v20 b1v20) =>
                match F10 N  with
                | none => none
                | some (.r rx0v21) =>
                  some (.r rx0v21)
            | some (.ret x4v22 b0c0v22 b0c1v22 b0c2v22 b0c3v22 b1v22 b2v22) =>
              some (.r x4v22)
          | some (.ret x4v23 b0c0v23 b0c1v23 b0c2v23 b0c3v23 b1v23) =>
            some (.r x4v23)
      | some (.ret x4v24 b0c0v24 b0c1v24 b0c2v24 b0c3v24) =>
        some (.r x4v24)
    | some (.ret x4v25 b0c0v25 b0c1v25 b0c2v25 b0c3v25) =>
      some (.r x4v25)
def xRF4 : XSh R4 := ⟨[], ⟨[(0, .one (.cell (.bool)))], []⟩, fun _ => [], fun s => .r ((Eng.look s.env 0).toB)⟩
theorem fsF4 : ∀ (N : Nat) (lk : Nat → AV) (M : List Blk), FFF4 (F4 (N + 1)) (canS sgF4 lk M) = evfn CX (T4ur1 N R4) code4 rsF4 (argsE 2 (canS sgF4 lk M).env) (canS sgF4 lk M).mem (goR CX 0 (fun _ => some xRF4)) := by intro N lk M; kernel_rfl
theorem soundF4 : ∀ N, RecOkF4 (F4 N)
  | 0, lk, M, o, h => by cases h
  | N + 1, lk, M, o, h => fn_sound hX (okT4ur1 N R4) Try.func4 hb4 rfl en4 (by kernel_rfl) (ys := fun _ => some xRF4) (fun st y h => by injection h with h; subst h; exact fun lk M => ⟨rfl, rfl⟩) ((fsF4 N lk M).symm.trans h)
end
end Go.Proofs.Ytbgdiljnmifakaa

namespace Go.Proofs.Ytbgdiljnmifakaa
open Go Go.Eng
def cI (l : List Row) (i : Int) (c : Nat) : Int := ((l.getD i.toNat []).getD c .top).toI
def cL (l : List Row) (i : Int) (c : Nat) : List Row := ((l.getD i.toNat []).getD c .top).rows
theorem wrap_id {n : Int} (h0 : -9223372036854775808 ≤ n) (h1 : n ≤ 9223372036854775807) : IntKind.wrap .i64 n = n := by
  simp [IntKind.wrap, IntKind.bits, IntKind.signed]
  split <;> omega
theorem wrap_succ {i : Nat} (h : i ≤ 1000000) : IntKind.wrap .i64 ((i : Int) + 1) = ((i + 1 : Nat) : Int) := by
  rw [wrap_id (by omega) (by omega)]; omega
theorem dlt {i n : Nat} (h : i < n) : decide ((i : Int) < (n : Int)) = true := decide_eq_true (by omega)
theorem dge {i n : Nat} (h : n ≤ i) : decide ((i : Int) < (n : Int)) = false := decide_eq_false (by omega)
theorem dz (i : Nat) : decide ((0 : Int) ≤ (i : Int)) = true := decide_eq_true (by omega)
def allF (p : Nat → Bool) : Nat → Nat → Bool
  | _, 0 => true
  | i, k + 1 => p i && allF p (i + 1) k
theorem allF_iff {p : Nat → Bool} : ∀ {k i : Nat}, allF p i k = true ↔ ∀ j, i ≤ j → j < i + k → p j = true
  | 0, i => by simp only [allF, true_iff]; intro j h1 h2; omega
  | k + 1, i => by
    simp only [allF, Bool.and_eq_true, allF_iff (k := k) (i := i + 1)]
    constructor
    · rintro ⟨h1, h2⟩ j h3 h4
      by_cases e : j = i
      · subst e; exact h1
      · exact h2 j (by omega) (by omega)
    · intro h
      exact ⟨h i (Nat.le_refl _) (by omega), fun j h1 h2 => h j (by omega) (by omega)⟩
def inR (v lo hi : Int) : Bool := decide (lo ≤ v) && decide (v ≤ hi)
theorem inR_iff {v lo hi : Int} : inR v lo hi = true ↔ lo ≤ v ∧ v ≤ hi := by simp [inR]
theorem F35_eq (N : Nat) (v lo hi : Int) : F35 (N + 1) v lo hi = some (.r (inR v lo hi)) := by
  show (match decide (lo ≤ v) with | true => _ | false => _) = _
  unfold inR
  cases decide (lo ≤ v) <;> rfl
theorem F31_eq (N : Nat) (v lo hi : Int) : F31 (N + 1) v lo hi = some (.r (inR v lo hi)) := by
  show (match decide (lo ≤ v) with | true => _ | false => _) = _
  unfold inR
  cases decide (lo ≤ v) <;> rfl
def useF (C : List Row) (cost prio : Int) (us : List Row) : Nat → Nat → Int → Bool
  | _, 0, _ => true
  | i, k + 1, last => !decide (cI us i 0 ≤ last) && (!decide ((C.length : Int) ≤ cI us i 0) && (inR (cI us i 1) 1 cost && (!decide (cI C (cI us i 0) 0 < prio) && useF C cost prio us (i + 1) k (cI us i 0))))
theorem useF_iff {C : List Row} {cost prio : Int} {us : List Row} : ∀ {k i : Nat} {last : Int}, -1 ≤ last → useF C cost prio us i k last = true → ∀ j : Nat, i ≤ j → j < i + k → 0 ≤ cI us j 0 ∧ cI us j 0 < C.length ∧ 1 ≤ cI us j 1 ∧ cI us j 1 ≤ cost ∧ prio ≤ cI C (cI us j 0) 0
  | 0, i, _, _, _, j, h1, h2 => by omega
  | k + 1, i, last, hl, h, j, h1, h2 => by
    simp only [useF, Bool.and_eq_true, Bool.not_eq_true', decide_eq_false_iff_not, inR_iff] at h
    obtain ⟨a1, a2, a3, a4, a5⟩ := h
    by_cases e : j = i
    · subst e; exact ⟨by omega, by omega, a3.1, a3.2, by omega⟩
    · exact useF_iff (by omega) a5 j (by omega) (by omega)
theorem L34_all (N : Nat) (T C : List Row) (sw ins c0 prio c2 c3 c4 cost : Int) (us : List Row) (hu : us.length ≤ 1000) : ∀ (k n i : Nat) (last : Int), -1 ≤ last → i + k = us.length → k < n →
    L34a58 (N + 1) n last us us.length i T C sw ins c0 prio c2 c3 c4 cost us = match useF C cost prio us i k last with | true => some (.x0 T C sw ins c0 prio c2 c3 c4 cost us) | false => some (.ret false T C sw ins c0 prio c2 c3 c4 cost us)
  | 0, n + 1, i, last, _, h, _ => by
    show (match decide ((i : Int) < (us.length : Int)) with | true => _ | false => _) = _
    rw [dge (show us.length ≤ i by omega)]; rfl
  | k + 1, n + 1, i, last, hl, h, hn => by
    show (match decide ((i : Int) < (us.length : Int)) with | true => _ | false => _) = _
    simp only [dlt (show i < us.length by omega), dz, Bool.and_self, tst, ← cI.eq_1, F31_eq]
    rw [wrap_succ (by omega)]
    unfold useF
    cases h1 : decide (cI us i 0 ≤ last) with
    | true => rfl
    | false =>
      have h1' := of_decide_eq_false h1
      cases h2 : decide ((C.length : Int) ≤ cI us i 0) with
      | true => rfl
      | false =>
        have h2' := of_decide_eq_false h2
        have e1 : decide ((0 : Int) ≤ cI us i 0) = true := decide_eq_true (by omega)
        have e2 : decide (cI us i 0 < (C.length : Int)) = true := decide_eq_true (by omega)
        simp only [e1, e2, Bool.and_self]
        cases inR (cI us i 1) 1 cost with
        | false => rfl
        | true =>
          cases h3 : decide (cI C (cI us i 0) 0 < prio) with
          | true => rfl
          | false =>
            simp only [Bool.not_false, Bool.not_true, Bool.true_and]
            exact L34_all N T C sw ins c0 prio c2 c3 c4 cost us hu k n (i + 1) _ (by omega) (by omega) (by omega)
  | _, 0, _, _, _, _, h => by omega
def numOk (c0 prio per dl off cost : Int) : Bool :=
  !decide (c0 < 0) && (!decide (prio < 0) && (!decide (31 < prio) && (inR per 1 2147483647 && (inR dl 1 per && (inR off 0 2147483647 && inR cost 1 1073741824)))))
def tkOk (C : List Row) (c0 prio per dl off cost : Int) (us : List Row) : Bool := numOk c0 prio per dl off cost && useF C cost prio us 0 us.length (-1)
theorem F34_eq {N : Nat} (hN : 1100 ≤ N) (T C : List Row) (sw ins c0 prio per dl off cost : Int) (us : List Row) (hu : us.length ≤ 1000) : F34 N T C sw ins c0 prio per dl off cost us = some (.r (useF C cost prio us 0 us.length (-1))) := by
  obtain ⟨M, rfl⟩ : ∃ M, N = M + 2 := ⟨N - 2, by omega⟩
  show (match L34a58 (M + 1) (M + 1) (-1) us us.length 0 T C sw ins c0 prio per dl off cost us with | none => (none : Option R34) | some (.ret x _ _ _ _ _ _ _ _ _ _ _) => some (.r x) | some (.x0 _ _ _ _ _ _ _ _ _ _ _) => some (.r true)) = _
  have := L34_all M T C sw ins c0 prio per dl off cost us hu us.length (M + 1) 0 (-1) (by omega) (by omega) (by omega)
  rw [show ((0 : Nat) : Int) = (0 : Int) from rfl] at this
  rw [this]
  cases useF C cost prio us 0 us.length (-1) <;> rfl
def tk (T C : List Row) (i : Nat) : Bool := tkOk C (cI T i 0) (cI T i 1) (cI T i 2) (cI T i 3) (cI T i 4) (cI T i 5) (cL T i 6)
def dist (T : List Row) (i : Nat) : Bool := allF (fun k => !(cI T k 0 == cI T i 0)) 0 i
def ceilOk (C : List Row) (i : Nat) : Bool := !decide (cI C i 0 < 0) && !decide (31 < cI C i 0)
def head (T C : List Row) (sw ins : Int) : Bool := !decide ((32 : Int) < T.length) && (!decide ((32 : Int) < C.length) && (inR sw 0 268435456 && inR ins 1 1048576))
def may (T C : List Row) (sw ins : Int) : Bool := head T C sw ins && (allF (ceilOk C) 0 C.length && allF (fun i => tk T C i && dist T i) 0 T.length)
structure Small (T C : List Row) : Prop where
  t : T.length ≤ 40
  c : C.length ≤ 40
  u : ∀ i : Nat, i < T.length → (cL T i 6).length ≤ 40
theorem J14_eq (N : Nat) (T C : List Row) (sw ins : Int) : J14a6 (N + 1) T C sw ins = match head T C sw ins with | true => some (.nx T C sw ins) | false => some (.ret false T C sw ins) := by
  unfold J14a6 head
  simp only [F35_eq]
  cases decide ((32 : Int) < T.length) <;> cases decide ((32 : Int) < C.length) <;> cases inR sw 0 268435456 <;> cases inR ins 1 1048576 <;> rfl
theorem L14c_all (N : Nat) (T C : List Row) (sw ins : Int) (hC : C.length ≤ 1000) : ∀ (k n i : Nat), i + k = C.length → k < n → L14a58 N n i T C sw ins = match allF (ceilOk C) i k with | true => some (.x0 T C sw ins) | false => some (.ret false T C sw ins)
  | 0, n + 1, i, h, _ => by
    show (match decide ((i : Int) < (C.length : Int)) with | true => _ | false => _) = _
    rw [dge (show C.length ≤ i by omega)]; rfl
  | k + 1, n + 1, i, h, hn => by
    show (match decide ((i : Int) < (C.length : Int)) with | true => _ | false => _) = _
    simp only [dlt (show i < C.length by omega), dz, Bool.and_self, tst, ← cI.eq_1]
    rw [wrap_succ (by omega)]
    unfold allF ceilOk
    cases decide (cI C i 0 < 0) with
    | true => rfl
    | false =>
      cases decide (31 < cI C i 0) with
      | true => rfl
      | false =>
        simp only [Bool.not_false, Bool.and_self, Bool.true_and]
        exact L14c_all N T C sw ins hC k n (i + 1) (by omega) (by omega)
  | _, 0, _, _, h => by omega
theorem L14d_all (N : Nat) (T C : List Row) (sw ins : Int) (hT : T.length ≤ 1000) (t : Nat) (ht : t < T.length) : ∀ (k n i : Nat), i + k = t → k < n → L14a15654 N n t i T C sw ins = match allF (fun k => !(cI T k 0 == cI T t 0)) i k with | true => some (.x4 T C sw ins) | false => some (.ret false T C sw ins)
  | 0, n + 1, i, h, _ => by
    show (match decide ((i : Int) < (t : Int)) with | true => _ | false => _) = _
    rw [dge (show t ≤ i by omega)]; rfl
  | k + 1, n + 1, i, h, hn => by
    show (match decide ((i : Int) < (t : Int)) with | true => _ | false => _) = _
    simp only [dlt (show i < t by omega), dlt (show i < T.length by omega), dlt ht, dz, Bool.and_self, tst, ← cI.eq_1]
    rw [wrap_succ (by omega)]
    unfold allF
    cases cI T i 0 == cI T t 0 with
    | true => rfl
    | false =>
      simp only [Bool.not_false, Bool.true_and]
      exact L14d_all N T C sw ins hT t ht k n (i + 1) (by omega) (by omega)
  | _, 0, _, _, h => by omega
theorem J13_eq (N : Nat) (T C : List Row) (sw ins : Int) : J13a6 (N + 1) T C sw ins = match head T C sw ins with | true => some (.nx T C sw ins) | false => some (.ret false T C sw ins) := by
  unfold J13a6 head
  simp only [F31_eq]
  cases decide ((32 : Int) < T.length) <;> cases decide ((32 : Int) < C.length) <;> cases inR sw 0 268435456 <;> cases inR ins 1 1048576 <;> rfl
theorem F33_eq (N : Nat) (v : Int) : F33 (N + 1) v = some (.r (decide (v < 0) || decide (31 < v))) := by
  show (match decide (v < 0) with | true => _ | false => _) = _
  cases decide (v < 0) <;> rfl
theorem L45_all (N : Nat) (C : List Row) (hC : C.length ≤ 1000) : ∀ (k n i : Nat), i + k = C.length → k < n → (match allF (ceilOk C) i k with | true => L45a26 (N + 1) n C C.length i = some .x0 | false => ∃ j : Nat, L45a26 (N + 1) n C C.length i = some (.ret j))
  | 0, n + 1, i, h, _ => by
    show (match decide ((i : Int) < (C.length : Int)) with | true => _ | false => _) = _
    rw [dge (show C.length ≤ i by omega)]
  | k + 1, n + 1, i, h, hn => by
    have ih := L45_all N C hC k n (i + 1) (by omega) (by omega)
    have e : L45a26 (N + 1) (n + 1) C C.length i = match decide (cI C i 0 < 0) || decide (31 < cI C i 0) with | true => some (.ret i) | false => L45a26 (N + 1) n C C.length ((i + 1 : Nat) : Int) := by
      show (match decide ((i : Int) < (C.length : Int)) with | true => _ | false => _) = _
      simp only [dlt (show i < C.length by omega), dz, Bool.and_self, tst, ← cI.eq_1, F33_eq]
      rw [wrap_succ (by omega)]
      cases decide (cI C i 0 < 0) || decide (31 < cI C i 0) <;> rfl
    rw [e]
    unfold allF ceilOk
    cases decide (cI C i 0 < 0) with
    | true => exact ⟨i, rfl⟩
    | false =>
      cases decide (31 < cI C i 0) with
      | true => exact ⟨i, rfl⟩
      | false =>
        simp only [Bool.not_false, Bool.and_self, Bool.true_and, Bool.or_self]
        exact ih
  | _, 0, _, _, h => by omega
theorem F32_eq {N : Nat} (hN : 1100 ≤ N) (C : List Row) (hC : C.length ≤ 1000) : F32 N C = some (.r (!allF (ceilOk C) 0 C.length)) := by
  obtain ⟨M, rfl⟩ : ∃ M, N = M + 3 := ⟨N - 3, by omega⟩
  have h := L45_all (M) C hC C.length (M + 1) 0 (by omega) (by omega)
  rw [show ((0 : Nat) : Int) = (0 : Int) from rfl] at h
  show (match (match L45a26 (M + 1) (M + 1) C C.length 0 with | none => (none : Option R45) | some (.ret x) => some (.r x) | some .x0 => some (.r (-1))) with | none => none | some (.r x) => some (R32.r (decide ((0 : Int) ≤ x)))) = _
  revert h
  cases allF (ceilOk C) 0 C.length with
  | true => intro h; simp only at h; rw [h]; rfl
  | false => rintro ⟨j, h⟩; rw [h]; simp
def seen (T : List Row) : Nat → List (AV × AV)
  | 0 => []
  | i + 1 => Eng.mput (seen T i) (.int .i64 (cI T i 0)) (.bool true)
theorem mfind_mput (es : List (AV × AV)) (a b : Int) (v : AV) : Eng.mfind (Eng.mput es (.int .i64 a) v) (.int .i64 b) = if b = a then some v else Eng.mfind es (.int .i64 b) := by
  induction es with
  | nil =>
    simp only [Eng.mput, Eng.mfind, Eng.keq]
    by_cases h : b = a
    · subst h; simp
    · have : (b == a) = false := by simpa using h
      simp [h, this]
  | cons e es ih =>
    obtain ⟨x, y⟩ := e
    simp only [Eng.mput]
    cases hk : Eng.keq (.int .i64 a) x with
    | true =>
      simp only [Eng.mfind]
      rw [show Eng.keq (.int .i64 b) (.int .i64 a) = (b == a) from rfl]
      by_cases h : b = a
      · subst h; simp
      · have h2 : (b == a) = false := by simpa using h
        have h3 : Eng.keq (.int .i64 b) x = false := by
          cases x <;> simp only [Eng.keq] at hk ⊢ <;> try cases hk
          have := eq_of_beq hk
          subst this
          exact h2
        simp [h, h2, h3]
    | false =>
      simp only [Eng.mfind]
      rw [ih]
      by_cases h : b = a
      · subst h; simp [hk]
      · simp [h]
theorem seen_find (T : List Row) (v : Int) : ∀ i : Nat, Eng.mfind (seen T i) (.int .i64 v) = if allF (fun k => !(cI T k 0 == v)) 0 i = true then none else some (.bool true)
  | 0 => by simp [seen, Eng.mfind, allF]
  | i + 1 => by
    rw [seen, mfind_mput, seen_find T v i]
    by_cases h : v = cI T i 0
    · subst h
      rw [if_pos rfl, if_neg]
      intro h2
      have := allF_iff.1 h2 i (by omega) (by omega)
      simp at this
    · rw [if_neg h]
      have e : allF (fun k => !(cI T k 0 == v)) 0 (i + 1) = allF (fun k => !(cI T k 0 == v)) 0 i := by
        rw [Bool.eq_iff_iff, allF_iff, allF_iff]
        constructor
        · intro h1 j h2 h3; exact h1 j h2 (by omega)
        · intro h1 j h2 h3
          by_cases e : j = i
          · subst e; simp; exact fun e => h e.symm
          · exact h1 j h2 (by omega)
      rw [e]
def times (per dl off cost : Int) : Bool := inR per 1 2147483647 && (inR dl 1 per && (inR off 0 2147483647 && inR cost 1 1073741824))
theorem J13b_eq (N : Nat) (c0 prio per dl off cost : Int) (us : List Row) : J13a32050 (N + 1) c0 prio per dl off cost us = some (.nx (times per dl off cost) c0 prio per dl off cost us) := by
  unfold J13a32050 times
  simp only [F31_eq]
  cases inR per 1 2147483647 <;> cases inR dl 1 per <;> cases inR off 0 2147483647 <;> cases inR cost 1 1073741824 <;> rfl
theorem J13c_eq {N : Nat} (hN : 1100 ≤ N) (T C : List Row) (sw ins c0 prio per dl off cost : Int) (us : List Row) (hu : us.length ≤ 1000) (i : Nat) :
    J13a64102 N (times per dl off cost) T C sw ins (seen T i) c0 prio per dl off cost us = match tkOk C c0 prio per dl off cost us && allF (fun k => !(cI T k 0 == c0)) 0 i with
      | true => some (.nx T C sw ins (seen T i) c0 prio per dl off cost us)
      | false => some (.ret false T C sw ins (seen T i) c0 prio per dl off cost us) := by
  unfold J13a64102
  simp only [seen_find, F34_eq hN T C sw ins c0 prio per dl off cost us hu]
  unfold tkOk numOk
  rw [show (inR per 1 2147483647 && (inR dl 1 per && (inR off 0 2147483647 && inR cost 1 1073741824))) = times per dl off cost from rfl]
  cases times per dl off cost with
  | false => cases decide (c0 < 0) <;> cases decide (prio < 0) <;> cases decide (31 < prio) <;> rfl
  | true =>
    cases decide (c0 < 0) with
    | true => rfl
    | false =>
      cases hs : allF (fun k => !(cI T k 0 == c0)) 0 i with
      | false => simp [AV.toB]
      | true =>
        simp only [if_true]
        cases decide (prio < 0) <;> cases decide (31 < prio) <;> cases useF C cost prio us 0 us.length (-1) <;> rfl
theorem L13_all {T C : List Row} (hS : Small T C) (N : Nat) (hN : 1200 ≤ N) (sw ins : Int) : ∀ (k n i : Nat), i + k = T.length → k < n → (match allF (fun i => tk T C i && dist T i) i k with | true => ∃ b, L13a250 N n T T.length i T C sw ins (seen T i) = some (.x0 T C sw ins b) | false => ∃ b, L13a250 N n T T.length i T C sw ins (seen T i) = some (.ret false T C sw ins b))
  | 0, n + 1, i, h, _ => by
    refine ⟨seen T i, ?_⟩
    show (match decide ((i : Int) < (T.length : Int)) with | true => _ | false => _) = _
    rw [dge (show T.length ≤ i by omega)]
  | k + 1, n + 1, i, h, hn => by
    have hu := hS.u i (by omega)
    have ht := hS.t
    have ih := L13_all hS N hN sw ins k n (i + 1) (by omega) (by omega)
    have e : L13a250 N (n + 1) T T.length i T C sw ins (seen T i) = match tk T C i && dist T i with | true => L13a250 N n T T.length ((i + 1 : Nat) : Int) T C sw ins (seen T (i + 1)) | false => some (.ret false T C sw ins (seen T i)) := by
      obtain ⟨M, rfl⟩ : ∃ M, N = M + 1 := ⟨N - 1, by omega⟩
      show (match decide ((i : Int) < (T.length : Int)) with | true => _ | false => _) = _
      simp only [dlt (show i < T.length by omega), dz, Bool.and_self, tst, ← cI.eq_1, ← cL.eq_1, J13b_eq]
      rw [J13c_eq (by omega) T C sw ins _ _ _ _ _ _ _ (by omega), wrap_succ (by omega)]
      rw [show tkOk C (cI T i 0) (cI T i 1) (cI T i 2) (cI T i 3) (cI T i 4) (cI T i 5) (cL T i 6) = tk T C i from rfl, show allF (fun k => !(cI T k 0 == cI T i 0)) 0 i = dist T i from rfl]
      cases tk T C i && dist T i <;> rfl
    rw [e]
    unfold allF
    cases tk T C i && dist T i with
    | false => exact ⟨_, rfl⟩
    | true => simp only [Bool.true_and]; exact ih
  | _, 0, _, _, h => by omega
theorem F13_eq {T C : List Row} (hS : Small T C) {N : Nat} (hN : 1300 ≤ N) (sw ins : Int) : F13 N T C sw ins = some (.r (may T C sw ins)) := by
  obtain ⟨M, rfl⟩ : ∃ M, N = M + 2 := ⟨N - 2, by omega⟩
  have h1 := hS.t
  have h2 := hS.c
  show (match J13a6 (M + 1) T C sw ins with | none => (none : Option R13) | some (.nx _ _ _ _) => _ | some (.ret x _ _ _ _) => some (.r x)) = _
  rw [J13_eq]
  unfold may
  cases head T C sw ins with
  | false => rfl
  | true =>
    simp only [Bool.true_and]
    rw [F32_eq (by omega) C (by omega)]
    cases allF (ceilOk C) 0 C.length with
    | false => rfl
    | true =>
      simp only [Bool.not_true, Bool.true_and]
      have ht := L13_all hS (M + 1) (by omega) sw ins T.length (M + 1) 0 (by omega) (by omega)
      rw [show ((0 : Nat) : Int) = (0 : Int) from rfl, show seen T 0 = [] from rfl] at ht
      revert ht
      cases allF (fun i => tk T C i && dist T i) 0 T.length with
      | true => rintro ⟨b, h⟩; rw [h]
      | false => rintro ⟨b, h⟩; rw [h]
end Go.Proofs.Ytbgdiljnmifakaa

namespace Go.Proofs.Ytbgdiljnmifakaa
open Go Go.Eng
structure TaskF (T C : List Row) (i : Nat) : Prop where
  p0 : 0 ≤ cI T i 1
  per0 : 1 ≤ cI T i 2
  per1 : cI T i 2 ≤ 2147483647
  dl0 : 1 ≤ cI T i 3
  dl1 : cI T i 3 ≤ cI T i 2
  cost0 : 1 ≤ cI T i 5
  cost1 : cI T i 5 ≤ 1073741824
  use : ∀ j : Nat, j < (cL T i 6).length → 0 ≤ cI (cL T i 6) j 0 ∧ cI (cL T i 6) j 0 < C.length ∧ 1 ≤ cI (cL T i 6) j 1 ∧ cI (cL T i 6) j 1 ≤ 1073741824
structure MayF (T C : List Row) (sw ins : Int) : Prop where
  t : T.length ≤ 32
  c : C.length ≤ 32
  sw0 : 0 ≤ sw
  sw1 : sw ≤ 268435456
  ins0 : 1 ≤ ins
  ins1 : ins ≤ 1048576
  task : ∀ i, i < T.length → TaskF T C i
theorem may_f {T C : List Row} {sw ins : Int} (h : may T C sw ins = true) : MayF T C sw ins := by
  simp only [may, head, Bool.and_eq_true, Bool.not_eq_true', decide_eq_false_iff_not, inR_iff, allF_iff] at h
  obtain ⟨⟨h1, h2, h3, h4⟩, h5, h6⟩ := h
  refine ⟨by omega, by omega, h3.1, h3.2, h4.1, h4.2, fun i hi => ?_⟩
  have := (h6 i (by omega) (by omega)).1
  simp only [tk, tkOk, numOk, Bool.and_eq_true, Bool.not_eq_true', decide_eq_false_iff_not, inR_iff] at this
  obtain ⟨⟨a1, a2, a3, a4, a5, a6, a7⟩, a8⟩ := this
  refine ⟨by omega, a4.1, a4.2, a5.1, a5.2, a7.1, a7.2, fun j hj => ?_⟩
  have := useF_iff (by omega) a8 j (by omega) (by omega)
  exact ⟨this.1, this.2.1, this.2.2.1, by omega⟩
def ub (C : List Row) (p : Int) (us : List Row) : Nat → Nat → Int → Int
  | _, 0, a => a
  | i, k + 1, a => ub C p us (i + 1) k (match decide (p ≤ cI C (cI us i 0) 0) with | true => Eng.imax a (cI us i 1) | false => a)
def tb (T C : List Row) (p : Int) : Nat → Nat → Int → Int
  | _, 0, a => a
  | i, k + 1, a => tb T C p (i + 1) k (match decide (cI T i 1 < p) with | true => ub C p (cL T i 6) 0 (cL T i 6).length a | false => a)
def blk (T C : List Row) (ins : Int) (t : Nat) : Int := tb T C (cI T t 1) 0 T.length (ins - 1)
theorem L30u_all (N : Nat) {T C : List Row} (t : Nat) (ht : t < T.length) (sw ins b0 b1 b2 b3 b4 b5 : Int) (us : List Row) (hu : us.length ≤ 1000) (hp : ∀ j : Nat, j < us.length → 0 ≤ cI us j 0 ∧ cI us j 0 < C.length) : ∀ (k n i : Nat) (a : Int), i + k = us.length → k < n →
    L30a7462 N n t a i T C sw ins b0 b1 b2 b3 b4 b5 us = some (.x2 (match decide (b1 < cI T t 1) with | true => ub C (cI T t 1) us i k a | false => a) T C sw ins b0 b1 b2 b3 b4 b5 us)
  | 0, n + 1, i, a, h, _ => by
    show (match decide ((i : Int) < (us.length : Int)) with | true => _ | false => _) = _
    rw [dge (show us.length ≤ i by omega)]
    cases decide (b1 < cI T t 1) <;> rfl
  | k + 1, n + 1, i, a, h, hn => by
    obtain ⟨h1, h2⟩ := hp i (by omega)
    have e1 : decide ((0 : Int) ≤ cI us i 0) = true := decide_eq_true h1
    have e2 : decide (cI us i 0 < (C.length : Int)) = true := decide_eq_true h2
    have ih := fun a => L30u_all N t ht sw ins b0 b1 b2 b3 b4 b5 us hu hp k n (i + 1) a (by omega) (by omega)
    show (match decide ((i : Int) < (us.length : Int)) with | true => _ | false => _) = _
    simp only [dlt (show i < us.length by omega), dlt ht, dz, Bool.and_self, tst, ← cI.eq_1, e1, e2]
    rw [wrap_succ (by omega)]
    simp only [ih]
    cases decide (b1 < cI T t 1) with
    | false => rfl
    | true =>
      simp only [ub]
      cases decide (cI T t 1 ≤ cI C (cI us i 0) 0) <;> rfl
  | _, 0, _, _, _, h => by omega
theorem L30_all {T C : List Row} {sw ins : Int} (hS : Small T C) (hM : MayF T C sw ins) (N : Nat) (hN : 100 ≤ N) (t : Nat) (ht : t < T.length) : ∀ (k n i : Nat) (a : Int), i + k = T.length → k < n →
    L30a58 N n t a i T C sw ins = some (.x0 (tb T C (cI T t 1) i k a) T C sw ins)
  | 0, n + 1, i, a, h, _ => by
    show (match decide ((i : Int) < (T.length : Int)) with | true => _ | false => _) = _
    rw [dge (show T.length ≤ i by omega)]; rfl
  | k + 1, n + 1, i, a, h, hn => by
    have hl := hM.t
    have hu := hS.u i (by omega)
    have hf := (hM.task i (by omega)).use
    have hi := L30u_all N t ht sw ins (cI T i 0) (cI T i 1) (cI T i 2) (cI T i 3) (cI T i 4) (cI T i 5) (cL T i 6) (C := C) (by omega) (fun j hj => ⟨(hf j hj).1, (hf j hj).2.1⟩) (cL T i 6).length N 0 a (by omega) (by omega)
    rw [show ((0 : Nat) : Int) = (0 : Int) from rfl] at hi
    show (match decide ((i : Int) < (T.length : Int)) with | true => _ | false => _) = _
    simp only [dlt (show i < T.length by omega), dz, Bool.and_self, tst, ← cI.eq_1, ← cL.eq_1]
    rw [hi, wrap_succ (by omega)]
    exact L30_all hS hM N hN t ht k n (i + 1) _ (by omega) (by omega)
  | _, 0, _, _, _, h => by omega
theorem F30_eq {T C : List Row} {sw ins : Int} (hS : Small T C) (hM : MayF T C sw ins) {N : Nat} (hN : 200 ≤ N) (t : Nat) (ht : t < T.length) : F30 N T C sw ins t = some (.r (blk T C ins t)) := by
  obtain ⟨M, rfl⟩ : ∃ M, N = M + 1 := ⟨N - 1, by omega⟩
  have h0 := hM.ins0
  have h1 := hM.ins1
  have hl := hM.t
  show (match L30a58 M M t (IntKind.wrap .i64 (ins - 1)) 0 T C sw ins with | none => (none : Option R30) | some (.x0 a _ _ _ _) => some (.r a)) = _
  have := L30_all hS hM M (by omega) t ht T.length M 0 (ins - 1) (by omega) (by omega)
  rw [show ((0 : Nat) : Int) = (0 : Int) from rfl] at this
  rw [wrap_id (by omega) (by omega), this]
  rfl
def rowsI (xs : List Int) : List Row := xs.map fun v => [AV.int .i64 v]
theorem rowsI_length (xs : List Int) : (rowsI xs).length = xs.length := by simp [rowsI]
theorem rowsI_append (xs : List Int) (v : Int) : rowsI xs ++ [[AV.int .i64 v]] = rowsI (xs ++ [v]) := by simp [rowsI]
theorem rowsI_get {xs : List Int} {i : Nat} (h : i < xs.length) : cI (rowsI xs) i 0 = xs[i] := by
  unfold cI
  rw [Int.toNat_natCast]
  simp [rowsI, List.getD, List.getElem?_map, List.getElem?_eq_getElem h, AV.toI]
def ul (C : List Row) (p : Int) (us : List Row) : Nat → Nat → List Int
  | _, 0 => []
  | i, k + 1 => match decide (p ≤ cI C (cI us i 0) 0) with | true => cI us i 1 :: ul C p us (i + 1) k | false => ul C p us (i + 1) k
def tl (T C : List Row) (p : Int) : Nat → Nat → List Int
  | _, 0 => []
  | i, k + 1 => match decide (p ≤ cI T i 1) with | true => tl T C p (i + 1) k | false => ul C p (cL T i 6) 0 (cL T i 6).length ++ tl T C p (i + 1) k
theorem ul_len (C : List Row) (p : Int) (us : List Row) : ∀ (k i : Nat), (ul C p us i k).length ≤ k
  | 0, _ => by simp [ul]
  | k + 1, i => by
    have := ul_len C p us k (i + 1)
    simp only [ul]
    cases decide (p ≤ cI C (cI us i 0) 0) <;> simp <;> omega
theorem ul_fold (C : List Row) (p : Int) (us : List Row) : ∀ (k i : Nat) (a : Int), (ul C p us i k).foldl Eng.imax a = ub C p us i k a
  | 0, _, _ => rfl
  | k + 1, i, a => by
    simp only [ul, ub]
    cases decide (p ≤ cI C (cI us i 0) 0) with
    | true => exact ul_fold C p us k (i + 1) _
    | false => exact ul_fold C p us k (i + 1) _
theorem tl_fold (T C : List Row) (p : Int) : ∀ (k i : Nat) (a : Int), (tl T C p i k).foldl Eng.imax a = tb T C p i k a
  | 0, _, _ => rfl
  | k + 1, i, a => by
    simp only [tl, tb]
    by_cases h : p ≤ cI T i 1
    · have e : decide (cI T i 1 < p) = false := decide_eq_false (by omega)
      rw [decide_eq_true h, e]
      exact tl_fold T C p k (i + 1) a
    · have e : decide (cI T i 1 < p) = true := decide_eq_true (by omega)
      rw [decide_eq_false h, e]
      simp only [List.foldl_append, ul_fold]
      exact tl_fold T C p k (i + 1) _
theorem L47u_all (N : Nat) (T C : List Row) (sw ins p : Int) (us : List Row) (hu : us.length ≤ 1000) (hp : ∀ j : Nat, j < us.length → 0 ≤ cI us j 0 ∧ cI us j 0 < C.length) : ∀ (k n i : Nat) (acc : List Int), i + k = us.length → k < n → acc.length ≤ 100000 + i →
    L47i26f48a3278 N n us us.length i T C sw ins p (rowsI acc) = some (.x2 T C sw ins p (rowsI (acc ++ ul C p us i k)))
  | 0, n + 1, i, acc, h, _, _ => by
    show (match decide ((i : Int) < (us.length : Int)) with | true => _ | false => _) = _
    rw [dge (show us.length ≤ i by omega)]; simp [ul]
  | k + 1, n + 1, i, acc, h, hn, ha => by
    obtain ⟨h1, h2⟩ := hp i (by omega)
    have e1 : decide ((0 : Int) ≤ cI us i 0) = true := decide_eq_true h1
    have e2 : decide (cI us i 0 < (C.length : Int)) = true := decide_eq_true h2
    have e4 : decide (((rowsI acc).length + 1) * 8 ≤ 140737488355328) = true := by rw [rowsI_length]; exact decide_eq_true (by omega)
    have ih := L47u_all N T C sw ins p us hu hp k n (i + 1)
    show (match decide ((i : Int) < (us.length : Int)) with | true => _ | false => _) = _
    simp only [dlt (show i < us.length by omega), dz, Bool.and_self, tst, ← cI.eq_1, e1, e2, e4]
    rw [wrap_succ (by omega)]
    unfold ul
    cases decide (p ≤ cI C (cI us i 0) 0) with
    | false => exact ih acc (by omega) (by omega) (by omega)
    | true =>
      simp only
      rw [rowsI_append, ih (acc ++ [cI us i 1]) (by omega) (by omega) (by simp; omega)]
      simp
  | _, 0, _, _, _, h, _ => by omega
theorem L47_all {T C : List Row} {sw ins : Int} (hS : Small T C) (hM : MayF T C sw ins) (N : Nat) (hN : 100 ≤ N) (p : Int) : ∀ (k n i : Nat) (acc : List Int), i + k = T.length → k < n → acc.length ≤ 40 * i →
    L47i26f48a6 N n T T.length i T C sw ins p (rowsI acc) = some (.x0 T C sw ins p (rowsI (acc ++ tl T C p i k)))
  | 0, n + 1, i, acc, h, _, _ => by
    show (match decide ((i : Int) < (T.length : Int)) with | true => _ | false => _) = _
    rw [dge (show T.length ≤ i by omega)]; simp [tl]
  | k + 1, n + 1, i, acc, h, hn, ha => by
    have hl := hM.t
    have hu := hS.u i (by omega)
    have hf := (hM.task i (by omega)).use
    have hul := ul_len C p (cL T i 6) (cL T i 6).length 0
    have ih := L47_all hS hM N hN p k n (i + 1)
    have hi := L47u_all N T C sw ins p (cL T i 6) (by omega) (fun j hj => ⟨(hf j hj).1, (hf j hj).2.1⟩) (cL T i 6).length N 0 acc (by omega) (by omega) (by omega)
    rw [show ((0 : Nat) : Int) = (0 : Int) from rfl] at hi
    show (match decide ((i : Int) < (T.length : Int)) with | true => _ | false => _) = _
    simp only [dlt (show i < T.length by omega), dz, Bool.and_self, tst, ← cI.eq_1, ← cL.eq_1]
    rw [hi, wrap_succ (by omega)]
    unfold tl
    cases decide (p ≤ cI T i 1) with
    | true => exact ih acc (by omega) (by omega) (by omega)
    | false =>
      simp only
      rw [ih (acc ++ ul C p (cL T i 6) 0 (cL T i 6).length) (by omega) (by omega) (by simp; omega)]
      simp
  | _, 0, _, _, _, h, _ => by omega
theorem tl_len {T C : List Row} (hS : Small T C) (p : Int) : ∀ (k i : Nat), i + k ≤ T.length → (tl T C p i k).length ≤ 40 * k
  | 0, _, _ => by simp [tl]
  | k + 1, i, h => by
    have ih := tl_len hS p k (i + 1) (by omega)
    have hu := hS.u i (by omega)
    have hul := ul_len C p (cL T i 6) (cL T i 6).length 0
    simp only [tl]
    cases decide (p ≤ cI T i 1) <;> simp <;> omega
theorem L42_all (N : Nat) (xs : List Int) (hx : xs.length ≤ 100000) : ∀ (k n i : Nat) (a : Int), i + k = xs.length → k < n → L42a26 N n a (rowsI xs) xs.length i = some (.x0 ((xs.drop i).foldl Eng.imax a))
  | 0, n + 1, i, a, h, _ => by
    show (match decide ((i : Int) < (xs.length : Int)) with | true => _ | false => _) = _
    rw [dge (show xs.length ≤ i by omega), List.drop_eq_nil_of_le (by omega)]; rfl
  | k + 1, n + 1, i, a, h, hn => by
    have hi : i < xs.length := by omega
    have e2 : decide ((i : Int) < ((rowsI xs).length : Int)) = true := by rw [rowsI_length]; exact dlt hi
    show (match decide ((i : Int) < (xs.length : Int)) with | true => _ | false => _) = _
    simp only [dlt hi, e2, dz, Bool.and_self, tst, ← cI.eq_1, rowsI_get hi]
    rw [wrap_succ (by omega), List.drop_eq_getElem_cons hi, List.foldl_cons]
    exact L42_all N xs hx k n (i + 1) _ (by omega) (by omega)
  | _, 0, _, _, _, h => by omega
theorem F28_eq {T C : List Row} {sw ins : Int} (hS : Small T C) (hM : MayF T C sw ins) {N : Nat} (hN : 3000 ≤ N) (t : Nat) (ht : t < T.length) : F28 N T C sw ins t = some (.r (blk T C ins t)) := by
  obtain ⟨M, rfl⟩ : ∃ M, N = M + 4 := ⟨N - 4, by omega⟩
  have h0 := hM.ins0
  have h1 := hM.ins1
  have hl := hM.t
  have hlen := tl_len hS (cI T t 1) T.length 0 (by omega)
  have e44 : F44 (M + 3) T C sw ins t = some (.r T C sw ins (cI T t 1)) := by
    show (tst (decide ((0 : Int) ≤ (t : Int)) && decide ((t : Int) < (T.length : Int))) <| _) = _
    simp only [dlt ht, dz, Bool.and_self, tst, ← cI.eq_1]
  have e43 : F43 (M + 3) T C sw ins (cI T t 1) = some (.r T C sw ins (cI T t 1) (rowsI (tl T C (cI T t 1) 0 T.length))) := by
    have := L47_all hS hM (M + 1) (by omega) (cI T t 1) T.length (M + 1) 0 [] (by omega) (by omega) (by simp)
    rw [show ((0 : Nat) : Int) = (0 : Int) from rfl, show rowsI [] = [] from rfl, List.nil_append] at this
    show (match (match L47i26f48a6 (M + 1) (M + 1) T T.length 0 T C sw ins (cI T t 1) [] with | none => (none : Option R47) | some (.x0 a b c d e f) => some (.r a b c d e f)) with | none => (none : Option R43) | some (.r a b c d e f) => some (.r a b c d e f)) = _
    rw [this]
  have e42 : F42 (M + 3) (IntKind.wrap .i64 (ins - 1)) (rowsI (tl T C (cI T t 1) 0 T.length)) = some (.r (blk T C ins t)) := by
    have := L42_all (M + 2) (tl T C (cI T t 1) 0 T.length) (by omega) (tl T C (cI T t 1) 0 T.length).length (M + 2) 0 (ins - 1) (by omega) (by omega)
    rw [show ((0 : Nat) : Int) = (0 : Int) from rfl, List.drop_zero, tl_fold] at this
    show (match L42a26 (M + 2) (M + 2) (IntKind.wrap .i64 (ins - 1)) (rowsI (tl T C (cI T t 1) 0 T.length)) ((rowsI (tl T C (cI T t 1) 0 T.length)).length : Int) 0 with | none => (none : Option R42) | some (.x0 a) => some (.r a)) = _
    rw [wrap_id (by omega) (by omega), rowsI_length, this]
    rfl
  show (match F44 (M + 3) T C sw ins t with | none => none | some (.r _ _ _ _ _) => _) = _
  rw [e44]
  simp only
  rw [e43]
  simp only
  rw [e42]
theorem ub_bounds {C : List Row} {p : Int} {us : List Row} (hp : ∀ j : Nat, j < us.length → 1 ≤ cI us j 1 ∧ cI us j 1 ≤ 1073741824) : ∀ (k i : Nat) (a : Int), i + k ≤ us.length → 0 ≤ a → a ≤ 1073741824 → 0 ≤ ub C p us i k a ∧ ub C p us i k a ≤ 1073741824
  | 0, _, _, _, h0, h1 => ⟨h0, h1⟩
  | k + 1, i, a, h, h0, h1 => by
    have := hp i (by omega)
    simp only [ub]
    refine ub_bounds hp k (i + 1) _ (by omega) ?_ ?_
    · cases decide (p ≤ cI C (cI us i 0) 0) with
      | true => simp only [Eng.imax]; split <;> omega
      | false => exact h0
    · cases decide (p ≤ cI C (cI us i 0) 0) with
      | true => simp only [Eng.imax]; split <;> omega
      | false => exact h1
theorem tb_bounds {T C : List Row} {sw ins : Int} (hM : MayF T C sw ins) (p : Int) : ∀ (k i : Nat) (a : Int), i + k ≤ T.length → 0 ≤ a → a ≤ 1073741824 → 0 ≤ tb T C p i k a ∧ tb T C p i k a ≤ 1073741824
  | 0, _, _, _, h0, h1 => ⟨h0, h1⟩
  | k + 1, i, a, h, h0, h1 => by
    have hf := (hM.task i (by omega)).use
    simp only [tb]
    have := ub_bounds (C := C) (p := p) (fun j hj => ⟨(hf j hj).2.2.1, (hf j hj).2.2.2⟩) (cL T i 6).length 0 a (by omega) h0 h1
    cases decide (cI T i 1 < p) with
    | true => exact tb_bounds hM p k (i + 1) _ (by omega) this.1 this.2
    | false => exact tb_bounds hM p k (i + 1) _ (by omega) h0 h1
theorem blk_bounds {T C : List Row} {sw ins : Int} (hM : MayF T C sw ins) (t : Nat) : 0 ≤ blk T C ins t ∧ blk T C ins t ≤ 1073741824 := by
  have h0 := hM.ins0
  have h1 := hM.ins1
  exact tb_bounds hM _ T.length 0 _ (by omega) (by omega) (by omega)
def dt (T : List Row) (sw r : Int) (i : Nat) : Int := (r + cI T i 2 - 1) / cI T i 2 * (cI T i 5 + 2 * sw)
def hi (T : List Row) (t i : Nat) : Bool := !((i : Int) == (t : Int)) && !decide (cI T i 1 < cI T t 1)
def ds (T : List Row) (sw : Int) (t : Nat) (r : Int) : Nat → Nat → Int → Int
  | _, 0, a => a
  | i, k + 1, a => ds T sw t r (i + 1) k (match hi T t i with | true => a + dt T sw r i | false => a)
def dem (T : List Row) (sw : Int) (t : Nat) (r : Int) : Int := ds T sw t r 0 T.length 0
theorem ceil_eq {r p : Int} (h0 : 0 ≤ r) (hp : 1 ≤ p) : (r + p - 1) / p = if 0 < r % p then r / p + 1 else r / p := by
  have h1 := Int.emod_add_mul_ediv r p
  have h2 := Int.emod_nonneg r (show p ≠ 0 by omega)
  have h3 := Int.emod_lt_of_pos r (show 0 < p by omega)
  split
  · have e : r + p - 1 = (r % p - 1) + p * (r / p + 1) := by rw [Int.mul_add]; omega
    rw [e, Int.add_mul_ediv_left _ _ (show p ≠ 0 by omega), Int.ediv_eq_zero_of_lt (by omega) (by omega)]; omega
  · have e : r + p - 1 = (p - 1) + p * (r / p) := by omega
    rw [e, Int.add_mul_ediv_left _ _ (show p ≠ 0 by omega), Int.ediv_eq_zero_of_lt (by omega) (by omega)]; omega
theorem ceil_bounds {r p : Int} (h0 : 0 ≤ r) (h1 : r ≤ 2147483647) (hp : 1 ≤ p) : 0 ≤ (r + p - 1) / p ∧ (r + p - 1) / p ≤ 2147483647 := by
  refine ⟨Int.ediv_nonneg (by omega) (by omega), ?_⟩
  apply Int.ediv_le_of_le_mul (by omega)
  have : 2147483647 * p ≥ 2147483647 + (p - 1) := by omega
  omega
theorem dt_bounds {T C : List Row} {sw ins : Int} (hM : MayF T C sw ins) {r : Int} (h0 : 0 ≤ r) (h1 : r ≤ 2147483647) {i : Nat} (hi : i < T.length) : 0 ≤ dt T sw r i ∧ dt T sw r i ≤ 3458764513000000000 := by
  have hf := hM.task i hi
  have hs0 := hM.sw0
  have hs1 := hM.sw1
  have c0 := hf.cost0
  have c1 := hf.cost1
  obtain ⟨a0, a1⟩ := ceil_bounds h0 h1 hf.per0
  unfold dt
  refine ⟨Int.mul_nonneg a0 (by omega), ?_⟩
  have : (r + cI T i 2 - 1) / cI T i 2 * (cI T i 5 + 2 * sw) ≤ 2147483647 * 1610612736 := Int.mul_le_mul a1 (by omega) (by omega) (by omega)
  omega
theorem dt_mono {T C : List Row} {sw ins : Int} (hM : MayF T C sw ins) {r r' : Int} (h : r ≤ r') {i : Nat} (hi : i < T.length) : dt T sw r i ≤ dt T sw r' i := by
  have hf := hM.task i hi
  have hs0 := hM.sw0
  have c0 := hf.cost0
  have p0 := hf.per0
  unfold dt
  exact Int.mul_le_mul_of_nonneg_right (Int.ediv_le_ediv (by omega) (by omega)) (by omega)
theorem ds_ge {T C : List Row} {sw ins : Int} (hM : MayF T C sw ins) (t : Nat) {r : Int} (h0 : 0 ≤ r) (h1 : r ≤ 2147483647) : ∀ (k i : Nat) (a : Int), i + k ≤ T.length → a ≤ ds T sw t r i k a
  | 0, _, _, _ => Int.le_refl _
  | k + 1, i, a, h => by
    have hd := dt_bounds hM h0 h1 (show i < T.length by omega)
    simp only [ds]
    refine Int.le_trans ?_ (ds_ge hM t h0 h1 k (i + 1) _ (by omega))
    cases hi T t i with
    | true => simp only; omega
    | false => exact Int.le_refl _
theorem ds_mono {T C : List Row} {sw ins : Int} (hM : MayF T C sw ins) (t : Nat) {r r' : Int} (h : r ≤ r') : ∀ (k i : Nat) (a a' : Int), i + k ≤ T.length → a ≤ a' → ds T sw t r i k a ≤ ds T sw t r' i k a'
  | 0, _, _, _, _, ha => ha
  | k + 1, i, a, a', hk, ha => by
    have hd := dt_mono hM h (show i < T.length by omega)
    simp only [ds]
    refine ds_mono hM t h k (i + 1) _ _ (by omega) ?_
    cases hi T t i with
    | true => simp only; omega
    | false => exact ha
theorem dem_mono {T C : List Row} {sw ins : Int} (hM : MayF T C sw ins) (t : Nat) {r r' : Int} (h : r ≤ r') : dem T sw t r ≤ dem T sw t r' := ds_mono hM t h _ _ _ _ (by omega) (Int.le_refl _)
theorem dem_nonneg {T C : List Row} {sw ins : Int} (hM : MayF T C sw ins) (t : Nat) {r : Int} (h0 : 0 ≤ r) (h1 : r ≤ 2147483647) : 0 ≤ dem T sw t r := ds_ge hM t h0 h1 _ _ _ (by omega)
theorem ref_term {T C : List Row} {sw ins : Int} (hM : MayF T C sw ins) {r : Int} (h0 : 0 ≤ r) (h1 : r ≤ 2147483647) {i : Nat} (hi : i < T.length) {a : Int} (ha0 : 0 ≤ a) (ha1 : a ≤ 1152921504606846976) :
    (0 < Int.tmod r (cI T i 2) → IntKind.wrap .i64 (a + IntKind.wrap .i64 (IntKind.wrap .i64 (IntKind.wrap .i64 (Int.tdiv r (cI T i 2)) + 1) * IntKind.wrap .i64 (cI T i 5 + IntKind.wrap .i64 (2 * sw)))) = a + dt T sw r i) ∧
    (¬ 0 < Int.tmod r (cI T i 2) → IntKind.wrap .i64 (a + IntKind.wrap .i64 (IntKind.wrap .i64 (Int.tdiv r (cI T i 2)) * IntKind.wrap .i64 (cI T i 5 + IntKind.wrap .i64 (2 * sw)))) = a + dt T sw r i) := by
  have hf := hM.task i hi
  have hs0 := hM.sw0
  have hs1 := hM.sw1
  have c0 := hf.cost0
  have c1 := hf.cost1
  have p0 := hf.per0
  have hd := dt_bounds hM h0 h1 hi
  obtain ⟨a0, a1⟩ := ceil_bounds h0 h1 p0
  have hc := ceil_eq h0 p0
  have hq0 : 0 ≤ r / cI T i 2 := Int.ediv_nonneg h0 (by omega)
  have hq1 : r / cI T i 2 ≤ 2147483647 := Int.le_trans (Int.ediv_le_self _ h0) h1
  rw [Int.tdiv_eq_ediv_of_nonneg h0, Int.tmod_eq_emod_of_nonneg h0]
  have w2 : IntKind.wrap .i64 (2 * sw) = 2 * sw := wrap_id (by omega) (by omega)
  have w3 : IntKind.wrap .i64 (cI T i 5 + 2 * sw) = cI T i 5 + 2 * sw := wrap_id (by omega) (by omega)
  have w1 : IntKind.wrap .i64 (r / cI T i 2) = r / cI T i 2 := wrap_id (by omega) (by omega)
  rw [w2, w3, w1]
  constructor
  · intro hm
    rw [if_pos hm] at hc
    have w4 : IntKind.wrap .i64 (r / cI T i 2 + 1) = r / cI T i 2 + 1 := wrap_id (by omega) (by omega)
    have e : (r / cI T i 2 + 1) * (cI T i 5 + 2 * sw) = dt T sw r i := by unfold dt; rw [hc]
    rw [w4, e, wrap_id (n := dt T sw r i) (by omega) (by omega), wrap_id (by omega) (by omega)]
  · intro hm
    rw [if_neg hm] at hc
    have e : (r / cI T i 2) * (cI T i 5 + 2 * sw) = dt T sw r i := by unfold dt; rw [hc]
    rw [e, wrap_id (n := dt T sw r i) (by omega) (by omega), wrap_id (by omega) (by omega)]
theorem prog_term {T C : List Row} {sw ins : Int} (hM : MayF T C sw ins) {r : Int} (h0 : 0 ≤ r) (h1 : r ≤ 2147483647) {i : Nat} (hi : i < T.length) {a : Int} (ha0 : 0 ≤ a) (ha1 : a ≤ 1152921504606846976) :
    IntKind.wrap .i64 (a + IntKind.wrap .i64 (IntKind.wrap .i64 (Int.tdiv (IntKind.wrap .i64 (IntKind.wrap .i64 (r + cI T i 2) - 1)) (cI T i 2)) * IntKind.wrap .i64 (cI T i 5 + IntKind.wrap .i64 (2 * sw)))) = a + dt T sw r i := by
  have hf := hM.task i hi
  have hs0 := hM.sw0
  have hs1 := hM.sw1
  have c0 := hf.cost0
  have c1 := hf.cost1
  have p0 := hf.per0
  have p1 := hf.per1
  have hd := dt_bounds hM h0 h1 hi
  obtain ⟨a0, a1⟩ := ceil_bounds h0 h1 p0
  have w2 : IntKind.wrap .i64 (2 * sw) = 2 * sw := wrap_id (by omega) (by omega)
  have w3 : IntKind.wrap .i64 (cI T i 5 + 2 * sw) = cI T i 5 + 2 * sw := wrap_id (by omega) (by omega)
  have w1 : IntKind.wrap .i64 (r + cI T i 2) = r + cI T i 2 := wrap_id (by omega) (by omega)
  have w0 : IntKind.wrap .i64 (r + cI T i 2 - 1) = r + cI T i 2 - 1 := wrap_id (by omega) (by omega)
  rw [w2, w3, w1, w0, Int.tdiv_eq_ediv_of_nonneg (by omega), wrap_id (n := (r + cI T i 2 - 1) / cI T i 2) (by omega) (by omega)]
  rw [show (r + cI T i 2 - 1) / cI T i 2 * (cI T i 5 + 2 * sw) = dt T sw r i from rfl, wrap_id (n := dt T sw r i) (by omega) (by omega), wrap_id (by omega) (by omega)]
theorem L41_all {T C : List Row} {sw ins : Int} (hM : MayF T C sw ins) (N : Nat) (t : Nat) (ht : t < T.length) {r : Int} (h0 : 0 ≤ r) (h1 : r ≤ 2147483647) : ∀ (k n i : Nat) (a : Int), i + k = T.length → k < n → 0 ≤ a → a ≤ 1152921504606846976 →
    L41a58 N n t r a i T C sw ins = match decide (1152921504606846976 < ds T sw t r i k a) with | true => some (.ret 0 false T C sw ins) | false => some (.x0 (ds T sw t r i k a) T C sw ins)
  | 0, n + 1, i, a, h, _, _, ha => by
    have e : decide (1152921504606846976 < ds T sw t r i 0 a) = false := decide_eq_false (by simp only [ds]; omega)
    show (match decide ((i : Int) < (T.length : Int)) with | true => _ | false => _) = _
    rw [dge (show T.length ≤ i by omega), e]; rfl
  | k + 1, n + 1, i, a, h, hn, ha0, ha1 => by
    have hl := hM.t
    have hd := dt_bounds hM h0 h1 (show i < T.length by omega)
    have ih := fun a h h' => L41_all hM N t ht h0 h1 k n (i + 1) a (by omega) (by omega) h h'
    have hp : (cI T i 2 == 0) = false := by have := (hM.task i (by omega)).per0; simp; omega
    obtain ⟨hr1, hr2⟩ := ref_term hM h0 h1 (show i < T.length by omega) ha0 ha1
    show (match decide ((i : Int) < (T.length : Int)) with | true => _ | false => _) = _
    simp only [dlt (show i < T.length by omega), dz, Bool.and_self, tst, ← cI.eq_1, ← cL.eq_1]
    rw [wrap_succ (by omega)]
    have hJ : J41a3730 N t i T C sw ins (cI T i 0) (cI T i 1) (cI T i 2) (cI T i 3) (cI T i 4) (cI T i 5) (cL T i 6) = match hi T t i with | true => some (.nx T C sw ins (cI T i 0) (cI T i 1) (cI T i 2) (cI T i 3) (cI T i 4) (cI T i 5) (cL T i 6)) | false => some (.x1 T C sw ins (cI T i 0) (cI T i 1) (cI T i 2) (cI T i 3) (cI T i 4) (cI T i 5) (cL T i 6)) := by
      unfold J41a3730 hi
      simp only [dlt ht, dz, Bool.and_self, tst, ← cI.eq_1]
      cases ((i : Int) == (t : Int)) <;> cases decide (cI T i 1 < cI T t 1) <;> rfl
    rw [hJ]
    unfold ds
    cases hi T t i with
    | false => exact ih a ha0 ha1
    | true =>
      simp only [hp, Bool.not_false]
      have step : (match decide (1152921504606846976 < a + dt T sw r i) with | true => (some (OL41a58.ret 0 false T C sw ins) : Option OL41a58) | false => L41a58 N n t r (a + dt T sw r i) ((i + 1 : Nat) : Int) T C sw ins) = match decide (1152921504606846976 < ds T sw t r (i + 1) k (a + dt T sw r i)) with | true => some (.ret 0 false T C sw ins) | false => some (.x0 (ds T sw t r (i + 1) k (a + dt T sw r i)) T C sw ins) := by
        by_cases hb : 1152921504606846976 < a + dt T sw r i
        · have := ds_ge hM t h0 h1 k (i + 1) (a + dt T sw r i) (by omega)
          rw [decide_eq_true hb, decide_eq_true (show 1152921504606846976 < ds T sw t r (i + 1) k (a + dt T sw r i) by omega)]
        · rw [decide_eq_false hb]
          exact ih _ (by omega) (by omega)
      by_cases hm : 0 < Int.tmod r (cI T i 2)
      · simp only [decide_eq_true hm, hr1 hm]; exact step
      · simp only [decide_eq_false hm, hr2 hm]; exact step
  | _, 0, _, _, _, h, _, _ => by omega
theorem F41_eq {T C : List Row} {sw ins : Int} (hM : MayF T C sw ins) {N : Nat} (hN : 100 ≤ N) (t : Nat) (ht : t < T.length) {r : Int} (h0 : 0 ≤ r) (h1 : r ≤ 2147483647) :
    F41 N T C sw ins t r = match decide (1152921504606846976 < dem T sw t r) with | true => some (.r 0 false) | false => some (.r (dem T sw t r) true) := by
  obtain ⟨M, rfl⟩ : ∃ M, N = M + 1 := ⟨N - 1, by omega⟩
  have hl := hM.t
  have := L41_all hM M t ht h0 h1 T.length M 0 0 (by omega) (by omega) (by omega) (by omega)
  rw [show ((0 : Nat) : Int) = (0 : Int) from rfl] at this
  show (match L41a58 M M t r 0 0 T C sw ins with | none => (none : Option R41) | some (.ret a b _ _ _ _) => some (.r a b) | some (.x0 a _ _ _ _) => some (.r a true)) = _
  rw [this]
  unfold dem
  cases decide (1152921504606846976 < ds T sw t r 0 T.length 0) <;> rfl
theorem L40_all {T C : List Row} {sw ins : Int} (hM : MayF T C sw ins) (N : Nat) (t : Nat) (ht : t < T.length) {r : Int} (h0 : 0 ≤ r) (h1 : r ≤ 2147483647) {lim : Int} (hlim : lim ≤ 1152921504606846976) : ∀ (k n i : Nat) (a : Int), i + k = T.length → k < n → 0 ≤ a → a ≤ lim →
    ∃ v : Int, L40i58f49a6 N n T T.length i T C sw ins t T C sw ins r lim 0 false a = match decide (lim < ds T sw t r i k a) with | true => some (.ret T C sw ins t T C sw ins r lim 0 false v) | false => some (.x0 T C sw ins t T C sw ins r lim 0 false (ds T sw t r i k a))
  | 0, n + 1, i, a, h, _, _, ha => by
    have e : decide (lim < ds T sw t r i 0 a) = false := decide_eq_false (by simp only [ds]; omega)
    refine ⟨0, ?_⟩
    show (match decide ((i : Int) < (T.length : Int)) with | true => _ | false => _) = _
    rw [dge (show T.length ≤ i by omega), e]; rfl
  | k + 1, n + 1, i, a, h, hn, ha0, ha1 => by
    have hl := hM.t
    have hd := dt_bounds hM h0 h1 (show i < T.length by omega)
    have ih := fun a h h' => L40_all hM N t ht h0 h1 hlim k n (i + 1) a (by omega) (by omega) h h'
    have hp : (cI T i 2 == 0) = false := by have := (hM.task i (by omega)).per0; simp; omega
    have hr := prog_term hM h0 h1 (show i < T.length by omega) ha0 (show a ≤ 1152921504606846976 by omega)
    have e : L40i58f49a6 N (n + 1) T T.length i T C sw ins t T C sw ins r lim 0 false a = match hi T t i with
        | true => (match decide (lim < a + dt T sw r i) with | true => some (.ret T C sw ins t T C sw ins r lim 0 false (a + dt T sw r i)) | false => L40i58f49a6 N n T T.length ((i + 1 : Nat) : Int) T C sw ins t T C sw ins r lim 0 false (a + dt T sw r i))
        | false => L40i58f49a6 N n T T.length ((i + 1 : Nat) : Int) T C sw ins t T C sw ins r lim 0 false a := by
      show (match decide ((i : Int) < (T.length : Int)) with | true => _ | false => _) = _
      simp only [dlt (show i < T.length by omega), dlt ht, dz, Bool.and_self, tst, ← cI.eq_1, ← cL.eq_1, hp, Bool.not_false, hr]
      rw [wrap_succ (by omega)]
      have e1 : ((i : Int) != (t : Int)) = !((i : Int) == (t : Int)) := rfl
      have e2 : decide (cI T t 1 ≤ cI T i 1) = !decide (cI T i 1 < cI T t 1) := by
        by_cases hc : cI T i 1 < cI T t 1
        · rw [decide_eq_true hc, decide_eq_false (by omega)]; rfl
        · rw [decide_eq_false hc, decide_eq_true (by omega)]; rfl
      rw [e1, e2]
      unfold hi
      cases ((i : Int) == (t : Int)) <;> cases decide (cI T i 1 < cI T t 1) <;> rfl
    rw [e]
    unfold ds
    cases hi T t i with
    | false => exact ih a ha0 ha1
    | true =>
      simp only
      by_cases hb : lim < a + dt T sw r i
      · have := ds_ge hM t h0 h1 k (i + 1) (a + dt T sw r i) (by omega)
        rw [decide_eq_true hb, decide_eq_true (show lim < ds T sw t r (i + 1) k (a + dt T sw r i) by omega)]
        exact ⟨_, rfl⟩
      · rw [decide_eq_false hb]
        exact ih _ (by omega) (by omega)
  | _, 0, _, _, _, h, _, _ => by omega
theorem F40_eq {T C : List Row} {sw ins : Int} (hM : MayF T C sw ins) {N : Nat} (hN : 100 ≤ N) (t : Nat) (ht : t < T.length) {r : Int} (h0 : 0 ≤ r) (h1 : r ≤ 2147483647) {lim : Int} (hl0 : 0 ≤ lim) (hlim : lim ≤ 1152921504606846976) :
    F40 N T C sw ins t r lim = match decide (lim < dem T sw t r) with | true => some (.r 0 false) | false => some (.r (dem T sw t r) true) := by
  obtain ⟨M, rfl⟩ : ∃ M, N = M + 2 := ⟨N - 2, by omega⟩
  have hl := hM.t
  obtain ⟨v, this⟩ := L40_all hM (M + 1) t ht h0 h1 hlim T.length (M + 1) 0 0 (by omega) (by omega) (by omega) (by omega)
  rw [show ((0 : Nat) : Int) = (0 : Int) from rfl] at this
  show (match L40i58f49a6 (M + 1) (M + 1) T T.length 0 T C sw ins t T C sw ins r lim 0 false 0 with | none => (none : Option R40) | some (.ret _ _ _ _ _ _ _ _ _ _ _ a b _) => some (.r a b) | some (.x0 _ _ _ _ _ _ _ _ _ _ _ _ _ a) => some (.r a true)) = _
  rw [this]
  unfold dem
  cases decide (lim < ds T sw t r 0 T.length 0) <;> rfl
end Go.Proofs.Ytbgdiljnmifakaa

namespace Go.Proofs.Ytbgdiljnmifakaa
open Go Go.Eng
structure Res (T : List Row) (sw : Int) (t : Nat) (least dl v : Int) (b : Bool) : Prop where
  met : b = true → least ≤ v ∧ v ≤ dl ∧ least + dem T sw t v = v ∧ ∀ x, least ≤ x → x < v → least + dem T sw t x ≠ x
  not : b = false → v = 0 ∧ ∀ x, least ≤ x → x ≤ dl → least + dem T sw t x ≠ x
theorem L2_all {T C : List Row} {sw ins : Int} (hM : MayF T C sw ins) (N : Nat) (hN : 100 ≤ N) (t : Nat) (ht : t < T.length) {least dl : Int} (hl0 : 1 ≤ least) (hl1 : least ≤ 2147483648) (hd0 : 1 ≤ dl) (hd1 : dl ≤ 2147483647) (a0 a1 a2 a4 a5 : Int) (us : List Row) :
    ∀ (n : Nat) (r : Int), 1 ≤ n → dl + 2 - r ≤ n → least ≤ r → (r ≤ dl → r ≤ least + dem T sw t r) → (∀ x, least ≤ x → x < r → x ≤ dl → least + dem T sw t x ≠ x) →
    ∃ v b, Res T sw t least dl v b ∧ (L29a124 N n t least r T C sw ins a0 a1 a2 dl a4 a5 us = some (.ret v b T C sw ins a0 a1 a2 dl a4 a5 us) ∨ (v = 0 ∧ b = false ∧ L29a124 N n t least r T C sw ins a0 a1 a2 dl a4 a5 us = some (.x0 T C sw ins a0 a1 a2 dl a4 a5 us))) ∧
      (L27a444 N n t least r T C sw ins a0 a1 a2 dl a4 a5 us = some (.ret v b T C sw ins a0 a1 a2 dl a4 a5 us) ∨ (v = 0 ∧ b = false ∧ L27a444 N n t least r T C sw ins a0 a1 a2 dl a4 a5 us = some (.x0 T C sw ins a0 a1 a2 dl a4 a5 us))) := by
  intro n
  induction n with
  | zero => intro r h; omega
  | succ n ih =>
    intro r _ hn hr hup hno
    have e29 : L29a124 N (n + 1) t least r T C sw ins a0 a1 a2 dl a4 a5 us = match decide (r ≤ dl) with
        | true => (match F41 N T C sw ins t r with
          | none => none
          | some (.r s ok) => match !ok with
            | true => some (.ret 0 false T C sw ins a0 a1 a2 dl a4 a5 us)
            | false => match decide (dl < IntKind.wrap .i64 (least + s)) with
              | true => some (.ret 0 false T C sw ins a0 a1 a2 dl a4 a5 us)
              | false => match IntKind.wrap .i64 (least + s) == r with
                | true => some (.ret r true T C sw ins a0 a1 a2 dl a4 a5 us)
                | false => L29a124 N n t least (IntKind.wrap .i64 (least + s)) T C sw ins a0 a1 a2 dl a4 a5 us)
        | false => some (.x0 T C sw ins a0 a1 a2 dl a4 a5 us) := rfl
    have e27 : ∀ n r, L27a444 N (n + 1) t least r T C sw ins a0 a1 a2 dl a4 a5 us = match decide (dl < r) with
        | true => some (.x0 T C sw ins a0 a1 a2 dl a4 a5 us)
        | false => (match F40 N T C sw ins t r dl with
          | none => none
          | some (.r s ok) => match !ok with
            | true => some (.x0 T C sw ins a0 a1 a2 dl a4 a5 us)
            | false => match IntKind.wrap .i64 (least + s) == r with
              | true => some (.ret r true T C sw ins a0 a1 a2 dl a4 a5 us)
              | false => L27a444 N n t least (IntKind.wrap .i64 (least + s)) T C sw ins a0 a1 a2 dl a4 a5 us) := fun n r => rfl
    by_cases hrd : dl < r
    · refine ⟨0, false, ⟨fun h => (by cases h), fun _ => ⟨rfl, fun x h1 h2 => hno x h1 (by omega) h2⟩⟩, .inr ⟨rfl, rfl, ?_⟩, .inr ⟨rfl, rfl, ?_⟩⟩
      · rw [e29, decide_eq_false (show ¬ r ≤ dl by omega)]
      · rw [e27, decide_eq_true hrd]
    · have hdn := dem_nonneg hM t (show 0 ≤ r by omega) (show r ≤ 2147483647 by omega)
      have h41 := F41_eq hM hN t ht (show 0 ≤ r by omega) (show r ≤ 2147483647 by omega)
      have h40 := F40_eq hM hN t ht (show 0 ≤ r by omega) (show r ≤ 2147483647 by omega) (show 0 ≤ dl by omega) (show dl ≤ 1152921504606846976 by omega)
      rw [decide_eq_true (show r ≤ dl by omega), h41] at e29
      have e27' := e27 n r
      rw [decide_eq_false hrd, h40] at e27'
      have hmono : ∀ x, r ≤ x → dem T sw t r ≤ dem T sw t x := fun x hx => dem_mono hM t hx
      obtain ⟨d, hd⟩ : ∃ d, d = dem T sw t r := ⟨_, rfl⟩
      rw [← hd] at e29 e27' hdn hmono hup
      have hw : d ≤ 1152921504606846976 → IntKind.wrap .i64 (least + d) = least + d := fun h => wrap_id (by omega) (by omega)
      by_cases hA : dl < least + d
      · refine ⟨0, false, ⟨fun h => (by cases h), fun _ => ⟨rfl, fun x h1 h2 => ?_⟩⟩, .inl ?_, .inr ⟨rfl, rfl, ?_⟩⟩
        · by_cases hx : x < r
          · exact hno x h1 hx h2
          · have := hmono x (by omega)
            omega
        · rw [e29]
          by_cases hb : 1152921504606846976 < d
          · rw [decide_eq_true hb]
            rfl
          · rw [decide_eq_false hb]
            simp only [Bool.not_true, hw (by omega), decide_eq_true hA]
        · rw [e27']
          by_cases hb : dl < d
          · rw [decide_eq_true hb]
            rfl
          · have e1 : (least + d == r) = false := by simp; omega
            rw [decide_eq_false hb]
            simp only [Bool.not_true, hw (by omega), e1]
            obtain ⟨m, rfl⟩ : ∃ m, n = m + 1 := ⟨n - 1, by omega⟩
            rw [e27, decide_eq_true hA]
      · have hb1 : decide (1152921504606846976 < d) = false := decide_eq_false (by omega)
        have hb2 : decide (dl < d) = false := decide_eq_false (by omega)
        have hb3 : decide (dl < least + d) = false := decide_eq_false (by omega)
        rw [hb1] at e29
        rw [hb2] at e27'
        simp only [Bool.not_true, hw (show d ≤ 1152921504606846976 by omega), hb3] at e29 e27'
        by_cases heq : least + d = r
        · have e1 : (least + d == r) = true := by simpa using heq
          simp only [e1] at e29 e27'
          exact ⟨r, true, ⟨fun _ => ⟨hr, by omega, by rw [← hd]; omega, fun x h1 h2 => hno x h1 h2 (by omega)⟩, fun h => (by cases h)⟩, .inl e29, .inl e27'⟩
        · have e1 : (least + d == r) = false := by simpa using heq
          simp only [e1] at e29 e27'
          have hgt : r < least + d := by have := hup (by omega); omega
          rw [e29, e27']
          refine ih (least + d) (by omega) (by omega) (by omega) (fun h => ?_) (fun x h1 h2 h3 => ?_)
          · have := hmono (least + d) (by omega); omega
          · by_cases hx : x < r
            · exact hno x h1 hx h3
            · have := hmono x (by omega)
              omega
end Go.Proofs.Ytbgdiljnmifakaa

namespace Go.Proofs.Ytbgdiljnmifakaa
open Go Go.Eng
theorem ub_ge {C : List Row} {p : Int} {us : List Row} : ∀ (k i : Nat) (a : Int), a ≤ ub C p us i k a
  | 0, _, _ => Int.le_refl _
  | k + 1, i, a => by
    simp only [ub]
    refine Int.le_trans ?_ (ub_ge k (i + 1) _)
    cases decide (p ≤ cI C (cI us i 0) 0) with
    | true => simp only [Eng.imax]; split <;> omega
    | false => exact Int.le_refl _
theorem tb_ge {T C : List Row} {p : Int} : ∀ (k i : Nat) (a : Int), a ≤ tb T C p i k a
  | 0, _, _ => Int.le_refl _
  | k + 1, i, a => by
    simp only [tb]
    refine Int.le_trans ?_ (tb_ge k (i + 1) _)
    cases decide (cI T i 1 < p) with
    | true => exact ub_ge _ _ _
    | false => exact Int.le_refl _
theorem may_iff {T C : List Row} {sw ins : Int} : may T C sw ins = true ↔ head T C sw ins = true ∧ (∀ i, i < C.length → ceilOk C i = true) ∧ ∀ i, i < T.length → tk T C i = true ∧ ∀ k, k < i → cI T k 0 ≠ cI T i 0 := by
  unfold may dist
  simp only [Bool.and_eq_true, allF_iff]
  constructor
  · rintro ⟨h1, h2, h3⟩
    refine ⟨h1, fun i hi => h2 i (by omega) (by omega), fun i hi => ?_⟩
    obtain ⟨a, b⟩ := h3 i (by omega) (by omega)
    exact ⟨a, fun k hk => by have := b k (by omega) (by omega); simpa using this⟩
  · rintro ⟨h1, h2, h3⟩
    refine ⟨h1, fun i _ hi => h2 i (by omega), fun i _ hi => ?_⟩
    obtain ⟨a, b⟩ := h3 i (by omega)
    exact ⟨a, fun k _ hk => by have := b k (by omega); simpa using this⟩
theorem head_iff {T C : List Row} {sw ins : Int} : head T C sw ins = true ↔ T.length ≤ 32 ∧ C.length ≤ 32 ∧ (0 ≤ sw ∧ sw ≤ 268435456) ∧ (1 ≤ ins ∧ ins ≤ 1048576) := by
  unfold head
  simp only [Bool.and_eq_true, Bool.not_eq_true', decide_eq_false_iff_not, inR_iff]
  omega
theorem numOk_iff {c0 prio per dl off cost : Int} : numOk c0 prio per dl off cost = true ↔ 0 ≤ c0 ∧ 0 ≤ prio ∧ prio ≤ 31 ∧ (1 ≤ per ∧ per ≤ 2147483647) ∧ (1 ≤ dl ∧ dl ≤ per) ∧ (0 ≤ off ∧ off ≤ 2147483647) ∧ (1 ≤ cost ∧ cost ≤ 1073741824) := by
  unfold numOk
  simp only [Bool.and_eq_true, Bool.not_eq_true', decide_eq_false_iff_not, inR_iff]
  omega
end Go.Proofs.Ytbgdiljnmifakaa

namespace Go.Proofs.Ytbgdiljnmifakaa
open Go Go.Eng
def sI (f : Nat → Int) : Nat → Nat → Int
  | _, 0 => 0
  | i, k + 1 => f i + sI f (i + 1) k
theorem sI_le {f g : Nat → Int} : ∀ (k i : Nat), (∀ j, i ≤ j → j < i + k → f j ≤ g j) → sI f i k ≤ sI g i k
  | 0, _, _ => Int.le_refl _
  | k + 1, i, h => by
    have := h i (by omega) (by omega)
    have := sI_le k (i + 1) fun j h1 h2 => h j (by omega) (by omega)
    simp only [sI]; omega
theorem sI_eq {f g : Nat → Int} {k i : Nat} (h : ∀ j, i ≤ j → j < i + k → f j = g j) : sI f i k = sI g i k :=
  Int.le_antisymm (sI_le k i fun j h1 h2 => Int.le_of_eq (h j h1 h2)) (sI_le k i fun j h1 h2 => Int.le_of_eq (h j h1 h2).symm)
theorem sI_add {f g : Nat → Int} : ∀ (k i : Nat), sI (fun j => f j + g j) i k = sI f i k + sI g i k
  | 0, _ => by simp [sI]
  | k + 1, i => by simp only [sI, sI_add k (i + 1)]; omega
theorem sI_set {f g : Nat → Int} {e : Nat} : ∀ (k i : Nat), (∀ j, j ≠ e → g j = f j) → i ≤ e → e < i + k → sI g i k = sI f i k + (g e - f e)
  | 0, _, _, _, h => by omega
  | k + 1, i, h, h1, h2 => by
    simp only [sI]
    by_cases he : i = e
    · subst he
      rw [sI_eq (f := g) (g := f) fun j h1 _ => h j (by omega)]; omega
    · rw [sI_set k (i + 1) h (by omega) (by omega), h i he]; omega
theorem sI_zero {f : Nat → Int} {k i : Nat} (h : ∀ j, i ≤ j → j < i + k → f j = 0) : sI f i k = 0 := by
  have : ∀ (k i : Nat), sI (fun _ => 0) i k = 0 := by
    intro k
    induction k with
    | zero => intro i; rfl
    | succ k ih => intro i; simp only [sI, ih]; rfl
  rw [sI_eq (g := fun _ => 0) h, this]
theorem sI_ge {f : Nat → Int} : ∀ (k i : Nat), (∀ j, i ≤ j → j < i + k → 0 ≤ f j) → ∀ e, i ≤ e → e < i + k → f e ≤ sI f i k
  | 0, _, _, _, _, h => by omega
  | k + 1, i, h, e, h1, h2 => by
    have h0 := h i (by omega) (by omega)
    have hs : 0 ≤ sI f (i + 1) k := by
      have := sI_le (f := fun _ => 0) (g := f) k (i + 1) fun j h1 h2 => h j (by omega) (by omega)
      rw [sI_zero (f := fun _ => 0) fun _ _ _ => rfl] at this
      exact this
    simp only [sI]
    by_cases he : i = e
    · subst he; omega
    · have := sI_ge k (i + 1) (fun j h1 h2 => h j (by omega) (by omega)) e (by omega) (by omega)
      omega
def arrN (off per u : Int) : Int := if u ≤ off then 0 else (u - off + per - 1) / per
theorem arrN_step {off per u : Int} (hp : 1 ≤ per) : arrN off per (u + 1) = arrN off per u + (if off ≤ u ∧ (u - off) % per = 0 then 1 else 0) := by
  unfold arrN
  by_cases h1 : u < off
  · rw [if_pos (by omega), if_pos (by omega), if_neg (by omega)]; rfl
  · rw [if_neg (show ¬ u + 1 ≤ off by omega)]
    have e1 : (u + 1 - off + per - 1) / per = (u - off) / per + 1 := by
      rw [show u + 1 - off + per - 1 = (u - off) + per * 1 by omega, Int.add_mul_ediv_left _ _ (by omega)]
    rw [e1]
    by_cases h2 : u ≤ off
    · have : u = off := by omega
      subst this
      rw [if_pos (Int.le_refl _), if_pos ⟨Int.le_refl _, by simp⟩]; simp
    · rw [if_neg h2, ceil_eq (by omega) hp]
      have := Int.emod_nonneg (u - off) (show per ≠ 0 by omega)
      by_cases hm : (u - off) % per = 0
      · rw [if_neg (by omega), if_pos ⟨by omega, hm⟩]
      · rw [if_pos (by omega), if_neg (fun h => hm h.2)]; omega
theorem ceil_ge {r p : Int} (hp : 1 ≤ p) : r ≤ p * ((r + p - 1) / p) := by
  have h1 := Int.emod_add_mul_ediv (r + p - 1) p
  have h2 := Int.emod_lt_of_pos (r + p - 1) (show 0 < p by omega)
  omega
theorem ceil_le {r p c : Int} (hp : 1 ≤ p) (h : r ≤ p * c) : (r + p - 1) / p ≤ c := by
  have : (r + p - 1) / p < c + 1 := by
    apply Int.ediv_lt_of_lt_mul (by omega)
    rw [Int.add_mul, Int.mul_comm c p]; omega
  omega
theorem arrN_diff {off per s r : Int} (hp : 1 ≤ per) (hr : 0 ≤ r) : arrN off per (s + r) - arrN off per s ≤ (r + per - 1) / per := by
  have hc := ceil_ge (r := r) hp
  have hc0 : 0 ≤ (r + per - 1) / per := Int.ediv_nonneg (by omega) (by omega)
  unfold arrN
  by_cases h1 : s ≤ off
  · rw [if_pos h1]
    split
    · omega
    · have := ceil_le (r := s + r - off) (c := (r + per - 1) / per) hp (by omega)
      omega
  · rw [if_neg h1, if_neg (by omega)]
    have ha := ceil_ge (r := s - off) hp
    have := ceil_le (r := s + r - off) (c := (s - off + per - 1) / per + (r + per - 1) / per) hp (by rw [Int.mul_add]; omega)
    omega
structure J where
  rel : Int
  did : Int
  need : Int
def actU (C us : List Row) (did : Int) : Nat → Nat → Int → Int → Int
  | _, 0, p, _ => p
  | i, k + 1, p, at' => actU C us did (i + 1) k (if at' < did ∧ did < at' + cI us i 1 then max p (cI C (cI us i 0) 0) else p) (at' + cI us i 1)
def remU (C us : List Row) (pr did : Int) : Nat → Nat → Int → Int
  | _, 0, _ => 0
  | i, k + 1, at' => (if pr ≤ cI C (cI us i 0) 0 ∧ at' < did ∧ did < at' + cI us i 1 then at' + cI us i 1 - did else 0) + remU C us pr did (i + 1) k (at' + cI us i 1)
section
variable {C us : List Row} {pr did : Int}
theorem actU_ge : ∀ (k i : Nat) (p at' : Int), p ≤ actU C us did i k p at'
  | 0, _, _, _ => Int.le_refl _
  | k + 1, i, p, at' => by
    simp only [actU]
    refine Int.le_trans ?_ (actU_ge k (i + 1) _ _)
    split <;> omega
theorem remU_nonneg : ∀ (k i : Nat) (at' : Int), 0 ≤ remU C us pr did i k at'
  | 0, _, _ => Int.le_refl _
  | k + 1, i, at' => by
    have := remU_nonneg k (i + 1) (at' + cI us i 1)
    simp only [remU]
    split <;> omega
theorem remU_zero : ∀ (k i : Nat) (at' : Int), (∀ j : Nat, i ≤ j → j < i + k → 1 ≤ cI us j 1) → did ≤ at' → remU C us pr did i k at' = 0
  | 0, _, _, _, _ => rfl
  | k + 1, i, at', h, hd => by
    have h0 := h i (by omega) (by omega)
    simp only [remU]
    rw [if_neg (by omega), remU_zero k (i + 1) _ (fun j h1 h2 => h j (by omega) (by omega)) (by omega)]; rfl
theorem rem_of_act : ∀ (k i : Nat) (p at' : Int), p < pr → pr ≤ actU C us did i k p at' → 1 ≤ remU C us pr did i k at'
  | 0, _, _, _, h1, h2 => by simp only [actU] at h2; omega
  | k + 1, i, p, at', h1, h2 => by
    have hn := remU_nonneg (C := C) (us := us) (pr := pr) (did := did) k (i + 1) (at' + cI us i 1)
    simp only [actU] at h2
    simp only [remU]
    by_cases hc : pr ≤ cI C (cI us i 0) 0 ∧ at' < did ∧ did < at' + cI us i 1
    · rw [if_pos hc]; omega
    · rw [if_neg hc]
      have := rem_of_act k (i + 1) _ _ (by split <;> omega) h2
      omega
theorem act_of_rem : ∀ (k i : Nat) (p at' : Int), 1 ≤ remU C us pr did i k at' → pr ≤ actU C us did i k p at'
  | 0, _, _, _, h => by simp only [remU] at h; omega
  | k + 1, i, p, at', h => by
    simp only [remU] at h
    simp only [actU]
    by_cases hc : pr ≤ cI C (cI us i 0) 0 ∧ at' < did ∧ did < at' + cI us i 1
    · refine Int.le_trans ?_ (actU_ge k (i + 1) _ _)
      rw [if_pos hc.2]; omega
    · rw [if_neg hc] at h
      exact act_of_rem k (i + 1) _ _ (by omega)
theorem remU_step : ∀ (k i : Nat) (at' : Int), (∀ j : Nat, i ≤ j → j < i + k → 1 ≤ cI us j 1) → 1 ≤ remU C us pr did i k at' → remU C us pr (did + 1) i k at' ≤ remU C us pr did i k at' - 1
  | 0, _, _, _, h => by simp only [remU] at h; omega
  | k + 1, i, at', hp, h => by
    have hp' : ∀ j : Nat, i + 1 ≤ j → j < i + 1 + k → 1 ≤ cI us j 1 := fun j h1 h2 => hp j (by omega) (by omega)
    simp only [remU] at h ⊢
    by_cases hlt : did < at' + cI us i 1
    · have z1 : remU C us pr did (i + 1) k (at' + cI us i 1) = 0 := remU_zero k (i + 1) _ hp' (by omega)
      have z2 : remU C us pr (did + 1) (i + 1) k (at' + cI us i 1) = 0 := remU_zero k (i + 1) _ hp' (by omega)
      rw [z1] at h ⊢
      rw [z2]
      by_cases hc : pr ≤ cI C (cI us i 0) 0 ∧ at' < did ∧ did < at' + cI us i 1
      · rw [if_pos hc]
        split <;> omega
      · rw [if_neg hc] at h; omega
    · rw [if_neg (by omega)] at h ⊢
      rw [if_neg (by omega)]
      have := remU_step k (i + 1) (at' + cI us i 1) hp' (by omega)
      omega
theorem remU_le {B : Int} (hB : 0 ≤ B) : ∀ (k i : Nat) (at' : Int), (∀ j : Nat, i ≤ j → j < i + k → 1 ≤ cI us j 1 ∧ (pr ≤ cI C (cI us j 0) 0 → cI us j 1 ≤ B)) → remU C us pr did i k at' ≤ B
  | 0, _, _, _ => hB
  | k + 1, i, at', hp => by
    have h0 := hp i (by omega) (by omega)
    have hp' : ∀ j : Nat, i + 1 ≤ j → j < i + 1 + k → 1 ≤ cI us j 1 ∧ (pr ≤ cI C (cI us j 0) 0 → cI us j 1 ≤ B) := fun j h1 h2 => hp j (by omega) (by omega)
    simp only [remU]
    by_cases hlt : did < at' + cI us i 1
    · rw [remU_zero k (i + 1) _ (fun j h1 h2 => (hp' j h1 h2).1) (by omega)]
      split
      · rename_i hc; have := h0.2 hc.1; omega
      · omega
    · rw [if_neg (by omega)]
      have := remU_le hB k (i + 1) (at' + cI us i 1) hp'
      omega
end
theorem ub_use {C us : List Row} {p : Int} : ∀ (k i : Nat) (a : Int) (q : Nat), i ≤ q → q < i + k → p ≤ cI C (cI us q 0) 0 → cI us q 1 ≤ ub C p us i k a
  | 0, _, _, _, _, h, _ => by omega
  | k + 1, i, a, q, h1, h2, h => by
    simp only [ub]
    by_cases he : i = q
    · subst he
      refine Int.le_trans ?_ (ub_ge k (i + 1) _)
      rw [decide_eq_true h]
      simp only [Eng.imax]
      split <;> omega
    · exact ub_use k (i + 1) _ q (by omega) (by omega) h
theorem tb_use {T C : List Row} {p : Int} : ∀ (k i : Nat) (a : Int) (e q : Nat), i ≤ e → e < i + k → cI T e 1 < p → q < (cL T e 6).length → p ≤ cI C (cI (cL T e 6) q 0) 0 → cI (cL T e 6) q 1 ≤ tb T C p i k a
  | 0, _, _, _, _, _, h, _, _, _ => by omega
  | k + 1, i, a, e, q, h1, h2, h3, h4, h5 => by
    simp only [tb]
    by_cases he : i = e
    · subst he
      refine Int.le_trans ?_ (tb_ge k (i + 1) _)
      rw [decide_eq_true h3]
      exact ub_use _ _ _ q (by omega) (by omega) h5
    · exact tb_use k (i + 1) _ e q (by omega) (by omega) h3 h4 h5
theorem blk_use {T C : List Row} {ins : Int} {t e q : Nat} (he : e < T.length) (h : cI T e 1 < cI T t 1) (hq : q < (cL T e 6).length) (hc : cI T t 1 ≤ cI C (cI (cL T e 6) q 0) 0) : cI (cL T e 6) q 1 ≤ blk T C ins t :=
  tb_use _ _ _ e q (by omega) (by omega) h hq hc
theorem ds_sum {T : List Row} {t : Nat} {r : Int} : ∀ (k i : Nat) (a : Int), ds T 0 t r i k a + (if i ≤ t ∧ t < i + k then dt T 0 r t else 0) = a + sI (fun j => if cI T t 1 ≤ cI T j 1 then dt T 0 r j else 0) i k
  | 0, i, a => by
    rw [if_neg (by omega)]; simp [ds, sI]
  | k + 1, i, a => by
    simp only [ds, sI]
    have ih := fun a => ds_sum (T := T) (t := t) (r := r) k (i + 1) a
    have hhi : hi T t i = (!decide (i = t) && decide (cI T t 1 ≤ cI T i 1)) := by
      unfold hi
      by_cases h1 : i = t
      · subst h1; simp
      · have : ((i : Int) == (t : Int)) = false := by simp; omega
        rw [this, decide_eq_false h1]
        by_cases h2 : cI T i 1 < cI T t 1
        · rw [decide_eq_true h2, decide_eq_false (by omega)]; rfl
        · rw [decide_eq_false h2, decide_eq_true (by omega)]; rfl
    rw [hhi]
    by_cases h1 : i = t
    · subst h1
      have := ih a
      rw [if_neg (by omega)] at this
      rw [if_pos ⟨Nat.le_refl _, by omega⟩, if_pos (Int.le_refl _)]
      simp only [decide_true, Bool.not_true, Bool.false_and]
      omega
    · rw [decide_eq_false h1]
      by_cases h2 : cI T t 1 ≤ cI T i 1
      · rw [decide_eq_true h2, if_pos h2]
        have := ih (a + dt T 0 r i)
        simp only [Bool.not_false, Bool.and_self]
        by_cases h3 : i + 1 ≤ t ∧ t < i + 1 + k
        · rw [if_pos h3] at this; rw [if_pos (by omega)]; omega
        · rw [if_neg h3] at this; rw [if_neg (by omega)]; omega
      · rw [decide_eq_false h2, if_neg h2]
        have := ih a
        simp only [Bool.not_false, Bool.and_false]
        by_cases h3 : i + 1 ≤ t ∧ t < i + 1 + k
        · rw [if_pos h3] at this; rw [if_pos (by omega)]; omega
        · rw [if_neg h3] at this; rw [if_neg (by omega)]; omega
theorem dem_sum {T : List Row} {t : Nat} (ht : t < T.length) (r : Int) : dem T 0 t r + dt T 0 r t = sI (fun j => if cI T t 1 ≤ cI T j 1 then dt T 0 r j else 0) 0 T.length := by
  have := ds_sum (T := T) (t := t) (r := r) T.length 0 0
  rw [if_pos ⟨by omega, by omega⟩] at this
  unfold dem
  omega
end Go.Proofs.Ytbgdiljnmifakaa

namespace Go.Proofs.Ytbgdiljnmifakaa
open Go Go.Eng
def beg (H : List Row) (k : Nat) : Int := cI H k 1
def ndd (T H : List Row) (k : Nat) : Int := 1 + Int.tmod (cI H k 0) (cI T k 5)
def act (T C H : List Row) (k : Nat) (j : J) : Int := actU C (cL T k 6) j.did 0 (cL T k 6).length (cI T k 1) (Int.tmod (beg H k) j.need)
def rem (T C H : List Row) (pr : Int) (k : Nat) (j : J) : Int := remU C (cL T k 6) pr j.did 0 (cL T k 6).length (Int.tmod (beg H k) j.need)
def arr (T H : List Row) (now : Int) (k : Nat) (l : List J) : List J := if cI T k 4 ≤ now ∧ (now - cI T k 4) % cI T k 2 = 0 then l ++ [⟨now, 0, ndd T H k⟩] else l
def worked (j : J) (l : List J) : List J := if j.did + 1 < j.need then ⟨j.rel, j.did + 1, j.need⟩ :: l else l
structure JobOk (cost : Int) (j : J) : Prop where
  n1 : 1 ≤ j.need
  n2 : j.need ≤ cost
  d1 : 0 ≤ j.did
  d2 : j.did < j.need
structure Good (T : List Row) (now : Int) (rs : List (List J)) : Prop where
  len : rs.length = T.length
  job : ∀ k, k < T.length → ∀ j ∈ rs.getD k [], JobOk (cI T k 5) j ∧ 0 ≤ j.rel ∧ j.rel ≤ now
  tail : ∀ k, k < T.length → ∀ j ∈ (rs.getD k []).tail, j.did = 0
  size : ∀ k, k < T.length → ((rs.getD k []).length : Int) ≤ now
def Picked (T C H : List Row) (rs : List (List J)) (b : Int) : Prop :=
  (b = -1 ∧ ∀ k, k < T.length → rs.getD k [] = []) ∨ ∃ e : Nat, b = e ∧ e < T.length ∧ ∃ j l, rs.getD e [] = j :: l ∧ ∀ k, k < T.length → ∀ j' l', rs.getD k [] = j' :: l' → act T C H k j' ≤ act T C H e j
def wk : List J → Int
  | [] => 0
  | j :: l => (j.need - j.did) + wk l
theorem wk_app : ∀ (l : List J) (x : J), wk (l ++ [x]) = wk l + (x.need - x.did)
  | [], x => by simp [wk]
  | j :: l, x => by simp only [List.cons_append, wk, wk_app l x]; omega
theorem wk_nonneg {c : Int} : ∀ {l : List J}, (∀ j ∈ l, JobOk c j) → 0 ≤ wk l
  | [], _ => Int.le_refl _
  | j :: l, h => by
    have h1 := (h j List.mem_cons_self).d2
    have := wk_nonneg fun x hx => h x (List.mem_cons_of_mem _ hx)
    simp only [wk]; omega
theorem wk_zero {c : Int} : ∀ {l : List J}, (∀ j ∈ l, JobOk c j) → wk l ≤ 0 → l = []
  | [], _, _ => rfl
  | j :: l, h, h0 => by
    have h1 := (h j List.mem_cons_self).d2
    have := wk_nonneg fun x hx => h x (List.mem_cons_of_mem _ hx)
    simp only [wk] at h0; omega
theorem wk_worked {c : Int} {j : J} (h : JobOk c j) (l : List J) : wk (worked j l) = wk (j :: l) - 1 := by
  have h1 := h.d2
  unfold worked
  split
  · simp only [wk]; omega
  · simp only [wk]; omega
section
variable {T C H : List Row} {t : Nat} {now : Int} {rs rs1 : List (List J)}
def hd (T C H : List Row) (pr : Int) (k : Nat) : List J → Int
  | [] => 0
  | j :: _ => rem T C H pr k j
def wF (T : List Row) (t : Nat) (rs : List (List J)) (k : Nat) : Int := if cI T t 1 ≤ cI T k 1 then wk (rs.getD k []) else 0
def rF (T C H : List Row) (t : Nat) (rs : List (List J)) (k : Nat) : Int := if cI T t 1 ≤ cI T k 1 then 0 else hd T C H (cI T t 1) k (rs.getD k [])
def vF (T C H : List Row) (t : Nat) (rs : List (List J)) : Int := sI (fun k => wF T t rs k + rF T C H t rs k) 0 T.length
def pF (T C H : List Row) (t : Nat) (rs : List (List J)) : Int := sI (rF T C H t rs) 0 T.length
def aN (T : List Row) (t : Nat) (u : Int) : Int := sI (fun k => if cI T t 1 ≤ cI T k 1 then arrN (cI T k 4) (cI T k 2) u * cI T k 5 else 0) 0 T.length
theorem use_pos (hM : MayF T C 0 1) {k : Nat} (hk : k < T.length) : ∀ q : Nat, 0 ≤ q → q < 0 + (cL T k 6).length → 1 ≤ cI (cL T k 6) q 1 := fun q _ h => ((hM.task k hk).use q (by omega)).2.2.1
theorem hd_nonneg (pr : Int) (k : Nat) : ∀ l : List J, 0 ≤ hd T C H pr k l
  | [] => Int.le_refl _
  | j :: _ => remU_nonneg _ _ _
theorem rem_zero (hM : MayF T C 0 1) {k : Nat} (hk : k < T.length) (hb : 0 ≤ beg H k) {pr : Int} {j : J} (hd : j.did = 0) : rem T C H pr k j = 0 :=
  remU_zero _ _ _ (use_pos hM hk) (by rw [hd]; exact Int.tmod_nonneg _ hb)
theorem ndd_bounds (hM : MayF T C 0 1) {k : Nat} (hk : k < T.length) (hn : 0 ≤ cI H k 0) : 1 ≤ ndd T H k ∧ ndd T H k ≤ cI T k 5 := by
  have c0 := (hM.task k hk).cost0
  unfold ndd
  rw [Int.tmod_eq_emod_of_nonneg hn]
  have h1 := Int.emod_nonneg (cI H k 0) (show cI T k 5 ≠ 0 by omega)
  have h2 := Int.emod_lt_of_pos (cI H k 0) (show 0 < cI T k 5 by omega)
  omega
theorem good_arr (hM : MayF T C 0 1) (hn : ∀ k, k < T.length → 0 ≤ cI H k 0) (h0 : 0 ≤ now) (hG : Good T now rs) (hl : rs1.length = T.length) (h1 : ∀ k, k < T.length → rs1.getD k [] = arr T H now k (rs.getD k [])) :
    (∀ k, k < T.length → ∀ j ∈ rs1.getD k [], JobOk (cI T k 5) j ∧ 0 ≤ j.rel ∧ j.rel ≤ now) ∧ (∀ k, k < T.length → ∀ j ∈ (rs1.getD k []).tail, j.did = 0) ∧ ∀ k, k < T.length → ((rs1.getD k []).length : Int) ≤ now + 1 := by
  refine ⟨fun k hk j hj => ?_, fun k hk j hj => ?_, fun k hk => ?_⟩
  · rw [h1 k hk] at hj
    unfold arr at hj
    split at hj
    · rcases List.mem_append.1 hj with hj | hj
      · exact hG.job k hk j hj
      · obtain ⟨b1, b2⟩ := ndd_bounds (H := H) hM hk (hn k hk)
        rw [List.mem_singleton] at hj
        subst hj
        exact ⟨⟨b1, b2, Int.le_refl _, by show (0 : Int) < ndd T H k; omega⟩, h0, Int.le_refl _⟩
    · exact hG.job k hk j hj
  · rw [h1 k hk] at hj
    unfold arr at hj
    split at hj
    · cases hr : rs.getD k [] with
      | nil => rw [hr] at hj; simp at hj
      | cons x l =>
        rw [hr] at hj
        simp only [List.cons_append, List.tail_cons] at hj
        rcases List.mem_append.1 hj with hj | hj
        · exact hG.tail k hk j (by rw [hr]; exact hj)
        · rw [List.mem_singleton] at hj; subst hj; rfl
    · exact hG.tail k hk j hj
  · rw [h1 k hk]
    have := hG.size k hk
    unfold arr
    split
    · rw [List.length_append, List.length_singleton]; omega
    · omega
theorem v_arr (hM : MayF T C 0 1) (hb : ∀ k, k < T.length → 0 ≤ beg H k) (hn : ∀ k, k < T.length → 0 ≤ cI H k 0) (h1 : ∀ k, k < T.length → rs1.getD k [] = arr T H now k (rs.getD k [])) :
    vF T C H t rs1 ≤ vF T C H t rs + (aN T t (now + 1) - aN T t now) ∧ pF T C H t rs1 = pF T C H t rs := by
  have hr : ∀ k, k < T.length → rF T C H t rs1 k = rF T C H t rs k := by
    intro k hk
    unfold rF
    split
    · rfl
    · rw [h1 k hk]
      unfold arr
      split
      · cases rs.getD k [] with
        | nil => exact rem_zero hM hk (hb k hk) rfl
        | cons j l => rfl
      · rfl
  refine ⟨?_, sI_eq fun k _ hk => hr k (by omega)⟩
  have key : vF T C H t rs1 + aN T t now ≤ vF T C H t rs + aN T t (now + 1) := by
    unfold vF aN
    rw [← sI_add, ← sI_add]
    refine sI_le _ _ fun k _ hk => ?_
    have hk : k < T.length := by omega
    simp only [hr k hk, wF, h1 k hk]
    by_cases hp : cI T t 1 ≤ cI T k 1
    · rw [if_pos hp, if_pos hp, if_pos hp, if_pos hp, arrN_step (hM.task k hk).per0]
      unfold arr
      by_cases hc : cI T k 4 ≤ now ∧ (now - cI T k 4) % cI T k 2 = 0
      · rw [if_pos hc, if_pos hc, wk_app, Int.add_mul]
        have := (ndd_bounds (H := H) hM hk (hn k hk)).2
        simp only [Int.one_mul, Int.sub_zero]; omega
      · rw [if_neg hc, if_neg hc]; simp
    · rw [if_neg hp, if_neg hp, if_neg hp, if_neg hp]; omega
  omega
theorem getD_set {e : Nat} (he : e < rs1.length) (l' : List J) (k : Nat) : (rs1.set e l').getD k [] = if k = e then l' else rs1.getD k [] := by
  simp only [List.getD]
  by_cases h : k = e
  · subst h; rw [if_pos rfl, List.getElem?_set_self he]; rfl
  · rw [if_neg h, List.getElem?_set_ne (Ne.symm h)]
theorem hd_worked (hM : MayF T C 0 1) {e : Nat} (he : e < T.length) (hb : 0 ≤ beg H e) {pr : Int} {j : J} {l : List J} (ht : ∀ x ∈ l, x.did = 0) : (1 ≤ rem T C H pr e j → hd T C H pr e (worked j l) ≤ rem T C H pr e j - 1) ∧
    (∀ B, 0 ≤ B → (∀ q : Nat, q < (cL T e 6).length → pr ≤ cI C (cI (cL T e 6) q 0) 0 → cI (cL T e 6) q 1 ≤ B) → hd T C H pr e (worked j l) ≤ B) := by
  have z : hd T C H pr e l = 0 := by
    cases l with
    | nil => rfl
    | cons x l => exact rem_zero hM he hb (ht x List.mem_cons_self)
  unfold worked
  split
  · refine ⟨fun h => remU_step _ _ _ (use_pos hM he) h, fun B hB hu => remU_le hB _ _ _ fun q _ hq => ⟨use_pos hM he q (by omega) hq, hu q (by omega)⟩⟩
  · rw [z]
    exact ⟨fun h => by omega, fun B hB _ => hB⟩
def Kv (T C H : List Row) (t : Nat) (R now : Int) (rs : List (List J)) : Prop :=
  ∃ s f, 0 ≤ s ∧ s ≤ now ∧ now < s + R ∧ f ≤ blk T C 1 t ∧ (∀ k, k < T.length → cI T t 1 ≤ cI T k 1 → ∀ j ∈ rs.getD k [], s ≤ j.rel) ∧ vF T C H t rs ≤ f + (aN T t now - aN T t s) - (now - s)
theorem quiet_k {R : Int} (hR : 1 ≤ R) (h0 : 0 ≤ now) (hp : pF T C H t rs ≤ blk T C 1 t) (hq : ∀ k, k < T.length → cI T t 1 ≤ cI T k 1 → rs.getD k [] = []) : Kv T C H t R now rs := by
  refine ⟨now, pF T C H t rs, h0, Int.le_refl _, by omega, hp, fun k hk hpk j hj => (by rw [hq k hk hpk] at hj; cases hj), ?_⟩
  have : vF T C H t rs = pF T C H t rs := by
    unfold vF pF
    refine sI_eq fun k _ hk => ?_
    unfold wF
    split
    · rename_i h
      rw [hq k (by omega) h]; simp [wk]
    · omega
  omega
structure Met (T C : List Row) (t : Nat) (R : Int) : Prop where
  lt : t < T.length
  r1 : 1 ≤ R
  r2 : R ≤ cI T t 2
  eq : cI T t 5 + blk T C 1 t + dem T 0 t R = R
theorem window (hM : MayF T C 0 1) {R : Int} (hm : Met T C t R) {s : Int} : aN T t (s + R) - aN T t s ≤ R - blk T C 1 t := by
  have h1 : aN T t (s + R) ≤ aN T t s + sI (fun j => if cI T t 1 ≤ cI T j 1 then dt T 0 R j else 0) 0 T.length := by
    unfold aN
    rw [← sI_add]
    refine sI_le _ _ fun k _ hk => ?_
    have f := hM.task k (by omega)
    have c0 := f.cost0
    by_cases hp : cI T t 1 ≤ cI T k 1
    · simp only [if_pos hp]
      have := arrN_diff (off := cI T k 4) (s := s) f.per0 (show 0 ≤ R by have := hm.r1; omega)
      have h2 := Int.mul_le_mul_of_nonneg_right this (show 0 ≤ cI T k 5 by omega)
      rw [Int.sub_mul] at h2
      unfold dt
      rw [show cI T k 5 + 2 * 0 = cI T k 5 by omega]; omega
    · simp only [if_neg hp]; omega
  rw [← dem_sum hm.lt] at h1
  have h2 : dt T 0 R t = cI T t 5 := by
    have r1 := hm.r1
    have r2 := hm.r2
    unfold dt
    have : (R + cI T t 2 - 1) / cI T t 2 = 1 := by
      rw [show R + cI T t 2 - 1 = (R - 1) + cI T t 2 * 1 by omega, Int.add_mul_ediv_left _ _ (by omega), Int.ediv_eq_zero_of_lt (by omega) (by omega)]; rfl
    rw [this]; omega
  have := hm.eq
  omega
theorem step_idle {R : Int} (hM : MayF T C 0 1) (hb : ∀ k, k < T.length → 0 ≤ beg H k) (hn : ∀ k, k < T.length → 0 ≤ cI H k 0) (hR : 1 ≤ R) (h0 : 0 ≤ now) (hp : pF T C H t rs ≤ blk T C 1 t)
    (h1 : ∀ k, k < T.length → rs1.getD k [] = arr T H now k (rs.getD k [])) (he : ∀ k, k < T.length → rs1.getD k [] = []) : Kv T C H t R (now + 1) rs1 ∧ pF T C H t rs1 ≤ blk T C 1 t := by
  have h2 := (v_arr (C := C) (t := t) hM hb hn h1).2
  exact ⟨quiet_k hR (by omega) (by omega) fun k hk _ => he k hk, by omega⟩
theorem vF_nonneg_zero (hJ : ∀ k, k < T.length → ∀ j ∈ rs.getD k [], JobOk (cI T k 5) j) (h : vF T C H t rs ≤ 0) : ∀ k, k < T.length → cI T t 1 ≤ cI T k 1 → rs.getD k [] = [] := by
  intro k hk hp
  have hnn : ∀ i, 0 ≤ i → i < 0 + T.length → 0 ≤ wF T t rs i + rF T C H t rs i := fun i _ hi => by
    have a : 0 ≤ wF T t rs i := by
      unfold wF; split
      · exact wk_nonneg (hJ i (by omega))
      · exact Int.le_refl _
    have b : 0 ≤ rF T C H t rs i := by
      unfold rF; split
      · exact Int.le_refl _
      · exact hd_nonneg _ _ _
    omega
  have := sI_ge T.length 0 hnn k (by omega) (by omega)
  have b : 0 ≤ rF T C H t rs k := by
    unfold rF; rw [if_pos hp]; exact Int.le_refl _
  unfold vF at h
  have hw : wF T t rs k ≤ 0 := by omega
  unfold wF at hw
  rw [if_pos hp] at hw
  exact wk_zero (hJ k hk) hw
theorem step_work {R : Int} (hM : MayF T C 0 1) (hb : ∀ k, k < T.length → 0 ≤ beg H k) (hn : ∀ k, k < T.length → 0 ≤ cI H k 0) (hm : Met T C t R) (h0 : 0 ≤ now) (hG : Good T now rs) (hK : Kv T C H t R now rs) (hp : pF T C H t rs ≤ blk T C 1 t)
    (hl : rs1.length = T.length) (h1 : ∀ k, k < T.length → rs1.getD k [] = arr T H now k (rs.getD k [])) {e : Nat} (he : e < T.length) {j : J} {l : List J} (hj : rs1.getD e [] = j :: l)
    (hpick : ∀ k, k < T.length → ∀ j' l', rs1.getD k [] = j' :: l' → act T C H k j' ≤ act T C H e j) :
    Kv T C H t R (now + 1) (rs1.set e (worked j l)) ∧ pF T C H t (rs1.set e (worked j l)) ≤ blk T C 1 t ∧ (e = t → now + 1 - j.rel ≤ R) := by
  obtain ⟨g1, g2, g3⟩ := good_arr (C := C) (H := H) hM hn h0 hG hl h1
  obtain ⟨v1, v2⟩ := v_arr (C := C) (t := t) hM hb hn h1
  have hbl := (blk_bounds hM t).1
  have hjo := (g1 e he j (by rw [hj]; exact List.mem_cons_self)).1
  have htl : ∀ x ∈ l, x.did = 0 := fun x hx => g2 e he x (by rw [hj]; exact hx)
  have hget := getD_set (show e < rs1.length by omega) (worked j l)
  have hset : ∀ k, k ≠ e → (rs1.set e (worked j l)).getD k [] = rs1.getD k [] := fun k hk => by rw [hget, if_neg hk]
  have hsete : (rs1.set e (worked j l)).getD e [] = worked j l := by rw [hget, if_pos rfl]
  have hw0 : ∀ k, k ≠ e → wF T t (rs1.set e (worked j l)) k = wF T t rs1 k := fun k hk => by unfold wF; rw [hset k hk]
  have hr0 : ∀ k, k ≠ e → rF T C H t (rs1.set e (worked j l)) k = rF T C H t rs1 k := fun k hk => by unfold rF; rw [hset k hk]
  have hV := sI_set (f := fun k => wF T t rs1 k + rF T C H t rs1 k) (g := fun k => wF T t (rs1.set e (worked j l)) k + rF T C H t (rs1.set e (worked j l)) k) T.length 0 (fun k hk => by rw [hw0 k hk, hr0 k hk]) (by omega) (show e < 0 + T.length by omega)
  have hP := sI_set (f := rF T C H t rs1) (g := rF T C H t (rs1.set e (worked j l))) T.length 0 hr0 (by omega) (show e < 0 + T.length by omega)
  rw [show sI (fun k => wF T t (rs1.set e (worked j l)) k + rF T C H t (rs1.set e (worked j l)) k) 0 T.length = vF T C H t (rs1.set e (worked j l)) from rfl, show sI (fun k => wF T t rs1 k + rF T C H t rs1 k) 0 T.length = vF T C H t rs1 from rfl] at hV
  rw [show sI (rF T C H t (rs1.set e (worked j l))) 0 T.length = pF T C H t (rs1.set e (worked j l)) from rfl, show sI (rF T C H t rs1) 0 T.length = pF T C H t rs1 from rfl] at hP
  obtain ⟨w1, w2⟩ := hd_worked (C := C) (H := H) (pr := cI T t 1) hM he (hb e he) htl (j := j)
  have hlow : ¬ cI T t 1 ≤ cI T e 1 → ∀ q : Nat, q < (cL T e 6).length → cI T t 1 ≤ cI C (cI (cL T e 6) q 0) 0 → cI (cL T e 6) q 1 ≤ blk T C 1 t := fun h q hq hc => blk_use he (by omega) hq hc
  have dw : wF T t (rs1.set e (worked j l)) e - wF T t rs1 e = if cI T t 1 ≤ cI T e 1 then -1 else 0 := by
    unfold wF
    rw [hsete, hj]
    split
    · rw [wk_worked hjo]; omega
    · rfl
  have hrF1 : rF T C H t rs1 e = if cI T t 1 ≤ cI T e 1 then 0 else rem T C H (cI T t 1) e j := by unfold rF; rw [hj]; rfl
  have hrF2 : rF T C H t (rs1.set e (worked j l)) e = if cI T t 1 ≤ cI T e 1 then 0 else hd T C H (cI T t 1) e (worked j l) := by unfold rF; rw [hsete]
  have hphi : pF T C H t (rs1.set e (worked j l)) ≤ blk T C 1 t := by
    by_cases hpe : cI T t 1 ≤ cI T e 1
    · rw [hrF1, hrF2, if_pos hpe, if_pos hpe] at hP; omega
    · rw [hrF1, hrF2, if_neg hpe, if_neg hpe] at hP
      by_cases ha : cI T t 1 ≤ act T C H e j
      · have := w1 (rem_of_act _ _ _ _ (by omega) ha); omega
      · have hz : pF T C H t rs1 = 0 := by
          refine sI_zero fun k _ hk => ?_
          unfold rF
          split
          · rfl
          · cases hr : rs1.getD k [] with
            | nil => rfl
            | cons j' l' =>
              have h2 := hpick k (by omega) j' l' hr
              have h3 : 0 ≤ rem T C H (cI T t 1) k j' := remU_nonneg _ _ _
              have h4 : ¬ 1 ≤ rem T C H (cI T t 1) k j' := fun h => by
                have : cI T t 1 ≤ act T C H k j' := act_of_rem _ _ _ _ h
                omega
              show rem T C H (cI T t 1) k j' = 0
              omega
        have h5 := w2 _ hbl (hlow hpe)
        have h6 : 0 ≤ rem T C H (cI T t 1) e j := remU_nonneg _ _ _
        omega
  obtain ⟨s, f, s0, s1, s2, s3, s4, s5⟩ := hK
  have hrel : ∀ k, k < T.length → cI T t 1 ≤ cI T k 1 → ∀ x ∈ rs1.getD k [], s ≤ x.rel := fun k hk hpk x hx => by
    rw [h1 k hk] at hx
    unfold arr at hx
    split at hx
    · rcases List.mem_append.1 hx with hx | hx
      · exact s4 k hk hpk x hx
      · rw [List.mem_singleton] at hx; subst hx; exact s1
    · exact s4 k hk hpk x hx
  have hjrel : ∀ k, k < T.length → cI T t 1 ≤ cI T k 1 → ∀ x ∈ (rs1.set e (worked j l)).getD k [], s ≤ x.rel := fun k hk hpk x hx => by
    by_cases hke : k = e
    · subst hke
      rw [hsete] at hx
      unfold worked at hx
      split at hx
      · rcases List.mem_cons.1 hx with rfl | hx
        · exact hrel k hk hpk j (by rw [hj]; exact List.mem_cons_self)
        · exact hrel k hk hpk x (by rw [hj]; exact List.mem_cons_of_mem _ hx)
      · exact hrel k hk hpk x (by rw [hj]; exact List.mem_cons_of_mem _ hx)
    · rw [hset k hke] at hx; exact hrel k hk hpk x hx
  have hjob2 : ∀ k, k < T.length → ∀ x ∈ (rs1.set e (worked j l)).getD k [], JobOk (cI T k 5) x := fun k hk x hx => by
    by_cases hke : k = e
    · subst hke
      rw [hsete] at hx
      unfold worked at hx
      split at hx
      · rcases List.mem_cons.1 hx with rfl | hx
        · exact ⟨hjo.n1, hjo.n2, by have := hjo.d1; show 0 ≤ j.did + 1; omega, by assumption⟩
        · exact (g1 k hk x (by rw [hj]; exact List.mem_cons_of_mem _ hx)).1
      · exact (g1 k hk x (by rw [hj]; exact List.mem_cons_of_mem _ hx)).1
    · rw [hset k hke] at hx; exact (g1 k hk x hx).1
  refine ⟨?_, hphi, fun het => ?_⟩
  · by_cases hpend : ∃ k, k < T.length ∧ cI T t 1 ≤ cI T k 1 ∧ rs1.getD k [] ≠ []
    · obtain ⟨k, hk, hpk, hne⟩ := hpend
      have hact : cI T t 1 ≤ act T C H e j := by
        cases hr : rs1.getD k [] with
        | nil => exact absurd hr hne
        | cons j' l' =>
          have h2 := hpick k hk j' l' hr
          have h3 : cI T k 1 ≤ act T C H k j' := actU_ge _ _ _ _
          omega
      have hless : vF T C H t (rs1.set e (worked j l)) ≤ vF T C H t rs1 - 1 := by
        by_cases hpe : cI T t 1 ≤ cI T e 1
        · rw [hrF1, hrF2, if_pos hpe, if_pos hpe] at hV
          rw [if_pos hpe] at dw
          omega
        · rw [hrF1, hrF2, if_neg hpe, if_neg hpe] at hV
          rw [if_neg hpe] at dw
          have := w1 (rem_of_act _ _ _ _ (by omega) hact)
          omega
      by_cases hend : now + 1 < s + R
      · exact ⟨s, f, s0, by omega, hend, s3, hjrel, by omega⟩
      · have e1 : now + 1 = s + R := by omega
        have hwin := window hM hm (s := s)
        rw [← e1] at hwin
        exact quiet_k hm.r1 (by omega) hphi (vF_nonneg_zero (C := C) (H := H) hjob2 (by omega))
    · refine quiet_k hm.r1 (by omega) hphi fun k hk hpk => ?_
      have hk0 : rs1.getD k [] = [] := by
        cases hr : rs1.getD k [] with
        | nil => rfl
        | cons a b => exact absurd ⟨k, hk, hpk, by rw [hr]; simp⟩ hpend
      by_cases hke : k = e
      · subst hke; rw [hj] at hk0; cases hk0
      · rw [hset k hke]; exact hk0
  · subst het
    have := hrel e he (Int.le_refl _) j (by rw [hj]; exact List.mem_cons_self)
    omega
theorem good_work (hM : MayF T C 0 1) (hn : ∀ k, k < T.length → 0 ≤ cI H k 0) (h0 : 0 ≤ now) (hG : Good T now rs) (hl : rs1.length = T.length) (h1 : ∀ k, k < T.length → rs1.getD k [] = arr T H now k (rs.getD k [])) {e : Nat} (he : e < T.length) {j : J} {l : List J} (hj : rs1.getD e [] = j :: l) :
    Good T (now + 1) (rs1.set e (worked j l)) := by
  obtain ⟨g1, g2, g3⟩ := good_arr (C := C) (H := H) hM hn h0 hG hl h1
  have hget := getD_set (show e < rs1.length by omega) (worked j l)
  have hjo := g1 e he j (by rw [hj]; exact List.mem_cons_self)
  refine ⟨by simpa using hl, fun k hk x hx => ?_, fun k hk x hx => ?_, fun k hk => ?_⟩
  · by_cases hke : k = e
    · subst hke
      rw [hget, if_pos rfl] at hx
      unfold worked at hx
      split at hx
      · rcases List.mem_cons.1 hx with rfl | hx
        · exact ⟨⟨hjo.1.n1, hjo.1.n2, by have := hjo.1.d1; show 0 ≤ j.did + 1; omega, by assumption⟩, hjo.2.1, by have := hjo.2.2; show j.rel ≤ now + 1; omega⟩
        · have := g1 k hk x (by rw [hj]; exact List.mem_cons_of_mem _ hx); exact ⟨this.1, this.2.1, by omega⟩
      · have := g1 k hk x (by rw [hj]; exact List.mem_cons_of_mem _ hx); exact ⟨this.1, this.2.1, by omega⟩
    · rw [hget, if_neg hke] at hx
      have := g1 k hk x hx; exact ⟨this.1, this.2.1, by omega⟩
  · by_cases hke : k = e
    · subst hke
      rw [hget, if_pos rfl] at hx
      have ht : ∀ y ∈ l, y.did = 0 := fun y hy => g2 k hk y (by rw [hj]; exact hy)
      unfold worked at hx
      split at hx
      · exact ht x hx
      · exact ht x (List.mem_of_mem_tail hx)
    · rw [hget, if_neg hke] at hx; exact g2 k hk x hx
  · by_cases hke : k = e
    · subst hke
      rw [hget, if_pos rfl]
      have := g3 k hk
      rw [hj] at this
      unfold worked
      split <;> simp at this ⊢ <;> omega
    · rw [hget, if_neg hke]; exact g3 k hk
theorem good_idle (hM : MayF T C 0 1) (hn : ∀ k, k < T.length → 0 ≤ cI H k 0) (h0 : 0 ≤ now) (hG : Good T now rs) (hl : rs1.length = T.length) (h1 : ∀ k, k < T.length → rs1.getD k [] = arr T H now k (rs.getD k [])) : Good T (now + 1) rs1 := by
  obtain ⟨g1, g2, g3⟩ := good_arr (C := C) (H := H) hM hn h0 hG hl h1
  exact ⟨hl, fun k hk x hx => by have := g1 k hk x hx; exact ⟨this.1, this.2.1, by omega⟩, g2, g3⟩
end
end Go.Proofs.Ytbgdiljnmifakaa

namespace Go.Proofs.Ytbgdiljnmifakaa
open Go Go.Eng
theorem L36_gen (N : Nat) (T C : List Row) (hC : C.length ≤ 40) (sw ins c0 prio c2 c3 c4 cost : Int) (us : List Row) : ∀ (n k i : Nat) (last : Int), (i : Int) ≤ last + 1 → last < C.length ∨ (last = -1) → (C.length : Int) - last ≤ n → 1 ≤ n → i + k = us.length →
    L36a122 (N + 1) n last i T C sw ins c0 prio c2 c3 c4 cost us = match useF C cost prio us i k last with | true => some (.x0 T C sw ins c0 prio c2 c3 c4 cost us) | false => some (.ret false T C sw ins c0 prio c2 c3 c4 cost us)
  | 0, _, _, _, _, _, _, h, _ => by omega
  | n + 1, 0, i, last, _, _, _, _, h => by
    show (match decide ((i : Int) < (us.length : Int)) with | true => _ | false => _) = _
    rw [dge (show us.length ≤ i by omega)]; rfl
  | n + 1, k + 1, i, last, hl, hlc, hb, _, h => by
    show (match decide ((i : Int) < (us.length : Int)) with | true => _ | false => _) = _
    simp only [dlt (show i < us.length by omega), dz, Bool.and_self, tst, ← cI.eq_1, F35_eq]
    rw [wrap_succ (by omega)]
    unfold useF
    cases h1 : decide (cI us i 0 ≤ last) with
    | true => rfl
    | false =>
      have h1' := of_decide_eq_false h1
      cases h2 : decide ((C.length : Int) ≤ cI us i 0) with
      | true => rfl
      | false =>
        have h2' := of_decide_eq_false h2
        have e1 : decide ((0 : Int) ≤ cI us i 0) = true := decide_eq_true (by omega)
        have e2 : decide (cI us i 0 < (C.length : Int)) = true := decide_eq_true (by omega)
        simp only [e1, e2, Bool.and_self]
        cases inR (cI us i 1) 1 cost with
        | false => rfl
        | true =>
          cases h3 : decide (cI C (cI us i 0) 0 < prio) with
          | true => rfl
          | false =>
            simp only [Bool.not_false, Bool.not_true, Bool.true_and]
            exact L36_gen N T C hC sw ins c0 prio c2 c3 c4 cost us n k (i + 1) _ (by omega) (by omega) (by omega) (by omega) (by omega)
theorem F36_gen {N : Nat} (hN : 1100 ≤ N) (T C : List Row) (hC : C.length ≤ 40) (sw ins c0 prio per dl off cost : Int) (us : List Row) : F36 N T C sw ins c0 prio per dl off cost us = some (.r (tkOk C c0 prio per dl off cost us)) := by
  obtain ⟨M, rfl⟩ : ∃ M, N = M + 2 := ⟨N - 2, by omega⟩
  have hJ : J36a6 (M + 1) c0 prio per dl off cost us = match numOk c0 prio per dl off cost with | true => some (.nx c0 prio per dl off cost us) | false => some (.ret false c0 prio per dl off cost us) := by
    unfold J36a6 numOk
    simp only [F35_eq]
    cases decide (c0 < 0) <;> cases decide (prio < 0) <;> cases decide (31 < prio) <;> cases inR per 1 2147483647 <;> cases inR dl 1 per <;> cases inR off 0 2147483647 <;> cases inR cost 1 1073741824 <;> rfl
  show (match J36a6 (M + 1) c0 prio per dl off cost us with | none => (none : Option R36) | some (.nx a b c d e f g) => _ | some (.ret x _ _ _ _ _ _ _) => some (.r x)) = _
  rw [hJ]
  unfold tkOk
  cases numOk c0 prio per dl off cost with
  | false => rfl
  | true =>
    simp only [Bool.true_and]
    have := L36_gen M T C hC sw ins c0 prio per dl off cost us (M + 1) us.length 0 (-1) (by omega) (by omega) (by omega) (by omega) (by omega)
    rw [show ((0 : Nat) : Int) = (0 : Int) from rfl] at this
    rw [this]
    cases useF C cost prio us 0 us.length (-1) <;> rfl
theorem L14_gen {T C : List Row} (hT : T.length ≤ 40) (hC : C.length ≤ 40) (N : Nat) (hN : 1200 ≤ N) (sw ins : Int) : ∀ (k n i : Nat), i + k = T.length → k < n → L14a122 N n i T C sw ins = match allF (fun i => tk T C i && dist T i) i k with | true => some (.x2 T C sw ins) | false => some (.ret false T C sw ins)
  | 0, n + 1, i, h, _ => by
    show (match decide ((i : Int) < (T.length : Int)) with | true => _ | false => _) = _
    rw [dge (show T.length ≤ i by omega)]; rfl
  | k + 1, n + 1, i, h, hn => by
    show (match decide ((i : Int) < (T.length : Int)) with | true => _ | false => _) = _
    simp only [dlt (show i < T.length by omega), dz, Bool.and_self, tst, ← cI.eq_1, ← cL.eq_1]
    rw [F36_gen (by omega) T C hC, wrap_succ (by omega)]
    unfold allF
    rw [show tkOk C (cI T i 0) (cI T i 1) (cI T i 2) (cI T i 3) (cI T i 4) (cI T i 5) (cL T i 6) = tk T C i from rfl]
    cases tk T C i with
    | false => rfl
    | true =>
      simp only [Bool.not_true, Bool.true_and]
      have hd := L14d_all N T C sw ins (by omega) i (by omega) i N 0 (by omega) (by omega)
      rw [show ((0 : Nat) : Int) = (0 : Int) from rfl] at hd
      rw [hd, show allF (fun k => !(cI T k 0 == cI T i 0)) 0 i = dist T i from rfl]
      cases dist T i with
      | false => rfl
      | true => exact L14_gen hT hC N hN sw ins k n (i + 1) (by omega) (by omega)
  | _, 0, _, _, h => by omega
theorem F14_gen (T C : List Row) {N : Nat} (hN : 1300 ≤ N) (sw ins : Int) : F14 N T C sw ins = some (.r (may T C sw ins)) := by
  obtain ⟨M, rfl⟩ : ∃ M, N = M + 2 := ⟨N - 2, by omega⟩
  show (match J14a6 (M + 1) T C sw ins with | none => (none : Option R14) | some (.nx _ _ _ _) => _ | some (.ret x _ _ _ _) => some (.r x)) = _
  rw [J14_eq]
  unfold may
  cases hh : head T C sw ins with
  | false => rfl
  | true =>
    obtain ⟨h1, h2, _⟩ := head_iff.1 hh
    simp only [Bool.true_and]
    have hc := L14c_all (M + 1) T C sw ins (by omega) C.length (M + 1) 0 (by omega) (by omega)
    have ht := L14_gen (T := T) (C := C) (by omega) (by omega) (M + 1) (by omega) sw ins T.length (M + 1) 0 (by omega) (by omega)
    rw [show ((0 : Nat) : Int) = (0 : Int) from rfl] at hc ht
    unfold J14a14
    rw [hc]
    cases allF (ceilOk C) 0 C.length with
    | false => rfl
    | true =>
      simp only [Bool.true_and]
      rw [ht]
      cases allF (fun i => tk T C i && dist T i) 0 T.length <;> rfl
theorem useF_len {C : List Row} {cost prio : Int} {us : List Row} : ∀ {k i : Nat} {last : Int}, last ≤ C.length → useF C cost prio us i k last = true → (k : Int) + last ≤ C.length
  | 0, i, last, hl, _ => by omega
  | k + 1, i, last, hl, h => by
    simp only [useF, Bool.and_eq_true, Bool.not_eq_true', decide_eq_false_iff_not, inR_iff] at h
    obtain ⟨a1, a2, a3, a4, a5⟩ := h
    have := useF_len (by omega) a5
    omega
structure SimF (T : List Row) : Prop where
  off : ∀ k, k < T.length → 0 ≤ cI T k 4
theorem may_small {T C : List Row} {sw ins : Int} (h : may T C sw ins = true) : Small T C ∧ SimF T := by
  obtain ⟨h1, h2, h3⟩ := may_iff.1 h
  obtain ⟨h4, h5, _⟩ := head_iff.1 h1
  have ht : ∀ i, i < T.length → numOk (cI T i 0) (cI T i 1) (cI T i 2) (cI T i 3) (cI T i 4) (cI T i 5) = true ∧ useF C (cI T i 5) (cI T i 1) (cL T i 6) 0 (cL T i 6).length (-1) = true := fun i hi => by
    have := (h3 i hi).1
    simpa only [tk, tkOk, Bool.and_eq_true] using this
  refine ⟨⟨by omega, by omega, fun i hi => ?_⟩, ⟨fun i hi => ?_⟩⟩
  · have := useF_len (by omega) (ht i hi).2
    omega
  · exact (numOk_iff.1 (ht i hi).1).2.2.2.2.2.1.1
theorem imax_eq (a b : Int) : Eng.imax a b = max a b := by unfold Eng.imax; split <;> omega
theorem L37_all (N : Nat) (T C us : List Row) (hu : us.length ≤ 40) (hp : ∀ j : Nat, j < us.length → 0 ≤ cI us j 0 ∧ cI us j 0 < C.length ∧ 1 ≤ cI us j 1 ∧ cI us j 1 ≤ 1073741824) (rel did need : Int) : ∀ (k n i : Nat) (p at' : Int), i + k = us.length → k < n → 0 ≤ at' → at' ≤ 1000 + 1073741824 * i →
    L37a250 N n p at' us us.length i T C 0 1 rel did need = some (.x0 (actU C us did i k p at') T C 0 1 rel did need)
  | 0, n + 1, i, p, at', h, _, _, _ => by
    show (match decide ((i : Int) < (us.length : Int)) with | true => _ | false => _) = _
    rw [dge (show us.length ≤ i by omega)]; rfl
  | k + 1, n + 1, i, p, at', h, hn, h0, h1 => by
    obtain ⟨a1, a2, a3, a4⟩ := hp i (by omega)
    have e1 : decide ((0 : Int) ≤ cI us i 0) = true := decide_eq_true a1
    have e2 : decide (cI us i 0 < (C.length : Int)) = true := decide_eq_true a2
    have hw : IntKind.wrap .i64 (at' + cI us i 1) = at' + cI us i 1 := wrap_id (by omega) (by omega)
    have ih := fun p => L37_all N T C us hu hp rel did need k n (i + 1) p (at' + cI us i 1) (by omega) (by omega) (by omega) (by omega)
    show (match decide ((i : Int) < (us.length : Int)) with | true => _ | false => _) = _
    simp only [dlt (show i < us.length by omega), dz, Bool.and_self, tst, ← cI.eq_1, J37a32050, hw, e1, e2, actU]
    by_cases c1 : at' < did
    · by_cases c2 : did < at' + cI us i 1
      · rw [decide_eq_true c1, decide_eq_true c2, if_pos ⟨c1, c2⟩, ← imax_eq]
        simp only [hw]
        rw [wrap_succ (by omega)]
        exact ih _
      · rw [decide_eq_true c1, decide_eq_false c2, if_neg (fun h => c2 h.2)]
        simp only [hw]
        rw [wrap_succ (by omega)]
        exact ih _
    · rw [decide_eq_false c1, if_neg (fun h => c1 h.1)]
      simp only [hw]
      rw [wrap_succ (by omega)]
      exact ih _
  | _, 0, _, _, _, _, h, _, _ => by omega
theorem F37_eq {T C H : List Row} (hS : Small T C) (hM : MayF T C 0 1) {N : Nat} (hN : 100 ≤ N) {k : Nat} (hk : k < T.length) (hb : 0 ≤ beg H k ∧ beg H k ≤ 255) (j : J) (hn : 1 ≤ j.need) :
    F37 N T C 0 1 k j.rel j.did j.need (beg H k) = some (.r (act T C H k j)) := by
  obtain ⟨M, rfl⟩ : ∃ M, N = M + 1 := ⟨N - 1, by omega⟩
  have hu := hS.u k hk
  have e1 : (!(j.need == 0)) = true := by simp; omega
  have h1 := Int.tmod_nonneg j.need hb.1
  have h2 : Int.tmod (beg H k) j.need ≤ 255 := by
    rw [Int.tmod_eq_emod_of_nonneg hb.1]
    have h3 := Int.emod_add_mul_ediv (beg H k) j.need
    have h4 := Int.mul_nonneg (show 0 ≤ j.need by omega) (Int.ediv_nonneg hb.1 (show 0 ≤ j.need by omega))
    omega
  have := L37_all M T C (cL T k 6) hu (fun q hq => (hM.task k hk).use q hq) j.rel j.did j.need (cL T k 6).length M 0 (cI T k 1) (Int.tmod (beg H k) j.need) (by omega) (by omega) h1 (by omega)
  rw [show ((0 : Nat) : Int) = (0 : Int) from rfl] at this
  show (match decide ((0 : Int) ≤ (k : Int)) && decide ((k : Int) < (T.length : Int)) with | true => _ | false => _) = _
  simp only [dz, dlt hk, Bool.and_self, tst, ← cI.eq_1, ← cL.eq_1, e1, this]
  rfl
def encJ (j : J) : Row := [.int .i64 j.rel, .int .i64 j.did, .int .i64 j.need]
def fzs (rs : List (List J)) : List Row := rs.map fun l => [AV.list 44 (l.map encJ)]
theorem fzs_rows {rs : List (List J)} {k : Nat} (hk : k < rs.length) : (((fzs rs).getD k []).getD 0 .top).rows = (rs.getD k []).map encJ := by
  simp [fzs, List.getD, List.getElem?_map, List.getElem?_eq_getElem hk, AV.rows]
theorem fzs_length (rs : List (List J)) : (fzs rs).length = rs.length := by simp [fzs]
def Inv16 (T C H : List Row) (rs : List (List J)) (i : Nat) (b top : Int) : Prop :=
  (b = -1 ∧ top = -1 ∧ ∀ k, k < i → rs.getD k [] = []) ∨ ∃ e : Nat, b = e ∧ e < T.length ∧ ∃ j l, rs.getD e [] = j :: l ∧ top = act T C H e j ∧ ∀ k, k < i → ∀ j' l', rs.getD k [] = j' :: l' → act T C H k j' ≤ act T C H e j
theorem act_nonneg {T C H : List Row} (hM : MayF T C 0 1) {k : Nat} (hk : k < T.length) (j : J) : 0 ≤ act T C H k j := Int.le_trans (hM.task k hk).p0 (actU_ge _ _ _ _)
theorem J16_ok (N : Nat) {T C H : List Row} (hM : MayF T C 0 1) {rs : List (List J)} (hl : rs.length = T.length) (prev : Int) {i : Nat} (hi : i < T.length) {b top : Int} (hv : Inv16 T C H rs i b top) {j : J} {l : List J} (hj : rs.getD i [] = j :: l) :
    ∃ c, J16a29902 N (fzs rs) prev b top i (act T C H i j) = some (.nx c) ∧ Inv16 T C H rs (i + 1) (match c with | true => (i : Int) | false => b) (match c with | true => act T C H i j | false => top) := by
  have hnn := act_nonneg (H := H) hM hi j
  have hyes : top ≤ act T C H i j → Inv16 T C H rs (i + 1) (i : Int) (act T C H i j) := fun ht => by
    refine .inr ⟨i, rfl, hi, j, l, hj, rfl, fun k hk j' l' hr => ?_⟩
    by_cases hki : k = i
    · subst hki
      rw [hj] at hr
      injection hr with e1 e2
      subst e1
      exact Int.le_refl _
    · rcases hv with ⟨_, _, h⟩ | ⟨e, _, _, je, le, _, h1, h⟩
      · rw [h k (by omega)] at hr; cases hr
      · have := h k (by omega) j' l' hr; omega
  have hno : act T C H i j ≤ top → Inv16 T C H rs (i + 1) b top := fun ht => by
    rcases hv with ⟨_, h1, h⟩ | ⟨e, hb, he, je, le, h2, h1, h⟩
    · omega
    · refine .inr ⟨e, hb, he, je, le, h2, h1, fun k hk j' l' hr => ?_⟩
      by_cases hki : k = i
      · subst hki
        rw [hj] at hr
        injection hr with e1 e2
        subst e1
        omega
      · exact h k (by omega) j' l' hr
  unfold J16a29902
  by_cases h1 : top < act T C H i j
  · rw [decide_eq_true h1]
    exact ⟨true, rfl, hyes (by omega)⟩
  · rw [decide_eq_false h1]
    by_cases h2 : act T C H i j = top
    · rw [h2, beq_self_eq_true]
      cases h3 : ((i : Int) == prev) with
      | true => exact ⟨true, rfl, by rw [← h2]; exact hyes (by omega)⟩
      | false =>
        cases h4 : b != prev with
        | false => exact ⟨false, rfl, hno (by omega)⟩
        | true =>
          rcases hv with ⟨_, h5, _⟩ | ⟨e, rfl, he, je, le, h6, _, _⟩
          · omega
          · have er : e < rs.length := by omega
            have ir : i < rs.length := by omega
            have e1 : decide ((0 : Int) < (((j :: l).map encJ).length : Int)) = true := decide_eq_true (by simp)
            have e2 : decide ((0 : Int) < (((je :: le).map encJ).length : Int)) = true := decide_eq_true (by simp)
            simp only [fzs_length, dz, dlt er, dlt ir, Bool.and_self, tst, Int.toNat_natCast, fzs_rows er, fzs_rows ir, hj, h6, e1, e2]
            refine ⟨_, rfl, ?_⟩
            split
            · rw [← h2]; exact hyes (by omega)
            · exact hno (by omega)
    · have h3 : (act T C H i j == top) = false := by simpa using h2
      rw [h3]
      exact ⟨false, rfl, hno (by omega)⟩
theorem L16_all {N : Nat} (hN : 100 ≤ N) {T C H : List Row} (hS : Small T C) (hM : MayF T C 0 1) (hH : T.length ≤ H.length) (hb : ∀ k, k < T.length → 0 ≤ beg H k ∧ beg H k ≤ 255) {rs : List (List J)} (hl : rs.length = T.length) (hn : ∀ k, k < T.length → ∀ j ∈ rs.getD k [], 1 ≤ j.need) (prev : Int) :
    ∀ (k n i : Nat) (b top : Int), i + k = T.length → k < n → Inv16 T C H rs i b top → ∃ b', L16a58 N n (fzs rs) H prev b top T.length i T C 0 1 = some (.x0 b' T C 0 1) ∧ Picked T C H rs b'
  | 0, n + 1, i, b, top, h, _, hv => by
    refine ⟨b, ?_, ?_⟩
    · show (match decide ((i : Int) < (T.length : Int)) with | true => _ | false => _) = _
      rw [dge (show T.length ≤ i by omega)]
    · have : i = T.length := by omega
      subst this
      rcases hv with ⟨h1, _, h2⟩ | ⟨e, h1, h2, j, l, h3, _, h4⟩
      · exact .inl ⟨h1, h2⟩
      · exact .inr ⟨e, h1, h2, j, l, h3, h4⟩
  | k + 1, n + 1, i, b, top, h, hk, hv => by
    have hi : i < T.length := by omega
    have ir : i < rs.length := by omega
    have ih := fun b top => L16_all hN hS hM hH hb hl hn prev k n (i + 1) b top (by omega) (by omega)
    have hT := hS.t
    cases hr : rs.getD i [] with
    | nil =>
      obtain ⟨b', h1, h2⟩ := ih b top (by
        rcases hv with ⟨h1, h3, h2⟩ | ⟨e, h1, h2, j, l, h3, h5, h4⟩
        · refine .inl ⟨h1, h3, fun k hk => ?_⟩
          by_cases hki : k = i
          · subst hki; exact hr
          · exact h2 k (by omega)
        · refine .inr ⟨e, h1, h2, j, l, h3, h5, fun k hk j' l' hr' => ?_⟩
          by_cases hki : k = i
          · subst hki; rw [hr] at hr'; cases hr'
          · exact h4 k (by omega) j' l' hr')
      refine ⟨b', ?_, h2⟩
      show (match decide ((i : Int) < (T.length : Int)) with | true => _ | false => _) = _
      simp only [fzs_length, dlt hi, dlt ir, dz, Bool.and_self, tst, Int.toNat_natCast, fzs_rows ir, hr]
      rw [wrap_succ (by omega)]
      exact h1
    | cons j l =>
      have e1 : ((((j :: l).map encJ).length : Int) == 0) = false := by simp; omega
      have e2 : decide ((0 : Int) < (((j :: l).map encJ).length : Int)) = true := decide_eq_true (by simp)
      have hF := F37_eq (H := H) hS hM hN hi (hb i hi) j (hn i hi j (by rw [hr]; exact List.mem_cons_self))
      have hw : IntKind.wrap .i64 (cI H i 1) = beg H i := wrap_id (by have := (hb i hi).1; unfold beg at this; omega) (by have := (hb i hi).2; unfold beg at this; omega)
      obtain ⟨c, h1, h2⟩ := J16_ok N (H := H) hM hl prev hi hv hr
      obtain ⟨b', h3, h4⟩ := ih _ _ h2
      refine ⟨b', ?_, h4⟩
      show (match decide ((i : Int) < (T.length : Int)) with | true => _ | false => _) = _
      simp only [fzs_length, dlt hi, dlt ir, dlt (show i < H.length by omega), dz, Bool.and_self, tst, Int.toNat_natCast, fzs_rows ir, hr, e1, e2]
      rw [show IntKind.wrap .i64 (((H.getD i []).getD 1 .top).toI) = beg H i from hw]
      rw [show F37 N T C 0 1 (i : Int) ((((((j :: l).map encJ).getD 0 [])).getD 0 .top).toI) ((((((j :: l).map encJ).getD 0 [])).getD 1 .top).toI) ((((((j :: l).map encJ).getD 0 [])).getD 2 .top).toI) (beg H i) = _ from hF]
      simp only [h1]
      rw [wrap_succ (by omega)]
      cases c <;> exact h3
  | _, 0, _, _, _, _, h, _ => by omega
theorem F16_eq {N : Nat} (hN : 200 ≤ N) {T C H : List Row} (hS : Small T C) (hM : MayF T C 0 1) (hH : T.length ≤ H.length) (hb : ∀ k, k < T.length → 0 ≤ beg H k ∧ beg H k ≤ 255) {rs : List (List J)} (hl : rs.length = T.length) (hn : ∀ k, k < T.length → ∀ j ∈ rs.getD k [], 1 ≤ j.need) (prev : Int) :
    ∃ b', F16 N T C 0 1 (fzs rs) H prev = some (.r b') ∧ Picked T C H rs b' := by
  obtain ⟨M, rfl⟩ : ∃ M, N = M + 1 := ⟨N - 1, by omega⟩
  have hT := hS.t
  obtain ⟨b', h1, h2⟩ := L16_all (show 100 ≤ M by omega) hS hM hH hb hl hn prev T.length M 0 (-1) (-1) (by omega) (by omega) (.inl ⟨rfl, rfl, fun k hk => by omega⟩)
  rw [show ((0 : Nat) : Int) = (0 : Int) from rfl] at h1
  refine ⟨b', ?_, h2⟩
  show (match L16a58 M M (fzs rs) H prev (-1) (-1) (T.length : Int) 0 T C 0 1 with | none => (none : Option R16) | some (.x0 x _ _ _ _) => some (.r x)) = _
  rw [h1]
end Go.Proofs.Ytbgdiljnmifakaa

namespace Go.Proofs.Ytbgdiljnmifakaa
open Go Go.Eng
theorem F2_eq {T C : List Row} {sw ins : Int} (hS : Small T C) (hM : MayF T C sw ins) {N : Nat} (hN : 2147490000 ≤ N) (t : Nat) (ht : t < T.length) :
    ∃ v b, Res T sw t (cI T t 5 + blk T C ins t) (cI T t 3) v b ∧ F29 N T C sw ins t = some (.r v b) ∧ F27 N T C sw ins t = some (.r v b) := by
  obtain ⟨M, rfl⟩ : ∃ M, N = M + 1 := ⟨N - 1, by omega⟩
  have hf := hM.task t ht
  have c0 := hf.cost0
  have c1 := hf.cost1
  have d0 := hf.dl0
  have d1 := hf.dl1
  have p1 := hf.per1
  have hb := blk_bounds hM t
  have hw : IntKind.wrap .i64 (cI T t 5 + blk T C ins t) = cI T t 5 + blk T C ins t := wrap_id (by omega) (by omega)
  obtain ⟨v, b, h1, h2, h3⟩ := L2_all hM M (by omega) t ht (least := cI T t 5 + blk T C ins t) (dl := cI T t 3) (by omega) (by omega) (by omega) (by omega) (cI T t 0) (cI T t 1) (cI T t 2) (cI T t 4) (cI T t 5) (cL T t 6) M (cI T t 5 + blk T C ins t) (by omega) (by omega) (by omega)
    (fun h => by have := dem_nonneg hM t (r := cI T t 5 + blk T C ins t) (by omega) (by omega); omega) (fun x h1 h2 => by omega)
  refine ⟨v, b, h1, ?_, ?_⟩
  · show (tst (decide ((0 : Int) ≤ (t : Int)) && decide ((t : Int) < (T.length : Int))) <| _) = _
    simp only [dlt ht, dz, Bool.and_self, tst, ← cI.eq_1, ← cL.eq_1]
    rw [F30_eq hS hM (by omega) t ht]
    simp only [hw]
    rcases h2 with h2 | ⟨rfl, rfl, h2⟩
    · rw [h2]
    · rw [h2]
  · show (tst (decide ((0 : Int) ≤ (t : Int)) && decide ((t : Int) < (T.length : Int))) <| _) = _
    simp only [dlt ht, dz, Bool.and_self, tst, ← cI.eq_1, ← cL.eq_1]
    rw [F28_eq hS hM (by omega) t ht]
    simp only [hw]
    rcases h3 with h3 | ⟨rfl, rfl, h3⟩
    · rw [h3]
    · rw [h3]
end Go.Proofs.Ytbgdiljnmifakaa

namespace Go.Proofs.Ytbgdiljnmifakaa
open Go Go.Eng
theorem works_true : F10 4294967295 = some (.r true) := by kernel_rfl
end Go.Proofs.Ytbgdiljnmifakaa

namespace Go.Proofs.Ytbgdiljnmifakaa
open Go Go.Eng
end Go.Proofs.Ytbgdiljnmifakaa

namespace Go.Proofs.Ytbgdiljnmifakaa
open Go Go.Eng
def aRow (T C : List Row) (ins : Int) (i : Nat) (v : Int) (m : Bool) : Row := [.int .i64 (cI T i 0), .int .i64 (blk T C ins i), .int .i64 v, .bool m]
theorem L1112_all {T C : List Row} {sw ins : Int} (hS : Small T C) (hM : MayF T C sw ins) {N : Nat} (hN : 2147490000 ≤ N) : ∀ (k n i : Nat) (acc : List Row), i + k = T.length → k < n → acc.length = i →
    ∃ b, L11a122 N n T T.length i T C sw ins acc = some (.x0 T C sw ins b) ∧ L12a122 N n i T C sw ins acc = some (.x0 T C sw ins b) ∧ b.length = T.length ∧ (∀ j, j < i → b[j]? = acc[j]?) ∧
      ∀ j, i ≤ j → j < T.length → ∃ v m, b[j]? = some (aRow T C ins j v m) ∧ Res T sw j (cI T j 5 + blk T C ins j) (cI T j 3) v m
  | 0, n + 1, i, acc, h, _, ha => by
    refine ⟨acc, ?_, ?_, by omega, fun _ _ => rfl, fun j h1 h2 => by omega⟩
    · show (match decide ((i : Int) < (T.length : Int)) with | true => _ | false => _) = _
      rw [dge (show T.length ≤ i by omega)]
    · show (match decide ((i : Int) < (T.length : Int)) with | true => _ | false => _) = _
      rw [dge (show T.length ≤ i by omega)]
  | k + 1, n + 1, i, acc, h, hn, ha => by
    have hl := hM.t
    have hi : i < T.length := by omega
    obtain ⟨v, m, hres, h29, h27⟩ := F2_eq hS hM hN i hi
    have e4 : decide ((acc.length + ([[.int .i64 (cI T i 0), .int .i64 (blk T C ins i), .int .i64 v, .bool m]] : List Row).length) * 32 ≤ 140737488355328) = true := decide_eq_true (by simp; omega)
    obtain ⟨b, h1, h2, h3, h4, h5⟩ := L1112_all hS hM hN k n (i + 1) (acc ++ [[.int .i64 (cI T i 0), .int .i64 (blk T C ins i), .int .i64 v, .bool m]]) (by omega) (by omega) (by simp; omega)
    refine ⟨b, ?_, ?_, h3, fun j hj => ?_, fun j hj1 hj2 => ?_⟩
    · show (match decide ((i : Int) < (T.length : Int)) with | true => _ | false => _) = _
      simp only [dlt hi, dz, Bool.and_self, tst, ← cI.eq_1, h27, F28_eq hS hM (show 3000 ≤ N by omega) i hi, e4]
      rw [wrap_succ (by omega)]
      exact h1
    · show (match decide ((i : Int) < (T.length : Int)) with | true => _ | false => _) = _
      simp only [dlt hi, dz, Bool.and_self, tst, ← cI.eq_1, h29, F30_eq hS hM (show 200 ≤ N by omega) i hi, e4]
      rw [wrap_succ (by omega)]
      exact h2
    · rw [h4 j (by omega), List.getElem?_append_left (by omega)]
    · by_cases e : j = i
      · subst e
        refine ⟨v, m, ?_, hres⟩
        rw [h4 j (by omega), List.getElem?_append_right (by omega), ha, Nat.sub_self]
        rfl
      · exact h5 j (by omega) hj2
  | _, 0, _, _, _, h, _ => by omega
theorem F11_rows {T C : List Row} {sw ins : Int} (hS : Small T C) {N : Nat} (hN : 2147490001 ≤ N) (hm : may T C sw ins = true) : ∃ b, F11 N T C sw ins = some (.r 0 b) ∧ b.length = T.length ∧
    ∀ j, j < T.length → ∃ v m, b[j]? = some (aRow T C ins j v m) ∧ Res T sw j (cI T j 5 + blk T C ins j) (cI T j 3) v m := by
  obtain ⟨M, rfl⟩ : ∃ M, N = M + 1 := ⟨N - 1, by omega⟩
  have hM := may_f hm
  have hT := hS.t
  obtain ⟨b, h1, _, h3, _, h5⟩ := L1112_all hS hM (show 2147490000 ≤ M by omega) T.length M 0 [] (by omega) (by omega) (by simp)
  rw [show ((0 : Nat) : Int) = (0 : Int) from rfl] at h1
  refine ⟨b, ?_, h3, fun j hj => h5 j (by omega) hj⟩
  show (match F13 M T C sw ins with | none => none | some (.r x) => _) = _
  rw [F13_eq hS (by omega), hm]
  simp only [Bool.not_true, h1]
end Go.Proofs.Ytbgdiljnmifakaa

namespace Go.Proofs.Ytbgdiljnmifakaa
open Go Go.Eng
def encR (l : List J) : Row := [AV.sub 44 (l.map encJ)]
def enc (rs : List (List J)) : List Row := rs.map encR
theorem getD_at {rs : List (List J)} {k : Nat} (hk : k < rs.length) : rs.getD k [] = rs[k] := by simp [List.getD, List.getElem?_eq_getElem hk]
theorem enc_get {rs : List (List J)} {k : Nat} (hk : k < rs.length) : (enc rs).getD k [] = encR (rs.getD k []) := by
  simp [enc, List.getD, List.getElem?_map, List.getElem?_eq_getElem hk]
theorem enc_length (rs : List (List J)) : (enc rs).length = rs.length := by simp [enc]
theorem enc_set (rs : List (List J)) (k : Nat) (l : List J) : (enc rs).set k (encR l) = enc (rs.set k l) := by simp [enc, List.map_set]
theorem enc_froz (rs : List (List J)) : (enc rs).map (fun r => r.map Eng.AV.froz) = fzs rs := by simp [enc, fzs, encR, AV.froz]
structure HowF (T H : List Row) : Prop where
  len : T.length ≤ H.length
  n : ∀ k, k < T.length → 0 ≤ cI H k 0 ∧ cI H k 0 ≤ 255
  b : ∀ k, k < T.length → 0 ≤ beg H k ∧ beg H k ≤ 255
theorem L4a_all (N : Nat) {T C H : List Row} (hM : MayF T C 0 1) (hO : SimF T) (hH : HowF T H) {now : Int} (h0 : 0 ≤ now) (h1 : now ≤ 1000) : ∀ (k n i : Nat) (rs : List (List J)), i + k = T.length → k < n → rs.length = T.length → (∀ j, i ≤ j → j < T.length → (rs.getD j []).length ≤ 1000) →
    ∃ rs', L4a523554 N n H now T T.length i (enc rs) = some (.x4 (enc rs')) ∧ rs'.length = T.length ∧ ∀ j, j < T.length → rs'.getD j [] = if i ≤ j then arr T H now j (rs.getD j []) else rs.getD j []
  | 0, n + 1, i, rs, h, _, hl, _ => by
    refine ⟨rs, ?_, hl, fun j hj => by rw [if_neg (by omega)]⟩
    show (match decide ((i : Int) < (T.length : Int)) with | true => _ | false => _) = _
    rw [dge (show T.length ≤ i by omega)]
  | k + 1, n + 1, i, rs, h, hn, hl, hs => by
    have hi : i < T.length := by omega
    have ir : i < rs.length := by omega
    have f := hM.task i hi
    have ho := hO.off i hi
    have hT := hM.t
    have hN0 := hH.n i hi
    have hHl := hH.len
    have hper := f.per0
    have hskip : arr T H now i (rs.getD i []) = rs.getD i [] → ∃ rs', L4a523554 N n H now T T.length ((i + 1 : Nat) : Int) (enc rs) = some (.x4 (enc rs')) ∧ rs'.length = T.length ∧ ∀ j, j < T.length → rs'.getD j [] = if i ≤ j then arr T H now j (rs.getD j []) else rs.getD j [] := fun hx => by
      obtain ⟨rs', e1, e2, e3⟩ := L4a_all N hM hO hH h0 h1 k n (i + 1) rs (by omega) (by omega) hl fun j hj => hs j (by omega)
      refine ⟨rs', e1, e2, fun j hj => ?_⟩
      rw [e3 j hj]
      by_cases hji : j = i
      · subst hji; rw [if_neg (by omega), if_pos (Nat.le_refl _), hx]
      · by_cases hij : i ≤ j
        · rw [if_pos hij, if_pos (by omega)]
        · rw [if_neg hij, if_neg (by omega)]
    have e : L4a523554 N (n + 1) H now T T.length i (enc rs) = match decide (cI T i 4 ≤ now) with
        | true => tst (!(cI T i 2 == 0)) <| match Int.tmod (IntKind.wrap .i64 (now - cI T i 4)) (cI T i 2) == 0 with
          | true => tst (!(cI T i 5 == 0)) <| tst (decide ((((rs.getD i []).map encJ).length + 1) * 24 ≤ 140737488355328)) <|
            L4a523554 N n H now T T.length ((i + 1 : Nat) : Int) ((enc rs).set i ((encR (rs.getD i [])).set 0 (.sub 44 ((rs.getD i []).map encJ ++ [[.int .i64 now, .int .i64 0, .int .i64 (IntKind.wrap .i64 (1 + Int.tmod (IntKind.wrap .i64 (cI H i 0)) (cI T i 5)))]]))))
          | false => L4a523554 N n H now T T.length ((i + 1 : Nat) : Int) (enc rs)
        | false => L4a523554 N n H now T T.length ((i + 1 : Nat) : Int) (enc rs) := by
      have hbeq : Nat.beq i i = true := by simp
      have her : (((encR (rs.getD i [])).getD 0 .top).rows) = (rs.getD i []).map encJ := rfl
      have hes : (((encR (rs.getD i [])).getD 0 .top).isSub) = true := rfl
      show (match decide ((i : Int) < (T.length : Int)) with | true => _ | false => _) = _
      simp only [dlt hi, dz, Bool.and_self, ← cI.eq_1, Int.toNat_natCast, enc_get ir, enc_length, decide_eq_true ir, dlt ir, dlt (show i < H.length by omega), hbeq, her, hes, Bool.and_true, Bool.true_and]
      rw [wrap_succ (by omega)]
      simp only [tst]
      rfl
    rw [e]
    by_cases c1 : cI T i 4 ≤ now
    · have hw : IntKind.wrap .i64 (now - cI T i 4) = now - cI T i 4 := wrap_id (by omega) (by omega)
      have hm : Int.tmod (now - cI T i 4) (cI T i 2) = (now - cI T i 4) % cI T i 2 := Int.tmod_eq_emod_of_nonneg (by omega)
      have e2 : (!(cI T i 2 == 0)) = true := by simp; omega
      rw [decide_eq_true c1, e2, hw, hm]
      by_cases c2 : (now - cI T i 4) % cI T i 2 = 0
      · have hc := f.cost0
        have e3 : (!(cI T i 5 == 0)) = true := by simp; omega
        have hsz := hs i (Nat.le_refl _) hi
        have e4 : decide ((((rs.getD i []).map encJ).length + 1) * 24 ≤ 140737488355328) = true := decide_eq_true (by rw [List.length_map]; omega)
        obtain ⟨b1, b2⟩ := ndd_bounds (H := H) hM hi hN0.1
        have hc1 := f.cost1
        have e5 : IntKind.wrap .i64 (1 + Int.tmod (IntKind.wrap .i64 (cI H i 0)) (cI T i 5)) = ndd T H i := by
          rw [wrap_id (n := cI H i 0) (by omega) (by omega)]
          exact wrap_id (by unfold ndd at b1; omega) (by unfold ndd at b2; omega)
        have harr : arr T H now i (rs.getD i []) = rs.getD i [] ++ [⟨now, 0, ndd T H i⟩] := by unfold arr; rw [if_pos ⟨c1, c2⟩]
        have hes : (enc rs).set i ((encR (rs.getD i [])).set 0 (.sub 44 ((rs.getD i []).map encJ ++ [[.int .i64 now, .int .i64 0, .int .i64 (ndd T H i)]]))) = enc (rs.set i (arr T H now i (rs.getD i []))) := by
          rw [harr, ← enc_set]
          simp [encR, encJ]
        rw [c2, e3, e4, e5, hes]
        have hg := getD_set ir (arr T H now i (rs.getD i []))
        obtain ⟨rs', q1, q2, q3⟩ := L4a_all N hM hO hH h0 h1 k n (i + 1) (rs.set i (arr T H now i (rs.getD i []))) (by omega) (by omega) (by simpa using hl) (fun j hj0 hj => by
          rw [hg, if_neg (by omega)]
          exact hs j (by omega) hj)
        refine ⟨rs', q1, q2, fun j hj => ?_⟩
        rw [q3 j hj, hg]
        by_cases hji : j = i
        · subst hji; rw [if_neg (by omega), if_pos (Nat.le_refl _), if_pos rfl]
        · rw [if_neg hji]
          by_cases hij : i ≤ j
          · rw [if_pos hij, if_pos (by omega)]
          · rw [if_neg hij, if_neg (by omega)]
      · have e3 : ((now - cI T i 4) % cI T i 2 == 0) = false := by simpa using c2
        rw [e3]
        exact hskip (by unfold arr; rw [if_neg fun h => c2 h.2])
    · rw [decide_eq_false c1]
      exact hskip (by unfold arr; rw [if_neg fun h => c1 h.1])
  | _, 0, _, _, _, h, _, _ => by omega
theorem J4r_eq {N : Nat} (hN : 100 ≤ N) {T C H : List Row} (hM : MayF T C 0 1) (hO : SimF T) (hH : HowF T H) {now : Int} (h0 : 0 ≤ now) (h1 : now ≤ 1000) {rs : List (List J)} (hG : Good T now rs) :
    ∃ rs', J4a130888 N H now T C 0 1 (enc rs) = some (.nx T C 0 1 (enc rs')) ∧ rs'.length = T.length ∧ ∀ j, j < T.length → rs'.getD j [] = arr T H now j (rs.getD j []) := by
  have hT := hM.t
  obtain ⟨rs', e1, e2, e3⟩ := L4a_all N (C := C) hM hO hH h0 h1 T.length N 0 rs (by omega) (by omega) hG.len fun j _ hj => by have := hG.size j hj; omega
  rw [show ((0 : Nat) : Int) = (0 : Int) from rfl] at e1
  refine ⟨rs', ?_, e2, fun j hj => by rw [e3 j hj, if_pos (Nat.zero_le _)]⟩
  unfold J4a130888
  rw [e1]
structure AllF (T C b : List Row) : Prop where
  len : b.length = T.length
  row : ∀ j, j < T.length → ∃ v m, b.getD j [] = aRow T C 1 j v m ∧ (m = true → Met T C j v)
theorem L4m_all {N : Nat} (hN : 300 ≤ N) {T C H b : List Row} (hS : Small T C) (hM : MayF T C 0 1) (hO : SimF T) (hH : HowF T H) (hA : AllF T C b) : ∀ (d n : Nat) (now prev : Int) (rs : List (List J)), now + d = 500 → d < n → 0 ≤ now → Good T now rs → (∀ t R, Met T C t R → Kv T C H t R now rs ∧ pF T C H t rs ≤ blk T C 1 t) →
    ∃ rs', L4a4090 N n H prev now T C 0 1 b (enc rs) = some (.x2 T C 0 1 b (enc rs')) ∧ Good T 500 rs' ∧ ∀ t R, Met T C t R → Kv T C H t R 500 rs'
  | 0, n + 1, now, prev, rs, h, _, _, hG, hK => by
    have : now = 500 := by omega
    subst this
    exact ⟨rs, rfl, hG, fun t R ht => (hK t R ht).1⟩
  | d + 1, n + 1, now, prev, rs, h, hn, h0, hG, hK => by
    have hT := hM.t
    have hnn : ∀ k, k < T.length → 0 ≤ cI H k 0 := fun k hk => (hH.n k hk).1
    have hbb : ∀ k, k < T.length → 0 ≤ beg H k := fun k hk => (hH.b k hk).1
    obtain ⟨rs1, e1, hl1, h1⟩ := J4r_eq (show 100 ≤ N by omega) (C := C) hM hO hH h0 (by omega) hG
    obtain ⟨g1, g2, g3⟩ := good_arr (C := C) (H := H) hM hnn h0 hG hl1 h1
    obtain ⟨p, e2, hp⟩ := F16_eq (show 200 ≤ N by omega) hS hM hH.len hH.b hl1 (fun k hk j hj => (g1 k hk j hj).1.n1) prev
    have hd : decide (now < 500) = true := decide_eq_true (by omega)
    have hw : IntKind.wrap .i64 (now + 1) = now + 1 := wrap_id (by omega) (by omega)
    have e3 : L4a4090 N (n + 1) H prev now T C 0 1 b (enc rs) = match decide (p < 0) with
        | true => L4a4090 N n H p (now + 1) T C 0 1 b (enc rs1)
        | false => L4a4090 N (n + 1) H prev now T C 0 1 b (enc rs) := by
      cases hpn : decide (p < 0) with
      | false => rfl
      | true =>
        show (match decide (now < 500) with | true => _ | false => _) = _
        simp only [hd, e1, enc_froz, e2, hpn, hw]
    rcases hp with ⟨hp, hemp⟩ | ⟨e, hp, he, j, l, hj, hpick⟩
    · subst hp
      rw [e3]
      exact L4m_all hN hS hM hO hH hA d n (now + 1) (-1) rs1 (by omega) (by omega) (by omega) (good_idle (C := C) hM hnn h0 hG hl1 h1) fun t R ht => step_idle hM hbb hnn ht.r1 h0 (hK t R ht).2 h1 hemp
    · subst hp
      have her : e < rs1.length := by omega
      have hjo := g1 e he j (by rw [hj]; exact List.mem_cons_self)
      have hc1 := (hM.task e he).cost1
      have hd2 := hjo.1.d2
      have hd1 := hjo.1.d1
      have hn2 := hjo.1.n2
      have hr1 := hjo.2.1
      have hr2 := hjo.2.2
      obtain ⟨v, m, hbe, hmet⟩ := hA.row e he
      have hbl : e < b.length := by rw [hA.len]; exact he
      have ih := fun pr => L4m_all hN hS hM hO hH hA d n (now + 1) pr (rs1.set e (worked j l)) (by omega) (by omega) (by omega) (good_work (C := C) hM hnn h0 hG hl1 h1 he hj) fun t R ht =>
        (have := step_work hM hbb hnn ht h0 hG (hK t R ht).1 (hK t R ht).2 hl1 h1 he hj hpick; ⟨this.1, this.2.1⟩)
      have hlate : m = true → ¬ v < now + 1 - j.rel := fun hm => by
        have ht := hmet hm
        have := (step_work hM hbb hnn ht h0 hG (hK e v ht).1 (hK e v ht).2 hl1 h1 he hj hpick).2.2 rfl
        omega
      have hset : ((j :: l).map encJ).set 0 (Eng.setAt (((j :: l).map encJ).getD 0 []) 1 [.int .i64 (IntKind.wrap .i64 ((((((j :: l).map encJ).getD 0 [])).getD 1 .top).toI + 1))]) = encJ ⟨j.rel, j.did + 1, j.need⟩ :: l.map encJ := by
        have hw2 : IntKind.wrap .i64 (j.did + 1) = j.did + 1 := wrap_id (by omega) (by omega)
        show [AV.int .i64 j.rel, .int .i64 (IntKind.wrap .i64 (j.did + 1)), .int .i64 j.need] :: l.map encJ = _
        rw [hw2]; rfl
      have hL : ∀ (x : Row) (ys : List Row), decide (0 < (x :: ys).length) = true := fun x ys => decide_eq_true (by simp)
      have hLI : ∀ (x : Row) (ys : List Row), decide ((0 : Int) < ((x :: ys).length : Int)) = true := fun x ys => decide_eq_true (by rw [List.length_cons]; omega)
      have hL1 : ∀ (x : Row) (ys : List Row), decide ((1 : Int) ≤ ((x :: ys).length : Int)) = true := fun x ys => decide_eq_true (by simp; omega)
      have hm0 : (j :: l).map encJ = encJ j :: l.map encJ := rfl
      have hbeq : Nat.beq e e = true := by simp
      have hle : ∀ a : Int, decide (a ≤ a) = true := fun a => decide_eq_true (Int.le_refl a)
      have hrow : ∀ l' : List J, ((encR l').getD 0 .top).rows = l'.map encJ := fun _ => rfl
      have hsub : ∀ l' : List J, ((encR l').getD 0 .top).isSub = true := fun _ => rfl
      have hneg : decide ((e : Int) < 0) = false := decide_eq_false (by omega)
      have hwl : IntKind.wrap .i64 (now + 1 - j.rel) = now + 1 - j.rel := wrap_id (by omega) (by omega)
      have e4 : L4a4090 N (n + 1) H prev now T C 0 1 b (enc rs) = match decide (j.did + 1 < j.need) with
          | true => L4a4090 N n H e (now + 1) T C 0 1 b ((enc rs1).set e ((encR (j :: l)).set 0 (.sub 44 (encJ ⟨j.rel, j.did + 1, j.need⟩ :: l.map encJ))))
          | false => match (generalizing := false) m with
            | true => (match decide (v < IntKind.wrap .i64 (now + 1 - j.rel)) with
              | true => some (.ret false T C 0 1 b ((enc rs1).set e ((encR (j :: l)).set 0 (.sub 44 (encJ ⟨j.rel, j.did + 1, j.need⟩ :: l.map encJ)))))
              | false => match (((l.map encJ).length : Int)) == 0 with
                | true => L4a4090 N n H (-1) (now + 1) T C 0 1 b ((enc rs1).set e ((encR (j :: l)).set 0 (.sub 44 (l.map encJ))))
                | false => L4a4090 N n H e (now + 1) T C 0 1 b ((enc rs1).set e ((encR (j :: l)).set 0 (.sub 44 (l.map encJ)))))
            | false => match (((l.map encJ).length : Int)) == 0 with
              | true => L4a4090 N n H (-1) (now + 1) T C 0 1 b ((enc rs1).set e ((encR (j :: l)).set 0 (.sub 44 (l.map encJ))))
              | false => L4a4090 N n H e (now + 1) T C 0 1 b ((enc rs1).set e ((encR (j :: l)).set 0 (.sub 44 (l.map encJ)))) := by
        show (match decide (now < 500) with | true => _ | false => _) = _
        simp only [hd, e1, enc_froz, e2, hneg, hw, Int.toNat_natCast, enc_get her, enc_length, decide_eq_true her, dlt her, dlt hbl, decide_eq_true hbl, dz, hbeq, hrow, hsub, hj, hset, Bool.and_true, Bool.true_and, Bool.and_self, hbe, hle, hL1, hL, hLI, List.drop_succ_cons, List.drop_zero]
        simp only [hm0, hL, hLI, tst]
        rfl
      have hs2 : ∀ l' : List J, (enc rs1).set e ((encR (j :: l)).set 0 (.sub 44 (l'.map encJ))) = enc (rs1.set e l') := fun l' => enc_set rs1 e l'
      rw [e4]
      by_cases hc : j.did + 1 < j.need
      · have hwk : worked j l = ⟨j.rel, j.did + 1, j.need⟩ :: l := by unfold worked; rw [if_pos hc]
        rw [decide_eq_true hc]
        have := hs2 (⟨j.rel, j.did + 1, j.need⟩ :: l)
        rw [List.map_cons] at this
        simp only [this]
        rw [← hwk]
        exact ih e
      · have hwk : worked j l = l := by unfold worked; rw [if_neg hc]
        rw [decide_eq_false hc]
        rw [hwk] at ih
        simp only [hs2]
        have hfin : ∃ rs', (match (((l.map encJ).length : Int)) == 0 with
                | true => L4a4090 N n H (-1) (now + 1) T C 0 1 b (enc (rs1.set e l))
                | false => L4a4090 N n H e (now + 1) T C 0 1 b (enc (rs1.set e l))) = some (.x2 T C 0 1 b (enc rs')) ∧ Good T 500 rs' ∧ ∀ t R, Met T C t R → Kv T C H t R 500 rs' := by
          cases (((l.map encJ).length : Int)) == 0 with
          | true => exact ih (-1)
          | false => exact ih e
        cases hm : m with
        | false => exact hfin
        | true =>
          rw [hwl, decide_eq_false (hlate hm)]
          exact hfin
  | _, 0, _, _, _, _, h, _, _, _ => by omega
theorem L4f_all (N : Nat) {T C H b : List Row} (hT : T.length ≤ 40) (hA : AllF T C b) {rs : List (List J)} (hG : Good T 500 rs) (hK : ∀ t R, Met T C t R → Kv T C H t R 500 rs) : ∀ (k n i : Nat), i + k = T.length → k < n → L4a8186 N n T.length i b (enc rs) = some (.x6 b (enc rs))
  | 0, n + 1, i, h, _ => by
    show (match decide ((i : Int) < (T.length : Int)) with | true => _ | false => _) = _
    rw [dge (show T.length ≤ i by omega)]
  | k + 1, n + 1, i, h, hn => by
    have hi : i < T.length := by omega
    have ir : i < rs.length := by rw [hG.len]; exact hi
    have ib : i < b.length := by rw [hA.len]; exact hi
    obtain ⟨v, m, hbe, hmet⟩ := hA.row i hi
    have ih := L4f_all N hT hA hG hK k n (i + 1) (by omega) (by omega)
    have hbeq : Nat.beq i i = true := by simp
    have hself : (enc rs).set i ((encR (rs.getD i [])).set 0 (.sub 44 ((rs.getD i []).map encJ))) = enc rs := by
      show (enc rs).set i (encR (rs.getD i [])) = _
      rw [enc_set]
      congr 1
      rw [getD_at ir]
      exact List.set_getElem_self ir
    have hrow : ∀ l' : List J, ((encR l').getD 0 .top).rows = l'.map encJ := fun _ => rfl
    have hsub : ∀ l' : List J, ((encR l').getD 0 .top).isSub = true := fun _ => rfl
    have e : L4a8186 N (n + 1) T.length i b (enc rs) = match (generalizing := false) m with
        | true => (match decide ((0 : Int) < (((rs.getD i []).map encJ).length : Int)) with
          | true => tst (decide (0 < ((rs.getD i []).map encJ).length)) <| match decide (v < IntKind.wrap .i64 (500 - (((((rs.getD i []).map encJ).getD 0 []).getD 0 .top).toI))) with
            | true => some (.ret false b (enc rs))
            | false => L4a8186 N n T.length ((i + 1 : Nat) : Int) b (enc rs)
          | false => L4a8186 N n T.length ((i + 1 : Nat) : Int) b (enc rs))
        | false => L4a8186 N n T.length ((i + 1 : Nat) : Int) b (enc rs) := by
      show (match decide ((i : Int) < (T.length : Int)) with | true => _ | false => _) = _
      simp only [dlt hi, dlt ir, dlt ib, decide_eq_true ir, decide_eq_true ib, dz, hbeq, hrow, hsub, hself, Int.toNat_natCast, enc_get ir, enc_length, hbe, Bool.and_true, Bool.true_and, Bool.and_self]
      rw [wrap_succ (by omega)]
      cases m with
      | false => rfl
      | true =>
        simp only [tst]
        cases hx : decide ((0 : Int) < (((rs.getD i []).map encJ).length : Int)) with
        | false => rfl
        | true => rfl
    rw [e]
    cases m with
    | false => exact ih
    | true =>
      cases hr : rs.getD i [] with
      | nil => exact ih
      | cons j l =>
        have hjo := hG.job i hi j (by rw [hr]; exact List.mem_cons_self)
        obtain ⟨s, f, _, _, s2, _, s4, _⟩ := hK i v (hmet rfl)
        have := s4 i hi (Int.le_refl _) j (by rw [hr]; exact List.mem_cons_self)
        have hwl : IntKind.wrap .i64 (500 - j.rel) = 500 - j.rel := wrap_id (by omega) (by omega)
        have e2 : decide (v < IntKind.wrap .i64 (500 - j.rel)) = false := by rw [hwl]; exact decide_eq_false (by omega)
        have e3 : decide ((0 : Int) < (((j :: l).map encJ).length : Int)) = true := decide_eq_true (by simp)
        have e4 : decide (0 < (((j :: l).map encJ).length)) = true := decide_eq_true (by simp)
        rw [e3, e4]
        show (match decide (v < IntKind.wrap .i64 (500 - j.rel)) with | true => _ | false => _) = _
        rw [e2]
        exact ih
  | _, 0, _, _, h => by omega
theorem L4t_all {N : Nat} (hw : F10 N = some (.r true)) {T : List Row} (hT : T.length ≤ 40) : ∀ (k n i : Nat), i + k = T.length → k < n → L4a122 N n T T.length i = some .x0 ∨ L4a122 N n T T.length i = some (.ret true)
  | 0, n + 1, i, h, _ => by
    refine .inl ?_
    show (match decide ((i : Int) < (T.length : Int)) with | true => _ | false => _) = _
    rw [dge (show T.length ≤ i by omega)]
  | k + 1, n + 1, i, h, hn => by
    have ih := L4t_all hw hT k n (i + 1) (by omega) (by omega)
    have e : L4a122 N (n + 1) T T.length i = match decide ((60 : Int) < cI T i 2) with
        | true => some (.ret true)
        | false => match decide ((100 : Int) < cI T i 4) with
          | true => some (.ret true)
          | false => L4a122 N n T T.length ((i + 1 : Nat) : Int) := by
      show (match decide ((i : Int) < (T.length : Int)) with | true => _ | false => _) = _
      simp only [dlt (show i < T.length by omega), dz, Bool.and_self, tst, ← cI.eq_1, hw]
      rw [wrap_succ (by omega)]
      all_goals rfl
    rw [e]
    cases decide ((60 : Int) < cI T i 2) with
    | true => exact .inr rfl
    | false =>
      cases decide ((100 : Int) < cI T i 4) with
      | true => exact .inr rfl
      | false => exact ih
  | _, 0, _, _, h => by omega
theorem sim_main {N : Nat} (hN : 2147490001 ≤ N) (hw : F10 N = some (.r true)) (T C : List Row) (sw ins : Int) (H : List Row) (hH : ∀ k, k < H.length → (0 ≤ cI H k 0 ∧ cI H k 0 ≤ 255) ∧ 0 ≤ beg H k ∧ beg H k ≤ 255) : F4 (N + 1) T C sw ins H = some (.r true) := by
  have hJ : J4a14 N H T C 0 1 = match may T C 0 1 with
      | false => some (.ret true T C 0 1)
      | true => match decide ((6 : Int) < (T.length : Int)) with
        | true => some (.ret true T C 0 1)
        | false => match decide ((H.length : Int) < (T.length : Int)) with
          | true => some (.ret true T C 0 1)
          | false => some (.nx T C 0 1) := by
    unfold J4a14
    rw [F14_gen T C (show 1300 ≤ N by omega)]
    simp only [hw]
    cases may T C 0 1 <;> rfl
  have e : F4 (N + 1) T C sw ins H = match J4a14 N H T C 0 1 with
      | none => none
      | some (.nx a b c d) => (match J4a30 N a b c d with
        | none => none
        | some (.nx a b c d) => (match F11 N a b c d with
          | none => none
          | some (.r x r) => (match J4a126 N x a b c d r with
            | none => none
            | some (.nx a b c d r) => tst (decide ((0 : Int) ≤ ((a.length : Int))) && decide ((a.length : Int) ≤ ((a.length : Int))) && decide (((a.length : Int)) * 24 ≤ (140737488355328 : Int))) <|
              (match J4a1022 N H (-1) a b c d r (List.replicate (((a.length : Int)).toNat) ([.sub 44 ([])] : Row)) with
              | none => none
              | some (.nx _ _ _ _ b1 b2) => (match L4a8186 N N ((b2.length : Int)) 0 b1 b2 with
                | none => none
                | some (.ret x _ _) => some (.r x)
                | some (.x6 _ _) => (match F10 N with | none => none | some (.r x) => some (.r x)))
              | some (.ret x _ _ _ _ _ _) => some (.r x))
            | some (.ret x _ _ _ _ _) => some (.r x)))
        | some (.ret x _ _ _ _) => some (.r x))
      | some (.ret x _ _ _ _) => some (.r x) := rfl
  rw [e, hJ]
  cases hm : may T C 0 1 with
  | false => rfl
  | true =>
    by_cases h6 : (6 : Int) < (T.length : Int)
    · rw [decide_eq_true h6]
    · by_cases hl : (H.length : Int) < (T.length : Int)
      · rw [decide_eq_false h6, decide_eq_true hl]
      · rw [decide_eq_false h6, decide_eq_false hl]
        obtain ⟨hS, hO⟩ := may_small hm
        have hM := may_f hm
        have hT := hS.t
        have hHF : HowF T H := ⟨by omega, fun k hk => (hH k (by omega)).1, fun k hk => (hH k (by omega)).2⟩
        have ht := L4t_all hw (show T.length ≤ 40 by omega) T.length N 0 (by omega) (by omega)
        rw [show ((0 : Nat) : Int) = (0 : Int) from rfl] at ht
        have h30 : J4a30 N T C 0 1 = some (.nx T C 0 1) ∨ J4a30 N T C 0 1 = some (.ret true T C 0 1) := by
          unfold J4a30
          rcases ht with ht | ht
          · rw [ht]; exact .inl rfl
          · rw [ht]; exact .inr rfl
        rcases h30 with h30 | h30
        · simp only [h30]
          obtain ⟨b, h11, hbl, hrows⟩ := F11_rows hS hN hm
          have hA : AllF T C b := by
            refine ⟨hbl, fun j hj => ?_⟩
            obtain ⟨v, m, hb, hres⟩ := hrows j hj
            refine ⟨v, m, by rw [List.getD, hb]; rfl, fun hmt => ?_⟩
            obtain ⟨r1, r2, r3, _⟩ := hres.met hmt
            have f := hM.task j hj
            have hbk := blk_bounds (ins := 1) hM j
            have c0 := f.cost0
            have d1 := f.dl1
            exact ⟨hj, by omega, by omega, r3⟩
          have h126 : J4a126 N 0 T C 0 1 b = some (.nx T C 0 1 b) := by
            unfold J4a126
            rw [hbl]
            simp
          have hrep : List.replicate (((T.length : Int)).toNat) ([.sub 44 ([])] : Row) = enc (List.replicate T.length []) := by
            simp [enc, encR]
          have hg0 : ∀ k, (List.replicate T.length ([] : List J)).getD k [] = [] := fun k => by
            by_cases hk : k < T.length <;> simp [List.getD, List.getElem?_replicate, hk]
          have hG : Good T 0 (List.replicate T.length []) := ⟨by simp, fun k hk j hj => (by rw [hg0] at hj; cases hj), fun k hk j hj => (by rw [hg0] at hj; cases hj), fun k hk => (by rw [hg0]; simp)⟩
          have hK : ∀ t R, Met T C t R → Kv T C H t R 0 (List.replicate T.length []) ∧ pF T C H t (List.replicate T.length []) ≤ blk T C 1 t := fun t R hmt => by
            have hp : pF T C H t (List.replicate T.length []) = 0 := by
              refine sI_zero fun k _ _ => ?_
              unfold rF
              split
              · rfl
              · rw [hg0]; rfl
            have hb := (blk_bounds (ins := 1) hM t).1
            exact ⟨quiet_k hmt.r1 (Int.le_refl _) (by omega) fun k _ _ => hg0 k, by omega⟩
          obtain ⟨rs', hrun, hG', hK'⟩ := L4m_all (show 300 ≤ N by omega) hS hM hO hHF hA 500 N 0 (-1) _ (by omega) (by omega) (Int.le_refl _) hG hK
          have hend := L4f_all N (show T.length ≤ 40 by omega) hA hG' hK' T.length N 0 (by omega) (by omega)
          rw [show ((0 : Nat) : Int) = (0 : Int) from rfl] at hend
          have ht0 : (decide ((0 : Int) ≤ ((T.length : Int))) && decide ((T.length : Int) ≤ ((T.length : Int))) && decide (((T.length : Int)) * 24 ≤ (140737488355328 : Int))) = true := by
            simp only [Bool.and_eq_true, decide_eq_true_eq]; omega
          have hJ2 : J4a1022 N H (-1) T C 0 1 b (enc (List.replicate T.length [])) = some (.nx T C 0 1 b (enc rs')) := by
            unfold J4a1022
            rw [hrun]
          have hel : ((enc rs').length : Int) = (T.length : Int) := by rw [enc_length, hG'.len]
          simp only [h11, h126, ht0, tst, hrep, hJ2, hel, hend, hw]
        · simp only [h30]
end Go.Proofs.Ytbgdiljnmifakaa

namespace Go.Proofs.Ytbgdiljnmifakaa
open Go Go.Eng Go.ChangeShapes Go.WideShapes Go.ChangeAt Go.RowKit
theorem own : ownKnob Try.prog.godebug = none := by kernel_rfl
theorem laidOut : laidOutB Try.prog = true := by kernel_rfl
theorem sim_true (T C : List Row) (sw ins : Int) (H : List Row) (hH : ∀ k, k < H.length → (0 ≤ cI H k 0 ∧ cI H k 0 ≤ 255) ∧ 0 ≤ beg H k ∧ beg H k ≤ 255) : F4 4294967296 T C sw ins H = some (.r true) :=
  sim_main (N := 4294967295) (by omega) works_true T C sw ins H hH
theorem u8_wf {n : Int} (h : (Lit.int .u8 n).wf = true) : 0 ≤ n ∧ n ≤ 255 := by
  simp [Lit.wf, IntKind.min, IntKind.max, IntKind.signed, IntKind.bits] at h
  omega
theorem h_of {K : TypeId → List Kind} {u : Row} (h : koks [.int .u8, .int .u8] u = true) (hw : ∀ x ∈ u, Wf K x) : (0 ≤ (u.getD 0 .top).toI ∧ (u.getD 0 .top).toI ≤ 255) ∧ 0 ≤ (u.getD 1 .top).toI ∧ (u.getD 1 .top).toI ≤ 255 := by
  match u, h, hw with
  | [], h, _ => simp [koks] at h
  | [_], h, _ => simp [koks] at h
  | a :: b :: c :: r, h, _ => simp [koks] at h
  | [a, b], h, hw =>
    simp only [koks, Bool.and_eq_true] at h
    obtain ⟨k1, k2, _⟩ := h
    cases a <;> simp only [kok, Bool.false_eq_true] at k1
    cases b <;> simp only [kok, Bool.false_eq_true] at k2
    have e1 := eq_of_beq k1
    have e2 := eq_of_beq k2
    subst e1 e2
    refine ⟨?_, ?_⟩
    · cases hw _ (List.mem_of_getElem? (i := 0) rfl) with
      | int _ _ h => exact u8_wf h
    · cases hw _ (List.mem_of_getElem? (i := 1) rfl) with
      | int _ _ h => exact u8_wf h
theorem hows_of_arg {x : AV} (ha : (CX.ti 35).u.agg = false) (hk : (CX.ti 35).ks = [.slice 42]) (h42 : CX.K 42 = [.int .u8, .int .u8]) (h : ArgAV CX 35 x) : ∃ H, x = .list 42 H ∧ ∀ k, k < H.length → (0 ≤ cI H k 0 ∧ cI H k 0 ≤ 255) ∧ 0 ≤ beg H k ∧ beg H k ≤ 255 := by
  rcases h with ⟨h1, _⟩ | ⟨_, h2, hw⟩
  · rw [ha] at h1; cases h1
  · rw [hk] at h2
    simp only [koks, Bool.and_true] at h2
    cases x <;> simp only [kok, Bool.false_eq_true] at h2
    have e := eq_of_beq h2
    subst e
    rename_i H
    refine ⟨H, rfl, fun k hkl => ?_⟩
    cases hw with
    | list _ _ _ hkk hx =>
      have hm : H.getD k [] ∈ H := by rw [List.getD, List.getElem?_eq_getElem hkl]; exact List.getElem_mem hkl
      exact h_of (K := CX.K) (h42 ▸ hkk _ hm) (hx _ hm)
theorem set_of_arg {x : AV} (ha : (CX.ti 25).u.agg = true) (hk : (CX.ti 25).ks = [.slice 38, .slice 3, .int .i64, .int .i64]) (h : ArgAV CX 25 x) : ∃ T C sw ins, x = .agg [.list 38 T, .list 3 C, .int .i64 sw, .int .i64 ins] := by
  rcases h with ⟨_, row, rfl, h2, hw⟩ | ⟨h1, _⟩
  · rw [hk] at h2
    match row, h2, hw with
    | [], h2, _ => simp [koks] at h2
    | [_], h2, _ => simp [koks] at h2
    | [_, _], h2, _ => simp [koks] at h2
    | [_, _, _], h2, _ => simp [koks] at h2
    | a :: b :: c :: d :: e :: r, h2, _ => simp [koks] at h2
    | [a, b, c, d], h2, hw =>
      simp only [koks, Bool.and_eq_true] at h2
      obtain ⟨k1, k2, k3, k4, _⟩ := h2
      cases a <;> simp only [kok, Bool.false_eq_true] at k1
      cases b <;> simp only [kok, Bool.false_eq_true] at k2
      cases c <;> simp only [kok, Bool.false_eq_true] at k3
      cases d <;> simp only [kok, Bool.false_eq_true] at k4
      have e1 := eq_of_beq k1
      have e2 := eq_of_beq k2
      have e3 := eq_of_beq k3
      have e4 := eq_of_beq k4
      subst e1 e2 e3 e4
      exact ⟨_, _, _, _, rfl⟩
  · rw [ha] at h1; cases h1
theorem law4 (xs : List AV) (h : ArgsAV CX [25, 35] xs) : ∃ m M', FCalls CX 4 m xs [] (.bool true) M' := by
  match xs, h with
  | [x0, x1], ⟨hx0, hx1, _⟩ =>
    obtain ⟨T, C, sw, ins, rfl⟩ := set_of_arg (by kernel_rfl) (by kernel_rfl) hx0
    obtain ⟨H, rfl, hH⟩ := hows_of_arg (by kernel_rfl) (by kernel_rfl) (by kernel_rfl) hx1
    exact ⟨_, _, soundF4 4294967296 (fun i => match i with | 0 => .agg [.list 38 T, .list 3 C, .int .i64 sw, .int .i64 ins] | _ => .list 42 H) [] (.r true) (sim_true T C sw ins H hH)⟩
set_option maxRecDepth 100000 in
theorem lifted4 (os : Os) (started : os.Started) (H : Type) (enc : TypeId × Value → H) :
    ReturnsInHanded {} Try.checked os 4 .any (Rows.respSimulatedSpec.pre6 enc Try.prog Try.f4 Rows.respSimulatedRow.domain false) (Rows.respSimulatedSpec.post enc Try.prog Try.f4 false true false false) := by
  refine returnsInHanded_of_change (C := Try.checked) own started (by kernel_rfl) Try.func4
    (ChangeSpec.witness6 (enc := enc) (C := Try.checked) false { blocks := #[], args := #[.agg #[.slice none 0 0, .slice none 0 0, .int .i64 0, .int .i64 0], .slice none 0 0], vars := [] } 8 (by kernel_rfl) (by kernel_rfl) (by kernel_rfl) (by kernel_rfl)) ?_
  intro W base args ds gs before hval hW _ _
  exact law_contract (X := CX) hX (fun _ => rfl) laidOut (ts := [25, 35]) (tb := 4) (S := rdL) (by kernel_rfl) (by kernel_rfl) Try.underlying4 (by kernel_rfl) (by kernel_rfl) (by kernel_rfl) rfl
    (fun ds hds => by match ds, hds with | [d0, d1], _ => rfl) law4 W base args ds gs before hval hW
theorem respSimulated_holds : Rows.RespSimulatedSaid :=
  OpenClaim.holds_of_wide 4 Try.f4 rfl rfl rfl rfl rfl rfl rfl ⟨rfl, rfl, rfl, rfl, rfl⟩ rfl rfl rfl rfl rfl (by kernel_rfl) Try.func4 (by kernel_rfl)
    (of_decide_eq_true (by kernel_rfl)) (by unfold Func.isWrapper; first | (rw [if_pos (by decide +kernel)]; kernel_rfl) | (rw [if_neg (by decide +kernel)]; exact ⟨rfl, rfl⟩))
    (fun os started H enc _ => lifted4 os started H enc)
#print axioms respSimulated_holds
end Go.Proofs.Ytbgdiljnmifakaa
