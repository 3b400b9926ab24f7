/-
  The engine, part A: abstract values, what they stand for in a world, and how that survives changes of the world.
  The engine, part B: the invariant between abstract memory and heap, and how it survives steps.
  The engine, part C: the single operations, on abstract values, and that they run so.
  The engine, part D: what the operations do, as a function on abstract values, in continuation-passing form; the first of them proved.
  The engine, part E: reading and writing memory.
  The engine, part F: stores, new variables, freezing.
  The engine, part G: new variables, addresses, parts of values.
  The engine, part H: slices: their lengths, parts of them, new ones, append; structs that are built.
  The engine, part I: values built of parts, slice expressions, make, append.
  The engine, part J: composite slices, make, slice expressions.
  The engine, part Ja: a block that is new need not be kept in the abstract memory.
  The engine, part K: slice expressions, append.
  The engine, part L: append.
  The engine, part La: maps whose keys are integers, bools or strings.
-/
import Derived.RangeFuncRecord
import Derived.WalkKit
import Derived.Below
import Derived.DataElems
import Derived.ChangeKeysEq
import Derived.Laws.StructEq
import Derived.WalkSpells
import Derived.MapKept
set_option linter.all false
set_option linter.deprecated false
namespace Go.Eng
open Go

inductive Kind where
  | int (k : IntKind)
  | bool
  | str
  | slice (t : TypeId)
  | raw
  | any
  deriving DecidableEq, Inhabited

/-- Abstract values. 'list', 'iptr': memory that nobody writes; 'own', 'ptr', 'mp', 'yld': a block of the abstract memory. -/
inductive AV where
  | top
  | int (k : IntKind) (n : Int)
  | bool (b : Bool)
  | str (s : ByteArray)
  | agg (cs : List AV)
  | tup (vs : List AV)
  | nilp
  | iptr (t : TypeId) (row : List AV) (off : Nat)
  | ptr (id i off : Nat)
  | list (t : TypeId) (xs : List (List AV))
  | own (id : Nat)
  | nilsl
  | clos (f : FuncId) (first caps : List AV)
  | nilfn
  | yld (id : Nat)
  | mp (id : Nat)
  | nilmp
  | vsl (id n : Nat)
  | vw (id lo n : Nat)
  | enl
  deriving Inhabited

abbrev Row := List AV

def AV.toI : AV → Int | .int _ n => n | _ => 0
def AV.toB : AV → Bool | .bool b => b | _ => false
def AV.toS : AV → ByteArray | .str s => s | _ => ByteArray.empty
def AV.rows : AV → List Row | .list _ xs => xs | _ => []
def AV.cells : AV → List AV | .agg cs => cs | x => [x]
/-- What names no block of ours. -/
def AV.pure : AV → Bool | .int _ _ | .bool _ | .str _ | .nilp | .iptr _ _ _ | .list _ _ | .nilsl | .nilfn | .nilmp | .enl | .clos _ [] [] => true | _ => false
def AV.vlo : AV → Nat | .vw _ lo _ => lo | _ => 0
def AV.vn : AV → Nat | .vw _ _ n => n | _ => 0
def AV.plain : AV → Bool | .top | .tup _ => false | _ => true
/-- One cell's value (and known). -/
def AV.leaf : AV → Bool | .agg _ | .tup _ | .top => false | _ => true
/-- A value of a type with cells of its own, or of one cell. -/
def AV.shape : Bool → AV → Bool | true, .agg _ => true | false, x => x.leaf | _, _ => false

def kok : Kind → AV → Bool
  | .int k, .int k' _ => k == k'
  | .bool, .bool _ => true
  | .str, .str _ => true
  | .slice t, .list t' _ => t == t'
  | .raw, x => x.leaf && x.pure
  | .any, x => x.leaf
  | _, _ => false

/-- A cell of a kind, written out. -/
def ld : Kind → AV → AV
  | .int k, x => .int k x.toI
  | .bool, x => .bool x.toB
  | .str, x => .str x.toS
  | .slice t, x => .list t x.rows
  | .raw, x => x
  | .any, x => x

theorem ld_of_kok {k : Kind} {x : AV} (h : kok k x = true) : ld k x = x := by
  cases k <;> cases x <;> simp_all [kok, ld, AV.toI, AV.toB, AV.toS, AV.rows]
theorem leaf_of_kok {k : Kind} {x : AV} (h : kok k x = true) : x.leaf = true := by
  cases k <;> cases x <;> simp_all [kok, AV.leaf]

def koks : List Kind → Row → Bool
  | [], [] => true
  | k :: ks, x :: xs => kok k x && koks ks xs
  | _, _ => false

theorem pure_of_kok {k : Kind} {x : AV} (hk : k ≠ .any) (h : kok k x = true) : x.pure = true := by
  cases k <;> cases x <;> simp_all [kok, AV.leaf, AV.pure]

theorem koks_length : ∀ {ks : List Kind} {row : Row}, koks ks row = true → row.length = ks.length
  | [], [], _ => rfl
  | [], _ :: _, h => by simp [koks] at h
  | _ :: _, [], h => by simp [koks] at h
  | k :: ks, x :: xs, h => by
    simp only [koks, Bool.and_eq_true] at h
    simp [koks_length h.2]
theorem koks_get : ∀ {ks : List Kind} {row : Row}, koks ks row = true → ∀ {j : Nat} {k : Kind} {x : AV}, ks[j]? = some k → row[j]? = some x → kok k x = true
  | [], [], _, j, k, x, h, _ => by simp at h
  | [], _ :: _, h, _, _, _, _, _ => by simp [koks] at h
  | _ :: _, [], h, _, _, _, _, _ => by simp [koks] at h
  | k :: ks, x :: xs, h, j, k', x', hk, hx => by
    simp only [koks, Bool.and_eq_true] at h
    cases j with
    | zero => simp at hk hx; subst hk; subst hx; exact h.1
    | succ j => simp at hk hx; exact koks_get h.2 hk hx
theorem koks_leaf {ks : List Kind} {row : Row} (h : koks ks row = true) {j : Nat} {x : AV} (hx : row[j]? = some x) : x.leaf = true := by
  have hl := koks_length h
  have hj : j < ks.length := by
    have := (List.getElem?_eq_some_iff.1 hx).1; omega
  exact leaf_of_kok (koks_get h (List.getElem?_eq_getElem hj) hx)
theorem koks_of {ks : List Kind} {row : Row} (hl : row.length = ks.length) (h : ∀ (j : Nat) (k : Kind) (x : AV), ks[j]? = some k → row[j]? = some x → kok k x = true) : koks ks row = true := by
  induction ks generalizing row with
  | nil => cases row with | nil => rfl | cons x xs => simp at hl
  | cons k ks ih =>
    cases row with
    | nil => simp at hl
    | cons x xs =>
      simp only [koks, Bool.and_eq_true]
      exact ⟨h 0 k x rfl rfl, ih (by simpa using hl) fun j k' x' hk hx => h (j + 1) k' x' (by simpa using hk) (by simpa using hx)⟩

/-- What stands for a block of the abstract memory in the heap. -/
structure Hd where
  v : Value
  sz : Nat

def Value.blk? : Value → Option Nat
  | .slice (some a) _ _ => some a.block
  | .map (some g) => some g
  | .pointer (some a) => some a.block
  | _ => none
def Hd.blk? (h : Hd) : Option Nat := Value.blk? h.v

inductive Rep (K : TypeId → List Kind) (ρ : List Hd) (F : Addr → Prop) (w : World) : AV → Value → Prop
  | top (v : Value) : Rep K ρ F w .top v
  | int (k : IntKind) (n : Int) : Rep K ρ F w (.int k n) (.int k n)
  | bool (b : Bool) : Rep K ρ F w (.bool b) (.bool b)
  | str (s : ByteArray) : Rep K ρ F w (.str s) (.string s)
  | agg (cs : List AV) (vs : List Value) (hl : vs.length = cs.length) (h : ∀ (j : Nat) x v, cs[j]? = some x → vs[j]? = some v → Rep K ρ F w x v) : Rep K ρ F w (.agg cs) (.agg vs.toArray)
  | tup (cs : List AV) (vs : List Value) (hl : vs.length = cs.length) (h : ∀ (j : Nat) x v, cs[j]? = some x → vs[j]? = some v → Rep K ρ F w x v) : Rep K ρ F w (.tup cs) (.tuple vs.toArray)
  | nilp : Rep K ρ F w .nilp (.pointer none)
  | iptr (t : TypeId) (row : Row) (off : Nat) (a : Addr) (vs : List Value) (hk : koks (K t) row = true) (hl : vs.length = row.length)
      (hc : ∀ (j : Nat) v, vs[j]? = some v → w.cell? (a.add j) = some v ∧ F (a.add j))
      (h : ∀ (j : Nat) x v, row[j]? = some x → vs[j]? = some v → Rep K ρ F w x v) : Rep K ρ F w (.iptr t row off) (.pointer (some (a.add off)))
  | ptr (id i off : Nat) (hd : Hd) (g o n c : Nat) (hid : ρ[id]? = some hd) (hv : hd.v = .slice (some ⟨g, o, none⟩) n c) : Rep K ρ F w (.ptr id i off) (.pointer (some ⟨g, o + i * hd.sz + off, none⟩))
  | list0 (t : TypeId) : Rep K ρ F w (.list t []) (.slice none 0 0)
  | list (t : TypeId) (xs : List Row) (a : Addr) (cap : Nat) (vss : List (List Value)) (hl : vss.length = xs.length) (hcap : xs.length ≤ cap) (hmax : cap ≤ maxLen)
      (hk : ∀ (i : Nat) row, xs[i]? = some row → koks (K t) row = true)
      (hc : ∀ (i : Nat) vs, vss[i]? = some vs → vs.length = (K t).length ∧ ∀ (j : Nat) v, vs[j]? = some v → w.cell? (a.add (i * (K t).length + j)) = some v ∧ F (a.add (i * (K t).length + j)))
      (h : ∀ (i : Nat) row vs, xs[i]? = some row → vss[i]? = some vs → ∀ (j : Nat) x v, row[j]? = some x → vs[j]? = some v → Rep K ρ F w x v) :
      Rep K ρ F w (.list t xs) (.slice (some a) xs.length cap)
  | own (id : Nat) (hd : Hd) (hid : ρ[id]? = some hd) : Rep K ρ F w (.own id) hd.v
  | nilsl : Rep K ρ F w .nilsl (.slice none 0 0)
  | clos (f : FuncId) (first caps : List AV) (vf vc : List Value) (hf : vf.length = first.length) (hc : vc.length = caps.length)
      (h1 : ∀ (j : Nat) x v, first[j]? = some x → vf[j]? = some v → Rep K ρ F w x v) (h2 : ∀ (j : Nat) x v, caps[j]? = some x → vc[j]? = some v → Rep K ρ F w x v) :
      Rep K ρ F w (.clos f first caps) (.func (.func f) vf.toArray vc.toArray)
  | nilfn : Rep K ρ F w .nilfn .nilFunc
  | yld (id : Nat) (hd : Hd) (g : Nat) (hid : ρ[id]? = some hd) (hv : hd.v = .pointer (some ⟨g, 0, none⟩)) : Rep K ρ F w (.yld id) (.func (.yield g) #[] #[])
  | mp (id : Nat) (hd : Hd) (hid : ρ[id]? = some hd) : Rep K ρ F w (.mp id) hd.v
  | nilmp : Rep K ρ F w .nilmp (.map none)
  | vsl (id m : Nat) (hd : Hd) (g o n c cap : Nat) (hid : ρ[id]? = some hd) (hv : hd.v = .slice (some ⟨g, o, none⟩) n c) : Rep K ρ F w (.vsl id m) (.slice (some ⟨g, o, none⟩) m cap)
  | vw (id lo m : Nat) (hd : Hd) (g o n c cap : Nat) (hid : ρ[id]? = some hd) (hv : hd.v = .slice (some ⟨g, o, none⟩) n c) (hcap : m ≤ cap ∧ cap ≤ maxLen) (hb : lo + m ≤ n) : Rep K ρ F w (.vw id lo m) (.slice (some ⟨g, o + lo * hd.sz, none⟩) m cap)
  | vwn (id lo : Nat) : Rep K ρ F w (.vw id lo 0) (.slice none 0 0)
  | vws (id lo : Nat) (a : Addr) (cap : Nat) : Rep K ρ F w (.vw id lo 0) (.slice (some a) 0 cap)
  | enl (a : Addr) (cap : Nat) : Rep K ρ F w .enl (.slice (some a) 0 cap)

variable {K : TypeId → List Kind}

theorem Rep.mono {ρ ρ' : List Hd} {F F' : Addr → Prop} {w w' : World} (hρ : ∀ (id : Nat) hd, ρ[id]? = some hd → ρ'[id]? = some hd) (hF : ∀ a, F a → F' a)
    (hw : ∀ a v, F a → w.cell? a = some v → w'.cell? a = some v) {x : AV} {v : Value} (h : Rep K ρ F w x v) : Rep K ρ' F' w' x v := by
  induction h with
  | top v => exact .top v
  | int k n => exact .int k n
  | bool b => exact .bool b
  | str s => exact .str s
  | agg cs vs hl _ ih => exact .agg cs vs hl ih
  | tup cs vs hl _ ih => exact .tup cs vs hl ih
  | nilp => exact .nilp
  | iptr t row off a vs hk hl hc _ ih => exact .iptr t row off a vs hk hl (fun j v hv => ⟨hw _ _ (hc j v hv).2 (hc j v hv).1, hF _ (hc j v hv).2⟩) ih
  | ptr id i off hd g o n c hid hv => exact .ptr id i off hd g o n c (hρ _ _ hid) hv
  | list0 t => exact .list0 t
  | list t xs a cap vss hl hcap hmax hk hc _ ih =>
    exact .list t xs a cap vss hl hcap hmax hk (fun i vs hvs => ⟨(hc i vs hvs).1, fun j v hv => ⟨hw _ _ ((hc i vs hvs).2 j v hv).2 ((hc i vs hvs).2 j v hv).1, hF _ ((hc i vs hvs).2 j v hv).2⟩⟩) ih
  | own id hd hid => exact .own id hd (hρ _ _ hid)
  | nilsl => exact .nilsl
  | clos f first caps vf vc hf hc _ _ ih1 ih2 => exact .clos f first caps vf vc hf hc ih1 ih2
  | nilfn => exact .nilfn
  | yld id hd g hid hv => exact .yld id hd g (hρ _ _ hid) hv
  | mp id hd hid => exact .mp id hd (hρ _ _ hid)
  | nilmp => exact .nilmp
  | vsl id m hd g o n c cap hid hv => exact .vsl id m hd g o n c cap (hρ _ _ hid) hv
  | vw id lo m hd g o n c cap hid hv hc hb => exact .vw id lo m hd g o n c cap (hρ _ _ hid) hv hc hb
  | vwn id lo => exact .vwn id lo
  | vws id lo a cap => exact .vws id lo a cap
  | enl a cap => exact .enl a cap

/-- What names no block of ours stands for the same, however our blocks are numbered. -/
theorem Rep.pure {ρ ρ' : List Hd} {F : Addr → Prop} {w : World} (hK : ∀ t, ∀ k ∈ K t, k ≠ .any) {x : AV} {v : Value} (h : Rep K ρ F w x v) : x.pure = true → Rep K ρ' F w x v := by
  have cell : ∀ {t : TypeId} {row : Row}, koks (K t) row = true → ∀ {j : Nat} {y : AV}, row[j]? = some y → y.pure = true := by
    intro t row hk j y hy
    have hl := koks_length hk
    have hj : j < (K t).length := by
      have := (List.getElem?_eq_some_iff.1 hy).1; omega
    exact pure_of_kok (hK t _ (List.getElem_mem hj)) (koks_get hk (List.getElem?_eq_getElem hj) hy)
  induction h with
  | int k n => exact fun _ => .int k n
  | bool b => exact fun _ => .bool b
  | str s => exact fun _ => .str s
  | nilp => exact fun _ => .nilp
  | iptr t row off a vs hk hl hc _ ih => exact fun _ => .iptr t row off a vs hk hl hc (fun j y v hy hv => ih j y v hy hv (cell hk hy))
  | list0 t => exact fun _ => .list0 t
  | list t xs a cap vss hl hcap hmax hk hc _ ih => exact fun _ => .list t xs a cap vss hl hcap hmax hk hc (fun i row vs hi hv j y v hy hv' => ih i row vs hi hv j y v hy hv' (cell (hk i row hi) hy))
  | nilsl => exact fun _ => .nilsl
  | clos f first caps vf vc hf hc _ _ _ _ =>
    intro hp
    cases first with
    | cons a b => simp [AV.pure] at hp
    | nil =>
      cases caps with
      | cons a b => simp [AV.pure] at hp
      | nil => exact .clos f [] [] vf vc hf hc (fun j y v hy _ => by simp at hy) (fun j y v hy _ => by simp at hy)
  | nilfn => exact fun _ => .nilfn
  | nilmp => exact fun _ => .nilmp
  | enl a cap => exact fun _ => .enl a cap
  | _ => intro hp; simp [AV.pure] at hp

theorem Rep.top_pure {ρ ρ' : List Hd} {F : Addr → Prop} {w : World} (hK : ∀ t, ∀ k ∈ K t, k ≠ .any) {x : AV} {v : Value} (h : Rep K ρ F w x v) (hp : x = .top ∨ x.pure = true) : Rep K ρ' F w x v := by
  rcases hp with rfl | hp
  · exact .top v
  · exact h.pure hK hp

/-- Pointwise. -/
def RepL (K : TypeId → List Kind) (ρ : List Hd) (F : Addr → Prop) (w : World) (xs : List AV) (vs : List Value) : Prop :=
  vs.length = xs.length ∧ ∀ (j : Nat) x v, xs[j]? = some x → vs[j]? = some v → Rep K ρ F w x v

/-- Blocks of the abstract memory. 'var': one variable's cells; 'row': what an owned slice holds; 'loop': the record of a range over a function (its place, the frame's variables, the jump that is pending); 'dfr': its block for deferred calls. -/
inductive Ex where
  | normal
  | exit (id : Nat)
  | ret
  deriving DecidableEq, Inhabited

inductive Blk where
  | var (ks : List Kind) (cs : List AV)
  | row (t : TypeId) (xs : List Row)
  | map (k : Kind) (ag : Bool) (ks : List Kind) (es : List (AV × AV))
  | loop (site : Nat) (env : List (Nat × AV)) (busy : Bool) (pend : Option Ex)
  | dfr
  | fro (t : TypeId) (xs : List Row)
  | dead
  deriving Inhabited

/-- What is known of a type. -/
inductive TyI where
  | int (k : IntKind)
  | bool
  | str
  | slice (e : TypeId)
  | array (n : Nat) (e : TypeId)
  | struct (fs : List (Nat × TypeId))
  | ptr (e : TypeId)
  | map (k e : TypeId)
  | other
  deriving Inhabited

structure TI where
  ok : Bool
  u : TyI
  size : Nat
  bytes : Nat
  zero : List AV
  ks : List Kind
  deriving Inhabited

def TyI.agg : TyI → Bool | .struct _ | .array _ _ => true | _ => false

def const1 : Value → AV
  | .bool b => .bool b
  | .int k n => .int k n
  | .string s => .str s
  | .pointer none => .nilp
  | .slice none 0 0 => .nilsl
  | .map none => .nilmp
  | .nilFunc => .nilfn
  | _ => .top
def constAV : Value → AV
  | .agg cs => .agg (cs.toList.map const1)
  | .tuple cs => match cs.toList with | [] => .tup [] | _ => .top
  | v => const1 v

def kindsOf (P : Program) : Nat → TypeId → List Kind
  | 0, _ => [.raw]
  | n + 1, t =>
    match P.underlying t with
    | some (.int k) => [.int k]
    | some .bool => [.bool]
    | some .string => [.str]
    | some (.slice e) => [.slice e]
    | some (.struct fs) => fs.toList.flatMap fun f => kindsOf P n f.type
    | some (.array m e) => (List.replicate m (kindsOf P n e)).flatten
    | _ => [.raw]

theorem kindsOf_any (P : Program) : ∀ (n : Nat) (t : TypeId), ∀ k ∈ kindsOf P n t, k ≠ .any
  | 0, t, k, h => by simp [kindsOf] at h; subst h; simp
  | n + 1, t, k, h => by
    unfold kindsOf at h
    split at h
    · simp at h; subst h; simp
    · simp at h; subst h; simp
    · simp at h; subst h; simp
    · simp at h; subst h; simp
    · obtain ⟨f, _, hf⟩ := List.mem_flatMap.1 h
      exact kindsOf_any P n _ k hf
    · obtain ⟨l, hl, hk⟩ := List.mem_flatten.1 h
      rw [List.eq_of_mem_replicate hl] at hk
      exact kindsOf_any P n _ k hk
    · simp at h; subst h; simp

def tyOf : TypeDesc → TyI
  | .int k => .int k
  | .bool => .bool
  | .string => .str
  | .slice e => .slice e
  | .array n e => .array n e
  | .struct fs => .struct (fs.toList.map fun f => (f.offset, f.type))
  | .pointer e => .ptr e
  | .map k e => .map k e
  | _ => .other

def vag : Value → Bool | .agg _ => true | _ => false
/-- Read off the program. -/
def tiOf (P : Program) (t : TypeId) : TI :=
  match P.info? t, P.underlying t with
  | some i, some d =>
    match i.zero with
    | some z => ⟨z.cells.size == i.size && (kindsOf P 12 t).length == i.size && (vag z == (tyOf d).agg), tyOf d, i.size, i.bytes, z.cells.toList.map const1, kindsOf P 12 t⟩
    | none => ⟨false, .other, 0, 0, [], []⟩
  | _, _ => ⟨false, .other, 0, 0, [], []⟩

end Go.Eng

namespace Go.Eng
open Go
noncomputable section

/-- The text that a range over a function runs, by its place. -/
structure Site where
  nt : Nat
  params : Array Tmp
  assign : Code
  body : Code

/-- A strings.Builder: the kinds of the cells of the variables that hold one at their head, these variables' type, the type Builder, pointers to it, unsafe.Pointer; the function NoEscape. -/
structure Ub where
  ks : List Kind
  e : TypeId
  bt : TypeId
  pt : TypeId
  up : TypeId
  ne : FuncId

structure Cx where
  P : Program
  ti : TypeId → TI
  site : Nat → Site
  glob : Nat → AV
  eqs : TypeId → Bool
  pk : Bool
  vw : Nat → TypeId → Bool
  ub : Option Ub

/-- A variable with these cells may be one of this type. -/
def Cx.tyB (X : Cx) (ks : List Kind) (e : TypeId) : Bool := match X.ub with | none => true | some u => match decide (ks = u.ks) with | true => Nat.beq e u.e | false => true
def Cx.K (X : Cx) (t : TypeId) : List Kind := (X.ti t).ks

def look (env : List (Nat × AV)) (u : Nat) : AV := List.rec (motive := fun _ => AV) .top (fun p _ ih => Bool.rec (motive := fun _ => AV) ih p.2 (Nat.beq u p.1)) env
theorem look_nil (u : Nat) : look [] u = .top := rfl
theorem look_cons (t : Nat) (x : AV) (env : List (Nat × AV)) (u : Nat) : look ((t, x) :: env) u = if u == t then x else look env u := by
  show Bool.rec (motive := fun _ => AV) (look env u) x (Nat.beq u t) = _
  cases hb : Nat.beq u t with
  | true =>
    have := Nat.eq_of_beq_eq_true hb
    subst this
    show x = _
    simp
  | false =>
    have : u ≠ t := Nat.ne_of_beq_eq_false hb
    show look env u = _
    simp [this]
/-- A block of the memory. -/
def gm (M : List Blk) (i : Nat) : Option Blk := List.rec (motive := fun _ => Nat → Option Blk) (fun _ => none) (fun b _ ih n => Nat.rec (motive := fun _ => Option Blk) (some b) (fun m _ => ih m) n) M i
theorem gm_eq : ∀ (M : List Blk) (i : Nat), gm M i = M[i]?
  | [], _ => rfl
  | _ :: _, 0 => rfl
  | b :: M, n + 1 => by
    show gm M n = _
    rw [gm_eq M n]; rfl

def Ex.code : Ex → Option Code
  | .normal => none
  | .exit id => some (.exit id)
  | .ret => some .ret

def Blk.isDead : Blk → Bool | .dead | .fro _ _ => true | _ => false

variable {X : Cx}

def EnvRep (X : Cx) (ρ : List Hd) (F : Addr → Prop) (w : World) (env : List (Nat × AV)) (tmps : Array Value) : Prop :=
  ∀ t, Rep X.K ρ F w (look env t) (tmps.getD t undef)

def BRep (X : Cx) (ρ : List Hd) (F : Addr → Prop) (w : World) (hd : Hd) : Blk → Prop
  | .var ks cs => koks ks cs = true ∧ hd.sz = cs.length ∧ ∃ g cur e, hd.v = .slice (some ⟨g, 0, none⟩) 1 1 ∧ w.heap[g]? = some (.cells cur e (0, 0)) ∧ RepL X.K ρ F w cs cur.toList ∧ X.tyB ks e = true
  | .row t xs => hd.sz = (X.K t).length ∧ (∀ (i : Nat) row, xs[i]? = some row → koks (X.K t) row = true) ∧
      ((hd.v = .slice none 0 0 ∧ xs = []) ∨ ∃ g o c cur, hd.v = .slice (some ⟨g, o, none⟩) xs.length c ∧ w.heap[g]? = some (.cells cur t (0, 0)) ∧ xs.length ≤ c ∧ c ≤ maxLen ∧ o + c * hd.sz ≤ cur.size ∧
        ∀ (i : Nat) row, xs[i]? = some row → ∀ (j : Nat) x, row[j]? = some x → ∃ v, cur[o + i * hd.sz + j]? = some v ∧ Rep X.K ρ F w x v)
  | .map kd ag ks es => kd ≠ .any ∧ ∃ g mes clock, hd.v = .map (some g) ∧ w.heap[g]? = some (.map mes clock) ∧ mes.size = es.length ∧
      ∀ (i : Nat) e me, es[i]? = some e → mes[i]? = some me → (kok kd e.1 = true ∧ koks ks e.2.cells = true ∧ e.2.shape ag = true) ∧ Rep X.K ρ F w e.1 me.key ∧ Rep X.K ρ F w e.2 me.val
  | .loop s env busy pend => ∃ g lp, hd.v = .pointer (some ⟨g, 0, none⟩) ∧ w.heap[g]? = some (.loop lp) ∧ lp.params = (X.site s).params ∧ lp.assign = (X.site s).assign ∧ lp.body = (X.site s).body ∧
      lp.tmps.size = (X.site s).nt ∧ EnvRep X ρ F w env lp.tmps ∧ (busy = true → lp.state = .busy) ∧ (busy = false → pend = none → lp.state = .ready) ∧ (busy = false → pend ≠ none → lp.state = .done) ∧
      lp.pending = pend.bind Ex.code ∧ pend ≠ some .normal
  | .dfr => ∃ g, hd.v = .pointer (some ⟨g, 0, none⟩) ∧ w.heap[g]? = some (.deferred (some []))
  | .fro t xs => Rep X.K ρ F w (.list t xs) hd.v
  | .dead => True

/-- The blocks of the elder world that are ours to write, and the cells that nobody writes to begin with. -/
structure Sc where
  S : Nat → Prop
  F0 : Addr → Prop
instance : CoeFun Sc (fun _ => Nat → Prop) := ⟨Sc.S⟩

structure Inv (X : Cx) (w0 : World) (S : Sc) (F : Addr → Prop) (ρ : List Hd) (M : List Blk) (w : World) : Prop where
  os : w.os = w0.os
  tape : w.tape = w0.tape
  output : w.output = w0.output
  size : w0.heap.size ≤ w.heap.size
  frame : ∀ g, g < w0.heap.size → ¬ S g → w.heap[g]? = w0.heap[g]?
  len : ρ.length = M.length
  rep : ∀ (id : Nat) b hd, M[id]? = some b → ρ[id]? = some hd → BRep X ρ F w hd b
  sep : ∀ (id : Nat) b hd g, M[id]? = some b → b.isDead = false → ρ[id]? = some hd → hd.blk? = some g → g < w.heap.size ∧ (S g ∨ w0.heap.size ≤ g) ∧ ∀ a, F a → a.block ≠ g
  disj : ∀ (id id' : Nat) b b' hd hd' g, id ≠ id' → M[id]? = some b → M[id']? = some b' → b.isDead = false → b'.isDead = false → ρ[id]? = some hd → ρ[id']? = some hd' →
    hd.blk? = some g → hd'.blk? ≠ some g
  fz : ∀ a, F a → a.block < w.heap.size
  glob : ∀ g, Rep X.K ρ F w (X.glob g) (.pointer (some ⟨g, 0, none⟩))
  one : ∀ (id : Nat) hd, ρ[id]? = some hd → hd.v.oneCell' = true
  old : ∀ a, F a → S.F0 a ∨ S a.block ∨ w0.heap.size ≤ a.block
  fin : ∀ a, S.F0 a → F a

theorem EnvRep.mono {ρ ρ' : List Hd} {F F' : Addr → Prop} {w w' : World} (hρ : ∀ (id : Nat) hd, ρ[id]? = some hd → ρ'[id]? = some hd) (hF : ∀ a, F a → F' a)
    (hw : ∀ a v, F a → w.cell? a = some v → w'.cell? a = some v) {env : List (Nat × AV)} {tmps : Array Value} (h : EnvRep X ρ F w env tmps) : EnvRep X ρ' F' w' env tmps :=
  fun t => (h t).mono hρ hF hw

theorem BRep.mono {ρ ρ' : List Hd} {F F' : Addr → Prop} {w w' : World} (hρ : ∀ (id : Nat) hd, ρ[id]? = some hd → ρ'[id]? = some hd) (hF : ∀ a, F a → F' a)
    (hw : ∀ a v, F a → w.cell? a = some v → w'.cell? a = some v) {hd : Hd} {b : Blk} (hg : ∀ g, hd.blk? = some g → w'.heap[g]? = w.heap[g]?) (h : BRep X ρ F w hd b) : BRep X ρ' F' w' hd b := by
  cases b with
  | var ks cs =>
    obtain ⟨h1, h2, g, cur, e, hv, hh, hr, hy⟩ := h
    exact ⟨h1, h2, g, cur, e, hv, by rw [hg g (by simp [Hd.blk?, Value.blk?, hv])]; exact hh, ⟨hr.1, fun j x v hx hv => (hr.2 j x v hx hv).mono hρ hF hw⟩, hy⟩
  | row t xs =>
    obtain ⟨h1, h2, h3⟩ := h
    refine ⟨h1, h2, ?_⟩
    rcases h3 with h3 | ⟨g, o, c, cur, hv, hh, h4, h5, h6, h7⟩
    · exact .inl h3
    · refine .inr ⟨g, o, c, cur, hv, by rw [hg g (by simp [Hd.blk?, Value.blk?, hv])]; exact hh, h4, h5, h6, fun i row hi j x hx => ?_⟩
      obtain ⟨v, hcv, hr⟩ := h7 i row hi j x hx
      exact ⟨v, hcv, hr.mono hρ hF hw⟩
  | map kd ag ks es =>
    obtain ⟨hkd, g, mes, clock, hv, hh, hsz, hes⟩ := h
    exact ⟨hkd, g, mes, clock, hv, by rw [hg g (by simp [Hd.blk?, Value.blk?, hv])]; exact hh, hsz, fun i e me he hm => let ⟨a, r1, r2⟩ := hes i e me he hm; ⟨a, r1.mono hρ hF hw, r2.mono hρ hF hw⟩⟩
  | loop s env busy pend =>
    obtain ⟨g, lp, hv, hh, h1, h2, h3, h4, h5, h6⟩ := h
    exact ⟨g, lp, hv, by rw [hg g (by simp [Hd.blk?, Value.blk?, hv])]; exact hh, h1, h2, h3, h4, h5.mono hρ hF hw, h6⟩
  | dfr =>
    obtain ⟨g, hv, hh⟩ := h
    exact ⟨g, hv, by rw [hg g (by simp [Hd.blk?, Value.blk?, hv])]; exact hh⟩
  | fro t xs => exact Rep.mono hρ hF hw h
  | dead => trivial

theorem BRep.mono_dead {ρ ρ' : List Hd} {F F' : Addr → Prop} {w w' : World} (hρ : ∀ (id : Nat) hd, ρ[id]? = some hd → ρ'[id]? = some hd) (hF : ∀ a, F a → F' a)
    (hw : ∀ a v, F a → w.cell? a = some v → w'.cell? a = some v) {hd : Hd} {b : Blk} (hb : b.isDead = true) (h : BRep X ρ F w hd b) : BRep X ρ' F' w' hd b := by
  cases b with
  | fro t xs => exact Rep.mono hρ hF hw h
  | dead => trivial
  | _ => simp [Blk.isDead] at hb

section
variable {w0 w w' : World} {S : Sc} {F : Addr → Prop} {ρ : List Hd} {M : List Blk}

theorem Inv.cells (hI : Inv X w0 S F ρ M w) {row : Option Nat} (hg : w.grownBy w' row) (hrow : ∀ k, row = some k → ∀ a, F a → a.block ≠ k) :
    ∀ a v, F a → w.cell? a = some v → w'.cell? a = some v := by
  intro a v hF hc
  refine hg.cell hc ?_
  intro e
  exact hrow _ e.symm a hF rfl

theorem getElem?_append_old {α : Type} {l : List α} {x y : α} {i : Nat} (h : l[i]? = some y) : (l ++ [x])[i]? = some y := by
  rw [List.getElem?_append_left (List.getElem?_eq_some_iff.1 h).1]; exact h

/-- The world has grown; no block of ours was written. -/
theorem Inv.grown (hI : Inv X w0 S F ρ M w) (hg : w.grownBy w' none) : Inv X w0 S F ρ M w' where
  os := hg.os.trans hI.os
  tape := hg.tape.trans hI.tape
  output := hg.output.trans hI.output
  size := Nat.le_trans hI.size hg.size
  frame := fun g h1 h2 => (hg.block g (Nat.lt_of_lt_of_le h1 hI.size) (by simp)).trans (hI.frame g h1 h2)
  len := hI.len
  rep := fun id b hd hb hh => by
    by_cases hd' : b.isDead = true
    · exact (hI.rep id b hd hb hh).mono_dead (fun _ _ h => h) (fun _ h => h) (hI.cells hg (by simp)) hd'
    · refine (hI.rep id b hd hb hh).mono (fun _ _ h => h) (fun _ h => h) (hI.cells hg (by simp)) ?_
      intro g hgb
      exact hg.block g (hI.sep id b hd g hb (by simpa using hd') hh hgb).1 (by simp)
  sep := fun id b hd g hb hdd hh hgb => let ⟨a1, a2, a3⟩ := hI.sep id b hd g hb hdd hh hgb; ⟨Nat.lt_of_lt_of_le a1 hg.size, a2, a3⟩
  disj := hI.disj
  fz := fun a ha => Nat.lt_of_lt_of_le (hI.fz a ha) hg.size
  glob := fun g => (hI.glob g).mono (fun _ _ h => h) (fun _ h => h) (hI.cells hg (by simp))
  one := hI.one
  old := hI.old
  fin := hI.fin

/-- One of our blocks was written. -/
theorem Inv.write (hI : Inv X w0 S F ρ M w) {id : Nat} {b b' : Blk} {hd : Hd} {g : Nat} (hb : M[id]? = some b) (hdead : b.isDead = false) (hh : ρ[id]? = some hd) (hgb : hd.blk? = some g)
    (hg : w.grownBy w' (some g)) (hrep : BRep X ρ F w' hd b') : Inv X w0 S F ρ (M.set id b') w' where
  os := hg.os.trans hI.os
  tape := hg.tape.trans hI.tape
  output := hg.output.trans hI.output
  size := Nat.le_trans hI.size hg.size
  frame := fun k h1 h2 => by
    have hs := hI.sep id b hd g hb hdead hh hgb
    refine (hg.block k (Nat.lt_of_lt_of_le h1 hI.size) ?_).trans (hI.frame k h1 h2)
    intro e
    injection e with e
    subst e
    rcases hs.2.1 with h | h
    · exact h2 h
    · omega
  len := by simpa using hI.len
  rep := fun id' c hd' hc hh' => by
    by_cases hid : id' = id
    · subst hid
      rw [hh] at hh'
      injection hh' with hh'
      subst hh'
      have hlt := (List.getElem?_eq_some_iff.1 hb).1
      rw [List.getElem?_set_self hlt] at hc
      injection hc with hc
      subst hc
      exact hrep
    · rw [List.getElem?_set_ne (Ne.symm hid)] at hc
      have hs := hI.sep id b hd g hb hdead hh hgb
      by_cases hd2 : c.isDead = true
      · exact (hI.rep id' c hd' hc hh').mono_dead (fun _ _ h => h) (fun _ h => h) (hI.cells hg (fun k hk a hF => by injection hk with hk; subst hk; exact hs.2.2 a hF)) hd2
      · refine (hI.rep id' c hd' hc hh').mono (fun _ _ h => h) (fun _ h => h) (hI.cells hg ?_) ?_
        · intro k hk a hF
          injection hk with hk
          subst hk
          exact hs.2.2 a hF
        · intro g' hg'
          refine hg.block g' (hI.sep id' c hd' g' hc (by simpa using hd2) hh' hg').1 ?_
          intro e
          injection e with e
          subst e
          exact hI.disj id' id c b hd' hd g' hid hc hb (by simpa using hd2) hdead hh' hh hg' hgb
  sep := fun id' c hd' g' hc hd2 hh' hg' => by
    by_cases hid : id' = id
    · subst hid
      rw [hh] at hh'
      injection hh' with hh'
      subst hh'
      obtain ⟨a1, a2, a3⟩ := hI.sep id' b hd g' hb hdead hh hg'
      exact ⟨Nat.lt_of_lt_of_le a1 hg.size, a2, a3⟩
    · rw [List.getElem?_set_ne (Ne.symm hid)] at hc
      obtain ⟨a1, a2, a3⟩ := hI.sep id' c hd' g' hc hd2 hh' hg'
      exact ⟨Nat.lt_of_lt_of_le a1 hg.size, a2, a3⟩
  disj := fun i j c d hc hd' k hij h1 h2 h3 h4 h5 h6 h7 => by
    have key : ∀ (i : Nat) c, (M.set id b')[i]? = some c → c.isDead = false → ∃ c0, M[i]? = some c0 ∧ c0.isDead = false := by
      intro i c hc hcd
      by_cases hid : i = id
      · subst hid; exact ⟨b, hb, hdead⟩
      · rw [List.getElem?_set_ne (Ne.symm hid)] at hc; exact ⟨c, hc, hcd⟩
    obtain ⟨c0, a1, a2⟩ := key i c h1 h3
    obtain ⟨d0, b1, b2⟩ := key j d h2 h4
    exact hI.disj i j c0 d0 hc hd' k hij a1 b1 a2 b2 h5 h6 h7
  fz := fun a ha => Nat.lt_of_lt_of_le (hI.fz a ha) hg.size
  glob := fun k => (hI.glob k).mono (fun _ _ h => h) (fun _ h => h) (hI.cells hg (fun j hj a hF => by injection hj with hj; subst hj; exact (hI.sep id b hd g hb hdead hh hgb).2.2 a hF))
  one := hI.one
  old := hI.old
  fin := hI.fin

/-- One block of ours more: nobody else's. -/
theorem Inv.push' (hI : Inv X w0 S F ρ M w) {b : Blk} {hd : Hd} (hnew : ∀ g, hd.blk? = some g → g < w.heap.size ∧ (S g ∨ w0.heap.size ≤ g) ∧ (∀ a, F a → a.block ≠ g) ∧
      ∀ (id : Nat) b' hd', M[id]? = some b' → b'.isDead = false → ρ[id]? = some hd' → hd'.blk? ≠ some g)
    (h1 : hd.v.oneCell' = true) (hrep : BRep X (ρ ++ [hd]) F w hd b) : Inv X w0 S F (ρ ++ [hd]) (M ++ [b]) w := by
  have hlen := hI.len
  have split : ∀ (i : Nat) c, (M ++ [b])[i]? = some c → (i < M.length ∧ M[i]? = some c) ∨ (i = M.length ∧ c = b) := by
    intro i c hc
    by_cases hi : i < M.length
    · rw [List.getElem?_append_left hi] at hc; exact .inl ⟨hi, hc⟩
    · rw [List.getElem?_append_right (by omega)] at hc
      have : i - M.length = 0 := by
        have := (List.getElem?_eq_some_iff.1 hc).1
        simp at this; omega
      rw [this] at hc; simp at hc
      exact .inr ⟨by omega, hc.symm⟩
  have splitR : ∀ (i : Nat) h, (ρ ++ [hd])[i]? = some h → (i < M.length ∧ ρ[i]? = some h) ∨ (i = M.length ∧ h = hd) := by
    intro i h hh
    by_cases hi : i < ρ.length
    · rw [List.getElem?_append_left hi] at hh; exact .inl ⟨by omega, hh⟩
    · rw [List.getElem?_append_right (by omega)] at hh
      have : i - ρ.length = 0 := by
        have := (List.getElem?_eq_some_iff.1 hh).1
        simp at this; omega
      rw [this] at hh; simp at hh
      exact .inr ⟨by omega, hh.symm⟩
  refine ⟨hI.os, hI.tape, hI.output, hI.size, hI.frame, by simp [hlen], ?_, ?_, ?_, hI.fz, fun g => (hI.glob g).mono (fun _ _ h => getElem?_append_old h) (fun _ h => h) (fun _ _ _ h => h), fun id h hh => by
    rcases splitR id h hh with ⟨_, hh⟩ | ⟨_, rfl⟩
    · exact hI.one id h hh
    · exact h1, hI.old, hI.fin⟩
  · intro id c h hc hh
    rcases split id c hc with ⟨hi, hc⟩ | ⟨hi, rfl⟩
    · rcases splitR id h hh with ⟨_, hh⟩ | ⟨h2, _⟩
      · exact (hI.rep id c h hc hh).mono (fun _ _ h => getElem?_append_old h) (fun _ h => h) (fun _ _ _ h => h) (fun _ _ => rfl)
      · omega
    · rcases splitR id h hh with ⟨h2, _⟩ | ⟨_, rfl⟩
      · omega
      · exact hrep
  · intro id c h g hc hdd hh hgb
    rcases split id c hc with ⟨hi, hc⟩ | ⟨hi, rfl⟩
    · rcases splitR id h hh with ⟨_, hh⟩ | ⟨h2, _⟩
      · exact hI.sep id c h g hc hdd hh hgb
      · omega
    · rcases splitR id h hh with ⟨h2, _⟩ | ⟨_, rfl⟩
      · omega
      · obtain ⟨a1, a2, a3, _⟩ := hnew g hgb
        exact ⟨a1, a2, a3⟩
  · intro i j c d hc hd' k hij h1 h2 h3 h4 h5 h6 h7 h8
    rcases split i c h1 with ⟨hi, m1⟩ | ⟨hi, e1⟩ <;> rcases split j d h2 with ⟨hj, m2⟩ | ⟨hj, e2⟩
    · rcases splitR i hc h5 with ⟨_, m5⟩ | ⟨_, _⟩
      · rcases splitR j hd' h6 with ⟨_, m6⟩ | ⟨_, _⟩
        · exact hI.disj i j c d hc hd' k hij m1 m2 h3 h4 m5 m6 h7 h8
        · omega
      · omega
    · rcases splitR i hc h5 with ⟨_, m5⟩ | ⟨_, _⟩
      · rcases splitR j hd' h6 with ⟨_, _⟩ | ⟨_, e6⟩
        · omega
        · exact (hnew k (e6 ▸ h8)).2.2.2 i c hc m1 h3 m5 h7
      · omega
    · rcases splitR i hc h5 with ⟨_, _⟩ | ⟨_, e5⟩
      · omega
      · rcases splitR j hd' h6 with ⟨_, m6⟩ | ⟨_, _⟩
        · exact (hnew k (e5 ▸ h7)).2.2.2 j d hd' m2 h4 m6 h8
        · omega
    · omega

/-- A new block of ours. -/
theorem Inv.push (hI : Inv X w0 S F ρ M w) (hg : w.grownBy w' none) {b : Blk} {hd : Hd} (hnew : ∀ g, hd.blk? = some g → w.heap.size ≤ g ∧ g < w'.heap.size)
    (h1 : hd.v.oneCell' = true) (hrep : BRep X (ρ ++ [hd]) F w' hd b) : Inv X w0 S F (ρ ++ [hd]) (M ++ [b]) w' := by
  refine (hI.grown hg).push' (fun g hgb => ?_) h1 hrep
  obtain ⟨h2, h3⟩ := hnew g hgb
  refine ⟨h3, .inr (Nat.le_trans hI.size h2), fun a ha e => ?_, fun id b' hd' hb' hdd hh hgb' => ?_⟩
  · have := hI.fz a ha; omega
  · have := (hI.sep id b' hd' g hb' hdd hh hgb').1; omega

/-- A block of ours goes over into another of ours (it may be the same memory, written; it may be new memory). -/
theorem Inv.move (hI : Inv X w0 S F ρ M w) {id : Nat} {b b' : Blk} {hd hd' : Hd} (hb : M[id]? = some b) (hdead : b.isDead = false) (hh : ρ[id]? = some hd) {row : Option Nat}
    (hg : w.grownBy w' row) (hrow : row = none ∨ row = hd.blk?) (hnew : ∀ g, hd'.blk? = some g → g < w'.heap.size ∧ (hd.blk? = some g ∨ w.heap.size ≤ g))
    (h1 : hd'.v.oneCell' = true) (hrep : BRep X (ρ ++ [hd']) F w' hd' b') : Inv X w0 S F (ρ ++ [hd']) (M.set id .dead ++ [b']) w' := by
  have hlt := (List.getElem?_eq_some_iff.1 hb).1
  have hI1 : Inv X w0 S F ρ (M.set id .dead) w' := by
    cases hgb : hd.blk? with
    | none =>
      have hg0 : w.grownBy w' none := by
        rcases hrow with h | h
        · rw [h] at hg; exact hg
        · rw [h, hgb] at hg; exact hg
      have hI0 := hI.grown hg0
      refine ⟨hI0.os, hI0.tape, hI0.output, hI0.size, hI0.frame, by simpa using hI0.len, ?_, ?_, ?_, hI0.fz, hI0.glob, hI0.one, hI0.old, hI0.fin⟩
      · intro i c h hc hh'
        by_cases hi : i = id
        · subst hi; rw [List.getElem?_set_self hlt] at hc; injection hc with hc; subst hc; trivial
        · rw [List.getElem?_set_ne (Ne.symm hi)] at hc; exact hI0.rep i c h hc hh'
      · intro i c h g hc hcd hh' hgb'
        by_cases hi : i = id
        · subst hi; rw [List.getElem?_set_self hlt] at hc; injection hc with hc; subst hc; simp [Blk.isDead] at hcd
        · rw [List.getElem?_set_ne (Ne.symm hi)] at hc; exact hI0.sep i c h g hc hcd hh' hgb'
      · intro i j c d h h' g hij hc hd2 hcd hdd hh' hh'' hgb' 
        have key : ∀ (i : Nat) c, (M.set id .dead)[i]? = some c → c.isDead = false → M[i]? = some c := by
          intro i c hc hcd
          by_cases hi : i = id
          · subst hi; rw [List.getElem?_set_self hlt] at hc; injection hc with hc; subst hc; simp [Blk.isDead] at hcd
          · rw [List.getElem?_set_ne (Ne.symm hi)] at hc; exact hc
        exact hI0.disj i j c d h h' g hij (key i c hc hcd) (key j d hd2 hdd) hcd hdd hh' hh'' hgb'
    | some g =>
      have hg1 : w.grownBy w' (some g) := by
        rcases hrow with h | h
        · rw [h] at hg; exact ⟨hg.os, hg.tape, hg.output, hg.size, fun k hk _ => hg.block k hk (by simp)⟩
        · rw [h, hgb] at hg; exact hg
      exact hI.write hb hdead hh hgb hg1 (b' := .dead) trivial
  refine hI1.push' (fun g hgb => ?_) h1 hrep
  obtain ⟨h2, h3⟩ := hnew g hgb
  rcases h3 with h3 | h3
  · obtain ⟨s1, s2, s3⟩ := hI.sep id b hd g hb hdead hh h3
    refine ⟨h2, s2, s3, fun i c h hc hcd hh' hgb' => ?_⟩
    by_cases hi : i = id
    · subst hi; rw [List.getElem?_set_self hlt] at hc; injection hc with hc; subst hc; simp [Blk.isDead] at hcd
    · rw [List.getElem?_set_ne (Ne.symm hi)] at hc
      exact hI.disj i id c b h hd g hi hc hb hcd hdead hh' hh hgb' h3
  · refine ⟨h2, .inr (Nat.le_trans hI.size h3), fun a ha e => ?_, fun i c h hc hcd hh' hgb' => ?_⟩
    · have := hI.fz a ha; omega
    · by_cases hi : i = id
      · subst hi; rw [List.getElem?_set_self hlt] at hc; injection hc with hc; subst hc; simp [Blk.isDead] at hcd
      · rw [List.getElem?_set_ne (Ne.symm hi)] at hc
        have := (hI.sep i c h g hc hcd hh' hgb').1; omega

/-- Block 'id' is written no more: its cells join those that nobody writes. -/
theorem Inv.freeze (hI : Inv X w0 S F ρ M w) {id : Nat} {b : Blk} {hd : Hd} {g : Nat} (hb : M[id]? = some b) (hdead : b.isDead = false) (hh : ρ[id]? = some hd) (hgb : hd.blk? = some g)
    {b' : Blk} (hd' : b'.isDead = true) (hrep : BRep X ρ (fun a => F a ∨ a.block = g) w hd b') : Inv X w0 S (fun a => F a ∨ a.block = g) ρ (M.set id b') w where
  os := hI.os
  tape := hI.tape
  output := hI.output
  size := hI.size
  frame := hI.frame
  len := by simpa using hI.len
  rep := fun id' c h' hc hh' => by
    by_cases hid : id' = id
    · subst hid
      have hlt := (List.getElem?_eq_some_iff.1 hb).1
      rw [List.getElem?_set_self hlt] at hc
      injection hc with hc
      subst hc
      rw [hh] at hh'
      injection hh' with hh'
      subst hh'
      exact hrep
    · rw [List.getElem?_set_ne (Ne.symm hid)] at hc
      exact (hI.rep id' c h' hc hh').mono (fun _ _ h => h) (fun _ h => .inl h) (fun _ _ _ h => h) (fun _ _ => rfl)
  sep := fun id' c h' g' hc hd2 hh' hg' => by
    by_cases hid : id' = id
    · subst hid
      have hlt := (List.getElem?_eq_some_iff.1 hb).1
      rw [List.getElem?_set_self hlt] at hc
      injection hc with hc
      subst hc
      rw [hd'] at hd2; cases hd2
    · rw [List.getElem?_set_ne (Ne.symm hid)] at hc
      obtain ⟨a1, a2, a3⟩ := hI.sep id' c h' g' hc hd2 hh' hg'
      refine ⟨a1, a2, fun a ha e => ?_⟩
      rcases ha with ha | ha
      · exact a3 a ha e
      · have : g' = g := by omega
        subst this
        exact hI.disj id' id c b h' hd g' hid hc hb hd2 hdead hh' hh hg' hgb
  disj := fun i j c d hc h' k hij h1 h2 h3 h4 h5 h6 h7 => by
    have key : ∀ (i : Nat) c, (M.set id b')[i]? = some c → c.isDead = false → M[i]? = some c := by
      intro i c hc hcd
      by_cases hid : i = id
      · subst hid
        have hlt := (List.getElem?_eq_some_iff.1 hb).1
        rw [List.getElem?_set_self hlt] at hc
        injection hc with hc
        subst hc
        rw [hd'] at hcd; cases hcd
      · rw [List.getElem?_set_ne (Ne.symm hid)] at hc; exact hc
    exact hI.disj i j c d hc h' k hij (key i c h1 h3) (key j d h2 h4) h3 h4 h5 h6 h7
  fz := fun a ha => by
    rcases ha with ha | ha
    · exact hI.fz a ha
    · have := (hI.sep id b hd g hb hdead hh hgb).1; omega
  glob := fun k => (hI.glob k).mono (fun _ _ h => h) (fun _ h => .inl h) (fun _ _ _ h => h)
  one := hI.one
  fin := fun a ha => .inl (hI.fin a ha)
  old := fun a ha => by
    rcases ha with ha | ha
    · exact hI.old a ha
    · rcases (hI.sep id b hd g hb hdead hh hgb).2.1 with h | h
      · exact .inr (.inl (by rw [ha]; exact h))
      · exact .inr (.inr (by rw [ha]; exact h))
end

/-- Outside the listed blocks the abstract memory is as it was. -/
def Agree (ids : List Nat) (M M' : List Blk) : Prop := M.length ≤ M'.length ∧ ∀ id, id < M.length → id ∉ ids → M'[id]? = M[id]?
theorem Agree.refl (ids : List Nat) (M : List Blk) : Agree ids M M := ⟨Nat.le_refl _, fun _ _ _ => rfl⟩
theorem Agree.push (ids : List Nat) (M : List Blk) (b : Blk) : Agree ids M (M ++ [b]) := ⟨by simp, fun id h _ => List.getElem?_append_left h⟩
theorem Agree.set (M : List Blk) (id : Nat) (b : Blk) : Agree [id] M (M.set id b) := ⟨by simp, fun i _ h => List.getElem?_set_ne (fun e => h (by simp [e]))⟩
theorem Agree.trans {ids jds : List Nat} {M M' M'' : List Blk} (h : Agree ids M M') (k : Agree jds M' M'') : Agree (ids ++ jds) M M'' :=
  ⟨Nat.le_trans h.1 k.1, fun i hi hn => by
    rw [List.mem_append, not_or] at hn
    rw [k.2 i (Nat.lt_of_lt_of_le hi h.1) hn.2, h.2 i hi hn.1]⟩
theorem Agree.mono {ids jds : List Nat} {M M' : List Blk} (h : Agree ids M M') (hs : ∀ i ∈ ids, i ∈ jds) : Agree jds M M' := ⟨h.1, fun i hi hn => h.2 i hi fun e => hn (hs i e)⟩

/-- From one state of affairs to a later one: what was known stays known. -/
structure Grow (F F' : Addr → Prop) (ρ ρ' : List Hd) (w w' : World) : Prop where
  hF : ∀ a, F a → F' a
  hρ : ∀ (id : Nat) hd, ρ[id]? = some hd → ρ'[id]? = some hd
  hb : ∀ a, F a → w'.heap[a.block]? = w.heap[a.block]?

theorem cell_of_blk {w w' : World} {a : Addr} {v : Value} (h : w'.heap[a.block]? = w.heap[a.block]?) (hc : w.cell? a = some v) : w'.cell? a = some v := by
  unfold World.cell? at hc ⊢
  rw [h]
  exact hc
theorem Grow.hw {F F' : Addr → Prop} {ρ ρ' : List Hd} {w w' : World} (h : Grow F F' ρ ρ' w w') : ∀ a v, F a → w.cell? a = some v → w'.cell? a = some v := fun a _ ha hc => cell_of_blk (h.hb a ha) hc
theorem Inv.blks {w0 w w' : World} {S : Sc} {F : Addr → Prop} {ρ : List Hd} {M : List Blk} (hI : Inv X w0 S F ρ M w) {row : Option Nat} (hg : w.grownBy w' row) (hrow : ∀ k, row = some k → ∀ a, F a → a.block ≠ k) : ∀ a, F a → w'.heap[a.block]? = w.heap[a.block]? :=
  fun a ha => hg.block a.block (hI.fz a ha) fun e => hrow _ e.symm a ha rfl
theorem Grow.refl (F : Addr → Prop) (ρ : List Hd) (w : World) : Grow F F ρ ρ w w := ⟨fun _ h => h, fun _ _ h => h, fun _ _ => rfl⟩
theorem Grow.trans {F F' F'' : Addr → Prop} {ρ ρ' ρ'' : List Hd} {w w' w'' : World} (h : Grow F F' ρ ρ' w w') (k : Grow F' F'' ρ' ρ'' w' w'') : Grow F F'' ρ ρ'' w w'' :=
  ⟨fun a ha => k.hF a (h.hF a ha), fun id hd hh => k.hρ id hd (h.hρ id hd hh), fun a ha => (k.hb a (h.hF a ha)).trans (h.hb a ha)⟩
theorem Rep.grow {K : TypeId → List Kind} {F F' : Addr → Prop} {ρ ρ' : List Hd} {w w' : World} {x : AV} {v : Value} (h : Rep K ρ F w x v) (g : Grow F F' ρ ρ' w w') : Rep K ρ' F' w' x v := h.mono g.hρ g.hF g.hw
theorem EnvRep.grow {F F' : Addr → Prop} {ρ ρ' : List Hd} {w w' : World} {env : List (Nat × AV)} {tmps : Array Value} (h : EnvRep X ρ F w env tmps) (g : Grow F F' ρ ρ' w w') : EnvRep X ρ' F' w' env tmps := fun t => (h t).grow g
theorem RepL.grow {K : TypeId → List Kind} {F F' : Addr → Prop} {ρ ρ' : List Hd} {w w' : World} {xs : List AV} {vs : List Value} (h : RepL K ρ F w xs vs) (g : Grow F F' ρ ρ' w w') : RepL K ρ' F' w' xs vs := ⟨h.1, fun j x v hx hv => (h.2 j x v hx hv).grow g⟩

end
end Go.Eng

namespace Go.Eng
open Go
noncomputable section

/-- Values of this struct type are compared field by field. -/
def eqOk (P : Program) (t : TypeId) : Bool :=
  match P.underlying t with
  | some (.struct fs) => (fs.toList.all fun f => f.name != "_") && !P.stoodInHeld t && !P.eqGuardType P.depth t
  | _ => false
structure TFacts (X : Cx) (t : TypeId) (i : TypeInfo) (d : TypeDesc) (z : Value) : Prop where
  info : X.P.info? t = some i
  und : X.P.underlying t = some d
  zero : i.zero = some z
  u : (X.ti t).u = tyOf d
  size : (X.ti t).size = i.size
  bytes : (X.ti t).bytes = i.bytes
  zc : (X.ti t).zero = z.cells.toList.map const1
  zs : z.cells.size = i.size
  ks : (X.ti t).ks.length = i.size
  zag : vag z = (X.ti t).u.agg

/-- What a strings.Builder's types are. -/
structure UbOk (P : Program) (u : Ub) : Prop where
  pt : P.underlying u.pt = some (.pointer u.bt)
  up : P.underlying u.up = some .unsafePointer
  bt : ∃ j, P.info? u.bt = some j ∧ j.size ≠ 0
  lies : liesAt P P.depth u.e (u.ks.length / P.cellsOf u.e) 0 u.bt 1 = true
  ks : 0 < u.ks.length
  ne : ∃ fn, P.funcs[u.ne]? = some fn ∧ (fn.name == "runtime.NumGoroutine") = false ∧ fn.body.isNone = true ∧ Extern.findNext fn = none ∧ Extern.find fn = some Extern.AbiNoEscape.same

/-- What holds of every context; where 'pk' is set, a row's cells name no block. -/
structure Cx.Okb (X : Cx) : Prop where
  facts : ∀ {t}, (X.ti t).ok = true → ∃ i d z, TFacts X t i d z
  mixed : X.P.follows .mixedOrders = true
  bad : ∀ t, (X.ti t).ok = false → (X.ti t).ks = []
  glob : ∀ g, X.glob g = .top ∨ (X.glob g).pure = true
  eqs : ∀ t, X.eqs t = true → eqOk X.P t = true
  kindsP : X.pk = true → ∀ t, ∀ k ∈ X.K t, k ≠ .any
  ub : ∀ u, X.ub = some u → UbOk X.P u
structure Cx.Ok (X : Cx) : Prop extends Cx.Okb X where
  pkt : X.pk = true

variable {X : Cx} {R : Type}

theorem Cx.Ok.kinds (hX : X.Ok) (t : TypeId) : ∀ k ∈ X.K t, k ≠ .any := hX.toOkb.kindsP hX.pkt t
theorem Cx.Okb.ok (hX : X.Okb) (h : X.pk = true) : X.Ok := ⟨hX, h⟩
instance okb_of_ok : Coe X.Ok X.Okb := ⟨Cx.Ok.toOkb⟩

theorem kinds_of_ti (ht : ∀ t, (X.ti t).ok = true → X.ti t = tiOf X.P t) (hb : ∀ t, (X.ti t).ok = false → (X.ti t).ks = []) (t : TypeId) : ∀ k ∈ X.K t, k ≠ .any := by
  intro k hk
  cases h : (X.ti t).ok with
  | false =>
    have := hb t h
    simp [Cx.K, this] at hk
  | true =>
    have e := ht t h
    unfold Cx.K at hk
    rw [e] at hk
    unfold tiOf at hk
    split at hk
    · split at hk
      · exact kindsOf_any _ _ _ k hk
      · simp at hk
    · simp at hk

/-- Kinds of rows may be coarser than the program's. -/
def TI.alike (a b : TI) : Prop := a.ok = b.ok ∧ a.u = b.u ∧ a.size = b.size ∧ a.bytes = b.bytes ∧ a.zero = b.zero ∧ a.ks.length = b.ks.length
theorem facts_of_ti {t : TypeId} (e : TI.alike (X.ti t) (tiOf X.P t)) (h : (X.ti t).ok = true) : ∃ i d z, TFacts X t i d z := by
  obtain ⟨e1, e2, e3, e4, e5, e6⟩ := e
  unfold tiOf at e1 e2 e3 e4 e5 e6
  cases hi : X.P.info? t with
  | none => simp only [hi] at e1; rw [e1] at h; simp at h
  | some i =>
    cases hd : X.P.underlying t with
    | none => simp only [hi, hd] at e1; rw [e1] at h; simp at h
    | some d =>
      cases hz : i.zero with
      | none => simp only [hi, hd, hz] at e1; rw [e1] at h; simp at h
      | some z =>
        simp only [hi, hd, hz] at e1 e2 e3 e4 e5 e6
        rw [e1] at h
        simp only [Bool.and_eq_true, beq_iff_eq] at h
        exact ⟨i, d, z, ⟨hi, hd, hz, e2, e3, e4, e5, h.1.1, by rw [e6]; exact h.1.2, by rw [e2]; exact h.2⟩⟩

theorem TFacts.isAgg {t : TypeId} {i : TypeInfo} {d : TypeDesc} {z : Value} (f : TFacts X t i d z) (w : World) : (isAgg t).run X.P w = .ok (X.ti t).u.agg w := by
  rw [f.u]
  unfold Go.isAgg
  simp only [Sem.run_bind, run_underlying f.und, Result.andThen_ok]
  cases d <;> rfl
theorem TFacts.sizeOf {t : TypeId} {i : TypeInfo} {d : TypeDesc} {z : Value} (f : TFacts X t i d z) (w : World) : (sizeOf t).run X.P w = .ok (X.ti t).size w := by
  rw [f.size]; unfold Go.sizeOf typeInfo; simp [f.info]
theorem TFacts.zeroValue {t : TypeId} {i : TypeInfo} {d : TypeDesc} {z : Value} (f : TFacts X t i d z) (w : World) : (zeroValue t).run X.P w = .ok z w := by
  unfold Go.zeroValue typeInfo; simp [f.info, f.zero]
theorem TFacts.typeInfo {t : TypeId} {i : TypeInfo} {d : TypeDesc} {z : Value} (f : TFacts X t i d z) (w : World) : (typeInfo t).run X.P w = .ok i w := by
  unfold Go.typeInfo; simp [f.info]
theorem TFacts.slice {t e : TypeId} {i : TypeInfo} {d : TypeDesc} {z : Value} (f : TFacts X t i d z) (h : (X.ti t).u = .slice e) : X.P.underlying t = some (.slice e) := by
  have := f.u; rw [h] at this; cases d <;> simp [tyOf] at this; subst this; exact f.und
theorem TFacts.array {t e : TypeId} {n : Nat} {i : TypeInfo} {d : TypeDesc} {z : Value} (f : TFacts X t i d z) (h : (X.ti t).u = .array n e) : X.P.underlying t = some (.array n e) := by
  have := f.u; rw [h] at this; cases d <;> simp [tyOf] at this; obtain ⟨rfl, rfl⟩ := this; exact f.und
theorem TFacts.intK {t : TypeId} {k : IntKind} {i : TypeInfo} {d : TypeDesc} {z : Value} (f : TFacts X t i d z) (h : (X.ti t).u = .int k) : X.P.underlying t = some (.int k) := by
  have := f.u; rw [h] at this; cases d <;> simp [tyOf] at this; subst this; exact f.und
theorem TFacts.struct {t : TypeId} {fs : List (Nat × TypeId)} {i : TypeInfo} {d : TypeDesc} {z : Value} (f : TFacts X t i d z) (h : (X.ti t).u = .struct fs) :
    ∃ gs : Array Field, X.P.underlying t = some (.struct gs) ∧ fs = gs.toList.map fun f => (f.offset, f.type) := by
  have := f.u; rw [h] at this; cases d <;> simp [tyOf] at this; exact ⟨_, f.und, this⟩

/-! ### Constants -/
theorem rep_const1 (K : TypeId → List Kind) (ρ : List Hd) (F : Addr → Prop) (w : World) (v : Value) : Rep K ρ F w (const1 v) v := by
  unfold const1
  split <;> constructor
theorem rep_constAV (K : TypeId → List Kind) (ρ : List Hd) (F : Addr → Prop) (w : World) (v : Value) : Rep K ρ F w (constAV v) v := by
  unfold constAV
  split
  · rename_i cs
    have := Rep.agg (K := K) (ρ := ρ) (F := F) (w := w) (cs.toList.map const1) cs.toList (by simp) (fun j x v hx hv => by
      rw [List.getElem?_map, hv] at hx
      simp at hx
      subst hx
      exact rep_const1 K ρ F w v)
    simpa using this
  · rename_i cs
    split
    · rename_i h
      have hcs : cs = #[] := by apply Array.ext'; simpa using h
      subst hcs
      exact Rep.tup [] [] rfl (fun j x v hx _ => by simp at hx)
    · exact .top _
  · exact rep_const1 K ρ F w v

theorem repL_zero (K : TypeId → List Kind) (ρ : List Hd) (F : Addr → Prop) (w : World) (vs : List Value) : RepL K ρ F w (vs.map const1) vs :=
  ⟨by simp, fun j x v hx hv => by
    rw [List.getElem?_map, hv] at hx
    simp at hx
    subst hx
    exact rep_const1 K ρ F w v⟩

theorem oneCell_of_leaf {K : TypeId → List Kind} {ρ : List Hd} {F : Addr → Prop} {w : World} {x : AV} {v : Value} (h : Rep K ρ F w x v) (hx : x.leaf = true) (hρ : ∀ (id : Nat) hd, ρ[id]? = some hd → hd.v.oneCell' = true) : v.oneCell' = true := by
  cases h <;> simp_all [AV.leaf, Value.oneCell'] <;> (apply hρ; assumption)

/-- The cells of a value, pointwise. -/
theorem Rep.cells {K : TypeId → List Kind} {ρ : List Hd} {F : Addr → Prop} {w : World} {x : AV} {v : Value} (h : Rep K ρ F w x v) (hx : x.leaf = true ∨ ∃ cs, x = .agg cs)
    (hρ : ∀ (id : Nat) hd, ρ[id]? = some hd → hd.v.oneCell' = true) : RepL K ρ F w x.cells v.cells.toList := by
  rcases hx with hx | ⟨cs, rfl⟩
  · have h1 := oneCell_of_leaf h hx hρ
    have e1 : x.cells = [x] := by cases x <;> simp_all [AV.cells, AV.leaf]
    have e2 : v.cells = #[v] := by cases v <;> simp_all [Value.cells, Value.oneCell']
    rw [e1, e2]
    refine ⟨rfl, fun j y u hy hu => ?_⟩
    cases j with
    | zero => simp at hy hu; subst hy; subst hu; exact h
    | succ j => simp at hy
  · cases h with
    | agg _ vs hl h => exact ⟨by simpa [Value.cells, AV.cells] using hl, by simpa [Value.cells, AV.cells] using h⟩

/-- In what every operation is stated: the operands' meanings, what the operation leaves. -/
def ValRuns (X : Cx) (o : Oper) (e : Operand → AV) (M : List Blk) (x : AV) (M' : List Blk) : Prop :=
  ∀ (w0 : World) (S : Sc) (F : Addr → Prop) (ρ : List Hd) (w : World) (ρe : Operand → Value), Inv X w0 S F ρ M w → (∀ y, Rep X.K ρ F w (e y) (ρe y)) →
    ∃ nx v w' ρ' F', (execOp ρe o).run X.P w = .ok nx w' ∧ (nx = .value v ∨ (nx = .skip ∧ v = undef)) ∧ Inv X w0 S F' ρ' M' w' ∧ Grow F F' ρ ρ' w w' ∧ Rep X.K ρ' F' w' x v

/-- The operation neither touches the memory nor adds to it. -/
theorem ValRuns.pure {o : Oper} {e : Operand → AV} {M : List Blk} {x : AV}
    (h : ∀ (w0 : World) (S : Sc) (F : Addr → Prop) (ρ : List Hd) (w : World) (ρe : Operand → Value), Inv X w0 S F ρ M w → (∀ y, Rep X.K ρ F w (e y) (ρe y)) →
      ∃ v, (execOp ρe o).run X.P w = .ok (.value v) w ∧ Rep X.K ρ F w x v) : ValRuns X o e M x M := by
  intro w0 S F ρ w ρe hI hr
  obtain ⟨v, h1, h2⟩ := h w0 S F ρ w ρe hI hr
  exact ⟨_, v, w, ρ, F, h1, .inl rfl, hI, Grow.refl _ _ _, h2⟩

end
end Go.Eng

namespace Go.Eng
open Go
noncomputable section

variable {X : Cx} {R : Type}

/-- A test on the way: where it fails, nothing is said. -/
def tst (b : Bool) (x : Option R) : Option R := match b with | true => x | false => none
theorem tst_some {b : Bool} {x : Option R} {r : R} (h : tst b x = some r) : b = true ∧ x = some r := by
  cases b <;> simp_all [tst]

def ldn (ks : List Kind) (row : Row) (off : Nat) : Nat → List AV
  | 0 => []
  | n + 1 => ld (ks.getD off .raw) (row.getD off .top) :: ldn ks row (off + 1) n

theorem ldn_eq {ks : List Kind} {row : Row} (h : koks ks row = true) : ∀ (n off : Nat), off + n ≤ ks.length → ldn ks row off n = (row.drop off).take n
  | 0, off, _ => by simp [ldn]
  | n + 1, off, hb => by
    have hl := koks_length h
    have h1 : off < row.length := by omega
    have h2 : off < ks.length := by omega
    simp only [ldn, List.getD, List.getElem?_eq_getElem h1, List.getElem?_eq_getElem h2, Option.getD_some]
    rw [ld_of_kok (koks_get h (List.getElem?_eq_getElem h2) (List.getElem?_eq_getElem h1)), ldn_eq h n (off + 1) (by omega)]
    rw [List.drop_eq_getElem_cons h1, List.take_succ_cons]

def Kind.v : Kind → Kind | .slice _ => .any | .raw => .any | k => k
def kAt (ks : List Kind) (off : Nat) (k : Kind) : Bool := (ks.all (· == k)) || (ks.getD off .raw == k)
theorem kAt_get {ks : List Kind} {off : Nat} {k : Kind} (h : kAt ks off k = true) (ho : off < ks.length) : ks[off]? = some k := by
  unfold kAt at h
  rw [Bool.or_eq_true] at h
  rcases h with h | h
  · rw [List.all_eq_true] at h
    rw [List.getElem?_eq_getElem ho]
    have := h _ (List.getElem_mem ho)
    simp at this
    rw [this]
  · rw [beq_iff_eq, List.getD, List.getElem?_eq_getElem ho] at h
    rw [List.getElem?_eq_getElem ho]
    simpa using h

def setAt : List AV → Nat → List AV → List AV
  | cs, _, [] => cs
  | cs, off, x :: xs => setAt (cs.set off x) (off + 1) xs
theorem setAt_length : ∀ (xs cs : List AV) (off : Nat), (setAt cs off xs).length = cs.length
  | [], _, _ => rfl
  | x :: xs, cs, off => by simp [setAt, setAt_length xs]
theorem setAt_get : ∀ (xs cs : List AV) (off : Nat), off + xs.length ≤ cs.length → ∀ (j : Nat), (setAt cs off xs)[j]? = if off ≤ j ∧ j < off + xs.length then xs[j - off]? else cs[j]?
  | [], cs, off, _, j => by simp [setAt]; omega
  | x :: xs, cs, off, h, j => by
    simp only [List.length_cons] at h
    rw [setAt, setAt_get xs (cs.set off x) (off + 1) (by simp; omega) j]
    by_cases h1 : j = off
    · subst h1
      rw [if_neg (by omega), if_pos (by simp), List.getElem?_set_self (by omega)]
      simp
    · by_cases h2 : off + 1 ≤ j ∧ j < off + 1 + xs.length
      · rw [if_pos h2, if_pos (by simp; omega)]
        rw [show j - off = (j - (off + 1)) + 1 by omega]
        simp
      · rw [if_neg h2, if_neg (by simp; omega), List.getElem?_set_ne (Ne.symm h1)]

def kset : List Kind → Nat → List AV → Bool
  | _, _, [] => true
  | ks, off, x :: xs => kok (ks.getD off .raw) x && kset ks (off + 1) xs
/-- The cells from 'off' on are all of one kind, and so are the new ones; or cell for cell. -/
def ksAt (ks : List Kind) (off : Nat) (xs : List AV) : Bool :=
  (match ks with | k :: r => (r.all (· == k)) && xs.all (kok k) | [] => false) || kset ks off xs

theorem kset_get : ∀ {xs : List AV} {ks : List Kind} {off : Nat}, kset ks off xs = true → ∀ {j : Nat} {x : AV}, xs[j]? = some x → kok (ks.getD (off + j) .raw) x = true
  | [], _, _, _, j, x, hx => by simp at hx
  | y :: ys, ks, off, h, j, x, hx => by
    simp only [kset, Bool.and_eq_true] at h
    cases j with
    | zero => simp at hx; subst hx; exact h.1
    | succ j =>
      have := kset_get h.2 (j := j) (x := x) (by simpa using hx)
      rwa [show off + (j + 1) = off + 1 + j by omega]
theorem ksAt_get {xs : List AV} {ks : List Kind} {off : Nat} (h : ksAt ks off xs = true) (hb : off + xs.length ≤ ks.length) {j : Nat} {x : AV} (hx : xs[j]? = some x) : kok (ks.getD (off + j) .raw) x = true := by
  unfold ksAt at h
  rw [Bool.or_eq_true] at h
  rcases h with h | h
  · cases ks with
    | nil => simp at h
    | cons k r =>
      simp only [Bool.and_eq_true, List.all_eq_true] at h
      have hj : j < xs.length := (List.getElem?_eq_some_iff.1 hx).1
      have hlt : off + j < (k :: r).length := by omega
      have hk : (k :: r).getD (off + j) .raw = k := by
        simp only [List.getD, List.getElem?_eq_getElem hlt, Option.getD_some]
        have hm := List.getElem_mem hlt
        rcases List.mem_cons.1 hm with e | e
        · exact e
        · simpa using h.1 _ e
      rw [hk]
      exact h.2 x (List.mem_of_getElem? hx)
  · exact kset_get h hx
theorem koks_setAt {ks : List Kind} {cs xs : List AV} {off : Nat} (hk : koks ks cs = true) (h : ksAt ks off xs = true) (hb : off + xs.length ≤ ks.length) : koks ks (setAt cs off xs) = true := by
  have hl := koks_length hk
  refine koks_of (by rw [setAt_length]; exact hl) fun j k x hkj hx => ?_
  rw [setAt_get xs cs off (by omega) j] at hx
  by_cases hj : off ≤ j ∧ j < off + xs.length
  · rw [if_pos hj] at hx
    have := ksAt_get h hb hx
    rw [show off + (j - off) = j by omega] at this
    simpa [List.getD, hkj] using this
  · rw [if_neg hj] at hx
    exact koks_get hk hkj hx

/-- The kind of a cell, where all may be of one kind. -/
def kHom (ks : List Kind) (off : Nat) : Kind :=
  match ks with
  | [] => .raw
  | k :: r => match r.all (· == k) with | true => k | false => (k :: r).getD off .raw
theorem kHom_eq {ks : List Kind} {off : Nat} (h : off < ks.length) : kHom ks off = ks[off] := by
  unfold kHom
  split
  · simp at h
  · rename_i k r
    split
    · rename_i ha
      cases off with
      | zero => rfl
      | succ o =>
        have := List.all_eq_true.1 ha (r[o]'(by simpa using h)) (List.getElem_mem _)
        simpa using (eq_of_beq this).symm
    · rw [List.getD_eq_getElem?_getD, List.getElem?_eq_getElem h]; rfl
def evLoad (X : Cx) (t : TypeId) (p : AV) (M : List Blk) (k : AV → Option R) : Option R :=
  match p with
  | .iptr t' row off =>
    tst ((X.ti t).ok && decide (off + (X.ti t).size ≤ (X.K t').length))
      (match (X.ti t).u.agg with
       | true => k (.agg (ldn (X.K t') row off (X.ti t).size))
       | false => tst ((X.ti t).size == 1) (k (ld (kHom (X.K t') off) (row.getD off .top))))
  | .ptr id i off =>
    match gm M id with
    | some (.var ks cs) =>
      tst ((X.ti t).ok && i == 0 && decide (off + (X.ti t).size ≤ ks.length))
        (match (X.ti t).u.agg with
         | true => k (.agg (ldn ks cs off (X.ti t).size))
         | false => tst ((X.ti t).size == 1 && kAt ks off ((X.ti t).ks.headD .raw).v) (k (ld ((X.ti t).ks.headD .raw).v (cs.getD off .top))))
    | some (.row t' xs) =>
      tst ((X.ti t).ok && decide (off + (X.ti t).size ≤ (X.K t').length) && decide (i < xs.length))
        (match (X.ti t).u.agg with
         | true => k (.agg (ldn (X.K t') (xs.getD i []) off (X.ti t).size))
         | false => tst ((X.ti t).size == 1) (k (ld ((X.K t').getD off .raw) ((xs.getD i []).getD off .top))))
    | _ => none
  | _ => none

/-- Structs compared field by field. -/
def eqB (X : Cx) : List (Nat × TypeId) → List AV → List AV → Option Bool
  | [], _, _ => some true
  | f :: fs, xs, ys =>
    match eqB X fs xs ys with
    | none => none
    | some r =>
      match (X.ti f.2).ok, (X.ti f.2).u, xs[f.1]?, ys[f.1]? with
      | true, .int _, some (.int ka a), some (.int kb b) => (match ka == kb with | true => some (a == b && r) | false => none)
      | true, .bool, some (.bool a), some (.bool b) => some (a == b && r)
      | _, _, _, _ => none
/-- Is the slice nil? -/
def evNil (x : AV) (k : Bool → Option R) : Option R :=
  match x with
  | .nilsl => k true
  | .enl => k false
  | .list _ xs => match xs.isEmpty with | true => none | false => k false
  | _ => none
theorem evNil_sound {x : AV} {k : Bool → Option R} {r : R} (h : evNil x k = some r) :
    ∃ b, k b = some r ∧ ∀ {K : TypeId → List Kind} {ρ : List Hd} {F : Addr → Prop} {w : World} {v : Value}, Rep K ρ F w x v → ∃ a n c, v = .slice a n c ∧ a.isNone = b := by
  unfold evNil at h
  split at h
  · exact ⟨_, h, fun {K ρ F w v} hr => by cases hr; exact ⟨none, 0, 0, rfl, rfl⟩⟩
  · exact ⟨_, h, fun {K ρ F w v} hr => by cases hr; exact ⟨some _, 0, _, rfl, rfl⟩⟩
  · rename_i t xs
    split at h
    · cases h
    · rename_i he
      refine ⟨_, h, fun {K ρ F w v} hr => ?_⟩
      cases hr with
      | list0 t => simp at he
      | list t xs a cap vss hl hcap hmax hk hc hx => exact ⟨some _, _, _, rfl, rfl⟩
  · cases h
def evBin (X : Cx) (op : BinOp) (t : TypeId) (x y : AV) (k : AV → Option R) : Option R :=
  match x, y with
  | .int kx a, .int ky b =>
    match op with
    | .shl => tst (decide (0 ≤ b)) (k (.int kx (kx.wrap (a * 2 ^ (min b.toNat kx.bits)))))
    | .shr => tst (decide (0 ≤ b)) (k (.int kx (a.fdiv (2 ^ (min b.toNat kx.bits)))))
    | _ =>
      tst (kx == ky) (match op with
        | .add => k (.int kx (kx.wrap (a + b)))
        | .sub => k (.int kx (kx.wrap (a - b)))
        | .mul => k (.int kx (kx.wrap (a * b)))
        | .quo => tst (!(b == 0)) (k (.int kx (kx.wrap (a.tdiv b))))
        | .rem => tst (!(b == 0)) (k (.int kx (a.tmod b)))
        | .and => k (.int kx (kx.wrap (BitVec.ofInt kx.bits a &&& BitVec.ofInt kx.bits b).toNat))
        | .or => k (.int kx (kx.wrap (BitVec.ofInt kx.bits a ||| BitVec.ofInt kx.bits b).toNat))
        | .xor => k (.int kx (kx.wrap (BitVec.ofInt kx.bits a ^^^ BitVec.ofInt kx.bits b).toNat))
        | .andNot => k (.int kx (kx.wrap (BitVec.ofInt kx.bits a &&& ~~~ BitVec.ofInt kx.bits b).toNat))
        | .eql => k (.bool (a == b))
        | .neq => k (.bool (a != b))
        | .lss => k (.bool (decide (a < b)))
        | .leq => k (.bool (decide (a ≤ b)))
        | .gtr => k (.bool (decide (b < a)))
        | .geq => k (.bool (decide (b ≤ a)))
        | _ => none)
  | .bool a, .bool b =>
    match (X.ti t).ok, (X.ti t).u, op with
    | true, .bool, .eql => k (.bool (a == b))
    | true, .bool, .neq => k (.bool (!(a == b)))
    | _, _, _ => none
  | .agg xs, .agg ys =>
    match X.eqs t, (X.ti t).ok, (X.ti t).u with
    | true, true, .struct fs =>
      match eqB X fs xs ys with
      | none => none
      | some b => match op with | .eql => k (.bool b) | .neq => k (.bool (!b)) | _ => none
    | _, _, _ => none
  | x, .nilsl =>
    match (X.ti t).ok, (X.ti t).u, op with
    | true, .slice _, .eql => evNil x fun b => k (.bool b)
    | true, .slice _, .neq => evNil x fun b => k (.bool (!b))
    | _, _, _ => none
  | _, _ => none

theorem run_eqGuard_int (P : Program) (w : World) (op : BinOp) (t : TypeId) (x y : Operand) (ka kb : IntKind) (a b : Int) : (eqGuard op t x y (.int ka a) (.int kb b)).run P w = .ok () w := by
  unfold eqGuard; cases op <;> rfl
theorem run_eqGuard_bool (P : Program) (w : World) (op : BinOp) (t : TypeId) (x y : Operand) (a b : Bool) : (eqGuard op t x y (.bool a) (.bool b)).run P w = .ok () w := by
  unfold eqGuard; cases op <;> rfl

theorem run_part_leaf {t : TypeId} {i : TypeInfo} {d : TypeDesc} {z : Value} (f : TFacts X t i d z) (ha : (X.ti t).u.agg = false) {vs : Array Value} {off : Nat} {v : Value} (hv : vs[off]? = some v) (w : World) : (part t vs off).run X.P w = .ok v w := by
  simp only [part, Sem.run_bind, f.isAgg, ha, Result.andThen_ok, hv, Sem.run_pure, Bool.false_eq_true, if_false]
theorem eqFields_run (hX : X.Okb) {ρ : List Hd} {F : Addr → Prop} {w : World} {xs ys : List AV} {vs us : Array Value} (h1 : RepL X.K ρ F w xs vs.toList) (h2 : RepL X.K ρ F w ys us.toList) (d : Nat) : ∀ (gs : List Field) (b : Bool), (∀ g ∈ gs, g.name ≠ "_") →
    eqB X (gs.map fun f => (f.offset, f.type)) xs ys = some b → (Op.eqFields (d + 1) vs us gs).run X.P w = .ok b w
  | [], b, _, h => by
    simp only [List.map_nil, eqB, Option.some.injEq] at h
    subst h
    rfl
  | g :: gs, b, hn, h => by
    simp only [List.map_cons, eqB] at h
    split at h
    · cases h
    rename_i r hr
    have ih := eqFields_run hX h1 h2 d gs r (fun g hg => hn g (by simp [hg])) hr
    have hname : g.name ≠ "_" := hn g (by simp)
    have cell : ∀ {zs : List AV} {ws : Array Value} {x : AV}, RepL X.K ρ F w zs ws.toList → zs[g.offset]? = some x → ∃ v, ws[g.offset]? = some v ∧ Rep X.K ρ F w x v := by
      intro zs ws x hz hx
      have hlt : g.offset < zs.length := (List.getElem?_eq_some_iff.1 hx).1
      have hl := hz.1
      simp only [Array.length_toList] at hl
      obtain ⟨u, hu⟩ : ∃ u, ws[g.offset]? = some u := ⟨ws[g.offset]'(by omega), Array.getElem?_eq_getElem (by omega)⟩
      exact ⟨u, hu, hz.2 g.offset _ _ hx (by rw [Array.getElem?_toList]; exact hu)⟩
    split at h
    · rename_i kt ka a kb c hok hu hxa hyb
      cases hk : ka == kb with
      | false => rw [hk] at h; cases h
      | true =>
        rw [hk] at h
        have hk := eq_of_beq hk
        subst hk
        simp only [Option.some.injEq] at h
        subst h
        obtain ⟨i, dd, z, f⟩ := hX.facts hok
        have hund : X.P.underlying g.type = some (.int kt) := by
          have hu2 := f.u; rw [hu] at hu2
          have hf := f.und
          cases dd <;> simp [tyOf] at hu2
          subst hu2; exact hf
        have ha : (X.ti g.type).u.agg = false := by rw [hu]; rfl
        obtain ⟨v, hv, hv2⟩ := cell h1 hxa
        obtain ⟨u, hu', hu2⟩ := cell h2 hyb
        cases hv2; cases hu2
        simp only [Op.eqFields, ne_eq, hname, not_false_eq_true, if_true, Sem.run_bind, run_part_leaf f ha hv, run_part_leaf f ha hu', Result.andThen_ok, run_equalIn_int (P := X.P) w d g.type ka kt a c hund]
        cases hac : a == c with
        | false => simp [Sem.run_pure]
        | true => simpa using ih
    · rename_i a c hok hu hxa hyb
      simp only [Option.some.injEq] at h
      subst h
      obtain ⟨i, dd, z, f⟩ := hX.facts hok
      have hund : X.P.underlying g.type = some .bool := by
        have hu2 := f.u; rw [hu] at hu2
        have hf := f.und
        cases dd <;> simp [tyOf] at hu2
        exact hf
      have ha : (X.ti g.type).u.agg = false := by rw [hu]; rfl
      obtain ⟨v, hv, hv2⟩ := cell h1 hxa
      obtain ⟨u, hu', hu2⟩ := cell h2 hyb
      cases hv2; cases hu2
      simp only [Op.eqFields, ne_eq, hname, not_false_eq_true, if_true, Sem.run_bind, run_part_leaf f ha hv, run_part_leaf f ha hu', Result.andThen_ok, run_equalIn_bool' (P := X.P) w d g.type a c hund]
      cases hac : a == c with
      | false => simp [Sem.run_pure]
      | true => simpa using ih
    · cases h

theorem evBin_sound (hX : X.Okb) {op : BinOp} {t u : TypeId} {x y : AV} {a b : Operand} {k : AV → Option R} {r : R} (h : evBin X op t x y k = some r) :
    ∃ z, k z = some r ∧ ∀ (ρ : List Hd) (F : Addr → Prop) (w : World) (va vb : Value), Rep X.K ρ F w x va → Rep X.K ρ F w y vb →
      ∃ v, (do eqGuard op t a b va vb; binOp op t va vb : Sem Value).run X.P w = .ok v w ∧ Rep X.K ρ F w z v := by
  unfold evBin at h
  split at h
  · rename_i kx a' ky b'
    have key : ∀ (z : AV) (v : Value), (∀ (ρ : List Hd) (F : Addr → Prop) (w : World), Rep X.K ρ F w z v) → (∀ w, (binOp op t (.int kx a') (.int ky b')).run X.P w = .ok v w) → ∀ (ρ : List Hd) (F : Addr → Prop) (w : World) (va vb : Value), Rep X.K ρ F w (.int kx a') va → Rep X.K ρ F w (.int ky b') vb →
      ∃ v, (do eqGuard op t a b va vb; binOp op t va vb : Sem Value).run X.P w = .ok v w ∧ Rep X.K ρ F w z v := by
      intro z v hz hrun ρ F w va vb h1 h2
      cases h1; cases h2
      refine ⟨v, ?_, hz ρ F w⟩
      rw [Sem.run_bind, run_eqGuard_int]
      exact hrun w
    cases op <;> simp only at h <;> first
      | (replace h := tst_some h
         obtain ⟨e, h⟩ := h
         first
          | (have e' := of_decide_eq_true e
             refine ⟨_, h, key _ _ (fun _ _ _ => .int _ _) fun w => ?_⟩
             unfold binOp Op.shift
             simp [show ¬ b' < 0 by omega]
             done)
          | (rw [beq_iff_eq] at e
             subst e
             first
              | (refine ⟨_, h, key _ _ (fun _ _ _ => .int _ _) fun w => ?_⟩
                 first
                  | (simp [binOp, Op.intArith]; done)
                  | (simp [binOp, Op.intBits]; done))
              | (refine ⟨_, h, key _ _ (fun _ _ _ => .bool _) fun w => ?_⟩
                 simp [binOp, Op.intCmp]; done)
              | (replace h := tst_some h
                 obtain ⟨e2, h⟩ := h
                 refine ⟨_, h, key _ _ (fun _ _ _ => .int _ _) fun w => ?_⟩
                 have hb : b' ≠ 0 := by simpa using e2
                 simp [binOp, Op.intDiv, hb]; done)))
      | cases h
  · rename_i a' b'
    cases hok : (X.ti t).ok with
    | false => simp [hok] at h
    | true =>
      obtain ⟨i, d, z, f⟩ := hX.facts hok
      have hu := f.u
      simp only [hok] at h
      split at h
      · rename_i hub
        have hund : X.P.underlying t = some .bool := by
          rw [hub] at hu; cases d <;> simp [tyOf] at hu; exact f.und
        refine ⟨_, h, fun ρ F w va vb h1 h2 => ?_⟩
        cases h1; cases h2
        refine ⟨_, ?_, .bool _⟩
        rw [Sem.run_bind, run_eqGuard_bool]
        exact run_eql_bool (P := X.P) (w := w) t a' b' hund
      · rename_i hub
        have hund : X.P.underlying t = some .bool := by
          rw [hub] at hu; cases d <;> simp [tyOf] at hu; exact f.und
        refine ⟨_, h, fun ρ F w va vb h1 h2 => ?_⟩
        cases h1; cases h2
        refine ⟨_, ?_, .bool _⟩
        rw [Sem.run_bind, run_eqGuard_bool]
        exact run_neq_bool (P := X.P) (w := w) t a' b' hund
      · cases h
  · rename_i xs ys
    split at h
    · rename_i fs heq hok hu
      split at h
      · cases h
      · rename_i bb hbb
        obtain ⟨i, d, z, f⟩ := hX.facts hok
        have hok2 := hX.eqs t heq
        have hu2 := f.u
        rw [hu] at hu2
        have hund := f.und
        cases d <;> simp only [tyOf] at hu2 <;> try cases hu2
        rename_i gs
        unfold eqOk at hok2
        rw [hund] at hok2
        simp only [Bool.and_eq_true, Bool.not_eq_true', List.all_eq_true, bne_iff_ne] at hok2
        obtain ⟨⟨hn, hst⟩, hg⟩ := hok2
        have hfo : X.P.fieldsOf t = gs := by simp [Program.fieldsOf, hund]
        have run : ∀ (ρ : List Hd) (F : Addr → Prop) (w : World) (va vb : Array Value), RepL X.K ρ F w xs va.toList → RepL X.K ρ F w ys vb.toList → (Op.equalIn 10000 t (.agg va) (.agg vb)).run X.P w = .ok bb w := by
          intro ρ F w va vb h1 h2
          rw [run_equalIn_struct w 9999 t va vb (by rw [hfo]; exact hund) hst, hfo]
          exact eqFields_run hX h1 h2 9998 gs.toList bb hn hbb
        split at h
        · refine ⟨_, h, fun ρ F w va vb h1 h2 => ?_⟩
          cases h1 with
          | agg _ v1 hl1 hc1 =>
            cases h2 with
            | agg _ v2 hl2 hc2 =>
              refine ⟨.bool bb, ?_, .bool _⟩
              rw [Sem.run_bind, run_eqGuard_agg (P := X.P) w .eql t a b _ _ hg, Result.andThen_ok, run_eql_struct, run ρ F w _ _ ⟨hl1, hc1⟩ ⟨hl2, hc2⟩]
              rfl
        · refine ⟨_, h, fun ρ F w va vb h1 h2 => ?_⟩
          cases h1 with
          | agg _ v1 hl1 hc1 =>
            cases h2 with
            | agg _ v2 hl2 hc2 =>
              refine ⟨.bool (!bb), ?_, .bool _⟩
              rw [Sem.run_bind, run_eqGuard_agg (P := X.P) w .neq t a b _ _ hg, Result.andThen_ok, run_neq_struct, run ρ F w _ _ ⟨hl1, hc1⟩ ⟨hl2, hc2⟩]
              rfl
        · cases h
    · cases h
  · split at h
    · rename_i e heq hok hu
      obtain ⟨i, d, z', f⟩ := hX.facts hok
      have hund := f.slice hu
      obtain ⟨bb, h, hv⟩ := evNil_sound h
      refine ⟨_, h, fun ρ F w va vb h1 h2 => ?_⟩
      obtain ⟨a', n, c, rfl, rfl⟩ := hv h1
      cases h2
      refine ⟨.bool a'.isNone, ?_, .bool _⟩
      rw [eqGuard_at_slice, Sem.run_bind, Sem.run_pure, Result.andThen_ok]
      exact Lib.run_eql_slice_nil w t _ a' n c 0 0 hund
    · rename_i e heq hok hu
      obtain ⟨i, d, z', f⟩ := hX.facts hok
      have hund := f.slice hu
      obtain ⟨bb, h, hv⟩ := evNil_sound h
      refine ⟨_, h, fun ρ F w va vb h1 h2 => ?_⟩
      obtain ⟨a', n, c, rfl, rfl⟩ := hv h1
      cases h2
      refine ⟨.bool (!a'.isNone), ?_, .bool _⟩
      rw [eqGuard_at_slice, Sem.run_bind, Sem.run_pure, Result.andThen_ok]
      exact run_neq_slice_nil_any w t _ a' n c 0 0 hund
    · cases h
  · cases h

end
end Go.Eng

namespace Go.Eng
open Go
noncomputable section

variable {X : Cx} {R : Type}
variable {w0 w : World} {S : Sc} {F : Addr → Prop} {ρ : List Hd} {M : List Blk}

def CellsAt (w : World) (a : Addr) (vs : List Value) : Prop := ∀ (j : Nat) v, vs[j]? = some v → w.cell? (a.add j) = some v

theorem run_loadAt (hX : X.Okb) {t : TypeId} (hok : (X.ti t).ok = true) {a : Addr} {vs : List Value} (hl : vs.length = (X.ti t).size) (hc : CellsAt w a vs) :
    ((X.ti t).u.agg = true → (Instr.loadAt t (.pointer (some a))).run X.P w = .ok (.agg vs.toArray) w) ∧
    ((X.ti t).u.agg = false → ∀ v, vs = [v] → (Instr.loadAt t (.pointer (some a))).run X.P w = .ok v w) := by
  obtain ⟨i, d, z, f⟩ := hX.facts hok
  constructor
  · intro ha
    unfold Instr.loadAt Instr.sureAddr loadVar
    simp only [Sem.run_bind, Sem.run_pure, Result.andThen_ok, f.isAgg, ha, if_true, f.sizeOf, ← hl, run_loadCells_list w a vs hc]
  · intro ha v hv
    have h0 := hc 0 v (by simp [hv])
    simp only [Addr.add, if_true] at h0
    unfold Instr.loadAt Instr.sureAddr loadVar
    simp [f.isAgg, ha, run_load, h0]

theorem RepL.drop_take {K : TypeId → List Kind} {xs : List AV} {vs : List Value} (h : RepL K ρ F w xs vs) (off n : Nat) : RepL K ρ F w ((xs.drop off).take n) ((vs.drop off).take n) := by
  refine ⟨by simp [h.1], fun j x v hx hv => ?_⟩
  rw [List.getElem?_take] at hx hv
  split at hx
  · rename_i hj
    rw [if_pos hj] at hv
    rw [List.getElem?_drop] at hx hv
    exact h.2 _ x v hx hv
  · cases hx

theorem CellsAt.drop_take {a : Addr} {vs : List Value} (h : CellsAt w a vs) (off n : Nat) : CellsAt w (a.add off) ((vs.drop off).take n) := by
  intro j v hv
  rw [List.getElem?_take] at hv
  split at hv
  · rw [List.getElem?_drop] at hv
    rw [Addr.add_add]
    exact h _ v hv
  · cases hv

/-- A variable's or a row's cells. -/
theorem Inv.var_cells (hI : Inv X w0 S F ρ M w) {id : Nat} {ks : List Kind} {cs : List AV} (hb : M[id]? = some (.var ks cs)) {hd : Hd} (hh : ρ[id]? = some hd) :
    koks ks cs = true ∧ ∃ g cur e, hd.v = .slice (some ⟨g, 0, none⟩) 1 1 ∧ hd.sz = cs.length ∧ w.heap[g]? = some (.cells cur e (0, 0)) ∧ RepL X.K ρ F w cs cur.toList ∧ CellsAt w ⟨g, 0, none⟩ cur.toList ∧ X.tyB ks e = true := by
  obtain ⟨h1, h2, g, cur, e, hv, hg, hr, hy⟩ := hI.rep id _ hd hb hh
  refine ⟨h1, g, cur, e, hv, h2, hg, hr, fun j v hj => ?_, hy⟩
  rw [Addr.add_lit, Nat.zero_add, cell_of_row w g j cur e (0, 0) hg]
  simpa using hj

theorem Inv.row_cells (hI : Inv X w0 S F ρ M w) {id : Nat} {t : TypeId} {xs : List Row} (hb : M[id]? = some (.row t xs)) {hd : Hd} (hh : ρ[id]? = some hd) {i : Nat} {row : Row} (hi : xs[i]? = some row) :
    koks (X.K t) row = true ∧ hd.sz = (X.K t).length ∧ ∃ g o c cur vs, hd.v = .slice (some ⟨g, o, none⟩) xs.length c ∧ w.heap[g]? = some (.cells cur t (0, 0)) ∧ xs.length ≤ c ∧ c ≤ maxLen ∧ o + c * hd.sz ≤ cur.size ∧
      RepL X.K ρ F w row vs ∧ CellsAt w ⟨g, o + i * hd.sz, none⟩ vs ∧ (∀ (j : Nat) v, vs[j]? = some v → cur[o + i * hd.sz + j]? = some v) := by
  obtain ⟨h1, h2, h3⟩ := hI.rep id _ hd hb hh
  have hk := h2 i row hi
  refine ⟨hk, h1, ?_⟩
  rcases h3 with ⟨_, he⟩ | ⟨g, o, c, cur, hv, hg, h4, h5, h6, h7⟩
  · subst he; simp at hi
  · have hlen := koks_length hk
    have hvs : ∃ vs : List Value, vs.length = row.length ∧ ∀ (j : Nat) x v, row[j]? = some x → vs[j]? = some v → cur[o + i * hd.sz + j]? = some v ∧ Rep X.K ρ F w x v := by
      refine ⟨(List.range row.length).map fun j => cur.getD (o + i * hd.sz + j) undef, by simp, fun j x v hx hv => ?_⟩
      obtain ⟨u, hu, hr⟩ := h7 i row hi j x hx
      have hj := (List.getElem?_eq_some_iff.1 hx).1
      rw [List.getElem?_map, List.getElem?_range hj] at hv
      simp only [Option.map_some, Option.some.injEq] at hv
      have : cur.getD (o + i * hd.sz + j) undef = u := by rw [Array.getD_eq_getD_getElem?, hu]; rfl
      rw [this] at hv
      subst hv
      exact ⟨hu, hr⟩
    obtain ⟨vs, hl, hvs⟩ := hvs
    have hcur : ∀ (j : Nat) v, vs[j]? = some v → cur[o + i * hd.sz + j]? = some v := by
      intro j v hj
      have hj' := (List.getElem?_eq_some_iff.1 hj).1
      exact (hvs j (row[j]'(by omega)) v (List.getElem?_eq_getElem (by omega)) hj).1
    refine ⟨g, o, c, cur, vs, hv, hg, h4, h5, h6, ⟨hl, fun j x v hx hv => (hvs j x v hx hv).2⟩, fun j v hj => ?_, hcur⟩
    rw [Addr.add_lit, cell_of_row w g _ cur t (0, 0) hg]
    exact hcur j v hj

theorem getElem?_of_getD {α : Type} {xs : List α} {i : Nat} {d : α} (h : i < xs.length) : xs[i]? = some (xs.getD i d) := by
  simp [List.getD, List.getElem?_eq_getElem h]

theorem RepL.one {K : TypeId → List Kind} {x : AV} {vs : List Value} (h : RepL K ρ F w [x] vs) : ∃ v, vs = [v] ∧ Rep K ρ F w x v := by
  obtain ⟨h1, h2⟩ := h
  match vs, h1 with
  | [v], _ => exact ⟨v, rfl, h2 0 x v rfl rfl⟩

/-- Reading 'n' cells. -/
theorem load_core (hX : X.Okb) {t : TypeId} (hok : (X.ti t).ok = true) {ks : List Kind} {row : Row} (hk : koks ks row = true) {a : Addr} {vs : List Value} (hr : RepL X.K ρ F w row vs) (hc : CellsAt w a vs) {off : Nat}
    (hb : off + (X.ti t).size ≤ ks.length) :
    ((X.ti t).u.agg = true → ∃ v, (Instr.loadAt t (.pointer (some (a.add off)))).run X.P w = .ok v w ∧ Rep X.K ρ F w (.agg (ldn ks row off (X.ti t).size)) v) ∧
    ((X.ti t).u.agg = false → (X.ti t).size = 1 → ∃ v, (Instr.loadAt t (.pointer (some (a.add off)))).run X.P w = .ok v w ∧ Rep X.K ρ F w (row.getD off .top) v) := by
  have hl := koks_length hk
  have hvl := hr.1
  have hr' := hr.drop_take off (X.ti t).size
  have hc' := hc.drop_take off (X.ti t).size
  have hlen : ((vs.drop off).take (X.ti t).size).length = (X.ti t).size := by simp; omega
  obtain ⟨l1, l2⟩ := run_loadAt (w := w) hX hok hlen hc'
  constructor
  · intro ha
    refine ⟨_, l1 ha, ?_⟩
    rw [ldn_eq hk _ _ hb]
    exact .agg _ _ hr'.1 hr'.2
  · intro ha h1
    have hlt : off < row.length := by omega
    have e : (row.drop off).take (X.ti t).size = [row.getD off .top] := by
      rw [h1, List.drop_eq_getElem_cons hlt, List.take_succ_cons, List.take_zero]
      simp only [List.getD, List.getElem?_eq_getElem hlt, Option.getD_some]
    rw [e] at hr'
    obtain ⟨v, hv, hrep⟩ := hr'.one
    exact ⟨v, l2 ha v hv, hrep⟩

theorem evLoad_sound (hX : X.Okb) {t : TypeId} {p : AV} {k : AV → Option R} {r : R} (h : evLoad X t p M k = some r) :
    ∃ z, k z = some r ∧ ∀ {w0 : World} {S : Sc} {F : Addr → Prop} {ρ : List Hd} {w : World} {vp : Value}, Inv X w0 S F ρ M w → Rep X.K ρ F w p vp → ∃ v, (Instr.loadAt t vp).run X.P w = .ok v w ∧ Rep X.K ρ F w z v := by
  unfold evLoad at h
  simp only [gm_eq] at h
  split at h
  · rename_i t' row off
    replace h := tst_some h
    obtain ⟨h1, h⟩ := h
    simp only [Bool.and_eq_true, decide_eq_true_eq] at h1
    split at h
    · rename_i ha
      refine ⟨_, h, fun {w0 S F ρ w vp} hI hp => ?_⟩
      cases hp with
      | iptr _ _ _ a vs hk hl hc hr => exact (load_core hX h1.1 hk ⟨hl, hr⟩ (fun j v hv => (hc j v hv).1) h1.2).1 ha
    · rename_i ha
      replace h := tst_some h
      obtain ⟨h2, h⟩ := h
      refine ⟨_, h, fun {w0 S F ρ w vp} hI hp => ?_⟩
      cases hp with
      | iptr _ _ _ a vs hk hl hc hr =>
        obtain ⟨v, hv1, hv2⟩ := (load_core hX h1.1 hk ⟨hl, hr⟩ (fun j v hv => (hc j v hv).1) h1.2).2 ha (by simpa using h2)
        refine ⟨v, hv1, ?_⟩
        have hs : (X.ti t).size = 1 := by simpa using h2
        have hoff : off < (X.K t').length := by omega
        rw [kHom_eq hoff, ld_of_kok]
        · exact hv2
        · have hlt : off < row.length := by rw [koks_length hk]; exact hoff
          exact koks_get hk (List.getElem?_eq_getElem hoff) (getElem?_of_getD hlt)
  · rename_i id i off
    split at h
    · rename_i ks cs hb
      replace h := tst_some h
      obtain ⟨h1, h⟩ := h
      simp only [Bool.and_eq_true, decide_eq_true_eq, beq_iff_eq] at h1
      obtain ⟨⟨hok, hi0⟩, hbd⟩ := h1
      subst hi0
      have core : ∀ {w0 : World} {S : Sc} {F : Addr → Prop} {ρ : List Hd} {w : World} {vp : Value}, Inv X w0 S F ρ M w → Rep X.K ρ F w (.ptr id 0 off) vp →
          koks ks cs = true ∧ ∃ a vs, vp = .pointer (some (Addr.add a off)) ∧ RepL X.K ρ F w cs vs ∧ CellsAt w a vs := by
        intro w0 S F ρ w vp hI hp
        cases hp with
        | ptr _ _ _ hd g o n c hid hv =>
          obtain ⟨hk, g', cur, e, hv', hsz, hg, hr, hc, _⟩ := hI.var_cells hb hid
          rw [hv] at hv'
          injection hv' with h1 h2 h3
          injection h1 with h1
          injection h1 with h1 h4 h5
          subst h1; subst h4
          refine ⟨hk, ⟨g, 0, none⟩, cur.toList, ?_, hr, hc⟩
          simp [Addr.add_lit]
      split at h
      · rename_i ha
        refine ⟨_, h, fun {w0 S F ρ w vp} hI hp => ?_⟩
        obtain ⟨hk, a, vs, rfl, hr, hc⟩ := core hI hp
        exact (load_core hX hok hk hr hc hbd).1 ha
      · rename_i ha
        replace h := tst_some h
        obtain ⟨h2, h⟩ := h
        simp only [Bool.and_eq_true, beq_iff_eq] at h2
        refine ⟨_, h, fun {w0 S F ρ w vp} hI hp => ?_⟩
        obtain ⟨hk, a, vs, rfl, hr, hc⟩ := core hI hp
        obtain ⟨v, hv1, hv2⟩ := (load_core hX hok hk hr hc hbd).2 ha h2.1
        refine ⟨v, hv1, ?_⟩
        have hlt : off < cs.length := by have := koks_length hk; omega
        rw [ld_of_kok (koks_get hk (kAt_get h2.2 (by omega)) (getElem?_of_getD hlt))]
        exact hv2
    · rename_i t' xs hb
      replace h := tst_some h
      obtain ⟨h1, h⟩ := h
      simp only [Bool.and_eq_true, decide_eq_true_eq] at h1
      obtain ⟨⟨hok, hbd⟩, hi⟩ := h1
      have core : ∀ {w0 : World} {S : Sc} {F : Addr → Prop} {ρ : List Hd} {w : World} {vp : Value}, Inv X w0 S F ρ M w → Rep X.K ρ F w (.ptr id i off) vp →
          koks (X.K t') (xs.getD i []) = true ∧ ∃ a vs, vp = .pointer (some (Addr.add a off)) ∧ RepL X.K ρ F w (xs.getD i []) vs ∧ CellsAt w a vs := by
        intro w0 S F ρ w vp hI hp
        cases hp with
        | ptr _ _ _ hd g o n c hid hv =>
          obtain ⟨hk, hsz, g', o', c', cur, vs, hv', hg, _, _, _, hr, hc, _⟩ := hI.row_cells hb hid (getElem?_of_getD (d := []) hi)
          rw [hv] at hv'
          injection hv' with h1 h2 h3
          injection h1 with h1
          injection h1 with h1 h4 h5
          subst h1; subst h4
          refine ⟨hk, _, vs, ?_, hr, hc⟩
          simp [Addr.add_lit]
      split at h
      · rename_i ha
        refine ⟨_, h, fun {w0 S F ρ w vp} hI hp => ?_⟩
        obtain ⟨hk, a, vs, rfl, hr, hc⟩ := core hI hp
        exact (load_core hX hok hk hr hc hbd).1 ha
      · rename_i ha
        replace h := tst_some h
        obtain ⟨h2, h⟩ := h
        refine ⟨_, h, fun {w0 S F ρ w vp} hI hp => ?_⟩
        obtain ⟨hk, a, vs, rfl, hr, hc⟩ := core hI hp
        have hs : (X.ti t).size = 1 := by simpa using h2
        obtain ⟨v, hv1, hv2⟩ := (load_core hX hok hk hr hc hbd).2 ha hs
        refine ⟨v, hv1, ?_⟩
        have hoff : off < (X.K t').length := by omega
        have hlt : off < (xs.getD i []).length := by rw [koks_length hk]; exact hoff
        rw [show (X.K t').getD off .raw = (X.K t')[off] by simp [List.getD, List.getElem?_eq_getElem hoff], ld_of_kok (koks_get hk (List.getElem?_eq_getElem hoff) (getElem?_of_getD hlt))]
        exact hv2
    · cases h
  · cases h

end
end Go.Eng

namespace Go.Eng
open Go
noncomputable section

variable {X : Cx} {R : Type}
variable {w0 w : World} {S : Sc} {F : Addr → Prop} {ρ : List Hd} {M : List Blk}

def ptrIds : AV → List Nat | .ptr id _ _ => [id] | _ => []
def ownIds : AV → List Nat | .own id => [id] | _ => []
/-- The block of which a slice shows rows. -/
def rdIds : AV → List Nat | .own id => [id] | .vw id _ _ => [id] | _ => []

/-- A slice of ours becomes a value that nobody writes. -/
def frz (k : Kind) (x : AV) (M : List Blk) (c : AV → List Blk → Option R) : Option R :=
  match k, x with
  | .slice t, .nilsl => c (.list t []) M
  | .slice t, .own id =>
    match gm M id with
    | some (.row t' xs) => tst (t == t') (c (.list t' xs) (M.set id (.fro t' xs)))
    | some (.fro t' xs) => tst (t == t') (c (.list t' xs) M)
    | _ => none
  | _, x => c x M

def frzL : List Kind → List AV → List Blk → (List AV → List Blk → Option R) → Option R
  | k :: ks, x :: xs, M, c => frz k x M fun x' M' => frzL ks xs M' fun xs' M'' => c (x' :: xs') M''
  | _, xs, M, c => c xs M

theorem rep_list_of_row (hI : Inv X w0 S F ρ M w) {id : Nat} {t : TypeId} {xs : List Row} (hb : M[id]? = some (.row t xs)) {hd : Hd} (hh : ρ[id]? = some hd) :
    (hd.blk? = none ∧ xs = [] ∧ hd.v = .slice none 0 0) ∨ ∃ g, hd.blk? = some g ∧ ∀ (F' : Addr → Prop), (∀ a, F a → F' a) → (∀ a, a.block = g → F' a) → Rep X.K ρ F' w (.list t xs) hd.v := by
  have hrep := hI.rep id _ hd hb hh
  obtain ⟨h1, h2, h3⟩ := hrep
  rcases h3 with ⟨h3, h4⟩ | ⟨g, o, c, cur, hv, hg, h4, h5, h6, h7⟩
  · exact .inl ⟨by simp [Hd.blk?, Value.blk?, h3], h4, h3⟩
  · refine .inr ⟨g, by simp [Hd.blk?, Value.blk?, hv], fun F' hF hF' => ?_⟩
    rw [hv]
    have hrow : ∀ i : Nat, i < xs.length → ∃ vs, RepL X.K ρ F w (xs.getD i []) vs ∧ CellsAt w ⟨g, o + i * hd.sz, none⟩ vs := by
      intro i hi
      obtain ⟨_, _, g', o', c', cur', vs, hv', _, _, _, _, hr, hc, _⟩ := hI.row_cells hb hh (getElem?_of_getD (d := []) hi)
      rw [hv] at hv'
      injection hv' with e1 e2 e3
      injection e1 with e1
      injection e1 with e1 e4 e5
      subst e1; subst e4
      exact ⟨vs, hr, hc⟩
    let vss : List (List Value) := (List.range xs.length).map fun i => if h : i < xs.length then (hrow i h).choose else []
    have hvss : ∀ (i : Nat) vs, vss[i]? = some vs → ∃ h : i < xs.length, vs = (hrow i h).choose := by
      intro i vs hvs
      have hi : i < xs.length := by
        have := (List.getElem?_eq_some_iff.1 hvs).1
        simpa [vss] using this
      refine ⟨hi, ?_⟩
      simp only [vss, List.getElem?_map, List.getElem?_range hi, Option.map_some, Option.some.injEq, dif_pos hi] at hvs
      exact hvs.symm
    refine .list t xs ⟨g, o, none⟩ c vss (by simp [vss]) h4 h5 h2 ?_ ?_
    · intro i vs hvs
      obtain ⟨hi, rfl⟩ := hvss i vs hvs
      obtain ⟨hr, hc⟩ := (hrow i hi).choose_spec
      refine ⟨by rw [hr.1, koks_length (h2 i _ (getElem?_of_getD hi))], fun j v hj => ?_⟩
      have := hc j v hj
      rw [Addr.add_lit] at this ⊢
      rw [← h1]
      rw [show o + (i * hd.sz + j) = o + i * hd.sz + j by omega]
      exact ⟨this, hF' _ rfl⟩
    · intro i row vs hrow' hvs j x v hx hv'
      obtain ⟨hi, rfl⟩ := hvss i vs hvs
      obtain ⟨hr, _⟩ := (hrow i hi).choose_spec
      have e : row = xs.getD i [] := by
        have := getElem?_of_getD (d := ([] : Row)) hi
        rw [hrow'] at this
        injection this
      subst e
      exact (hr.2 j x v hx hv').mono (fun _ _ h => h) hF (fun _ _ _ h => h)

/-- Replacing a block that has no memory of its own. -/
theorem Inv.retag (hI : Inv X w0 S F ρ M w) {id : Nat} {b b' : Blk} {hd : Hd} (hb : M[id]? = some b) (hh : ρ[id]? = some hd) (hgb : hd.blk? = none) (hrep : BRep X ρ F w hd b') : Inv X w0 S F ρ (M.set id b') w where
  os := hI.os
  tape := hI.tape
  output := hI.output
  size := hI.size
  frame := hI.frame
  len := by simpa using hI.len
  rep := fun id' c h' hc hh' => by
    by_cases hid : id' = id
    · subst hid
      have hlt := (List.getElem?_eq_some_iff.1 hb).1
      rw [List.getElem?_set_self hlt] at hc
      injection hc with hc
      subst hc
      rw [hh] at hh'
      injection hh' with hh'
      subst hh'
      exact hrep
    · rw [List.getElem?_set_ne (Ne.symm hid)] at hc
      exact hI.rep id' c h' hc hh'
  sep := fun id' c h' g' hc hd2 hh' hg' => by
    by_cases hid : id' = id
    · subst hid
      rw [hh] at hh'
      injection hh' with hh'
      subst hh'
      rw [hgb] at hg'
      cases hg'
    · rw [List.getElem?_set_ne (Ne.symm hid)] at hc
      exact hI.sep id' c h' g' hc hd2 hh' hg'
  disj := fun i j c d hc h' k hij h1 h2 h3 h4 h5 h6 h7 => by
    by_cases hi : i = id
    · subst hi
      rw [hh] at h5
      injection h5 with h5
      subst h5
      rw [hgb] at h7
      cases h7
    · by_cases hj : j = id
      · subst hj
        rw [hh] at h6
        injection h6 with h6
        subst h6
        rw [hgb]
        simp
      · rw [List.getElem?_set_ne (Ne.symm hi)] at h1
        rw [List.getElem?_set_ne (Ne.symm hj)] at h2
        exact hI.disj i j c d hc h' k hij h1 h2 h3 h4 h5 h6 h7
  fz := hI.fz
  glob := hI.glob
  one := hI.one
  old := hI.old
  fin := hI.fin

theorem frz_sound {k : Kind} {x : AV} {c : AV → List Blk → Option R} {r : R} (h : frz k x M c = some r) :
    ∃ x' M', c x' M' = some r ∧ M'.length = M.length ∧ Agree (ownIds x) M M' ∧ ∀ {w0 : World} {S : Sc} {F : Addr → Prop} {ρ : List Hd} {w : World}, Inv X w0 S F ρ M w → ∃ F', Inv X w0 S F' ρ M' w ∧ Grow F F' ρ ρ w w ∧ ∀ v, Rep X.K ρ F w x v → Rep X.K ρ F' w x' v := by
  unfold frz at h
  simp only [gm_eq] at h
  split at h
  · exact ⟨_, _, h, rfl, Agree.refl _ _, fun {w0 S F ρ w} hI => ⟨F, hI, Grow.refl _ _ _, fun v hv => by cases hv; exact .list0 _⟩⟩
  · rename_i t id
    split at h
    · rename_i t' xs hb
      replace h := tst_some h
      obtain ⟨_, h⟩ := h
      refine ⟨_, _, h, by simp, Agree.set _ _ _, fun {w0 S F ρ w} hI => ?_⟩
      have hlt : id < ρ.length := by have := (List.getElem?_eq_some_iff.1 hb).1; have := hI.len; omega
      have hh : ρ[id]? = some ρ[id] := List.getElem?_eq_getElem hlt
      rcases rep_list_of_row hI hb hh with ⟨h1, h2, h3⟩ | ⟨g, h1, h2⟩
      · refine ⟨F, hI.retag hb hh h1 ?_, Grow.refl _ _ _, fun v hv => ?_⟩
        · subst h2
          show Rep _ _ _ _ _ _
          rw [h3]
          exact .list0 _
        · cases hv with
          | own _ hd hid =>
            rw [hh] at hid
            injection hid with hid
            subst hid
            subst h2
            rw [h3]
            exact .list0 _
      · have hr := h2 (fun a => F a ∨ a.block = g) (fun _ h => .inl h) (fun _ h => .inr h)
        refine ⟨_, hI.freeze hb rfl hh h1 (b' := .fro t' xs) rfl hr, ⟨fun _ h => .inl h, fun _ _ h => h, fun _ _ => rfl⟩, fun v hv => ?_⟩
        cases hv with
        | own _ hd hid =>
          rw [hh] at hid
          injection hid with hid
          subst hid
          exact hr
    · rename_i t' xs hb
      replace h := tst_some h
      obtain ⟨_, h⟩ := h
      refine ⟨_, _, h, rfl, Agree.refl _ _, fun {w0 S F ρ w} hI => ⟨F, hI, Grow.refl _ _ _, fun v hv => ?_⟩⟩
      cases hv with
      | own _ hd hid => exact hI.rep id _ hd hb hid
    · cases h
  · exact ⟨_, _, h, rfl, Agree.refl _ _, fun {w0 S F ρ w} hI => ⟨F, hI, Grow.refl _ _ _, fun _ hv => hv⟩⟩

theorem frzL_sound : ∀ (ks : List Kind) (xs : List AV) (M : List Blk) {c : List AV → List Blk → Option R} {r : R}, frzL ks xs M c = some r →
    ∃ xs' M', c xs' M' = some r ∧ M'.length = M.length ∧ Agree (xs.flatMap ownIds) M M' ∧ ∀ {w0 : World} {S : Sc} {F : Addr → Prop} {ρ : List Hd} {w : World}, Inv X w0 S F ρ M w → ∃ F', Inv X w0 S F' ρ M' w ∧ Grow F F' ρ ρ w w ∧ ∀ vs, RepL X.K ρ F w xs vs → RepL X.K ρ F' w xs' vs
  | [], xs, M, c, r, h => by
    simp only [frzL] at h
    exact ⟨_, _, h, rfl, Agree.refl _ _, fun {w0 S F ρ w} hI => ⟨F, hI, Grow.refl _ _ _, fun _ hv => hv⟩⟩
  | k :: ks, [], M, c, r, h => by
    simp only [frzL] at h
    exact ⟨_, _, h, rfl, Agree.refl _ _, fun {w0 S F ρ w} hI => ⟨F, hI, Grow.refl _ _ _, fun _ hv => hv⟩⟩
  | k :: ks, x :: xs, M, c, r, h => by
    simp only [frzL] at h
    obtain ⟨x', M1, h, hl1, ha1, h1⟩ := frz_sound (X := X) h
    obtain ⟨xs', M2, h, hl2, ha2, h2⟩ := frzL_sound ks xs M1 h
    refine ⟨_, _, h, by omega, by rw [List.flatMap_cons]; exact ha1.trans ha2, fun {w0 S F ρ w} hI => ?_⟩
    obtain ⟨F1, i1, g1, r1⟩ := h1 hI
    obtain ⟨F2, i2, g2, r2⟩ := h2 i1
    refine ⟨F2, i2, g1.trans g2, fun vs hvs => ?_⟩
    match vs, hvs.1 with
    | v :: vs', hl =>
      have hx : Rep X.K ρ F w x v := hvs.2 0 x v rfl rfl
      have hr := r2 vs' ⟨by simpa using hl, fun j y u hy hu => (hvs.2 (j + 1) y u (by simpa using hy) (by simpa using hu)).grow g1⟩
      refine ⟨by simp [hr.1], fun j y u hy hu => ?_⟩
      cases j with
      | zero => simp at hy hu; subst hy; subst hu; exact (r1 v hx).grow g2
      | succ j => exact hr.2 j y u (by simpa using hy) (by simpa using hu)

theorem splice_get (cur : Array Value) (vs : List Value) (o : Nat) (hb : o + vs.length ≤ cur.size) (j : Nat) :
    (cur.toList.take o ++ vs ++ cur.toList.drop (o + vs.length)).toArray[j]? = if o ≤ j ∧ j < o + vs.length then vs[j - o]? else cur[j]? := by
  simp only [List.getElem?_toArray, List.append_assoc]
  by_cases h1 : j < o
  · rw [List.getElem?_append_left (by simp; omega), if_neg (by omega), List.getElem?_take, if_pos h1]
    simp
  · rw [List.getElem?_append_right (by simp; omega)]
    have e : (List.take o cur.toList).length = o := by simp; omega
    rw [e]
    by_cases h2 : j < o + vs.length
    · rw [if_pos ⟨by omega, h2⟩, List.getElem?_append_left (by omega)]
    · rw [if_neg (by omega), List.getElem?_append_right (by omega), List.getElem?_drop]
      rw [show o + vs.length + (j - o - vs.length) = j by omega]
      simp

theorem run_storeAt (hX : X.Okb) {t : TypeId} (hok : (X.ti t).ok = true) {g o : Nat} {cur : Array Value} {e : TypeId} (hg : w.heap[g]? = some (.cells cur e (0, 0))) {v : Value} (hs : v.cells.size = (X.ti t).size)
    (hb : o + v.cells.size ≤ cur.size) (h1 : ∀ u ∈ v.cells.toList, u.oneCell' = true) :
    (Instr.storeAt t (.pointer (some ⟨g, o, none⟩)) v).run X.P w = .ok () (w.setRow g (cur.toList.take o ++ v.cells.toList ++ cur.toList.drop (o + v.cells.toList.length)).toArray) := by
  obtain ⟨i, d, z, f⟩ := hX.facts hok
  have hst := run_storeCells_at X.P g o e v.cells.toList 0 cur w hg (by simpa using hb) h1
  simp only [Nat.add_zero] at hst
  unfold Instr.storeAt Instr.sureAddr storeVar
  simp only [Sem.run_bind, Sem.run_pure, Result.andThen_ok, f.sizeOf, hs, ne_eq, not_true_eq_false, if_false, hst]

theorem grownBy_setRow (w : World) (g : Nat) (cs : Array Value) : w.grownBy (w.setRow g cs) (some g) :=
  ⟨rfl, rfl, rfl, by simp, fun k _ hk => setRow_other w g k cs (fun e => hk (by rw [e]))⟩

theorem leaf_or_agg {x : AV} (h : x.plain = true) : x.leaf = true ∨ ∃ cs, x = .agg cs := by
  cases x <;> simp_all [AV.plain, AV.leaf]

def evStore (X : Cx) (t : TypeId) (p x : AV) (M : List Blk) (k : List Blk → Option R) : Option R :=
  match p with
  | .ptr id i off =>
    match gm M id with
    | some (.var ks cs) =>
      tst (x.plain && (X.ti t).ok && i == 0 && x.cells.length == (X.ti t).size && decide (off + (X.ti t).size ≤ ks.length) && ksAt ks off x.cells) (k (M.set id (.var ks (setAt cs off x.cells))))
    | some (.row _ _) =>
      tst x.plain (frzL (X.ti t).ks x.cells M fun xc M1 =>
        match gm M1 id with
        | some (.row t' xs) =>
          tst ((X.ti t).ok && xc.length == (X.ti t).size && decide (off + (X.ti t).size ≤ (X.K t').length) && ksAt (X.K t') off xc && decide (i < xs.length)) (k (M1.set id (.row t' (xs.set i (setAt (xs.getD i []) off xc)))))
        | _ => none)
    | _ => none
  | _ => none

theorem evStore_sound (hX : X.Okb) {t : TypeId} {p x : AV} {k : List Blk → Option R} {r : R} (h : evStore X t p x M k = some r) :
    ∃ M', k M' = some r ∧ Agree (ptrIds p ++ x.cells.flatMap ownIds) M M' ∧ ∀ {w0 : World} {S : Sc} {F : Addr → Prop} {ρ : List Hd} {w : World} {vp vx : Value}, Inv X w0 S F ρ M w → Rep X.K ρ F w p vp → Rep X.K ρ F w x vx →
      ∃ w' F', (Instr.storeAt t vp vx).run X.P w = .ok () w' ∧ Inv X w0 S F' ρ M' w' ∧ Grow F F' ρ ρ w w' := by
  unfold evStore at h
  simp only [gm_eq] at h
  split at h
  · rename_i id i off
    split at h
    · rename_i ks cs hb
      replace h := tst_some h
      obtain ⟨h1, h⟩ := h
      simp only [Bool.and_eq_true, decide_eq_true_eq, beq_iff_eq] at h1
      obtain ⟨⟨⟨⟨⟨hpl, hok⟩, hi0⟩, hlen⟩, hbd⟩, hks⟩ := h1
      subst hi0
      refine ⟨_, h, (Agree.set _ _ _).mono (by simp [ptrIds]), fun {w0 S F ρ w vp vx} hI hp hx => ?_⟩
      cases hp with
      | ptr _ _ _ hd g o n c hid hv =>
        obtain ⟨hk, g', cur, e, hv', hsz, hg, hr, hc, hy⟩ := hI.var_cells hb hid
        have hv2 := hv'
        rw [hv] at hv'
        injection hv' with e1 e2 e3
        injection e1 with e1
        injection e1 with e1 e4 e5
        subst e1; subst e4
        have hleaf : ∀ y ∈ x.cells, y.leaf = true := by
          intro y hy
          obtain ⟨j, hj⟩ := List.getElem?_of_mem hy
          exact leaf_of_kok (ksAt_get hks (by omega) hj)
        have hxc := hx.cells (leaf_or_agg hpl) hI.one
        have hvs : vx.cells.size = (X.ti t).size := by have := hxc.1; simp at this; omega
        have hkl := koks_length hk
        have hcl := hr.1
        simp only [Array.length_toList] at hcl
        have hone : ∀ u ∈ vx.cells.toList, u.oneCell' = true := by
          intro u hu
          obtain ⟨j, hj⟩ := List.getElem?_of_mem hu
          have hj' := (List.getElem?_eq_some_iff.1 hj).1
          have hl := hxc.1
          have hy : x.cells[j]? = some (x.cells[j]'(by omega)) := List.getElem?_eq_getElem (by omega)
          exact oneCell_of_leaf (hxc.2 j _ u hy hj) (hleaf _ (List.mem_of_getElem? hy)) hI.one
        have hrun := run_storeAt (w := w) hX hok (o := off) hg hvs (by omega) hone
        have e0 : (0 + 0 * hd.sz + off : Nat) = off := by omega
        rw [e0]
        have hgr := grownBy_setRow w g (cur.toList.take off ++ vx.cells.toList ++ cur.toList.drop (off + vx.cells.toList.length)).toArray
        have hfa : ∀ a, F a → a.block ≠ g := (hI.sep id _ hd g hb rfl hid (by simp [Hd.blk?, Value.blk?, hv])).2.2
        have hgrow : Grow F F ρ ρ w (w.setRow g (cur.toList.take off ++ vx.cells.toList ++ cur.toList.drop (off + vx.cells.toList.length)).toArray) :=
          ⟨fun _ h => h, fun _ _ h => h, hI.blks hgr (fun k hk a ha => by injection hk with hk; subst hk; exact hfa a ha)⟩
        refine ⟨_, F, hrun, hI.write hb rfl hid (by simp [Hd.blk?, Value.blk?, hv]) hgr ?_, hgrow⟩
        refine ⟨koks_setAt hk hks (by omega), by rw [setAt_length]; exact hsz, g, _, e, hv2, setRow_heap w g cur _ e _ hg, ⟨?_, fun j y u hy hu => ?_⟩, hy⟩
        · rw [setAt_length]; simp only [List.length_append, List.length_take, List.length_drop, Array.length_toList]; omega
        · rw [setAt_get x.cells cs off (by omega) j] at hy
          have hu' : (cur.toList.take off ++ vx.cells.toList ++ cur.toList.drop (off + vx.cells.toList.length)).toArray[j]? = some u := by simpa using hu
          rw [splice_get cur vx.cells.toList off (by simp; omega) j] at hu'
          have el : vx.cells.toList.length = x.cells.length := hxc.1
          rw [el] at hu'
          by_cases hj : off ≤ j ∧ j < off + x.cells.length
          · rw [if_pos hj] at hy hu'
            exact (hxc.2 _ y u hy hu').grow hgrow
          · rw [if_neg hj] at hy hu'
            exact (hr.2 j y u hy (by simpa using hu')).grow hgrow
    · rename_i t0 xs0 hb0
      replace h := tst_some h
      obtain ⟨hpl, h⟩ := h
      obtain ⟨xc, M1, h, hl1, hag, hfz⟩ := frzL_sound (X := X) _ _ _ h
      split at h
      · rename_i t' xs hb
        replace h := tst_some h
        obtain ⟨h1, h⟩ := h
        simp only [Bool.and_eq_true, decide_eq_true_eq, beq_iff_eq] at h1
        obtain ⟨⟨⟨⟨hok, hlen⟩, hbd⟩, hks⟩, hi⟩ := h1
        refine ⟨_, h, (hag.trans (Agree.set _ _ _)).mono (by intro i hi; rw [List.mem_append] at hi ⊢; rcases hi with h | h; exact .inr h; exact .inl (by simpa [ptrIds] using h)), fun {w0 S F0 ρ w vp vx} hI0 hp hx => ?_⟩
        obtain ⟨F, hI, hg0, hfr⟩ := hfz hI0
        cases hp with
        | ptr _ _ _ hd g o n c hid hv =>
          obtain ⟨hk, hsz, g', o', c', cur, vs, hv', hg, hc1, hc2, hc3, hr, hc, hcur⟩ := hI.row_cells hb hid (getElem?_of_getD (d := []) hi)
          have hv3 := hv'
          rw [hv] at hv'
          injection hv' with e1 e2 e3
          injection e1 with e1
          injection e1 with e1 e4 e5
          subst e1; subst e4; subst e3
          have hleaf : ∀ y ∈ xc, y.leaf = true := by
            intro y hy
            obtain ⟨j, hj⟩ := List.getElem?_of_mem hy
            exact leaf_of_kok (ksAt_get hks (by omega) hj)
          have hkl := koks_length hk
          have hxc : RepL X.K ρ F w xc vx.cells.toList := hfr _ (hx.cells (leaf_or_agg hpl) hI0.one)
          have hvs : vx.cells.size = (X.ti t).size := by have := hxc.1; simp at this; omega
          have hone : ∀ u ∈ vx.cells.toList, u.oneCell' = true := by
            intro u hu
            obtain ⟨j, hj⟩ := List.getElem?_of_mem hu
            have hj' := (List.getElem?_eq_some_iff.1 hj).1
            have hl := hxc.1
            have hy : xc[j]? = some (xc[j]'(by omega)) := List.getElem?_eq_getElem (by omega)
            exact oneCell_of_leaf (hxc.2 j _ u hy hj) (hleaf _ (List.mem_of_getElem? hy)) hI.one
          have hrowb : o + i * hd.sz + hd.sz ≤ cur.size := by
            have : (i + 1) * hd.sz ≤ c * hd.sz := Nat.mul_le_mul_right _ (by omega)
            rw [Nat.add_mul, Nat.one_mul] at this
            omega
          have hrun := run_storeAt (w := w) hX hok (o := o + i * hd.sz + off) hg hvs (by omega) hone
          have hgr := grownBy_setRow w g (cur.toList.take (o + i * hd.sz + off) ++ vx.cells.toList ++ cur.toList.drop (o + i * hd.sz + off + vx.cells.toList.length)).toArray
          have hfa : ∀ a, F a → a.block ≠ g := (hI.sep id _ hd g hb rfl hid (by simp [Hd.blk?, Value.blk?, hv])).2.2
          have hgrow : Grow F F ρ ρ w (w.setRow g (cur.toList.take (o + i * hd.sz + off) ++ vx.cells.toList ++ cur.toList.drop (o + i * hd.sz + off + vx.cells.toList.length)).toArray) :=
            ⟨fun _ h => h, fun _ _ h => h, hI.blks hgr (fun k hk a ha => by injection hk with hk; subst hk; exact hfa a ha)⟩
          obtain ⟨q1, q2, q3⟩ := hI.rep id _ hd hb hid
          have q4 : ∀ (i : Nat) row, xs[i]? = some row → ∀ (j : Nat) x, row[j]? = some x → ∃ v, cur[o + i * hd.sz + j]? = some v ∧ Rep X.K ρ F w x v := by
            rcases q3 with ⟨q5, _⟩ | ⟨g2, o2, c2, cur2, hv2, hg2, _, _, _, q7⟩
            · rw [hv] at q5; cases q5
            · rw [hv] at hv2
              injection hv2 with e1 e2 e3
              injection e1 with e1
              injection e1 with e1 e4 e5
              subst e1; subst e4
              rw [hg] at hg2
              injection hg2 with hg2
              injection hg2 with hg2
              subst hg2
              exact q7
          have hxl : xs[i]? = some (xs.getD i []) := getElem?_of_getD hi
          refine ⟨_, F, hrun, hI.write hb rfl hid (by simp [Hd.blk?, Value.blk?, hv]) hgr ?_, hg0.trans hgrow⟩
          refine ⟨hsz, fun i' row' hi' => ?_, .inr ⟨g, o, c, _, by rw [List.length_set]; exact hv3, setRow_heap w g cur _ t' _ hg, by rw [List.length_set]; exact hc1, hc2, ?_, fun i' row' hi' j y hy => ?_⟩⟩
          · by_cases hii : i' = i
            · subst hii
              rw [List.getElem?_set_self hi] at hi'
              injection hi' with hi'
              subst hi'
              exact koks_setAt hk hks (by omega)
            · rw [List.getElem?_set_ne (Ne.symm hii)] at hi'
              exact q2 i' row' hi'
          · simp only [List.size_toArray, List.length_append, List.length_take, List.length_drop, Array.length_toList]
            omega
          · have el : vx.cells.toList.length = xc.length := hxc.1
            rw [splice_get cur vx.cells.toList _ (by simp; omega) _]
            have hrl : ∀ (i : Nat) row, xs[i]? = some row → row.length = hd.sz := fun i row h => by rw [koks_length (q2 i row h), hsz]
            by_cases hii : i' = i
            · subst hii
              rw [List.getElem?_set_self hi] at hi'
              injection hi' with hi'
              subst hi'
              rw [setAt_get xc _ off (by omega) j] at hy
              by_cases hj : off ≤ j ∧ j < off + xc.length
              · rw [if_pos hj] at hy
                rw [if_pos (by omega)]
                have hj2 : j - off < xc.length := by omega
                have hu : vx.cells.toList[j - off]? = some (vx.cells.toList[j - off]'(by omega)) := List.getElem?_eq_getElem (by omega)
                refine ⟨_, by rw [show o + i' * hd.sz + j - (o + i' * hd.sz + off) = j - off by omega]; exact hu, (hxc.2 _ y _ hy hu).grow hgrow⟩
              · rw [if_neg hj] at hy
                rw [if_neg (by omega)]
                obtain ⟨u, hu, hru⟩ := q4 i' _ hxl j y hy
                exact ⟨u, hu, hru.grow hgrow⟩
            · rw [List.getElem?_set_ne (Ne.symm hii)] at hi'
              have hjl : j < hd.sz := by rw [← hrl i' row' hi']; exact (List.getElem?_eq_some_iff.1 hy).1
              have hne : ¬ (o + i * hd.sz + off ≤ o + i' * hd.sz + j ∧ o + i' * hd.sz + j < o + i * hd.sz + off + vx.cells.toList.length) := by
                rcases Nat.lt_or_gt_of_ne hii with hlt | hgt
                · have : (i' + 1) * hd.sz ≤ i * hd.sz := Nat.mul_le_mul_right _ (by omega)
                  rw [Nat.add_mul, Nat.one_mul] at this
                  omega
                · have : (i + 1) * hd.sz ≤ i' * hd.sz := Nat.mul_le_mul_right _ (by omega)
                  rw [Nat.add_mul, Nat.one_mul] at this
                  omega
              rw [if_neg hne]
              obtain ⟨u, hu, hru⟩ := q4 i' row' hi' j y hy
              exact ⟨u, hu, hru.grow hgrow⟩
      · cases h
    · cases h
  · cases h

end
end Go.Eng

namespace Go.Eng
open Go
noncomputable section

variable {X : Cx} {R : Type}
variable {w0 w : World} {S : Sc} {F : Addr → Prop} {ρ : List Hd} {M : List Blk}

/-- What every piece below is stated in: the abstract result, and that the model's run leaves what it stands for. -/
def Does (X : Cx) (M : List Blk) (x : AV) (M' : List Blk) (hyp : List Hd → (Addr → Prop) → World → Prop) (s : Sem Value) : Prop :=
  ∀ {w0 : World} {S : Sc} {F : Addr → Prop} {ρ : List Hd} {w : World}, Inv X w0 S F ρ M w → hyp ρ F w →
    ∃ v w' ρ' F', s.run X.P w = .ok v w' ∧ Inv X w0 S F' ρ' M' w' ∧ Grow F F' ρ ρ' w w' ∧ Rep X.K ρ' F' w' x v

theorem cell_alloc_keeps {w : World} {o : Obj} : ∀ a v, w.cell? a = some v → (w.alloc o).cell? a = some v := by
  intro a v h
  rw [World.cell?_alloc_lt _ _ _ (block_lt_of_cell h)]
  exact h

theorem Inv.newVar (hI : Inv X w0 S F ρ M w) {ks : List Kind} {cs : List AV} (hk : koks ks cs = true) {cur : Array Value} (hr : RepL X.K ρ F w cs cur.toList) (e : TypeId) (hy : X.tyB ks e = true) :
    Inv X w0 S F (ρ ++ [⟨.slice (some ⟨w.heap.size, 0, none⟩) 1 1, cs.length⟩]) (M ++ [.var ks cs]) (w.alloc (.cells cur e)) ∧
    Grow F F ρ (ρ ++ [⟨.slice (some ⟨w.heap.size, 0, none⟩) 1 1, cs.length⟩]) w (w.alloc (.cells cur e)) := by
  have hgrow : Grow F F ρ (ρ ++ [⟨.slice (some ⟨w.heap.size, 0, none⟩) 1 1, cs.length⟩]) w (w.alloc (.cells cur e)) :=
    ⟨fun _ h => h, fun _ _ h => getElem?_append_old h, hI.blks (World.grownBy_alloc w _ none) (by simp)⟩
  refine ⟨hI.push (World.grownBy_alloc w _ none) (hd := ⟨.slice (some ⟨w.heap.size, 0, none⟩) 1 1, cs.length⟩) ?_ rfl ?_, hgrow⟩
  · intro g hg
    simp [Hd.blk?, Value.blk?] at hg
    subst hg
    simp
  · exact ⟨hk, rfl, _, _, _, rfl, heap_alloc_new w _, hr.grow hgrow, hy⟩

theorem ptr_last {hd : Hd} {g o n c : Nat} (hl : ρ.length = M.length) (hv : hd.v = .slice (some ⟨g, o, none⟩) n c) (i off : Nat) :
    Rep X.K (ρ ++ [hd]) F w (.ptr M.length i off) (.pointer (some ⟨g, o + i * hd.sz + off, none⟩)) :=
  .ptr _ _ _ hd g o n c (by rw [← hl]; simp) hv

def vks (X : Cx) (t : TypeId) : List Kind := (X.ti t).ks.map Kind.v

def evAlloc (X : Cx) (t : TypeId) (M : List Blk) (k : AV → List Blk → Option R) : Option R :=
  tst (((X.ti t).ok && X.tyB (vks X t) t) && koks (vks X t) (X.ti t).zero) (k (.ptr M.length 0 0) (M ++ [.var (vks X t) (X.ti t).zero]))

theorem evAlloc_sound (hX : X.Okb) {t : TypeId} {k : AV → List Blk → Option R} {r : R} (h : evAlloc X t M k = some r) :
    ∃ x M', k x M' = some r ∧ Agree [] M M' ∧ Does X M x M' (fun _ _ _ => True) (Instr.alloc t true (.tuple #[])) := by
  unfold evAlloc at h
  replace h := tst_some h
  obtain ⟨h1, h⟩ := h
  simp only [Bool.and_eq_true] at h1
  obtain ⟨i, d, z, f⟩ := hX.facts h1.1.1
  refine ⟨_, _, h, Agree.push _ _ _, fun {w0 S F ρ w} hI _ => ?_⟩
  have hr : RepL X.K ρ F w (X.ti t).zero z.cells.toList := by rw [f.zc]; exact repL_zero _ _ _ _ _
  obtain ⟨hI', hg⟩ := hI.newVar h1.2 hr t h1.1.2
  refine ⟨.pointer (some ⟨w.heap.size, 0, none⟩), _, _, _, ?_, hI', hg, ?_⟩
  · simp only [Instr.alloc, Sem.run_bind, f.zeroValue, Result.andThen_ok, newVar, newRow, run_newObj, Sem.run_pure, World.alloc_eq]
  · have := ptr_last (X := X) (F := F) (w := w.alloc (.cells z.cells t)) (hd := ⟨.slice (some ⟨w.heap.size, 0, none⟩) 1 1, (X.ti t).zero.length⟩) hI.len rfl 0 0
    simpa using this

def evBox (X : Cx) (t : TypeId) (x : AV) (M : List Blk) (k : AV → List Blk → Option R) : Option R :=
  tst ((x.plain && X.tyB (vks X t) t) && koks (vks X t) x.cells) (k (.ptr M.length 0 0) (M ++ [.var (vks X t) x.cells]))

theorem evBox_sound {t : TypeId} {x : AV} {k : AV → List Blk → Option R} {r : R} (h : evBox X t x M k = some r) :
    ∃ y M', k y M' = some r ∧ Agree [] M M' ∧ ∀ v, Does X M y M' (fun ρ F w => Rep X.K ρ F w x v) (Instr.box t v) := by
  unfold evBox at h
  replace h := tst_some h
  obtain ⟨h1, h⟩ := h
  simp only [Bool.and_eq_true] at h1
  refine ⟨_, _, h, Agree.push _ _ _, fun v {w0 S F ρ w} hI hx => ?_⟩
  have hr := hx.cells (leaf_or_agg h1.1.1) hI.one
  obtain ⟨hI', hg⟩ := hI.newVar h1.2 hr t h1.1.2
  refine ⟨.pointer (some ⟨w.heap.size, 0, none⟩), _, _, _, ?_, hI', hg, ?_⟩
  · simp only [Instr.box, Sem.run_bind, newVar, newRow, run_newObj, Sem.run_pure, Result.andThen_ok, World.alloc_eq]
  · have := ptr_last (X := X) (F := F) (w := w.alloc (.cells v.cells t)) (hd := ⟨.slice (some ⟨w.heap.size, 0, none⟩) 1 1, x.cells.length⟩) hI.len rfl 0 0
    simpa using this

def evFieldAddr (X : Cx) (t : TypeId) (x : AV) (fi : Nat) (k : AV → Option R) : Option R :=
  match (X.ti t).ok, (X.ti t).u with
  | true, .struct fs =>
    match fs[fi]? with
    | some (off, ft) =>
      tst ((X.ti ft).ok && !((X.ti ft).size == 0)) (match x with
        | .ptr id i o => k (.ptr id i (o + off))
        | .iptr t' row o => k (.iptr t' row (o + off))
        | _ => none)
    | none => none
  | _, _ => none

theorem evFieldAddr_sound (hX : X.Okb) {t : TypeId} {x : AV} {fi : Nat} {k : AV → Option R} {r : R} (h : evFieldAddr X t x fi k = some r) :
    ∃ y, k y = some r ∧ ∀ {ρ : List Hd} {F : Addr → Prop} {w : World} {v : Value}, Rep X.K ρ F w x v → ∃ u, (Instr.fieldAt t v fi).run X.P w = .ok u w ∧ Rep X.K ρ F w y u := by
  unfold evFieldAddr at h
  split at h
  · rename_i fs hok hu
    obtain ⟨i, d, z, f⟩ := hX.facts hok
    obtain ⟨gs, hund, hfs⟩ := f.struct hu
    split at h
    · rename_i off ft hfi
      replace h := tst_some h
      obtain ⟨h1, h⟩ := h
      simp only [Bool.and_eq_true, Bool.not_eq_true', beq_eq_false_iff_ne] at h1
      obtain ⟨i2, d2, z2, f2⟩ := hX.facts h1.1
      have hg : ∃ fld, gs[fi]? = some fld ∧ fld.offset = off ∧ fld.type = ft := by
        rw [hfs, List.getElem?_map] at hfi
        cases hgs : gs.toList[fi]? with
        | none => rw [hgs] at hfi; cases hfi
        | some fld =>
          rw [hgs] at hfi
          simp at hfi
          exact ⟨fld, by simpa using hgs, hfi.1, hfi.2⟩
      obtain ⟨fld, hfld, rfl, rfl⟩ := hg
      have hrun : ∀ (w : World) (a : Addr), (Instr.fieldAt t (.pointer (some a)) fi).run X.P w = .ok (.pointer (some (a.add fld.offset))) w := by
        intro w a
        simp only [Instr.fieldAt, Sem.run_bind, run_underlying hund, Result.andThen_ok, hfld, Instr.sureAddr, Sem.run_pure, fieldPlace, f2.sizeOf, h1.2, if_false]
      split at h
      · rename_i id i0 o
        refine ⟨_, h, fun {ρ F w v} hv => ?_⟩
        cases hv with
        | ptr _ _ _ hd g o' n c hid hv =>
          refine ⟨_, hrun _ _, ?_⟩
          rw [Addr.add_lit, show o' + i0 * hd.sz + o + fld.offset = o' + i0 * hd.sz + (o + fld.offset) by omega]
          exact .ptr _ _ _ hd g o' n c hid hv
      · rename_i t' row o
        refine ⟨_, h, fun {ρ F w v} hv => ?_⟩
        cases hv with
        | iptr _ _ _ a vs hk hl hc hr =>
          refine ⟨_, hrun _ _, ?_⟩
          rw [Addr.add_add]
          exact .iptr _ _ _ a vs hk hl hc hr
      · cases h
    · cases h
  · cases h

def evIndexAddr (X : Cx) (t : TypeId) (x i : AV) (M : List Blk) (k : AV → Option R) : Option R :=
  match i with
  | .int _ n =>
    match (X.ti t).ok, (X.ti t).u with
    | true, .slice e =>
      tst ((X.ti e).ok) (match x with
        | .list t' xs => tst (e == t' && (decide (0 ≤ n) && decide (n < (xs.length : Int)))) (k (.iptr t' (xs.getD n.toNat []) 0))
        | .own id =>
          match gm M id with
          | some (.row t' xs) => tst (e == t' && (decide (0 ≤ n) && decide (n < (xs.length : Int)))) (k (.ptr id n.toNat 0))
          | some (.fro t' xs) => tst (e == t' && (decide (0 ≤ n) && decide (n < (xs.length : Int)))) (k (.iptr t' (xs.getD n.toNat []) 0))
          | _ => none
        | .vsl id m => tst (decide (0 ≤ n) && decide (n < (m : Int))) (k (.ptr id 0 (n.toNat * (X.ti e).size)))
        | .vw id lo m =>
          match gm M id with
          | some (.row t' _) => tst (e == t' && (decide (0 ≤ n) && decide (n < (m : Int)))) (k (.ptr id (lo + n.toNat) 0))
          | _ => none
        | _ => none)
    | true, .array len e =>
      tst ((X.ti e).ok && (decide (0 ≤ n) && decide (n < (len : Int)))) (match x with
        | .ptr id j off => k (.ptr id j (off + n.toNat * (X.ti e).size))
        | .iptr t' row off => k (.iptr t' row (off + n.toNat * (X.ti e).size))
        | _ => none)
    | _, _ => none
  | _ => none

theorem run_indexAt_slice (hX : X.Okb) {t e : TypeId} (hok : (X.ti t).ok = true) (hu : (X.ti t).u = .slice e) (he : (X.ti e).ok = true) {a : Addr} {len cap : Nat} {kk : IntKind} {n : Int} (h0 : 0 ≤ n) (h1 : n < (len : Int)) (w : World) :
    (Instr.indexAt t (.slice (some a) len cap) (.int kk n)).run X.P w = .ok (.pointer (some (a.add (n.toNat * (X.ti e).size)))) w := by
  obtain ⟨i, d, z, f⟩ := hX.facts hok
  obtain ⟨i2, d2, z2, f2⟩ := hX.facts he
  have hund := f.slice hu
  simp [Instr.indexAt, asIntOf, run_underlying hund, h0, h1, f2.sizeOf]

theorem elem_of_list {t : TypeId} {xs : List Row} {v : Value} (hv : Rep X.K ρ F w (.list t xs) v) {i : Nat} (hi : i < xs.length) :
    ∃ a cap, v = .slice (some a) xs.length cap ∧ Rep X.K ρ F w (.iptr t (xs.getD i []) 0) (.pointer (some (a.add (i * (X.K t).length)))) := by
  cases hv with
  | list0 => simp at hi
  | list _ _ a cap vss hl hcap hmax hk hc hr =>
    have hvi : vss[i]? = some (vss[i]'(by omega)) := List.getElem?_eq_getElem (by omega)
    have hxi := getElem?_of_getD (d := ([] : Row)) hi
    obtain ⟨c1, c2⟩ := hc i _ hvi
    have hrep : Rep X.K ρ F w (.iptr t (xs.getD i []) 0) (.pointer (some ((a.add (i * (X.K t).length)).add 0))) := by
      refine .iptr t _ 0 (a.add (i * (X.K t).length)) (vss[i]'(by omega)) (hk i _ hxi) ?_ ?_ ?_
      · rw [c1, koks_length (hk i _ hxi)]
      · intro j v hj
        rw [Addr.add_add]
        exact c2 j v hj
      · exact hr i _ _ hxi hvi
    exact ⟨a, cap, rfl, by simpa [Addr.add] using hrep⟩

theorem evIndexAddr_sound (hX : X.Okb) {t : TypeId} {x i : AV} {k : AV → Option R} {r : R} (h : evIndexAddr X t x i M k = some r) :
    ∃ y, k y = some r ∧ ∀ {w0 : World} {S : Sc} {F : Addr → Prop} {ρ : List Hd} {w : World} {v vi : Value}, Inv X w0 S F ρ M w → Rep X.K ρ F w x v → Rep X.K ρ F w i vi →
      ∃ u, (Instr.indexAt t v vi).run X.P w = .ok u w ∧ Rep X.K ρ F w y u := by
  unfold evIndexAddr at h
  simp only [gm_eq] at h
  split at h
  · rename_i kk n
    split at h
    · rename_i e hok hu
      replace h := tst_some h
      obtain ⟨he, h⟩ := h
      obtain ⟨i2, d2, z2, f2⟩ := hX.facts he
      have hsz : (X.K e).length = (X.ti e).size := by rw [f2.size]; exact f2.ks
      split at h
      · rename_i t' xs
        replace h := tst_some h
        obtain ⟨h1, h⟩ := h
        simp only [Bool.and_eq_true, decide_eq_true_eq, beq_iff_eq] at h1
        obtain ⟨rfl, h0, h1⟩ := h1
        refine ⟨_, h, fun {w0 S F ρ w v vi} hI hv hi => ?_⟩
        cases hi
        obtain ⟨a, cap, rfl, hp⟩ := elem_of_list hv (i := n.toNat) (by omega)
        refine ⟨_, run_indexAt_slice hX hok hu he h0 h1 w, ?_⟩
        rw [← hsz]
        exact hp
      · rename_i id
        split at h
        · rename_i t' xs hb
          replace h := tst_some h
          obtain ⟨h1, h⟩ := h
          simp only [Bool.and_eq_true, decide_eq_true_eq, beq_iff_eq] at h1
          obtain ⟨rfl, h0, h1⟩ := h1
          refine ⟨_, h, fun {w0 S F ρ w v vi} hI hv hi => ?_⟩
          cases hi
          cases hv with
          | own _ hd hid =>
            have hnl : n.toNat < xs.length := by omega
            obtain ⟨hk, hs, g, o, c, cur, vs, hv, hg, _⟩ := hI.row_cells hb hid (getElem?_of_getD (d := []) hnl)
            rw [hv]
            refine ⟨_, run_indexAt_slice hX hok hu he h0 h1 w, ?_⟩
            rw [Addr.add_lit]
            have := Rep.ptr (K := X.K) (ρ := ρ) (F := F) (w := w) id n.toNat 0 hd g o xs.length c hid hv
            rw [hs, hsz] at this
            simpa using this
        · rename_i t' xs hb
          replace h := tst_some h
          obtain ⟨h1, h⟩ := h
          simp only [Bool.and_eq_true, decide_eq_true_eq, beq_iff_eq] at h1
          obtain ⟨rfl, h0, h1⟩ := h1
          refine ⟨_, h, fun {w0 S F ρ w v vi} hI hv hi => ?_⟩
          cases hi
          cases hv with
          | own _ hd hid =>
            have hl : Rep X.K ρ F w (.list e xs) hd.v := hI.rep id _ hd hb hid
            obtain ⟨a, cap, hv, hp⟩ := elem_of_list hl (i := n.toNat) (by omega)
            rw [hv]
            refine ⟨_, run_indexAt_slice hX hok hu he h0 h1 w, ?_⟩
            rw [← hsz]
            exact hp
        · cases h
      · rename_i id m
        replace h := tst_some h
        obtain ⟨h1, h⟩ := h
        simp only [Bool.and_eq_true, decide_eq_true_eq] at h1
        refine ⟨_, h, fun {w0 S F ρ w v vi} hI hv hi => ?_⟩
        cases hi
        cases hv with
        | vsl _ _ hd g o n' c cap hid hv =>
          refine ⟨_, run_indexAt_slice hX hok hu he h1.1 h1.2 w, ?_⟩
          rw [Addr.add_lit]
          have := Rep.ptr (K := X.K) (ρ := ρ) (F := F) (w := w) id 0 (n.toNat * (X.ti e).size) hd g o n' c hid hv
          simpa using this
      · rename_i id lo m
        split at h
        · rename_i t' xs hb
          replace h := tst_some h
          obtain ⟨h1, h⟩ := h
          simp only [Bool.and_eq_true, decide_eq_true_eq, beq_iff_eq] at h1
          obtain ⟨rfl, h0, h1⟩ := h1
          refine ⟨_, h, fun {w0 S F ρ w v vi} hI hv hi => ?_⟩
          cases hi
          cases hv with
          | vw _ _ _ hd g o n' c cap hid hv hc hbd =>
            obtain ⟨q1, _⟩ := hI.rep _ _ hd hb hid
            refine ⟨_, run_indexAt_slice hX hok hu he h0 h1 w, ?_⟩
            rw [Addr.add_lit]
            have := Rep.ptr (K := X.K) (ρ := ρ) (F := F) (w := w) id (lo + n.toNat) 0 hd g o n' c hid hv
            rw [q1, hsz] at this ⊢
            rw [show o + lo * (X.ti e).size + n.toNat * (X.ti e).size = o + (lo + n.toNat) * (X.ti e).size + 0 by rw [Nat.add_mul]; omega]
            exact this
          | vwn => simp at h1; omega
          | vws => simp at h1; omega
        · cases h
      · cases h
    · rename_i len e hok hu
      replace h := tst_some h
      obtain ⟨h1, h⟩ := h
      simp only [Bool.and_eq_true, decide_eq_true_eq] at h1
      obtain ⟨he, h0, h1⟩ := h1
      obtain ⟨i1, d1, z1, f1⟩ := hX.facts hok
      obtain ⟨i2, d2, z2, f2⟩ := hX.facts he
      have hund := f1.array hu
      have hrun : ∀ (w : World) (a : Addr), (Instr.indexAt t (.pointer (some a)) (.int kk n)).run X.P w = .ok (.pointer (some (a.add (n.toNat * (X.ti e).size)))) w := by
        intro w a
        simp [Instr.indexAt, asIntOf, run_underlying hund, Instr.sureAddr, h0, h1, f2.sizeOf]
      split at h
      · rename_i id j off
        refine ⟨_, h, fun {w0 S F ρ w v vi} hI hv hi => ?_⟩
        cases hi
        cases hv with
        | ptr _ _ _ hd g o' n' c hid hv =>
          refine ⟨_, hrun _ _, ?_⟩
          rw [Addr.add_lit, show o' + j * hd.sz + off + n.toNat * (X.ti e).size = o' + j * hd.sz + (off + n.toNat * (X.ti e).size) by omega]
          exact .ptr _ _ _ hd g o' n' c hid hv
      · rename_i t' row off
        refine ⟨_, h, fun {w0 S F ρ w v vi} hI hv hi => ?_⟩
        cases hi
        cases hv with
        | iptr _ _ _ a vs hk hl hc hr =>
          refine ⟨_, hrun _ _, ?_⟩
          rw [Addr.add_add]
          exact .iptr _ _ _ a vs hk hl hc hr
      · cases h
    · cases h
  · cases h

/-! ### Parts of values -/
def evPart (X : Cx) (t : TypeId) (cs : List AV) (off : Nat) (k : AV → Option R) : Option R :=
  tst ((X.ti t).ok && decide (off + (X.ti t).size ≤ cs.length)) (match (X.ti t).u.agg with
    | true => k (.agg ((cs.drop off).take (X.ti t).size))
    | false => tst ((X.ti t).size == 1) (k (cs.getD off .top)))

theorem evPart_sound (hX : X.Okb) {t : TypeId} {cs : List AV} {off : Nat} {k : AV → Option R} {r : R} (h : evPart X t cs off k = some r) :
    ∃ y, k y = some r ∧ ∀ {ρ : List Hd} {F : Addr → Prop} {w : World} {vs : Array Value}, RepL X.K ρ F w cs vs.toList → ∃ u, (part t vs off).run X.P w = .ok u w ∧ Rep X.K ρ F w y u := by
  unfold evPart at h
  replace h := tst_some h
  obtain ⟨h1, h⟩ := h
  simp only [Bool.and_eq_true, decide_eq_true_eq] at h1
  obtain ⟨i, d, z, f⟩ := hX.facts h1.1
  split at h
  · rename_i ha
    refine ⟨_, h, fun {ρ F w vs} hr => ?_⟩
    refine ⟨.agg (vs.extract off (off + (X.ti t).size)), by simp [part, f.isAgg, ha, f.sizeOf], ?_⟩
    have h2 := hr.drop_take off (X.ti t).size
    have e : vs.extract off (off + (X.ti t).size) = ((vs.toList.drop off).take (X.ti t).size).toArray := by
      apply Array.ext'
      simp [List.extract_eq_take_drop]
    rw [e]
    exact .agg _ _ h2.1 h2.2
  · rename_i ha
    replace h := tst_some h
    obtain ⟨h2, h⟩ := h
    have hs : (X.ti t).size = 1 := by simpa using h2
    refine ⟨_, h, fun {ρ F w vs} hr => ?_⟩
    have hlt : off < cs.length := by omega
    have hl := hr.1
    simp only [Array.length_toList] at hl
    obtain ⟨u, hu⟩ : ∃ u, vs[off]? = some u := ⟨vs[off]'(by omega), Array.getElem?_eq_getElem (by omega)⟩
    refine ⟨u, ?_, hr.2 off _ _ (getElem?_of_getD hlt) (by rw [Array.getElem?_toList]; exact hu)⟩
    simp only [part, Sem.run_bind, f.isAgg, ha, Result.andThen_ok, hu, Sem.run_pure, Bool.false_eq_true, if_false]

def evField (X : Cx) (t : TypeId) (x : AV) (fi : Nat) (k : AV → Option R) : Option R :=
  match (X.ti t).ok, (X.ti t).u, x with
  | true, .struct fs, .agg cs =>
    match fs[fi]? with
    | some (off, ft) => evPart X ft cs off k
    | none => none
  | _, _, _ => none

theorem evField_sound (hX : X.Okb) {t : TypeId} {x : AV} {fi : Nat} {k : AV → Option R} {r : R} (h : evField X t x fi k = some r) :
    ∃ y, k y = some r ∧ ∀ {ρ : List Hd} {F : Addr → Prop} {w : World} {v : Value}, Rep X.K ρ F w x v → ∃ u, (Instr.field t v fi).run X.P w = .ok u w ∧ Rep X.K ρ F w y u := by
  unfold evField at h
  split at h
  · rename_i fs cs hok hu
    obtain ⟨i, d, z, f⟩ := hX.facts hok
    obtain ⟨gs, hund, hfs⟩ := f.struct hu
    split at h
    · rename_i off ft hfi
      have hg : ∃ fld, gs[fi]? = some fld ∧ fld.offset = off ∧ fld.type = ft := by
        rw [hfs, List.getElem?_map] at hfi
        cases hgs : gs.toList[fi]? with
        | none => rw [hgs] at hfi; cases hfi
        | some fld =>
          rw [hgs] at hfi
          simp at hfi
          exact ⟨fld, by simpa using hgs, hfi.1, hfi.2⟩
      obtain ⟨fld, hfld, rfl, rfl⟩ := hg
      obtain ⟨y, hy, hrun⟩ := evPart_sound hX h
      refine ⟨y, hy, fun {ρ F w v} hv => ?_⟩
      cases hv with
      | agg _ vs hl hr =>
        obtain ⟨u, h1, h2⟩ := hrun (vs := vs.toArray) ⟨by simpa using hl, by simpa using hr⟩
        refine ⟨u, ?_, h2⟩
        simp only [Instr.field, Sem.run_bind, run_underlying hund, Result.andThen_ok, hfld, asAgg, Sem.run_pure, h1]
    · cases h
  · cases h

def evIndex (X : Cx) (t : TypeId) (x i : AV) (k : AV → Option R) : Option R :=
  match (X.ti t).ok, (X.ti t).u, x, i with
  | true, .array len e, .agg cs, .int _ n => tst ((X.ti e).ok && (decide (0 ≤ n) && decide (n < (len : Int)))) (evPart X e cs (n.toNat * (X.ti e).size) k)
  | true, .str, .str s, .int _ n => tst (decide (0 ≤ n)) (match s[n.toNat]? with | none => none | some b => k (.int .u8 b.toNat))
  | _, _, _, _ => none

theorem evIndex_sound (hX : X.Okb) {t : TypeId} {x i : AV} {k : AV → Option R} {r : R} (h : evIndex X t x i k = some r) :
    ∃ y, k y = some r ∧ ∀ {ρ : List Hd} {F : Addr → Prop} {w : World} {v vi : Value}, Rep X.K ρ F w x v → Rep X.K ρ F w i vi → ∃ u, (Instr.index t v vi).run X.P w = .ok u w ∧ Rep X.K ρ F w y u := by
  unfold evIndex at h
  split at h
  · rename_i len e cs kk n hok hu
    replace h := tst_some h
    obtain ⟨h1, h⟩ := h
    simp only [Bool.and_eq_true, decide_eq_true_eq] at h1
    obtain ⟨he, h0, h1⟩ := h1
    obtain ⟨i1, d1, z1, f1⟩ := hX.facts hok
    obtain ⟨i2, d2, z2, f2⟩ := hX.facts he
    have hund := f1.array hu
    obtain ⟨y, hy, hrun⟩ := evPart_sound hX h
    refine ⟨y, hy, fun {ρ F w v vi} hv hi => ?_⟩
    cases hi
    cases hv with
    | agg _ vs hl hr =>
      obtain ⟨u, h3, h4⟩ := hrun (vs := vs.toArray) ⟨by simpa using hl, by simpa using hr⟩
      refine ⟨u, ?_, h4⟩
      simp only [Instr.index, asIntOf, Sem.run_bind, Sem.run_pure, run_underlying hund, Result.andThen_ok, h0, h1, and_self, if_true, f2.sizeOf, h3]
  · rename_i s kk n hok hu
    replace h := tst_some h
    obtain ⟨h0, h⟩ := h
    have h0 := of_decide_eq_true h0
    obtain ⟨i1, d1, z1, f1⟩ := hX.facts hok
    have hund : X.P.underlying t = some .string := by
      have := f1.u; rw [hu] at this; cases d1 <;> simp [tyOf] at this; exact f1.und
    split at h
    · cases h
    · rename_i b hb
      refine ⟨_, h, fun {ρ F w v vi} hv hi => ?_⟩
      cases hi
      cases hv
      refine ⟨.int .u8 b.toNat, ?_, .int _ _⟩
      simp only [Instr.index, asIntOf, Sem.run_bind, Sem.run_pure, run_underlying hund, Result.andThen_ok, h0, if_true, hb]
  · cases h

end
end Go.Eng

namespace Go.Eng
open Go
noncomputable section

variable {X : Cx} {R : Type}
variable {w0 w w' : World} {S : Sc} {F : Addr → Prop} {ρ : List Hd} {M : List Blk}

/-- The rows that a slice value shows. -/
def rowsOf (M : List Blk) : AV → Option (Option TypeId × List Row)
  | .list t xs => some (some t, xs)
  | .nilsl => some (none, [])
  | .own id => match gm M id with | some (.row t xs) => some (some t, xs) | some (.fro t xs) => some (some t, xs) | _ => none
  | .vw id lo m => match gm M id with | some (.row t xs) => some (some t, (xs.drop lo).take m) | _ => none
  | .enl => some (none, [])
  | _ => none

theorem rowsOf_len (hI : Inv X w0 S F ρ M w) {x : AV} {o : Option TypeId} {xs : List Row} (h : rowsOf M x = some (o, xs)) {v : Value} (hv : Rep X.K ρ F w x v) : ∃ a c, v = .slice a xs.length c := by
  unfold rowsOf at h
  simp only [gm_eq] at h
  split at h
  · injection h with h; injection h with _ h; subst h
    cases hv with
    | list0 => exact ⟨_, _, rfl⟩
    | list => exact ⟨_, _, rfl⟩
  · injection h with h; injection h with _ h; subst h
    cases hv; exact ⟨_, _, rfl⟩
  · split at h
    · rename_i hb
      injection h with h; injection h with _ h; subst h
      cases hv with
      | own _ hd hid =>
        rcases (hI.rep _ _ hd hb hid).2.2 with ⟨h1, h2⟩ | ⟨g, o, c, cur, h1, _⟩
        · subst h2; exact ⟨_, _, h1⟩
        · exact ⟨_, _, h1⟩
    · rename_i t xs' hb
      injection h with h; injection h with _ h; subst h
      cases hv with
      | own _ hd hid =>
        have hr : Rep X.K ρ F w (.list t xs') hd.v := hI.rep _ _ hd hb hid
        generalize hd.v = v at hr
        cases hr with
        | list0 => exact ⟨_, _, rfl⟩
        | list => exact ⟨_, _, rfl⟩
    · cases h
  · split at h
    · rename_i id lo m ob t xs' hb
      injection h with h; injection h with _ h; subst h
      cases hv with
      | vw _ _ _ hd g o n c cap hid hv hc hbd =>
        have hlen : n = xs'.length := by
          rcases (hI.rep _ _ hd hb hid).2.2 with ⟨h1, h2⟩ | ⟨g', o', c', cur, h1, _⟩
          · rw [hv] at h1; cases h1
          · rw [hv] at h1; injection h1
        refine ⟨some ⟨g, o + lo * hd.sz, none⟩, cap, ?_⟩
        rw [List.length_take, List.length_drop, show min m (xs'.length - lo) = m by omega]
      | vwn => exact ⟨_, _, rfl⟩
      | vws => exact ⟨_, _, rfl⟩
    · cases h
  · injection h with h; injection h with _ h; subst h
    cases hv; exact ⟨_, _, rfl⟩
  · cases h

/-- The cells of the rows that a slice value shows, read one after the other. -/
theorem rowsOf_cells0 (hI : Inv X w0 S F ρ M w) {x : AV} {t : TypeId} {xs : List Row} (h : rowsOf M x = some (some t, xs)) (hx : ∀ id lo m, x ≠ .vw id lo m) {v : Value} (hv : Rep X.K ρ F w x v) :
    (∀ (i : Nat) row, xs[i]? = some row → koks (X.K t) row = true) ∧
    ((v = .slice none 0 0 ∧ xs = []) ∨ ∃ a c, v = .slice (some a) xs.length c ∧ ∃ vss : List (List Value), vss.length = xs.length ∧
      ∀ (i : Nat) row vs, xs[i]? = some row → vss[i]? = some vs → RepL X.K ρ F w row vs ∧ CellsAt w (a.add (i * (X.K t).length)) vs) := by
  have core : ∀ {v : Value} {t : TypeId} {xs : List Row}, Rep X.K ρ F w (.list t xs) v → (∀ (i : Nat) row, xs[i]? = some row → koks (X.K t) row = true) ∧
    ((v = .slice none 0 0 ∧ xs = []) ∨ ∃ a c, v = .slice (some a) xs.length c ∧ ∃ vss : List (List Value), vss.length = xs.length ∧
      ∀ (i : Nat) row vs, xs[i]? = some row → vss[i]? = some vs → RepL X.K ρ F w row vs ∧ CellsAt w (a.add (i * (X.K t).length)) vs) := by
    intro v t xs hv
    cases hv with
    | list0 => exact ⟨fun i row h => by simp at h, .inl ⟨rfl, rfl⟩⟩
    | list _ _ a cap vss hl hcap hmax hk hc hr =>
      refine ⟨hk, .inr ⟨a, cap, rfl, vss, hl, fun i row vs hi hvs => ⟨⟨?_, hr i row vs hi hvs⟩, fun j u hj => ?_⟩⟩⟩
      · rw [(hc i vs hvs).1, koks_length (hk i row hi)]
      · rw [Addr.add_add]; exact ((hc i vs hvs).2 j u hj).1
  unfold rowsOf at h
  simp only [gm_eq] at h
  split at h
  · injection h with h; injection h with h1 h2; injection h1 with h1; subst h1; subst h2
    exact core hv
  · injection h with h; injection h with h1 h2; cases h1
  · split at h
    · rename_i id t' xs' hb
      injection h with h; injection h with h1 h2; injection h1 with h1; subst h1; subst h2
      cases hv with
      | own _ hd hid =>
        obtain ⟨h1, h2, h3⟩ := hI.rep _ _ hd hb hid
        refine ⟨h2, ?_⟩
        rcases h3 with h3 | ⟨g, o, c, cur, hv', hg, h4, h5, h6, h7⟩
        · exact .inl h3
        · have hex : ∀ i : Nat, i < xs'.length → ∃ vs, RepL X.K ρ F w (xs'.getD i []) vs ∧ CellsAt w ⟨g, o + i * hd.sz, none⟩ vs := by
            intro i hi
            obtain ⟨_, _, g', o', c', cur', vs, hv2, _, _, _, _, hr, hc, _⟩ := hI.row_cells hb hid (getElem?_of_getD (d := []) hi)
            rw [hv'] at hv2
            injection hv2 with e1 e2 e3
            injection e1 with e1
            injection e1 with e1 e4 e5
            subst e1; subst e4
            exact ⟨vs, hr, hc⟩
          refine .inr ⟨_, c, hv', (List.range xs'.length).map fun i => if h : i < xs'.length then (hex i h).choose else [], by simp, fun i row vs hi hvs => ?_⟩
          have hil := (List.getElem?_eq_some_iff.1 hi).1
          simp only [List.getElem?_map, List.getElem?_range hil, Option.map_some, Option.some.injEq, dif_pos hil] at hvs
          subst hvs
          have e : row = xs'.getD i [] := by
            have := getElem?_of_getD (d := ([] : Row)) hil
            rw [hi] at this
            injection this
          subst e
          obtain ⟨hr, hc⟩ := (hex i hil).choose_spec
          refine ⟨hr, ?_⟩
          rw [Addr.add_lit, ← h1]
          exact hc
    · rename_i id t' xs' hb
      injection h with h; injection h with h1 h2; injection h1 with h1; subst h1; subst h2
      cases hv with
      | own _ hd hid => exact core (hI.rep _ _ hd hb hid)
    · cases h
  · exact absurd rfl (hx _ _ _)
  · injection h with h; injection h with h1 h2; cases h1
  · cases h
theorem rowsOf_cells (hI : Inv X w0 S F ρ M w) {x : AV} {t : TypeId} {xs : List Row} (h : rowsOf M x = some (some t, xs)) {v : Value} (hv : Rep X.K ρ F w x v) :
    (∀ (i : Nat) row, xs[i]? = some row → koks (X.K t) row = true) ∧
    ((v = .slice none 0 0 ∧ xs = []) ∨ ∃ a c, v = .slice (some a) xs.length c ∧ ∃ vss : List (List Value), vss.length = xs.length ∧
      ∀ (i : Nat) row vs, xs[i]? = some row → vss[i]? = some vs → RepL X.K ρ F w row vs ∧ CellsAt w (a.add (i * (X.K t).length)) vs) := by
  by_cases hx : ∃ id lo m, x = .vw id lo m
  · obtain ⟨id, lo, m, rfl⟩ := hx
    unfold rowsOf at h
    simp only [gm_eq] at h
    split at h
    · rename_i t' xs' hb
      injection h with h; injection h with h1 h2; injection h1 with h1; subst h1; subst h2
      cases hv with
      | vw _ _ _ hd g o n c cap hid hv hc hbd =>
        obtain ⟨q1, q2, q3⟩ := hI.rep _ _ hd hb hid
        have hro : rowsOf M (.own id) = some (some t', xs') := by simp [gm_eq, rowsOf, hb]
        obtain ⟨hk, hcs⟩ := rowsOf_cells0 hI hro (fun _ _ _ e => by cases e) (.own id hd hid)
        have hsub : ∀ (i : Nat) row, ((xs'.drop lo).take m)[i]? = some row → i < m ∧ xs'[lo + i]? = some row := by
          intro i row hi
          rw [List.getElem?_take] at hi
          split at hi
          · rename_i him; rw [List.getElem?_drop] at hi; exact ⟨him, hi⟩
          · cases hi
        refine ⟨fun i row hi => hk _ row (hsub i row hi).2, ?_⟩
        rcases hcs with ⟨h1, _⟩ | ⟨a, c2, h1, vss, hl, hvs⟩
        · rw [hv] at h1; cases h1
        · rw [hv] at h1
          injection h1 with e1 e2 e3
          injection e1 with e1
          refine .inr ⟨⟨g, o + lo * hd.sz, none⟩, cap, ?_, (vss.drop lo).take m, ?_, fun i row vs hi hvi => ?_⟩
          · rw [List.length_take, List.length_drop, show min m (xs'.length - lo) = m by omega]
          · rw [List.length_take, List.length_drop, List.length_take, List.length_drop, hl]
          · obtain ⟨him, hr⟩ := hsub i row hi
            have hvi' : vss[lo + i]? = some vs := by
              rw [List.getElem?_take, if_pos him, List.getElem?_drop] at hvi; exact hvi
            obtain ⟨r1, r2⟩ := hvs _ _ _ hr hvi'
            refine ⟨r1, ?_⟩
            rw [← e1, Addr.add_lit] at r2
            rw [Addr.add_lit, q1, show o + lo * (X.K t').length + i * (X.K t').length = o + (lo + i) * (X.K t').length by rw [Nat.add_mul]; omega]
            exact r2
      | vwn => exact ⟨fun i row hi => by simp at hi, .inl ⟨rfl, by simp⟩⟩
      | vws _ _ a cap => exact ⟨fun i row hi => by simp at hi, .inr ⟨a, cap, by simp, [], by simp, fun i row vs hi _ => by simp at hi⟩⟩
    · cases h
  · exact rowsOf_cells0 hI h (fun id lo m e => hx ⟨id, lo, m, e⟩) hv

def evLen (X : Cx) (t : TypeId) (x : AV) (M : List Blk) (k : AV → Option R) : Option R :=
  match (X.ti t).ok, (X.ti t).u, x with
  | true, .array n _, _ => k (.int .i64 n)
  | true, .str, .str s => k (.int .i64 s.size)
  | true, .slice _, .vsl _ m => k (.int .i64 m)
  | true, .slice _, .vw _ _ m => k (.int .i64 m)
  | true, .slice _, x => match rowsOf M x with | some (_, xs) => k (.int .i64 xs.length) | none => none
  | _, _, _ => none

theorem evLen_sound (hX : X.Okb) {t ty : TypeId} {x : AV} {k : AV → Option R} {r : R} (h : evLen X t x M k = some r) :
    ∃ y, k y = some r ∧ ∀ {w0 : World} {S : Sc} {F : Addr → Prop} {ρ : List Hd} {w : World} {v : Value}, Inv X w0 S F ρ M w → Rep X.K ρ F w x v → ∃ u, (Builtin.len_ #[t] ty #[v]).run X.P w = .ok u w ∧ Rep X.K ρ F w y u := by
  unfold evLen at h
  split at h
  · rename_i n e hok hu
    obtain ⟨i, d, z, f⟩ := hX.facts hok
    have hund := f.array hu
    refine ⟨_, h, fun {w0 S F ρ w v} hI hv => ⟨.int .i64 n, ?_, .int _ _⟩⟩
    unfold Builtin.len_
    simp [run_underlying hund, goInt]
  · rename_i s hok hu
    obtain ⟨i, d, z, f⟩ := hX.facts hok
    have hund : X.P.underlying t = some .string := by
      have := f.u; rw [hu] at this; cases d <;> simp [tyOf] at this; exact f.und
    refine ⟨_, h, fun {w0 S F ρ w v} hI hv => ⟨.int .i64 s.size, ?_, .int _ _⟩⟩
    cases hv
    unfold Builtin.len_
    simp [run_underlying hund, goInt]
  · rename_i e id m hok hu
    obtain ⟨i, d, z, f⟩ := hX.facts hok
    have hund := f.slice hu
    refine ⟨_, h, fun {w0 S F ρ w v} hI hv => ⟨.int .i64 m, ?_, .int _ _⟩⟩
    cases hv
    unfold Builtin.len_
    simp [run_underlying hund, goInt]
  · rename_i e id lo m hok hu
    obtain ⟨i, d, z, f⟩ := hX.facts hok
    have hund := f.slice hu
    refine ⟨_, h, fun {w0 S F ρ w v} hI hv => ⟨.int .i64 m, ?_, .int _ _⟩⟩
    cases hv <;> (unfold Builtin.len_; simp [run_underlying hund, goInt])
  · rename_i e hok hu _ _
    obtain ⟨i, d, z, f⟩ := hX.facts hok
    have hund := f.slice hu
    split at h
    · rename_i o xs hrow
      refine ⟨_, h, fun {w0 S F ρ w v} hI hv => ⟨.int .i64 xs.length, ?_, .int _ _⟩⟩
      obtain ⟨a, c, rfl⟩ := rowsOf_len hI hrow hv
      unfold Builtin.len_
      simp [run_underlying hund, goInt]
    · cases h
  · cases h

/-! ### min, max -/
def imin (x y : Int) : Int := if y < x then y else x
def imax (x y : Int) : Int := if y > x then y else x
def evMM (f : Int → Int → Int) (k : IntKind) : Int → List AV → Option Int
  | a, [] => some a
  | a, .int k' b :: rest => match k == k' with | true => evMM f k (f a b) rest | false => none
  | _, _ => none
def evMin (f : Int → Int → Int) (xs : List AV) (k : AV → Option R) : Option R :=
  match xs with
  | .int kd a :: rest => match evMM f kd a rest with | some n => k (.int kd n) | none => none
  | _ => none

theorem evMM_min {P : Program} {K : TypeId → List Kind} : ∀ (xs : List AV) (kd : IntKind) (a n : Int) (vs : List Value), evMM imin kd a xs = some n → RepL K ρ F w xs vs → (vs.foldlM Builtin.min2 (.int kd a)).run P w = .ok (.int kd n) w
  | [], kd, a, n, vs, h, hr => by
    simp only [evMM, Option.some.injEq] at h
    subst h
    match vs, hr.1 with
    | [], _ => rfl
  | x :: xs, kd, a, n, vs, h, hr => by
    cases x <;> simp only [evMM] at h <;> try cases h
    rename_i k' b
    split at h
    · match vs, hr.1 with
      | v :: vs, hl =>
        have hv := hr.2 0 _ v rfl rfl
        cases hv
        rw [List.foldlM_cons, Sem.run_bind]
        simp only [Builtin.min2, Sem.run_pure, Result.andThen_ok]
        exact evMM_min xs kd _ n vs h ⟨by simpa using hl, fun j y u hy hu => hr.2 (j + 1) y u (by simpa using hy) (by simpa using hu)⟩
    · cases h
theorem evMM_max {P : Program} {K : TypeId → List Kind} : ∀ (xs : List AV) (kd : IntKind) (a n : Int) (vs : List Value), evMM imax kd a xs = some n → RepL K ρ F w xs vs → (vs.foldlM Builtin.max2 (.int kd a)).run P w = .ok (.int kd n) w
  | [], kd, a, n, vs, h, hr => by
    simp only [evMM, Option.some.injEq] at h
    subst h
    match vs, hr.1 with
    | [], _ => rfl
  | x :: xs, kd, a, n, vs, h, hr => by
    cases x <;> simp only [evMM] at h <;> try cases h
    rename_i k' b
    split at h
    · match vs, hr.1 with
      | v :: vs, hl =>
        have hv := hr.2 0 _ v rfl rfl
        cases hv
        rw [List.foldlM_cons, Sem.run_bind]
        simp only [Builtin.max2, Sem.run_pure, Result.andThen_ok]
        exact evMM_max xs kd _ n vs h ⟨by simpa using hl, fun j y u hy hu => hr.2 (j + 1) y u (by simpa using hy) (by simpa using hu)⟩
    · cases h

theorem evMin_min {P : Program} {K : TypeId → List Kind} {xs : List AV} {k : AV → Option R} {r : R} (h : evMin imin xs k = some r) :
    ∃ y, k y = some r ∧ ∀ {ρ : List Hd} {F : Addr → Prop} {w : World} {vs : List Value} (ts : Array TypeId) (ty : TypeId), RepL K ρ F w xs vs → ∃ u, (Builtin.min_ ts ty vs.toArray).run P w = .ok u w ∧ Rep K ρ F w y u := by
  unfold evMin at h
  split at h
  · rename_i kd a rest
    split at h
    · rename_i n hn
      refine ⟨_, h, fun {ρ F w vs} ts ty hr => ?_⟩
      match vs, hr.1 with
      | v :: vs, hl =>
        have hv := hr.2 0 _ v rfl rfl
        cases hv
        exact ⟨_, by simpa [Builtin.min_] using evMM_min (P := P) rest kd a n vs hn ⟨by simpa using hl, fun j y u hy hu => hr.2 (j + 1) y u (by simpa using hy) (by simpa using hu)⟩, .int _ _⟩
    · cases h
  · cases h
theorem evMin_max {P : Program} {K : TypeId → List Kind} {xs : List AV} {k : AV → Option R} {r : R} (h : evMin imax xs k = some r) :
    ∃ y, k y = some r ∧ ∀ {ρ : List Hd} {F : Addr → Prop} {w : World} {vs : List Value} (ts : Array TypeId) (ty : TypeId), RepL K ρ F w xs vs → ∃ u, (Builtin.max_ ts ty vs.toArray).run P w = .ok u w ∧ Rep K ρ F w y u := by
  unfold evMin at h
  split at h
  · rename_i kd a rest
    split at h
    · rename_i n hn
      refine ⟨_, h, fun {ρ F w vs} ts ty hr => ?_⟩
      match vs, hr.1 with
      | v :: vs, hl =>
        have hv := hr.2 0 _ v rfl rfl
        cases hv
        exact ⟨_, by simpa [Builtin.max_] using evMM_max (P := P) rest kd a n vs hn ⟨by simpa using hl, fun j y u hy hu => hr.2 (j + 1) y u (by simpa using hy) (by simpa using hu)⟩, .int _ _⟩
    · cases h
  · cases h

/-! ### Building structs, arrays, slices out of parts -/
def fillA (place : Nat → Option (Nat × Nat)) : List AV → List (Nat × AV) → Option (List AV)
  | cells, [] => some cells
  | cells, (i, x) :: rest =>
    match place i with
    | none => none
    | some (off, size) =>
      match x.plain && x.cells.length == size && decide (off + size ≤ cells.length) with
      | true => fillA place (setAt cells off x.cells) rest
      | false => none

theorem foldl_set_size (off : Nat) : ∀ (vs : List (Value × Nat)) (cs : Array Value), (vs.foldl (fun cs (x : Value × Nat) => cs.setIfInBounds (off + x.2) x.1) cs).size = cs.size
  | [], cs => rfl
  | x :: vs, cs => by simp [foldl_set_size off vs]
theorem foldl_set_get (off : Nat) : ∀ (vs : List Value) (n : Nat) (cs : Array Value), off + n + vs.length ≤ cs.size → ∀ j : Nat,
    ((vs.zipIdx n).foldl (fun cs (x : Value × Nat) => cs.setIfInBounds (off + x.2) x.1) cs)[j]? = if off + n ≤ j ∧ j < off + n + vs.length then vs[j - (off + n)]? else cs[j]?
  | [], n, cs, _, j => by simp; omega
  | v :: vs, n, cs, h, j => by
    simp only [List.length_cons] at h
    rw [List.zipIdx_cons, List.foldl_cons, foldl_set_get off vs (n + 1) _ (by simp; omega) j]
    by_cases h1 : j = off + n
    · subst h1
      rw [if_neg (by omega), if_pos (by simp)]
      have hlt : off + n < cs.size := by omega
      simp [hlt]
    · by_cases h2 : off + (n + 1) ≤ j ∧ j < off + (n + 1) + vs.length
      · rw [if_pos h2, if_pos (by simp; omega), show j - (off + n) = (j - (off + (n + 1))) + 1 by omega]
        simp
      · rw [if_neg h2, if_neg (by simp; omega), Array.getElem?_setIfInBounds_ne (by omega)]

theorem fillA_sound (hone : ∀ (id : Nat) hd, ρ[id]? = some hd → hd.v.oneCell' = true) {K : TypeId → List Kind} {place : Nat → Option (Nat × Nat)} : ∀ (ps : List (Nat × AV)) (cs out : List AV) (vs : Array Value) (pv : List (Nat × Value)), fillA place cs ps = some out → RepL K ρ F w cs vs.toList →
    pv.length = ps.length → (∀ (j : Nat) p q, ps[j]? = some p → pv[j]? = some q → p.1 = q.1 ∧ Rep K ρ F w p.2 q.2) → ∃ us, Instr.fill place vs pv = some us ∧ RepL K ρ F w out us.toList
  | [], cs, out, vs, pv, h, hr, hl, _ => by
    simp only [fillA, Option.some.injEq] at h
    subst h
    match pv, hl with
    | [], _ => exact ⟨vs, rfl, hr⟩
  | (i, x) :: ps, cs, out, vs, pv, h, hr, hl, hp => by
    match pv, hl with
    | (i', v) :: pv, hl =>
      obtain ⟨e, hx⟩ := hp 0 _ _ rfl rfl
      simp only at e hx
      subst e
      simp only [fillA] at h
      split at h
      · cases h
      · rename_i off size hpl
        split at h
        · rename_i hcond
          simp only [Bool.and_eq_true, beq_iff_eq, decide_eq_true_eq] at hcond
          obtain ⟨⟨hplain, hlen⟩, hb⟩ := hcond
          have hxc := hx.cells (leaf_or_agg hplain) hone
          have hvl := hxc.1
          have hcl := hr.1
          simp only [Array.length_toList] at hvl hcl
          have hsz : v.cells.size = size := by omega
          have hr2 : RepL K ρ F w (setAt cs off x.cells) (v.cells.zipIdx.foldl (fun cs (x : Value × Nat) => cs.setIfInBounds (off + x.2) x.1) vs).toList := by
            rw [← Array.foldl_toList, Array.toList_zipIdx]
            refine ⟨by rw [Array.length_toList, foldl_set_size, setAt_length]; exact hcl, fun j y u hy hu => ?_⟩
            rw [Array.getElem?_toList, foldl_set_get off v.cells.toList 0 vs (by simp; omega) j] at hu
            rw [setAt_get x.cells cs off (by omega) j] at hy
            simp only [Nat.add_zero, Array.length_toList] at hu
            rw [hsz] at hu
            rw [hlen] at hy
            by_cases hj : off ≤ j ∧ j < off + size
            · rw [if_pos hj] at hy hu
              exact hxc.2 _ y u hy hu
            · rw [if_neg hj] at hy hu
              exact hr.2 j y u hy (by rw [Array.getElem?_toList]; exact hu)
          obtain ⟨us, h1, h2⟩ := fillA_sound hone ps _ out _ pv h hr2 (by simpa using hl) (fun j p q hp' hq => hp (j + 1) p q (by simpa using hp') (by simpa using hq))
          refine ⟨us, ?_, h2⟩
          have hvs : vs.size = cs.length := hcl
          have hnot : ¬ (v.cells.size ≠ size ∨ off + v.cells.size > vs.size) := by omega
          simp only [Instr.fill, hpl]
          rw [if_neg (by simpa using hnot)]
          exact h1
        · cases h

end
end Go.Eng

namespace Go.Eng
open Go
noncomputable section

variable {X : Cx} {R : Type}
variable {w0 w w' : World} {S : Sc} {F : Addr → Prop} {ρ : List Hd} {M : List Blk}

def structPlace (X : Cx) (fs : List (Nat × TypeId)) (i : Nat) : Option (Nat × Nat) := (fs[i]?).map fun p => (p.1, (X.ti p.2).size)

def evBuild (X : Cx) (t : TypeId) (ps : List (Nat × AV)) (k : AV → Option R) : Option R :=
  match (X.ti t).ok, (X.ti t).u with
  | true, .struct fs => tst (fs.all fun p => (X.ti p.2).ok) (match fillA (structPlace X fs) (X.ti t).zero ps with | some cs => k (.agg cs) | none => none)
  | true, .array _ e => tst ((X.ti e).ok) (match fillA (fun i => some (i * (X.ti e).size, (X.ti e).size)) (X.ti t).zero ps with | some cs => k (.agg cs) | none => none)
  | _, _ => none

theorem run_mapM_places (hX : X.Okb) : ∀ (fs : List Field), (∀ f ∈ fs, (X.ti f.type).ok = true) → ∀ w, (fs.mapM fun f => do pure (f.offset, ← sizeOf f.type) : Sem (List (Nat × Nat))).run X.P w = .ok (fs.map fun f => (f.offset, (X.ti f.type).size)) w
  | [], _, w => rfl
  | f :: fs, h, w => by
    obtain ⟨i, d, z, ff⟩ := hX.facts (h f (by simp))
    rw [List.mapM_cons]
    simp only [Sem.run_bind, ff.sizeOf, Result.andThen_ok, Sem.run_pure, run_mapM_places hX fs (fun g hg => h g (by simp [hg])) w, List.map_cons]

theorem evBuild_sound (hX : X.Okb) {t : TypeId} {ps : List (Nat × AV)} {k : AV → Option R} {r : R} (h : evBuild X t ps k = some r) :
    ∃ y, k y = some r ∧ ∀ {w0 : World} {S : Sc} {F : Addr → Prop} {ρ : List Hd} {w : World} (pv : List (Nat × Value)), Inv X w0 S F ρ M w → pv.length = ps.length →
      (∀ (j : Nat) p q, ps[j]? = some p → pv[j]? = some q → p.1 = q.1 ∧ Rep X.K ρ F w p.2 q.2) → ∃ u, (Instr.build t pv.toArray).run X.P w = .ok u w ∧ Rep X.K ρ F w y u := by
  unfold evBuild at h
  split at h
  · rename_i fs hok hu
    replace h := tst_some h
    obtain ⟨h1, h⟩ := h
    obtain ⟨i, d, z, f⟩ := hX.facts hok
    obtain ⟨gs, hund, hfs⟩ := f.struct hu
    split at h
    · rename_i cs hfill
      refine ⟨_, h, fun {w0 S F ρ w} pv hI hl hp => ?_⟩
      have hz : RepL X.K ρ F w (X.ti t).zero z.cells.toList := by rw [f.zc]; exact repL_zero _ _ _ _ _
      obtain ⟨us, hf, hr⟩ := fillA_sound hI.one ps _ cs z.cells pv hfill hz hl hp
      refine ⟨.agg us, ?_, by have := Rep.agg (K := X.K) (ρ := ρ) (F := F) (w := w) cs us.toList hr.1 hr.2; simpa using this⟩
      have hall : ∀ g ∈ gs.toList, (X.ti g.type).ok = true := by
        intro g hg
        rw [List.all_eq_true] at h1
        exact h1 (g.offset, g.type) (by rw [hfs]; exact List.mem_map.2 ⟨g, hg, rfl⟩)
      have hpl : (gs.mapM fun f => do pure (f.offset, ← sizeOf f.type) : Sem (Array (Nat × Nat))).run X.P w = .ok (gs.toList.map fun f => (f.offset, (X.ti f.type).size)).toArray w := by
        rw [Array.mapM_eq_mapM_toList, Sem.run_map, run_mapM_places hX gs.toList hall w]
        rfl
      have hplace : (fun i => (gs.toList.map fun f => (f.offset, (X.ti f.type).size)).toArray[i]?) = structPlace X fs := by
        funext i
        rw [hfs]
        simp [structPlace]
        cases gs[i]? <;> rfl
      unfold Instr.build
      simp only [Sem.run_bind, f.zeroValue, Result.andThen_ok, run_underlying hund, hpl]
      rw [show (fun x => (gs.toList.map fun f => (f.offset, (X.ti f.type).size)).toArray[x]?) = structPlace X fs from hplace, hf]
      rfl
    · cases h
  · rename_i n e hok hu
    replace h := tst_some h
    obtain ⟨h1, h⟩ := h
    obtain ⟨i, d, z, f⟩ := hX.facts hok
    obtain ⟨i2, d2, z2, f2⟩ := hX.facts h1
    have hund := f.array hu
    split at h
    · rename_i cs hfill
      refine ⟨_, h, fun {w0 S F ρ w} pv hI hl hp => ?_⟩
      have hz : RepL X.K ρ F w (X.ti t).zero z.cells.toList := by rw [f.zc]; exact repL_zero _ _ _ _ _
      obtain ⟨us, hf, hr⟩ := fillA_sound hI.one ps _ cs z.cells pv hfill hz hl hp
      refine ⟨.agg us, ?_, by have := Rep.agg (K := X.K) (ρ := ρ) (F := F) (w := w) cs us.toList hr.1 hr.2; simpa using this⟩
      unfold Instr.build
      simp only [Sem.run_bind, f.zeroValue, Result.andThen_ok, run_underlying hund, f2.sizeOf]
      rw [hf]
      rfl
    · cases h
  · cases h

/-- A flat list of cells, row by row. -/
def chunk (sz : Nat) : Nat → List AV → List Row
  | 0, _ => []
  | n + 1, l => l.take sz :: chunk sz n (l.drop sz)
theorem chunk_length (sz : Nat) : ∀ (n : Nat) (l : List AV), (chunk sz n l).length = n
  | 0, _ => rfl
  | n + 1, l => by simp [chunk, chunk_length sz n]
theorem chunk_get (sz : Nat) : ∀ (n : Nat) (l : List AV) (i : Nat), i < n → (chunk sz n l)[i]? = some ((l.drop (i * sz)).take sz)
  | 0, _, _, h => by omega
  | n + 1, l, 0, _ => by simp [chunk]
  | n + 1, l, i + 1, h => by
    simp only [chunk, List.getElem?_cons_succ]
    rw [chunk_get sz n _ i (by omega), List.drop_drop]
    congr 3
    rw [Nat.add_mul]; omega

/-- An element's zero value, as a row keeps it. -/
def zc : Kind → AV → AV | .slice t, .nilsl => .list t [] | _, x => x
def zrow (X : Cx) (t : TypeId) : Row := List.zipWith zc (X.ti t).ks (X.ti t).zero
theorem rep_zc {k : Kind} {K : TypeId → List Kind} {x : AV} {v : Value} (h : Rep K ρ F w x v) : Rep K ρ F w (zc k x) v := by
  unfold zc
  split
  · cases h; exact .list0 _
  · exact h
theorem repL_zrow {t : TypeId} {i : TypeInfo} {d : TypeDesc} {z : Value} (f : TFacts X t i d z) : RepL X.K ρ F w (zrow X t) z.cells.toList := by
  have hz : RepL X.K ρ F w (X.ti t).zero z.cells.toList := by rw [f.zc]; exact repL_zero _ _ _ _ _
  have hl : (X.ti t).zero.length = (X.ti t).ks.length := by rw [f.ks, f.zc, List.length_map, Array.length_toList, f.zs]
  refine ⟨by rw [hz.1]; simp [zrow, hl], fun j x v hx hv => ?_⟩
  unfold zrow at hx
  rw [List.getElem?_zipWith] at hx
  cases hk : (X.ti t).ks[j]? with
  | none => simp [hk] at hx
  | some k =>
    cases hzz : (X.ti t).zero[j]? with
    | none => simp [hk, hzz] at hx
    | some y =>
      simp only [hk, hzz, Option.some.injEq] at hx
      subst hx
      exact rep_zc (hz.2 j y v hzz hv)

/-- A new row block. -/
theorem Inv.newRow (hI : Inv X w0 S F ρ M w) {t : TypeId} {xs : List Row} {cur : Array Value} {c : Nat} (hk : ∀ (i : Nat) row, xs[i]? = some row → koks (X.K t) row = true) (hc1 : xs.length ≤ c) (hc2 : c ≤ maxLen)
    (hcur : c * (X.K t).length ≤ cur.size) (hr : ∀ (i : Nat) row, xs[i]? = some row → ∀ (j : Nat) x, row[j]? = some x → ∃ v, cur[i * (X.K t).length + j]? = some v ∧ Rep X.K ρ F w x v) (hg : w.grownBy w' none) (hsz : w'.heap.size = w.heap.size) :
    Inv X w0 S F (ρ ++ [⟨.slice (some ⟨w.heap.size, 0, none⟩) xs.length c, (X.K t).length⟩]) (M ++ [.row t xs]) (w'.alloc (.cells cur t)) ∧
    Grow F F ρ (ρ ++ [⟨.slice (some ⟨w.heap.size, 0, none⟩) xs.length c, (X.K t).length⟩]) w (w'.alloc (.cells cur t)) := by
  have hgr : w.grownBy (w'.alloc (.cells cur t)) none := ⟨hg.os, hg.tape, hg.output, by simp; omega, fun k hk _ => (Go.RowKit.Below.heap_alloc w' _ k (by omega)).trans (hg.block k hk (by simp))⟩
  have hgrow : Grow F F ρ (ρ ++ [⟨.slice (some ⟨w.heap.size, 0, none⟩) xs.length c, (X.K t).length⟩]) w (w'.alloc (.cells cur t)) :=
    ⟨fun _ h => h, fun _ _ h => getElem?_append_old h, hI.blks hgr (by simp)⟩
  refine ⟨hI.push hgr (hd := ⟨.slice (some ⟨w.heap.size, 0, none⟩) xs.length c, (X.K t).length⟩) ?_ rfl ?_, hgrow⟩
  · intro g hg'
    simp [Hd.blk?, Value.blk?] at hg'
    subst hg'
    simp; omega
  · refine ⟨rfl, hk, .inr ⟨w.heap.size, 0, c, cur, rfl, by rw [← hsz]; exact heap_alloc_new w' _, hc1, hc2, by simpa using hcur, fun i row hi j x hx => ?_⟩⟩
    obtain ⟨v, h1, h2⟩ := hr i row hi j x hx
    exact ⟨v, by simpa using h1, h2.grow hgrow⟩

theorem own_last {hd : Hd} (hl : ρ.length = M.length) : Rep X.K (ρ ++ [hd]) F w (.own M.length) hd.v := .own _ _ (by rw [← hl]; simp)

def frzP (X : Cx) (e : TypeId) : List (Nat × AV) → List Blk → (List (Nat × AV) → List Blk → Option R) → Option R
  | [], M, c => c [] M
  | (i, x) :: ps, M, c =>
    match (X.ti e).u.agg, x with
    | true, .agg cs => frzL (X.ti e).ks cs M fun cs' M' => frzP X e ps M' fun ps' M'' => c ((i, .agg cs') :: ps') M''
    | false, x => frz ((X.ti e).ks.headD .raw) x M fun x' M' => frzP X e ps M' fun ps' M'' => c ((i, x') :: ps') M''
    | _, _ => none

theorem ownIds_cells (y : AV) (j : Nat) (hj : j ∈ ownIds y) : j ∈ y.cells.flatMap ownIds := by
  cases y with
  | own id => simpa [AV.cells] using hj
  | _ => exact absurd hj (by simp [ownIds])

theorem frzP_sound {e : TypeId} : ∀ (ps : List (Nat × AV)) (M : List Blk) {c : List (Nat × AV) → List Blk → Option R} {r : R}, frzP X e ps M c = some r →
    ∃ ps' M', c ps' M' = some r ∧ M'.length = M.length ∧ ps'.length = ps.length ∧ Agree (ps.flatMap fun p => p.2.cells.flatMap ownIds) M M' ∧ ∀ {w0 : World} {S : Sc} {F : Addr → Prop} {ρ : List Hd} {w : World}, Inv X w0 S F ρ M w → ∃ F', Inv X w0 S F' ρ M' w ∧ Grow F F' ρ ρ w w ∧
      ∀ pv : List (Nat × Value), pv.length = ps.length → (∀ (j : Nat) p q, ps[j]? = some p → pv[j]? = some q → p.1 = q.1 ∧ Rep X.K ρ F w p.2 q.2) → (∀ (j : Nat) p q, ps'[j]? = some p → pv[j]? = some q → p.1 = q.1 ∧ Rep X.K ρ F' w p.2 q.2)
  | [], M, c, r, h => ⟨[], M, h, rfl, rfl, Agree.refl _ _, fun {w0 S F ρ w} hI => ⟨F, hI, Grow.refl _ _ _, fun _ _ h => h⟩⟩
  | (i, x) :: ps, M, c, r, h => by
    simp only [frzP] at h
    have fin : ∀ (x' : AV) (M1 : List Blk), M1.length = M.length → Agree (x.cells.flatMap ownIds) M M1 → (∀ {w0 : World} {S : Sc} {F : Addr → Prop} {ρ : List Hd} {w : World}, Inv X w0 S F ρ M w → ∃ F', Inv X w0 S F' ρ M1 w ∧ Grow F F' ρ ρ w w ∧ ∀ v, Rep X.K ρ F w x v → Rep X.K ρ F' w x' v) →
        frzP X e ps M1 (fun ps' M'' => c ((i, x') :: ps') M'') = some r → ∃ ps' M', c ps' M' = some r ∧ M'.length = M.length ∧ ps'.length = ((i, x) :: ps).length ∧ Agree (((i, x) :: ps).flatMap fun p => p.2.cells.flatMap ownIds) M M' ∧ ∀ {w0 : World} {S : Sc} {F : Addr → Prop} {ρ : List Hd} {w : World}, Inv X w0 S F ρ M w → ∃ F', Inv X w0 S F' ρ M' w ∧ Grow F F' ρ ρ w w ∧
      ∀ pv : List (Nat × Value), pv.length = ((i, x) :: ps).length → (∀ (j : Nat) p q, ((i, x) :: ps)[j]? = some p → pv[j]? = some q → p.1 = q.1 ∧ Rep X.K ρ F w p.2 q.2) → (∀ (j : Nat) p q, ps'[j]? = some p → pv[j]? = some q → p.1 = q.1 ∧ Rep X.K ρ F' w p.2 q.2) := by
      intro x' M1 hl1 ha1 h1 h
      obtain ⟨ps', M2, h, hl2, hl3, ha2, h2⟩ := frzP_sound ps M1 h
      refine ⟨_, _, h, by omega, by simp [hl3], by rw [List.flatMap_cons]; exact ha1.trans ha2, fun {w0 S F ρ w} hI => ?_⟩
      obtain ⟨F1, i1, g1, r1⟩ := h1 hI
      obtain ⟨F2, i2, g2, r2⟩ := h2 i1
      refine ⟨F2, i2, g1.trans g2, fun pv hl hp => ?_⟩
      match pv, hl with
      | q0 :: pv, hl =>
        obtain ⟨e0, hx0⟩ := hp 0 _ _ rfl rfl
        have hrest := r2 pv (by simpa using hl) (fun j p q hpj hqj => by
          obtain ⟨a, b⟩ := hp (j + 1) p q (by simpa using hpj) (by simpa using hqj)
          exact ⟨a, b.grow g1⟩)
        intro j p q hpj hqj
        cases j with
        | zero => simp at hpj hqj; subst hpj; subst hqj; exact ⟨e0, (r1 _ hx0).grow g2⟩
        | succ j => exact hrest j p q (by simpa using hpj) (by simpa using hqj)
    split at h
    · rename_i cs ha
      obtain ⟨cs', M1, h, hl1, ha1, h1⟩ := frzL_sound (X := X) _ _ _ h
      refine fin (.agg cs') M1 hl1 ha1 (fun {w0 S F ρ w} hI => ?_) h
      obtain ⟨F1, i1, g1, r1⟩ := h1 hI
      refine ⟨F1, i1, g1, fun v hv => ?_⟩
      cases hv with
      | agg _ vs hl hr =>
        have := r1 vs ⟨hl, hr⟩
        exact .agg _ _ this.1 this.2
    · obtain ⟨x', M1, h, hl1, ha1, h1⟩ := frz_sound (X := X) h
      refine fin x' M1 hl1 (ha1.mono fun i hi => ?_) h1 h
      exact ownIds_cells _ _ hi
    · cases h

def evBuildSlice (X : Cx) (t : TypeId) (len : Nat) (ps : List (Nat × AV)) (M : List Blk) (k : AV → List Blk → Option R) : Option R :=
  match (X.ti t).ok, (X.ti t).u with
  | true, .slice e =>
    tst ((X.ti e).ok && decide (0 < (X.ti e).size) && decide (len * (X.ti e).size ≤ 16777216))
      (frzP X e ps M fun ps' M1 =>
        match fillA (fun i => some (i * (X.ti e).size, (X.ti e).size)) ((List.replicate len (zrow X e)).flatten) ps' with
        | some cs =>
          tst ((chunk (X.ti e).size len cs).all fun row => koks (X.K e) row) (k (.own M1.length) (M1 ++ [.row e (chunk (X.ti e).size len cs)]))
        | none => none)
  | _, _ => none

end
end Go.Eng

namespace Go.Eng
open Go
noncomputable section

variable {X : Cx} {R : Type}
variable {w0 w w' : World} {S : Sc} {F : Addr → Prop} {ρ : List Hd} {M : List Blk}

theorem le_maxLen {n : Nat} (h : n ≤ 140737488355328) : n ≤ maxLen := Nat.le_trans h (by decide)

theorem repL_replicate {K : TypeId → List Kind} {row : Row} {vs : List Value} (h : RepL K ρ F w row vs) : ∀ n, RepL K ρ F w (List.replicate n row).flatten (List.replicate n vs).flatten
  | 0 => ⟨rfl, fun j x v hx _ => by simp at hx⟩
  | n + 1 => by
    have ih := repL_replicate h n
    rw [List.replicate_succ, List.replicate_succ, List.flatten_cons, List.flatten_cons]
    refine ⟨by rw [List.length_append, List.length_append, h.1, ih.1], fun j x v hx hv => ?_⟩
    by_cases hj : j < row.length
    · rw [List.getElem?_append_left hj] at hx
      rw [List.getElem?_append_left (by rw [h.1]; exact hj)] at hv
      exact h.2 j x v hx hv
    · rw [List.getElem?_append_right (by omega)] at hx
      rw [List.getElem?_append_right (by rw [h.1]; omega), h.1] at hv
      exact ih.2 _ x v hx hv

theorem zeros_eq (vs : Array Value) (hs : 0 < vs.size) : ∀ n, ((Array.range (n * vs.size)).map (vs[· % vs.size]!)).toList = (List.replicate n vs.toList).flatten := by
  intro n
  induction n with
  | zero => simp
  | succ n ih =>
    rw [List.replicate_succ', List.flatten_append, ← ih]
    apply List.ext_getElem?
    intro j
    simp only [Array.toList_map, Array.toList_range, List.getElem?_map, List.flatten_cons, List.flatten_nil, List.append_nil]
    have e : (n + 1) * vs.size = n * vs.size + vs.size := by rw [Nat.add_mul, Nat.one_mul]
    by_cases h1 : j < n * vs.size
    · rw [List.getElem?_append_left (by simpa using h1), List.getElem?_range (by omega), List.getElem?_map, List.getElem?_range h1]
    · by_cases h2 : j < (n + 1) * vs.size
      · rw [List.getElem?_append_right (by simp; omega), List.getElem?_range h2]
        simp only [List.length_map, List.length_range, Option.map_some]
        have h3 : j % vs.size = j - n * vs.size := by
          rw [show j = (j - n * vs.size) + n * vs.size by omega, Nat.add_mul_mod_self_right, Nat.mod_eq_of_lt (by omega)]
          omega
        have h4 : j - n * vs.size < vs.size := by omega
        rw [h3, Array.getElem?_toList, Array.getElem?_eq_getElem h4, getElem!_pos vs _ h4]
      · rw [List.getElem?_append_right (by simp; omega), List.getElem?_eq_none (by simp; omega), List.getElem?_eq_none (by simp; omega)]
        rfl

/-- The rows of a flat list of cells. -/
theorem chunk_rep {K : TypeId → List Kind} {cs : List AV} {us : List Value} (h : RepL K ρ F w cs us) {sz n : Nat} {i : Nat} {row : Row} (hi : (chunk sz n cs)[i]? = some row) {j : Nat} {x : AV} (hx : row[j]? = some x) :
    ∃ v, us[i * sz + j]? = some v ∧ Rep K ρ F w x v := by
  have hil : i < n := by have := (List.getElem?_eq_some_iff.1 hi).1; rwa [chunk_length] at this
  rw [chunk_get sz n cs i hil] at hi
  injection hi with hi
  subst hi
  rw [List.getElem?_take] at hx
  split at hx
  · rw [List.getElem?_drop] at hx
    have hlt := (List.getElem?_eq_some_iff.1 hx).1
    have hl := h.1
    have hu : us[i * sz + j]? = some (us[i * sz + j]'(by omega)) := List.getElem?_eq_getElem (by omega)
    exact ⟨_, hu, h.2 _ x _ hx hu⟩
  · cases hx

theorem evBuildSlice_sound (hX : X.Okb) {t : TypeId} {len : Nat} {ps : List (Nat × AV)} {k : AV → List Blk → Option R} {r : R} (h : evBuildSlice X t len ps M k = some r) :
    ∃ y M', k y M' = some r ∧ Agree (ps.flatMap fun p => p.2.cells.flatMap ownIds) M M' ∧ ∀ {w0 : World} {S : Sc} {F : Addr → Prop} {ρ : List Hd} {w : World} (pv : List (Nat × Value)), Inv X w0 S F ρ M w → pv.length = ps.length →
      (∀ (j : Nat) p q, ps[j]? = some p → pv[j]? = some q → p.1 = q.1 ∧ Rep X.K ρ F w p.2 q.2) →
      ∃ v w' ρ' F', (Instr.buildSlice t len pv.toArray).run X.P w = .ok v w' ∧ Inv X w0 S F' ρ' M' w' ∧ Grow F F' ρ ρ' w w' ∧ Rep X.K ρ' F' w' y v ∧ ∀ g, g < w.heap.size → w'.heap[g]? = w.heap[g]? := by
  unfold evBuildSlice at h
  split at h
  · rename_i e hok hu
    replace h := tst_some h
    obtain ⟨h1, h⟩ := h
    simp only [Bool.and_eq_true, decide_eq_true_eq] at h1
    obtain ⟨⟨he, hpos⟩, hmax⟩ := h1
    obtain ⟨i, d, z, f⟩ := hX.facts hok
    obtain ⟨i2, d2, z2, f2⟩ := hX.facts he
    have hund := f.slice hu
    obtain ⟨ps', M1, h, hl1, hl2, hag, hfz⟩ := frzP_sound _ _ h
    split at h
    · rename_i cs hfill
      replace h := tst_some h
      obtain ⟨hks, h⟩ := h
      refine ⟨_, _, h, (hag.trans (Agree.push [] _ _)).mono (by simp), fun {w0 S F0 ρ w} pv hI0 hl hp => ?_⟩
      obtain ⟨F, hI, hg0, hp2⟩ := hfz hI0
      have hp' := hp2 pv hl hp
      have hzs : z2.cells.size = (X.ti e).size := by rw [f2.size]; exact f2.zs
      have hksz : (X.K e).length = (X.ti e).size := by rw [f2.size]; exact f2.ks
      have hz : RepL X.K ρ F w (List.replicate len (zrow X e)).flatten ((Array.range (len * z2.cells.size)).map (z2.cells[· % z2.cells.size]!)).toList := by
        rw [zeros_eq z2.cells (by omega)]
        exact repL_replicate (repL_zrow f2) len
      obtain ⟨us, hf, hr⟩ := fillA_sound hI.one ps' _ cs _ pv hfill hz (by omega) hp'
      have hcsl : cs.length = len * (X.ti e).size := by
        have h1 : us.size = len * z2.cells.size := by
          have aux : ∀ (pv : List (Nat × Value)) (place : Nat → Option (Nat × Nat)) (a b : Array Value), Instr.fill place a pv = some b → b.size = a.size := by
            intro pv
            induction pv with
            | nil => intro place a b h; simp only [Instr.fill, Option.some.injEq] at h; rw [h]
            | cons p pv ih =>
              obtain ⟨ix, v⟩ := p
              intro place a b h
              simp only [Instr.fill] at h
              split at h
              · cases h
              · split at h
                · cases h
                · have := ih place _ b h
                  rw [this, ← Array.foldl_toList]
                  exact foldl_set_size _ _ _
          have := aux pv _ _ us hf
          simpa using this
        have := hr.1
        simp only [Array.length_toList] at this
        rw [← this, h1, hzs]
      have hInew := hI.newRow (t := e) (xs := chunk (X.ti e).size len cs) (cur := us) (c := len) (fun i row hi => by
          rw [List.all_eq_true] at hks
          exact hks row (List.mem_of_getElem? hi)) (by rw [chunk_length]; exact Nat.le_refl _)
          (by
            have : len ≤ len * (X.ti e).size := Nat.le_mul_of_pos_right _ hpos
            exact le_maxLen (by omega))
          (by have := hr.1; simp only [Array.length_toList] at this; rw [hksz]; omega)
          (fun i row hi j x hx => by
            obtain ⟨v, h1, h2⟩ := chunk_rep hr hi hx
            rw [hksz]
            exact ⟨v, by rw [Array.getElem?_toList] at h1; exact h1, h2⟩)
          (w' := w) ⟨rfl, rfl, rfl, Nat.le_refl _, fun _ _ _ => rfl⟩ rfl
      refine ⟨.slice (some ⟨w.heap.size, 0, none⟩) len len, _, _, F, ?_, hInew.1, hg0.trans hInew.2, ?_, fun g hg => Go.RowKit.Below.heap_alloc w _ g hg⟩
      · unfold Instr.buildSlice
        simp only [Sem.run_bind, run_underlying hund, Result.andThen_ok, f2.sizeOf]
        rw [if_neg (by omega)]
        by_cases h0 : len * (X.ti e).size = 0
        · have e0 : (Array.range (len * z2.cells.size)).map (z2.cells[· % z2.cells.size]!) = #[] := by rw [hzs, h0]; simp
          rw [e0] at hf
          rw [if_pos h0]
          simp only [Sem.run_bind, Sem.run_pure, Result.andThen_ok]
          have e1 : (Array.range (len * (X.ti e).size)).map (fun x => (#[] : Array Value)[x % (#[] : Array Value).size]!) = #[] := by rw [h0]; simp
          rw [e1, hf]
          simp only [newRow, Sem.run_bind, run_newObj, Result.andThen_ok, Sem.run_pure, World.alloc_eq]
        · rw [if_neg h0]
          simp only [Sem.run_bind, Sem.run_pure, Result.andThen_ok, f2.zeroValue]
          rw [hzs] at hf
          rw [hzs, hf]
          simp only [newRow, Sem.run_bind, run_newObj, Result.andThen_ok, Sem.run_pure, World.alloc_eq]
      · have := own_last (X := X) (F := F) (w := w.alloc (.cells us e)) (hd := ⟨.slice (some ⟨w.heap.size, 0, none⟩) (chunk (X.ti e).size len cs).length len, (X.K e).length⟩) hI.len
        simpa [chunk_length] using this
    · cases h
  · cases h

/-! ### make -/
def evMakeSlice (X : Cx) (t : TypeId) (l c : AV) (M : List Blk) (k : AV → List Blk → Option R) : Option R :=
  match (X.ti t).ok, (X.ti t).u, l, c with
  | true, .slice e, .int _ l, .int _ c =>
    tst ((X.ti e).ok && decide (0 < (X.ti e).size) && decide (0 < (X.ti e).bytes) && koks (X.K e) (zrow X e) && (decide (0 ≤ l) && decide (l ≤ c) && decide (c * (X.ti e).bytes ≤ 140737488355328)))
      (k (.own M.length) (M ++ [.row e (List.replicate l.toNat (zrow X e))]))
  | _, _, _, _ => none

theorem evMakeSlice_sound (hX : X.Okb) {t : TypeId} {l c : AV} {k : AV → List Blk → Option R} {r : R} (h : evMakeSlice X t l c M k = some r) :
    ∃ y M', k y M' = some r ∧ Agree [] M M' ∧ ∀ {vl vc : Value}, Does X M y M' (fun ρ F w => Rep X.K ρ F w l vl ∧ Rep X.K ρ F w c vc) (Instr.makeSlice t vl vc) := by
  unfold evMakeSlice at h
  split at h
  · rename_i e k1 l k2 c hok hu
    replace h := tst_some h
    obtain ⟨h1, h⟩ := h
    simp only [Bool.and_eq_true, decide_eq_true_eq] at h1
    obtain ⟨⟨⟨⟨he, hpos⟩, hby⟩, hkz⟩, ⟨hl0, hlc⟩, hcb⟩ := h1
    obtain ⟨i, d, z, f⟩ := hX.facts hok
    obtain ⟨i2, d2, z2, f2⟩ := hX.facts he
    have hund := f.slice hu
    have hzs : z2.cells.size = (X.ti e).size := by rw [f2.size]; exact f2.zs
    have hksz : (X.K e).length = (X.ti e).size := by rw [f2.size]; exact f2.ks
    obtain ⟨cn, rfl⟩ := Int.eq_ofNat_of_zero_le (show 0 ≤ c by omega)
    obtain ⟨ln, rfl⟩ := Int.eq_ofNat_of_zero_le hl0
    have hcn : cn ≤ 140737488355328 := by
      have h2 : cn ≤ cn * (X.ti e).bytes := Nat.le_mul_of_pos_right _ hby
      have h3 : ((cn * (X.ti e).bytes : Nat) : Int) ≤ 140737488355328 := by rw [Int.natCast_mul]; exact hcb
      generalize cn * (X.ti e).bytes = m at *
      omega
    have hln : ln ≤ cn := by omega
    refine ⟨_, _, h, Agree.push _ _ _, fun {vl vc w0 S F ρ w} hI hv => ?_⟩
    obtain ⟨h1, h2⟩ := hv
    cases h1; cases h2
    have hInew := hI.newRow (t := e) (xs := List.replicate ln (zrow X e)) (cur := (Array.range (cn * (X.ti e).size)).map (z2.cells[· % z2.cells.size]!)) (c := cn) (fun i row hi => by
        have := List.mem_of_getElem? hi
        rw [List.mem_replicate] at this
        rw [this.2]
        exact hkz) (by simpa using hln) (le_maxLen hcn) (by simp [hksz])
        (fun i row hi j x hx => by
          have hil : i < ln := by have := (List.getElem?_eq_some_iff.1 hi).1; simpa using this
          rw [List.getElem?_replicate, if_pos hil] at hi
          injection hi with hi
          subst hi
          have hrz := repL_zrow (X := X) (ρ := ρ) (F := F) (w := w) f2
          have hj := (List.getElem?_eq_some_iff.1 hx).1
          have hl2 := hrz.1
          simp only [Array.length_toList] at hl2
          have hj2 : j < z2.cells.size := by omega
          have hidx : i * (X.K e).length + j < cn * (X.ti e).size := by
            rw [hksz]
            have : (i + 1) * (X.ti e).size ≤ cn * (X.ti e).size := Nat.mul_le_mul_right _ (by omega)
            rw [Nat.add_mul, Nat.one_mul] at this
            omega
          have hm : (i * (X.K e).length + j) % z2.cells.size = j := by
            rw [hksz, hzs, Nat.add_comm, Nat.add_mul_mod_self_right, Nat.mod_eq_of_lt (by omega)]
          refine ⟨z2.cells[j], ?_, hrz.2 j x _ hx (by simp [hj2])⟩
          rw [Array.getElem?_map, Array.getElem?_range, if_pos hidx]
          simp only [Option.map_some, hm]
          rw [getElem!_pos z2.cells j hj2])
        (w' := w) ⟨rfl, rfl, rfl, Nat.le_refl _, fun _ _ _ => rfl⟩ rfl
    refine ⟨.slice (some ⟨w.heap.size, 0, none⟩) ln cn, _, _, F, ?_, hInew.1, hInew.2, ?_⟩
    · have hwl : IntKind.i64.wrap (ln : Int) = ln := by simp [IntKind.wrap, IntKind.bits, IntKind.signed]; omega
      have hwc : IntKind.i64.wrap (cn : Int) = cn := by simp [IntKind.wrap, IntKind.bits, IntKind.signed]; omega
      have hb2 : (i2.bytes : Int) * (cn : Int) ≤ 140737488355328 := by rw [← f2.bytes, Int.mul_comm]; exact hcb
      have hbl : (i2.bytes : Int) * (ln : Int) ≤ 140737488355328 := by
        have : (i2.bytes : Int) * (ln : Int) ≤ (i2.bytes : Int) * (cn : Int) := Int.mul_le_mul_of_nonneg_left (by omega) (by omega)
        omega
      have hnot : ¬ ((((cn : Int) < 0 ∨ (281474976710656 : Int) < (i2.bytes : Int) * (cn : Int)) ∨ (ln : Int) < 0) ∨ (cn : Int) < (ln : Int)) := by omega
      unfold Instr.makeSlice
      simp only [Sem.run_bind, run_underlying hund, Result.andThen_ok, asInt, asIntOf, Sem.run_pure, f2.typeInfo, hwl, hwc]
      rw [if_neg (by simpa using hnot)]
      by_cases h0 : cn * (X.ti e).size = 0
      · have : cn = 0 := by rcases Nat.mul_eq_zero.1 h0 with h | h; exact h; omega
        subst this
        have e9 : ∀ g : Nat → Value, (Array.range 0).map g = #[] := by intro g; simp
        simp [f2.sizeOf, newRow, e9]
      · simp [f2.sizeOf, newRow, f2.zeroValue, h0]
    · have := own_last (X := X) (F := F) (w := w.alloc (.cells ((Array.range (cn * (X.ti e).size)).map (z2.cells[· % z2.cells.size]!)) e)) (hd := ⟨.slice (some ⟨w.heap.size, 0, none⟩) (List.replicate ln (zrow X e)).length cn, (X.K e).length⟩) hI.len
      simpa using this
  · cases h

end
end Go.Eng

namespace Go.Eng
open Go
noncomputable section

variable {X : Cx} {R : Type} {M : List Blk}

theorem Inv.shed {w0 w w' : World} {S : Sc} {F F' : Addr → Prop} {ρ : List Hd} {hd : Hd} {b : Blk} (hI : Inv X w0 S F ρ M w) (hN : Inv X w0 S F' (ρ ++ [hd]) (M ++ [b]) w') (hF : ∀ a, F a → F' a) (hp : ∀ g, g < w.heap.size → w'.heap[g]? = w.heap[g]?) (hw : ∀ a v, F a → w.cell? a = some v → w'.cell? a = some v) :
    Inv X w0 S F' ρ M w' where
  os := hN.os
  tape := hN.tape
  output := hN.output
  size := hN.size
  frame := hN.frame
  len := hI.len
  rep := fun id b' hd' hb hh => by
    cases hdead : b'.isDead with
    | false => exact (hI.rep id b' hd' hb hh).mono (fun _ _ h => h) hF hw (fun g hg => hp g (hI.sep id b' hd' g hb hdead hh hg).1)
    | true =>
      have h1 : (M ++ [b])[id]? = some b' := by rw [List.getElem?_append_left (List.getElem?_eq_some_iff.1 hb).1]; exact hb
      have h2 : (ρ ++ [hd])[id]? = some hd' := by rw [List.getElem?_append_left (List.getElem?_eq_some_iff.1 hh).1]; exact hh
      have hr := hI.rep id b' hd' hb hh
      cases b' with
      | dead => trivial
      | fro t xs => exact Rep.mono (fun _ _ h => h) hF hw hr
      | _ => simp [Blk.isDead] at hdead
  sep := fun id b' hd' g hb hdead hh hg => by
    have h1 : (M ++ [b])[id]? = some b' := by rw [List.getElem?_append_left (List.getElem?_eq_some_iff.1 hb).1]; exact hb
    have h2 : (ρ ++ [hd])[id]? = some hd' := by rw [List.getElem?_append_left (List.getElem?_eq_some_iff.1 hh).1]; exact hh
    exact hN.sep id b' hd' g h1 hdead h2 hg
  disj := hI.disj
  fz := hN.fz
  glob := fun g => (hI.glob g).mono (fun _ _ h => h) hF hw
  one := hI.one
  old := hN.old
  fin := hN.fin

/-- A value that may stand in a composite slice which is handed on as a list at once. -/
def leafB : AV → Bool | .int _ _ | .bool _ | .str _ | .list _ _ => true | _ => false
def leafP : Bool → AV → Bool | true, .agg cs => cs.all leafB | false, x => leafB x | _, _ => false
def leafA : AV → Bool | .agg cs => cs.all leafB | x => leafB x

theorem frz_leaf {kd : Kind} {x : AV} {c : AV → List Blk → Option R} (h : leafB x = true) : frz kd x M c = c x M := by
  cases x <;> simp [leafB] at h <;> cases kd <;> rfl

theorem frzL_leaf : ∀ (ks : List Kind) (xs : List AV) {M : List Blk} {c : List AV → List Blk → Option R}, xs.all leafB = true → frzL ks xs M c = c xs M
  | [], xs, M, c, _ => by cases xs <;> rfl
  | _ :: _, [], M, c, _ => rfl
  | kd :: ks, x :: xs, M, c, h => by
    rw [List.all_cons, Bool.and_eq_true] at h
    simp only [frzL]
    rw [frz_leaf h.1, frzL_leaf ks xs h.2]
theorem frzP_leaf {e : TypeId} : ∀ (ps : List (Nat × AV)) {M : List Blk} {c : List (Nat × AV) → List Blk → Option R}, (ps.all fun p => leafP (X.ti e).u.agg p.2) = true → frzP X e ps M c = c ps M
  | [], M, c, _ => rfl
  | (i, x) :: ps, M, c, h => by
    rw [List.all_cons, Bool.and_eq_true] at h
    obtain ⟨h1, h2⟩ := h
    cases ha : (X.ti e).u.agg with
    | true =>
      rw [ha] at h1
      cases x <;> simp only [leafP, Bool.false_eq_true] at h1
      simp only [frzP, ha]
      rw [frzL_leaf _ _ h1, frzP_leaf ps h2]
    | false =>
      rw [ha] at h1
      simp only [frzP, ha]
      rw [frz_leaf (by simpa [leafP] using h1), frzP_leaf ps h2]

/-- A composite slice of plain values that is never written: a list at once, and the memory is left alone. -/
def evBuildList (X : Cx) (t : TypeId) (len : Nat) (ps : List (Nat × AV)) (k : AV → Option R) : Option R :=
  match (X.ti t).ok, (X.ti t).u with
  | true, .slice e =>
    tst ((((X.ti e).ok && decide (0 < (X.ti e).size) && decide (len * (X.ti e).size ≤ 16777216)) && (ps.all fun p => leafP (X.ti e).u.agg p.2)) && X.pk)
      (match fillA (fun i => some (i * (X.ti e).size, (X.ti e).size)) ((List.replicate len (zrow X e)).flatten) ps with
        | some cs => tst ((chunk (X.ti e).size len cs).all fun row => koks (X.K e) row) (k (.list e (chunk (X.ti e).size len cs)))
        | none => none)
  | _, _ => none

theorem evBuildList_sound (hX : X.Okb) {t : TypeId} {len : Nat} {ps : List (Nat × AV)} {k : AV → Option R} {r : R} (h : evBuildList X t len ps k = some r) :
    ∃ y, k y = some r ∧ (∀ (R' : Type) (k' : AV → Option R'), evBuildList X t len ps k' = k' y) ∧ ∀ {M : List Blk} {w0 : World} {S : Sc} {F : Addr → Prop} {ρ : List Hd} {w : World} (pv : List (Nat × Value)), Inv X w0 S F ρ M w → pv.length = ps.length →
      (∀ (j : Nat) p q, ps[j]? = some p → pv[j]? = some q → p.1 = q.1 ∧ Rep X.K ρ F w p.2 q.2) →
      ∃ v w' ρ' F', (Instr.buildSlice t len pv.toArray).run X.P w = .ok v w' ∧ Inv X w0 S F' ρ' M w' ∧ Grow F F' ρ ρ' w w' ∧ Rep X.K ρ' F' w' y v := by
  unfold evBuildList at h
  split at h
  · rename_i e hok hu
    replace h := tst_some h
    obtain ⟨h1, h⟩ := h
    split at h
    · rename_i cs hfill
      replace h := tst_some h
      obtain ⟨hks, h⟩ := h
      refine ⟨_, h, fun R' k' => by unfold evBuildList; simp only [hok, hu, h1, hfill, hks, tst], fun {M w0 S F ρ w} pv hI hl hp => ?_⟩
      obtain ⟨h1, hpk⟩ := Bool.and_eq_true_iff.1 h1
      obtain ⟨h1, h3⟩ := Bool.and_eq_true_iff.1 h1
      have hb : evBuildSlice X t len ps M (fun y M' => some (y, M')) = some (.own M.length, M ++ [.row e (chunk (X.ti e).size len cs)]) := by
        unfold evBuildSlice
        simp only [hok, hu, h1, tst]
        rw [frzP_leaf ps h3]
        simp only [hfill, hks, tst]
      obtain ⟨y1, M1, he, _, hd⟩ := evBuildSlice_sound hX hb
      injection he with he
      injection he with he1 he2
      subst he1; subst he2
      obtain ⟨v, w', ρ', F1, hrun, hI1, hg1, hr1, hpre⟩ := hd pv hI hl hp
      have hρ : ∃ hd, ρ' = ρ ++ [hd] := by
        have hl1 := hI1.len
        have hl2 := hI.len
        rw [List.length_append, List.length_singleton] at hl1
        have hlt : ρ.length < ρ'.length := by omega
        refine ⟨ρ'[ρ.length], List.ext_getElem? fun j => ?_⟩
        by_cases hj : j < ρ.length
        · rw [List.getElem?_append_left hj, List.getElem?_eq_getElem hj]
          exact hg1.hρ j _ (List.getElem?_eq_getElem hj)
        · by_cases hj2 : j = ρ.length
          · subst hj2
            rw [List.getElem?_append_right (Nat.le_refl _), Nat.sub_self, List.getElem?_eq_getElem hlt]
            rfl
          · rw [List.getElem?_eq_none (by omega), List.getElem?_eq_none (by simp; omega)]
      obtain ⟨hd2, rfl⟩ := hρ
      have hz : frz (.slice e) (.own M.length) (M ++ [.row e (chunk (X.ti e).size len cs)]) (fun x M => some (x, M)) = some (.list e (chunk (X.ti e).size len cs), M ++ [.fro e (chunk (X.ti e).size len cs)]) := by
        simp [gm_eq, frz, tst]
      obtain ⟨x', M2, he, _, _, hfz⟩ := frz_sound (X := X) hz
      injection he with he
      injection he with he1 he2
      subst he1; subst he2
      obtain ⟨F2, hI2, hg2, hv⟩ := hfz hI1
      have hg := hg1.trans hg2
      exact ⟨v, w', ρ, F2, hrun, hI.shed hI2 hg.hF hpre (fun a v ha hc => hg.hw a v ha hc), ⟨hg.hF, fun _ _ h => h, hg.hb⟩, (hv v hr1).pure (hX.ok hpk).kinds rfl⟩
    · cases h
  · cases h

/-- A function with something that it captured. -/
def impC : AV → Bool | .clos _ [] [] => false | .clos _ _ _ => true | _ => false
def impPs (ps : List (Nat × AV)) : Bool := ps.any fun p => p.2.cells.any impC
/-- A composite slice of values that name blocks: a block of its own, looked at cell by cell. -/
def evBuildVar (X : Cx) (t : TypeId) (len : Nat) (ps : List (Nat × AV)) (M : List Blk) (k : AV → List Blk → Option R) : Option R :=
  match (X.ti t).ok, (X.ti t).u with
  | true, .slice e =>
    tst ((X.ti e).ok && decide (0 < (X.ti e).size) && decide (len * (X.ti e).size ≤ 16777216))
      (match fillA (fun i => some (i * (X.ti e).size, (X.ti e).size)) ((List.replicate len (zrow X e)).flatten) ps with
        | some cs => tst (koks (List.replicate cs.length .any) cs && X.tyB (List.replicate cs.length .any) e) (k (.vsl M.length len) (M ++ [.var (List.replicate cs.length .any) cs]))
        | none => none)
  | _, _ => none

theorem evBuildVar_sound (hX : X.Okb) {t : TypeId} {len : Nat} {ps : List (Nat × AV)} {k : AV → List Blk → Option R} {r : R} (h : evBuildVar X t len ps M k = some r) :
    ∃ y M', k y M' = some r ∧ Agree [] M M' ∧ ∀ {w0 : World} {S : Sc} {F : Addr → Prop} {ρ : List Hd} {w : World} (pv : List (Nat × Value)), Inv X w0 S F ρ M w → pv.length = ps.length →
      (∀ (j : Nat) p q, ps[j]? = some p → pv[j]? = some q → p.1 = q.1 ∧ Rep X.K ρ F w p.2 q.2) →
      ∃ v w' ρ' F', (Instr.buildSlice t len pv.toArray).run X.P w = .ok v w' ∧ Inv X w0 S F' ρ' M' w' ∧ Grow F F' ρ ρ' w w' ∧ Rep X.K ρ' F' w' y v := by
  unfold evBuildVar at h
  split at h
  · rename_i e hok hu
    replace h := tst_some h
    obtain ⟨h1, h⟩ := h
    simp only [Bool.and_eq_true, decide_eq_true_eq] at h1
    obtain ⟨⟨he, hpos⟩, hmax⟩ := h1
    obtain ⟨i, d, z, f⟩ := hX.facts hok
    obtain ⟨i2, d2, z2, f2⟩ := hX.facts he
    have hund := f.slice hu
    split at h
    · rename_i cs hfill
      replace h := tst_some h
      obtain ⟨hks, h⟩ := h
      rw [Bool.and_eq_true] at hks
      obtain ⟨hks, hyy⟩ := hks
      refine ⟨_, _, h, Agree.push _ _ _, fun {w0 S F ρ w} pv hI hl hp => ?_⟩
      have hzs : z2.cells.size = (X.ti e).size := by rw [f2.size]; exact f2.zs
      have hz : RepL X.K ρ F w (List.replicate len (zrow X e)).flatten ((Array.range (len * z2.cells.size)).map (z2.cells[· % z2.cells.size]!)).toList := by
        rw [zeros_eq z2.cells (by omega)]
        exact repL_replicate (repL_zrow f2) len
      obtain ⟨us, hf, hr⟩ := fillA_sound hI.one ps _ cs _ pv hfill hz hl hp
      obtain ⟨hI', hg⟩ := hI.newVar hks hr e hyy
      refine ⟨.slice (some ⟨w.heap.size, 0, none⟩) len len, _, _, F, ?_, hI', hg, ?_⟩
      · unfold Instr.buildSlice
        simp only [Sem.run_bind, run_underlying hund, Result.andThen_ok, f2.sizeOf]
        rw [if_neg (by omega)]
        by_cases h0 : len * (X.ti e).size = 0
        · have e0 : (Array.range (len * z2.cells.size)).map (z2.cells[· % z2.cells.size]!) = #[] := by rw [hzs, h0]; simp
          rw [e0] at hf
          rw [if_pos h0]
          simp only [Sem.run_bind, Sem.run_pure, Result.andThen_ok]
          have e1 : (Array.range (len * (X.ti e).size)).map (fun x => (#[] : Array Value)[x % (#[] : Array Value).size]!) = #[] := by rw [h0]; simp
          rw [e1, hf]
          simp only [newRow, Sem.run_bind, run_newObj, Result.andThen_ok, Sem.run_pure, World.alloc_eq]
        · rw [if_neg h0]
          simp only [Sem.run_bind, Sem.run_pure, Result.andThen_ok, f2.zeroValue]
          rw [hzs] at hf
          rw [hzs, hf]
          simp only [newRow, Sem.run_bind, run_newObj, Result.andThen_ok, Sem.run_pure, World.alloc_eq]
      · exact .vsl _ _ ⟨.slice (some ⟨w.heap.size, 0, none⟩) 1 1, cs.length⟩ _ _ 1 1 _ (by rw [← hI.len]; simp) rfl
    · cases h
  · cases h

end
end Go.Eng

namespace Go.Eng
open Go
noncomputable section

variable {X : Cx} {R : Type}
variable {w0 w w' : World} {S : Sc} {F : Addr → Prop} {ρ : List Hd} {M : List Blk}

/-- An optional bound. -/
def bnd (d : Int) : Option AV → Option Int
  | none => some d
  | some (.int _ n) => some n
  | _ => none

def ORep (K : TypeId → List Kind) (ρ : List Hd) (F : Addr → Prop) (w : World) : Option AV → Option Value → Prop
  | none, none => True
  | some x, some v => Rep K ρ F w x v
  | _, _ => False

def subrows (xs : List Row) (lo hi : Option AV) : List Row :=
  match lo, hi with
  | none, none => xs
  | none, some h => xs.take h.toI.toNat
  | some l, none => xs.drop l.toI.toNat
  | some l, some h => (xs.take h.toI.toNat).drop l.toI.toNat

def evSlice (X : Cx) (t : TypeId) (x : AV) (lo hi mx : Option AV) (M : List Blk) (k : AV → List Blk → Option R) : Option R :=
  match (X.ti t).ok, (X.ti t).u with
  | true, .slice e =>
    match rowsOf M x with
    | some (_, xs) =>
      match bnd 0 lo, bnd xs.length hi, bnd xs.length mx with
      | some l, some h, some m =>
        tst ((X.ti e).ok && !(mx.isSome && hi.isNone) && (decide (0 ≤ l) && decide (l ≤ h) && decide (h ≤ m) && decide (m ≤ (xs.length : Int))))
          (match x with
           | .list t' xs => tst (e == t') (k (.list t' (subrows xs lo hi)) M)
           | .nilsl => k .nilsl M
           | .own id =>
             match gm M id with
             | some (.row t' xs) => tst (e == t') (k (.own M.length) (M.set id .dead ++ [.row t' (subrows xs lo hi)]))
             | some (.fro t' xs) => tst (e == t') (k (.list t' (subrows xs lo hi)) M)
             | _ => none
           | _ => none)
      | _, _, _ => none
    | none => none
  | _, _ => none

theorem run_sliceAt {P : Program} {t e : TypeId} {size : Nat} (hund : P.underlying t = some (.slice e)) (hs : ∀ w, (sizeOf e).run P w = .ok size w) {a : Option Addr} {len cap : Nat} {lo hi mx : Option AV} {vl vh vm : Option Value} {K : TypeId → List Kind}
    (h1 : ORep K ρ F w lo vl) (h2 : ORep K ρ F w hi vh) (h3 : ORep K ρ F w mx vm) {l h m : Int} (e1 : bnd 0 lo = some l) (e2 : bnd len hi = some h) (e3 : bnd len mx = some m) (hno : ¬ (mx.isSome = true ∧ hi.isNone = true)) (b1 : 0 ≤ l) (b2 : l ≤ h) (b3 : h ≤ m) (b4 : m ≤ len) (b5 : len ≤ cap) :
    ∃ mm : Nat, h.toNat ≤ mm ∧ mm ≤ cap ∧ (Instr.sliceAt t (.slice a len cap) vl vh vm).run P w = .ok (.slice (if mm = l.toNat then a else a.map (·.add (l.toNat * size))) (h.toNat - l.toNat) (mm - l.toNat)) w := by
  obtain ⟨ln, rfl⟩ := Int.eq_ofNat_of_zero_le b1
  obtain ⟨hn, rfl⟩ := Int.eq_ofNat_of_zero_le (show 0 ≤ h by omega)
  obtain ⟨mn, rfl⟩ := Int.eq_ofNat_of_zero_le (show 0 ≤ m by omega)
  have bound : ∀ (o : Option AV) (v : Option Value) (d : Int) (n : Nat), ORep K ρ F w o v → bnd d o = some (n : Int) → (o = none ∧ v = none ∧ d = n) ∨ ∃ kd, v = some (.int kd n) ∧ o.isSome = true := by
    intro o v d n hr hb
    cases o with
    | none => cases v with
      | none => simp only [bnd, Option.some.injEq] at hb; exact .inl ⟨rfl, rfl, hb⟩
      | some _ => exact hr.elim
    | some x => cases v with
      | none => exact hr.elim
      | some v =>
        cases x <;> simp only [bnd] at hb <;> try cases hb
        cases hr
        exact .inr ⟨_, rfl, rfl⟩
  have hu : ∀ w, (underlying t).run P w = .ok (.slice e) w := fun w => run_underlying hund w
  rcases bound lo vl 0 ln h1 e1 with ⟨o1, rfl, d1⟩ | ⟨k1, rfl, s1⟩ <;> rcases bound hi vh len hn h2 e2 with ⟨o2, rfl, d2⟩ | ⟨k2, rfl, s2⟩ <;> rcases bound mx vm len mn h3 e3 with ⟨o3, rfl, d3⟩ | ⟨k3, rfl, s3⟩
  · refine ⟨cap, by omega, Nat.le_refl _, ?_⟩
    have e0 : ln = 0 := by omega
    have e0' : hn = len := by omega
    subst e0; subst e0'
    simp [Instr.sliceAt, Instr.slice, hu, Instr.sliceBounds, hs]
  · exact absurd ⟨s3, by rw [o2]; rfl⟩ hno
  · refine ⟨cap, by omega, Nat.le_refl _, ?_⟩
    have e0 : ln = 0 := by omega
    subst e0
    have : hn ≤ cap := by omega
    simp [Instr.sliceAt, Instr.slice, hu, Instr.sliceBounds, hs, Instr.sliceBound, asIntOf, this]
  · refine ⟨mn, by omega, by omega, ?_⟩
    have e0 : ln = 0 := by omega
    subst e0
    have h1 : hn ≤ mn := by omega
    have h2 : mn ≤ cap := by omega
    simp [Instr.sliceAt, Instr.slice, hu, Instr.sliceBounds, hs, Instr.sliceBound, asIntOf, h1, h2]
  · refine ⟨cap, by omega, Nat.le_refl _, ?_⟩
    have e0' : hn = len := by omega
    subst e0'
    have h1 : ln ≤ hn := by omega
    simp [Instr.sliceAt, Instr.slice, hu, Instr.sliceBounds, hs, Instr.sliceBound, asIntOf, h1]
  · exact absurd ⟨s3, by rw [o2]; rfl⟩ hno
  · refine ⟨cap, by omega, Nat.le_refl _, ?_⟩
    have h1 : ln ≤ hn := by omega
    have h2 : hn ≤ cap := by omega
    simp [Instr.sliceAt, Instr.slice, hu, Instr.sliceBounds, hs, Instr.sliceBound, asIntOf, h1, h2]
  · refine ⟨mn, by omega, by omega, ?_⟩
    have h1 : ln ≤ hn := by omega
    have h2 : hn ≤ mn := by omega
    have h3 : mn ≤ cap := by omega
    simp [Instr.sliceAt, Instr.slice, hu, Instr.sliceBounds, hs, Instr.sliceBound, asIntOf, h1, h2, h3]

theorem subrows_eq {xs : List Row} {lo hi : Option AV} {l h : Int} (e1 : bnd 0 lo = some l) (e2 : bnd xs.length hi = some h) : subrows xs lo hi = (xs.take h.toNat).drop l.toNat := by
  cases lo with
  | none =>
    simp only [bnd, Option.some.injEq] at e1
    subst e1
    cases hi with
    | none => simp only [bnd, Option.some.injEq] at e2; subst e2; simp [subrows]
    | some x => cases x <;> simp only [bnd] at e2 <;> try cases e2
                simp [subrows, AV.toI]
  | some y =>
    cases y <;> simp only [bnd] at e1 <;> try cases e1
    cases hi with
    | none => simp only [bnd, Option.some.injEq] at e2; subst e2; simp [subrows, AV.toI]
    | some x => cases x <;> simp only [bnd] at e2 <;> try cases e2
                simp [subrows, AV.toI]

/-- A part of an immutable slice. -/
theorem rep_sub {t : TypeId} {xs : List Row} {v : Value} (hv : Rep X.K ρ F w (.list t xs) v) {l h m : Nat} (b2 : l ≤ h) (b3 : h ≤ xs.length) :
    ∀ {a : Option Addr} {cap : Nat}, v = .slice a xs.length cap → h ≤ m → m ≤ cap → Rep X.K ρ F w (.list t ((xs.take h).drop l)) (.slice (if m = l then a else a.map (·.add (l * (X.K t).length))) (h - l) (m - l)) := by
  intro a cap hva hm1 hm2
  cases hv with
  | list0 =>
    injection hva with e1 e2 e3
    subst e1; subst e3
    have h0 : h = 0 := by simpa using b3
    have l0 : l = 0 := by omega
    have m0 : m = 0 := by omega
    subst h0; subst l0; subst m0
    exact .list0 t
  | list _ _ a' cap' vss hl hcap hmax hk hc hr =>
    injection hva with e1 e2 e3
    subst e1; subst e3
    have e : (if m = l then some a' else (some a').map (·.add (l * (X.K t).length))) = some (if m = l then a' else a'.add (l * (X.K t).length)) := by split <;> rfl
    rw [e]
    have hlen : ((xs.take h).drop l).length = h - l := by simp; omega
    have := Rep.list (K := X.K) (ρ := ρ) (F := F) (w := w) t ((xs.take h).drop l) (if m = l then a' else a'.add (l * (X.K t).length)) (m - l) ((vss.take h).drop l) (by simp [hl]) (by rw [hlen]; omega) (by omega) ?_ ?_ ?_
    · rw [hlen] at this; exact this
    · intro i row hi
      rw [List.getElem?_drop, List.getElem?_take] at hi
      split at hi
      · exact hk _ row hi
      · cases hi
    · intro i vs hi
      rw [List.getElem?_drop, List.getElem?_take] at hi
      split at hi
      · rename_i hlt
        obtain ⟨c1, c2⟩ := hc _ vs hi
        refine ⟨c1, fun j u hj => ?_⟩
        rw [if_neg (by omega), Addr.add_add]
        have := c2 j u hj
        rw [show l * (X.K t).length + (i * (X.K t).length + j) = (l + i) * (X.K t).length + j by rw [Nat.add_mul]; omega]
        exact this
      · cases hi
    · intro i row vs hi hvs
      rw [List.getElem?_drop, List.getElem?_take] at hi hvs
      split at hi
      · rename_i hlt
        rw [if_pos hlt] at hvs
        exact hr _ row vs hi hvs
      · cases hi

theorem evSlice_sound (hX : X.Okb) {t : TypeId} {x : AV} {lo hi mx : Option AV} {k : AV → List Blk → Option R} {r : R} (h : evSlice X t x lo hi mx M k = some r) :
    ∃ y M', k y M' = some r ∧ Agree (ownIds x) M M' ∧ ∀ {v : Value} {vl vh vm : Option Value}, Does X M y M' (fun ρ F w => Rep X.K ρ F w x v ∧ ORep X.K ρ F w lo vl ∧ ORep X.K ρ F w hi vh ∧ ORep X.K ρ F w mx vm) (Instr.sliceAt t v vl vh vm) := by
  unfold evSlice at h
  simp only [gm_eq] at h
  split at h
  · rename_i e hok hu
    obtain ⟨i, d, z, f⟩ := hX.facts hok
    have hund := f.slice hu
    split at h
    · rename_i o xs hrow
      split at h
      · rename_i l h' m e1 e2 e3
        replace h := tst_some h
        obtain ⟨h1, h⟩ := h
        simp only [Bool.and_eq_true, Bool.not_eq_true', Bool.and_eq_false_iff, decide_eq_true_eq] at h1
        obtain ⟨⟨he, hno⟩, ⟨⟨b1, b2⟩, b3⟩, b4⟩ := h1
        have hno' : ¬ (mx.isSome = true ∧ hi.isNone = true) := by
          rintro ⟨p, q⟩
          rcases hno with hh | hh
          · rw [p] at hh; cases hh
          · rw [q] at hh; cases hh
        obtain ⟨i2, d2, z2, f2⟩ := hX.facts he
        have hsz : (X.K e).length = (X.ti e).size := by rw [f2.size]; exact f2.ks
        have eb : (h' : Int) ≤ xs.length := by omega
        have core : ∀ {ρ : List Hd} {F : Addr → Prop} {w : World} {v : Value} {vl vh vm : Option Value}, Rep X.K ρ F w (.list e xs) v → ORep X.K ρ F w lo vl → ORep X.K ρ F w hi vh → ORep X.K ρ F w mx vm →
            ∃ u, (Instr.sliceAt t v vl vh vm).run X.P w = .ok u w ∧ Rep X.K ρ F w (.list e (subrows xs lo hi)) u := by
          intro ρ F w v vl vh vm hv r1 r2 r3
          have hva : ∃ a cap, v = .slice a xs.length cap ∧ xs.length ≤ cap := by
            cases hv with
            | list0 => exact ⟨_, _, rfl, by simp⟩
            | list _ _ a cap _ _ hcap => exact ⟨_, _, rfl, hcap⟩
          obtain ⟨a, cap, hva, hcap⟩ := hva
          obtain ⟨mm, m1, m2, hrun⟩ := run_sliceAt (P := X.P) (size := (X.ti e).size) hund f2.sizeOf (a := a) (len := xs.length) (cap := cap) r1 r2 r3 e1 e2 e3 hno' b1 b2 b3 b4 hcap
          rw [hva]
          refine ⟨_, hrun, ?_⟩
          rw [subrows_eq e1 e2, ← hsz]
          exact rep_sub hv (by omega) (by omega) hva m1 m2
        split at h
        · rename_i t' xs'
          replace h := tst_some h
          obtain ⟨h2, h⟩ := h
          rw [beq_iff_eq] at h2
          subst h2
          simp only [gm_eq, rowsOf, Option.some.injEq, Prod.mk.injEq] at hrow
          obtain ⟨_, rfl⟩ := hrow
          refine ⟨_, _, h, Agree.refl _ _, fun {v vl vh vm w0 S F ρ w} hI hh => ?_⟩
          obtain ⟨hv, r1, r2, r3⟩ := hh
          obtain ⟨u, h3, h4⟩ := core hv r1 r2 r3
          exact ⟨u, w, ρ, F, h3, hI, Grow.refl _ _ _, h4⟩
        · simp only [gm_eq, rowsOf, Option.some.injEq, Prod.mk.injEq] at hrow
          obtain ⟨_, rfl⟩ := hrow
          refine ⟨_, _, h, Agree.refl _ _, fun {v vl vh vm w0 S F ρ w} hI hh => ?_⟩
          obtain ⟨hv, r1, r2, r3⟩ := hh
          cases hv
          simp only [List.length_nil] at eb e2 e3 b4
          obtain ⟨mm, m1, m2, hrun⟩ := run_sliceAt (P := X.P) (size := (X.ti e).size) hund f2.sizeOf (a := none) (len := 0) (cap := 0) r1 r2 r3 e1 e2 e3 hno' b1 b2 b3 b4 (Nat.le_refl _)
          refine ⟨_, w, ρ, F, hrun, hI, Grow.refl _ _ _, ?_⟩
          have l0 : l.toNat = 0 := by omega
          have h0 : h'.toNat = 0 := by omega
          have m0 : mm = 0 := by omega
          rw [l0, h0, m0]
          exact .nilsl
        · rename_i id
          split at h
          · rename_i t' xs' hb
            replace h := tst_some h
            obtain ⟨h2, h⟩ := h
            rw [beq_iff_eq] at h2
            subst h2
            simp only [gm_eq, rowsOf, hb, Option.some.injEq, Prod.mk.injEq] at hrow
            obtain ⟨_, rfl⟩ := hrow
            refine ⟨_, _, h, ((Agree.set _ _ _).trans (Agree.push [] _ _)).mono (by simp [ownIds]), fun {v vl vh vm w0 S F ρ w} hI hh => ?_⟩
            obtain ⟨hv, r1, r2, r3⟩ := hh
            cases hv with
            | own _ hd hid =>
              obtain ⟨q1, q2, q3⟩ := hI.rep id _ hd hb hid
              have hva : ∃ a cap, hd.v = .slice a xs'.length cap ∧ xs'.length ≤ cap := by
                rcases q3 with ⟨q3, q4⟩ | ⟨g, o, c, cur, q3, _, q4, _⟩
                · subst q4; exact ⟨_, _, q3, Nat.le_refl _⟩
                · exact ⟨_, _, q3, q4⟩
              obtain ⟨a, cap, hva, hcap⟩ := hva
              obtain ⟨mm, m1, m2, hrun⟩ := run_sliceAt (P := X.P) (size := (X.ti e).size) hund f2.sizeOf (a := a) (len := xs'.length) (cap := cap) r1 r2 r3 e1 e2 e3 hno' b1 b2 b3 b4 hcap
              rw [hva]
              have hlen : (subrows xs' lo hi).length = h'.toNat - l.toNat := by rw [subrows_eq e1 e2]; simp; omega
              have hfin : ∀ hd' : Hd, hd'.v = .slice (if mm = l.toNat then a else a.map (·.add (l.toNat * (X.ti e).size))) (h'.toNat - l.toNat) (mm - l.toNat) → hd'.sz = (X.K e).length →
                  Inv X w0 S F (ρ ++ [hd']) (M.set id .dead ++ [.row e (subrows xs' lo hi)]) w := by
                intro hd' hv' hs'
                have hblk : ∀ g, hd'.blk? = some g → hd.blk? = some g := by
                  intro g hg
                  simp only [Hd.blk?, hv', hva] at hg ⊢
                  cases a with
                  | none => split at hg <;> simp [Value.blk?] at hg
                  | some a =>
                    split at hg
                    · exact hg
                    · simp only [Option.map_some, Value.blk?, Option.some.injEq] at hg ⊢
                      rw [← hg]
                      unfold Addr.add
                      split <;> rfl
                refine hI.move hb rfl hid (w' := w) (row := none) ⟨rfl, rfl, rfl, Nat.le_refl _, fun _ _ _ => rfl⟩ (.inl rfl) (fun g hg => ⟨(hI.sep id _ hd g hb rfl hid (hblk g hg)).1, .inl (hblk g hg)⟩) (by rw [hv']; rfl) ?_
                refine ⟨hs', fun i row hi' => ?_, ?_⟩
                · rw [subrows_eq e1 e2, List.getElem?_drop, List.getElem?_take] at hi'
                  split at hi'
                  · exact q2 _ row hi'
                  · cases hi'
                · rcases q3 with ⟨q3, q4⟩ | ⟨g, o, c, cur, q3, hg, q4, q5, q6, q7⟩
                  · subst q4
                    rw [q3] at hva
                    injection hva with a1 a2 a3
                    subst a1; subst a3
                    simp only [List.length_nil] at b4 eb
                    have l0 : l.toNat = 0 := by omega
                    have h0 : h'.toNat = 0 := by omega
                    have m0 : mm = 0 := by omega
                    refine .inl ⟨?_, by rw [subrows_eq e1 e2]; simp⟩
                    rw [hv', l0, h0, m0]
                    rfl
                  · rw [q3] at hva
                    injection hva with a1 a2 a3
                    subst a1; subst a3
                    refine .inr ⟨g, if mm = l.toNat then o else o + l.toNat * (X.ti e).size, mm - l.toNat, cur, ?_, hg, by rw [hlen]; omega, by omega, ?_, fun i row hi' j y hy => ?_⟩
                    · rw [hv', hlen]
                      split
                      · rfl
                      · rw [Option.map_some, Addr.add_lit]
                    · rw [hs', hsz]
                      rw [q1, hsz] at q6
                      split
                      · rename_i heq
                        rw [heq, Nat.sub_self, Nat.zero_mul]
                        have := Nat.zero_le (c * (X.ti e).size)
                        omega
                      · have k1 : l.toNat + (mm - l.toNat) ≤ c := by omega
                        have k2 := Nat.mul_le_mul_right (X.ti e).size k1
                        rw [Nat.add_mul] at k2
                        omega
                    · have hil := (List.getElem?_eq_some_iff.1 hi').1
                      rw [hlen] at hil
                      rw [subrows_eq e1 e2, List.getElem?_drop, List.getElem?_take] at hi'
                      split at hi'
                      · obtain ⟨u, hu1, hu2⟩ := q7 _ row hi' j y hy
                        refine ⟨u, ?_, hu2.mono (fun _ _ h => getElem?_append_old h) (fun _ h => h) (fun _ _ _ h => h)⟩
                        rw [if_neg (by omega), hs', hsz]
                        rw [q1, hsz] at hu1
                        rw [show o + l.toNat * (X.ti e).size + i * (X.ti e).size + j = o + (l.toNat + i) * (X.ti e).size + j by rw [Nat.add_mul]; omega]
                        exact hu1
                      · cases hi'
              refine ⟨_, w, _, F, hrun, hfin ⟨_, (X.K e).length⟩ rfl rfl, ⟨fun _ h => h, fun _ _ h => getElem?_append_old h, fun _ _ => rfl⟩, ?_⟩
              exact own_last (M := M) (hd := ⟨_, (X.K e).length⟩) hI.len
          · rename_i t' xs' hb
            replace h := tst_some h
            obtain ⟨h2, h⟩ := h
            rw [beq_iff_eq] at h2
            subst h2
            simp only [gm_eq, rowsOf, hb, Option.some.injEq, Prod.mk.injEq] at hrow
            obtain ⟨_, rfl⟩ := hrow
            refine ⟨_, _, h, Agree.refl _ _, fun {v vl vh vm w0 S F ρ w} hI hh => ?_⟩
            obtain ⟨hv, r1, r2, r3⟩ := hh
            cases hv with
            | own _ hd hid =>
              obtain ⟨u, h3, h4⟩ := core (hI.rep id _ hd hb hid) r1 r2 r3
              exact ⟨u, w, ρ, F, h3, hI, Grow.refl _ _ _, h4⟩
          · cases h
        · cases h
      · cases h
    · cases h
  · cases h

/-- A part of a slice of ours, looked at beside it. -/
def evView (X : Cx) (t : TypeId) (x : AV) (lo hi : Option AV) (M : List Blk) (k : AV → Option R) : Option R :=
  match x with
  | .own id =>
    match (X.ti t).ok, (X.ti t).u with
    | true, .slice e =>
      match gm M id with
      | some (.row t' xs) =>
        match bnd 0 lo, bnd xs.length hi with
        | some l, some h => tst (((X.ti e).ok && e == t') && (decide (0 ≤ l) && decide (l ≤ h) && decide (h ≤ (xs.length : Int)))) (k (.vw id l.toNat (h.toNat - l.toNat)))
        | _, _ => none
      | _ => none
    | _, _ => none
  | _ => none
theorem evView_sound (hX : X.Okb) {t : TypeId} {x : AV} {lo hi : Option AV} {k : AV → Option R} {r : R} (h : evView X t x lo hi M k = some r) :
    ∃ y, k y = some r ∧ ∀ {w0 : World} {S : Sc} {F : Addr → Prop} {ρ : List Hd} {w : World} {v : Value} {vl vh : Option Value}, Inv X w0 S F ρ M w → Rep X.K ρ F w x v → ORep X.K ρ F w lo vl → ORep X.K ρ F w hi vh →
      ∃ u, (Instr.sliceAt t v vl vh none).run X.P w = .ok u w ∧ Rep X.K ρ F w y u := by
  unfold evView at h
  simp only [gm_eq] at h
  split at h
  · rename_i id
    split at h
    · rename_i e hok hu
      obtain ⟨i, d, z, f⟩ := hX.facts hok
      have hund := f.slice hu
      split at h
      · rename_i t' xs hb
        split at h
        · rename_i l h' e1 e2
          replace h := tst_some h
          obtain ⟨h1, h⟩ := h
          simp only [Bool.and_eq_true, decide_eq_true_eq, beq_iff_eq] at h1
          obtain ⟨⟨he, rfl⟩, ⟨b1, b2⟩, b3⟩ := h1
          obtain ⟨i2, d2, z2, f2⟩ := hX.facts he
          have hsz : (X.K e).length = (X.ti e).size := by rw [f2.size]; exact f2.ks
          refine ⟨_, h, fun {w0 S F ρ w v vl vh} hI hv r1 r2 => ?_⟩
          cases hv with
          | own _ hd hid =>
            obtain ⟨q1, q2, q3⟩ := hI.rep id _ hd hb hid
            rcases q3 with ⟨q3, q4⟩ | ⟨g, o, c, cur, q3, _, q4, _⟩
            · subst q4
              simp only [List.length_nil] at b3 e2
              obtain ⟨mm, m1, m2, hrun⟩ := run_sliceAt (P := X.P) (K := X.K) (ρ := ρ) (F := F) (w := w) (mx := none) (vm := none) (size := (X.ti e).size) hund f2.sizeOf (a := none) (len := 0) (cap := 0) r1 r2 trivial e1 e2 rfl (by simp) b1 b2 b3 (Int.le_refl _) (Nat.le_refl _)
              rw [q3]
              refine ⟨_, hrun, ?_⟩
              have l0 : l.toNat = 0 := by omega
              have h0 : h'.toNat = 0 := by omega
              have m0 : mm = 0 := by omega
              rw [l0, h0, m0]
              exact .vwn id 0
            · obtain ⟨mm, m1, m2, hrun⟩ := run_sliceAt (P := X.P) (K := X.K) (ρ := ρ) (F := F) (w := w) (mx := none) (vm := none) (size := (X.ti e).size) hund f2.sizeOf (a := some ⟨g, o, none⟩) (len := xs.length) (cap := c) r1 r2 trivial e1 e2 rfl (by simp) b1 b2 b3 (Int.le_refl _) q4
              rw [q3]
              refine ⟨_, hrun, ?_⟩
              by_cases hm : mm = l.toNat
              · rw [if_pos hm, show h'.toNat - l.toNat = 0 by omega]
                exact .vws id _ _ _
              · rw [if_neg hm, Option.map_some, Addr.add_lit, ← hsz, ← q1]
                exact .vw id l.toNat _ hd g o xs.length c _ hid q3 (by omega) (by omega)
        · cases h
      · cases h
    · cases h
  · cases h

end
end Go.Eng

namespace Go.Eng
open Go
noncomputable section

variable {X : Cx} {R : Type}
variable {w0 w w' : World} {S : Sc} {F : Addr → Prop} {ρ : List Hd} {M : List Blk}

theorem flat_get {α : Type} {sz : Nat} : ∀ (vss : List (List α)), (∀ (i : Nat) vs, vss[i]? = some vs → vs.length = sz) → ∀ (i j : Nat) vs, vss[i]? = some vs → j < sz → vss.flatten[i * sz + j]? = vs[j]?
  | [], _, i, j, vs, h, _ => by simp at h
  | v :: vss, hl, 0, j, vs, h, hj => by
    simp at h
    subst h
    have := hl 0 v rfl
    rw [List.flatten_cons, List.getElem?_append_left (by omega)]
    simp
  | v :: vss, hl, i + 1, j, vs, h, hj => by
    have h0 := hl 0 v rfl
    rw [List.flatten_cons, List.getElem?_append_right (by rw [h0, Nat.add_mul]; omega), h0]
    rw [show (i + 1) * sz + j - sz = i * sz + j by rw [Nat.add_mul]; omega]
    exact flat_get vss (fun i vs h => hl (i + 1) vs (by simpa using h)) i j vs (by simpa using h) hj
theorem flat_length {α : Type} {sz : Nat} : ∀ (vss : List (List α)), (∀ (i : Nat) vs, vss[i]? = some vs → vs.length = sz) → vss.flatten.length = vss.length * sz
  | [], _ => by simp
  | v :: vss, hl => by
    rw [List.flatten_cons, List.length_append, hl 0 v rfl, flat_length vss (fun i vs h => hl (i + 1) vs (by simpa using h)), List.length_cons, Nat.add_mul]
    omega

/-- What 'append' finds in its second argument. -/
theorem append_news (hI : Inv X w0 S F ρ M w) {x : AV} {e : TypeId} {o : Option TypeId} {ys : List Row} (h : rowsOf M x = some (o, ys)) (ho : o = some e ∨ (o = none ∧ ys = [])) {v : Value} (hv : Rep X.K ρ F w x v) (hpos : 0 < (X.K e).length) :
    (∀ (i : Nat) row, ys[i]? = some row → koks (X.K e) row = true) ∧
    ∃ a c, v = .slice a ys.length c ∧ ∃ news : List Value, news.length = ys.length * (X.K e).length ∧ (∀ u ∈ news, u.oneCell' = true) ∧
      (∀ w2 : World, w2.heap = w.heap → (Builtin.firstCells (X.K e).length ys.length v).run X.P w2 = .ok news.toArray w2) ∧
      ∀ (i : Nat) row, ys[i]? = some row → ∀ (j : Nat) y, row[j]? = some y → ∃ u, news[i * (X.K e).length + j]? = some u ∧ Rep X.K ρ F w y u := by
  rcases ho with rfl | ⟨rfl, rfl⟩
  · obtain ⟨hk, hc⟩ := rowsOf_cells hI h hv
    refine ⟨hk, ?_⟩
    rcases hc with ⟨rfl, rfl⟩ | ⟨a, c, rfl, vss, hl, hvs⟩
    · exact ⟨none, 0, rfl, [], by simp, by simp, fun w2 _ => by simp [Builtin.firstCells], fun i row h => by simp at h⟩
    · have hlen : ∀ (i : Nat) vs, vss[i]? = some vs → vs.length = (X.K e).length := by
        intro i vs hi
        have hil := (List.getElem?_eq_some_iff.1 hi).1
        obtain ⟨⟨r1, _⟩, _⟩ := hvs i (ys[i]'(by omega)) vs (List.getElem?_eq_getElem (by omega)) hi
        rw [r1, koks_length (hk i _ (List.getElem?_eq_getElem (by omega)))]
      have hfl := flat_length vss hlen
      -- a place in the flat list is a place in a row
      have hplace : ∀ (k : Nat) u, vss.flatten[k]? = some u → ∃ i j, ∃ (row : Row) (vs : List Value) (y : AV), k = i * (X.K e).length + j ∧ ys[i]? = some row ∧ vss[i]? = some vs ∧ row[j]? = some y ∧ vs[j]? = some u := by
        intro k u hku
        have hkl := (List.getElem?_eq_some_iff.1 hku).1
        rw [hfl] at hkl
        have hi : k / (X.K e).length < vss.length := Nat.div_lt_of_lt_mul (by rw [Nat.mul_comm]; exact hkl)
        have hj : k % (X.K e).length < (X.K e).length := Nat.mod_lt _ hpos
        have hkk : k = k / (X.K e).length * (X.K e).length + k % (X.K e).length := by rw [Nat.mul_comm]; exact (Nat.div_add_mod k _).symm
        have hvi : vss[k / (X.K e).length]? = some (vss[k / (X.K e).length]'hi) := List.getElem?_eq_getElem hi
        have hyi : ys[k / (X.K e).length]? = some (ys[k / (X.K e).length]'(by omega)) := List.getElem?_eq_getElem (by omega)
        have hg := flat_get vss hlen _ (k % (X.K e).length) _ hvi hj
        rw [← hkk] at hg
        rw [hku] at hg
        have hrl := koks_length (hk _ _ hyi)
        exact ⟨_, _, _, _, _, hkk, hyi, hvi, List.getElem?_eq_getElem (by rw [hrl]; exact hj), hg.symm⟩
      refine ⟨some a, c, rfl, vss.flatten, by rw [hfl, hl], fun u hu => ?_, fun w2 hw2 => ?_, fun i row hi j y hy => ?_⟩
      · obtain ⟨k, hk'⟩ := List.getElem?_of_mem hu
        obtain ⟨i, j, row, vs, y, _, h1, h2, h3, h4⟩ := hplace k u hk'
        exact oneCell_of_leaf ((hvs i row vs h1 h2).1.2 j y u h3 h4) (koks_leaf (hk i row h1) h3) hI.one
      · have := run_firstCells_some (P := X.P) w2 (X.K e).length ys.length a ys.length c vss.flatten (by rw [hfl, hl]) (fun k u hku => by
          obtain ⟨i, j, row, vs, y, hkk, h1, h2, h3, h4⟩ := hplace k u hku
          have hc := (hvs i row vs h1 h2).2 j u h4
          rw [Addr.add_add, ← hkk] at hc
          unfold World.cell? at hc ⊢
          rw [hw2]
          exact hc)
        exact this
      · have hil := (List.getElem?_eq_some_iff.1 hi).1
        have hvi : vss[i]? = some (vss[i]'(by omega)) := List.getElem?_eq_getElem (by omega)
        have hj := (List.getElem?_eq_some_iff.1 hy).1
        have hrl := koks_length (hk i row hi)
        obtain ⟨⟨r1, r2⟩, _⟩ := hvs i row _ hi hvi
        have hu : (vss[i]'(by omega))[j]? = some ((vss[i]'(by omega))[j]'(by omega)) := List.getElem?_eq_getElem (by omega)
        exact ⟨_, by rw [flat_get vss hlen i j _ hvi (by omega)]; exact hu, r2 j y _ hy hu⟩
  · obtain ⟨a, c, rfl⟩ := rowsOf_len hI h hv
    refine ⟨fun i row h => by simp at h, a, c, rfl, [], by simp, by simp, fun w2 _ => ?_, fun i row h => by simp at h⟩
    simp only [List.length_nil]
    cases a <;> simp [Builtin.firstCells, loadCells, loadCellsFrom]

/-- A string's bytes. -/
def bytesR (s : ByteArray) : List Row := s.data.toList.map fun b => [.int .u8 b.toNat]
/-- What is appended. -/
def srcOk : TyI → AV → Bool
  | .str, .str _ => true
  | .slice _, .str _ => false
  | .slice _, _ => true
  | _, _ => false
def srcOf (X : Cx) (M : List Blk) (e : TypeId) (x : AV) : Option (List Row) :=
  match x with
  | .str s => (match X.K e with | [.int .u8] => some (bytesR s) | _ => none)
  | x => match rowsOf M x with
    | some (o, ys) => (match (match o with | some e' => e == e' | none => ys.isEmpty) with | true => some ys | false => none)
    | none => none

theorem srcOk_ty {t : TyI} {x : AV} (h : srcOk t x = true) : t = .str ∨ ∃ e, t = .slice e := by
  unfold srcOk at h
  split at h
  · exact .inl rfl
  · cases h
  · exact .inr ⟨_, rfl⟩
  · cases h
theorem not_int {d : TypeDesc} (h : tyOf d = .str ∨ ∃ e, tyOf d = .slice e) : d = .string ∨ ∃ e, d = .slice e := by
  cases d <;> first
    | exact .inl rfl
    | exact .inr ⟨_, rfl⟩
    | (rcases h with h | ⟨e, h⟩ <;> cases h)

/-- A value that 'append' takes its second argument from. -/
structure News (X : Cx) (ρ : List Hd) (F : Addr → Prop) (w : World) (e u : TypeId) (ys : List Row) (v : Value) : Prop where
  len : Builtin.lenOf v = pure ys.length
  ty : ∃ d, X.P.underlying u = some d ∧ (d = .string ∨ ∃ e, d = .slice e)
  ks : ∀ (i : Nat) row, ys[i]? = some row → koks (X.K e) row = true
  news : ∃ news : List Value, news.length = ys.length * (X.K e).length ∧ (∀ u ∈ news, u.oneCell' = true) ∧
      (∀ w2 : World, w2.heap = w.heap → (Builtin.firstCells (X.K e).length ys.length v).run X.P w2 = .ok news.toArray w2) ∧
      ∀ (i : Nat) row, ys[i]? = some row → ∀ (j : Nat) y, row[j]? = some y → ∃ u, news[i * (X.K e).length + j]? = some u ∧ Rep X.K ρ F w y u

theorem src_news (hX : X.Okb) (hI : Inv X w0 S F ρ M w) {x : AV} {e u : TypeId} {ys : List Row} (hu : (X.ti u).ok = true) (hs : srcOk (X.ti u).u x = true) (h : srcOf X M e x = some ys) {v : Value} (hv : Rep X.K ρ F w x v) (hpos : 0 < (X.K e).length) : News X ρ F w e u ys v := by
  obtain ⟨i1, d1, z1, f1⟩ := hX.facts hu
  have hun := f1.und
  have hui := f1.u
  by_cases hstr : ∃ s, x = .str s
  · obtain ⟨s, rfl⟩ := hstr
    cases hv
    simp only [srcOf] at h
    split at h
    · rename_i hK
      injection h with h
      subst h
      have hl : (bytesR s).length = s.size := by rw [bytesR, List.length_map, Array.length_toList]; rfl
      have hg : ∀ (i : Nat) row, (bytesR s)[i]? = some row → ∃ b, s.data.toList[i]? = some b ∧ row = [.int .u8 b.toNat] := by
        intro i row hi
        unfold bytesR at hi
        rw [List.getElem?_map] at hi
        cases hb : s.data.toList[i]? with
        | none => rw [hb] at hi; cases hi
        | some b => rw [hb] at hi; injection hi with hi; exact ⟨b, rfl, hi.symm⟩
      refine ⟨by rw [hl]; rfl, ⟨d1, hun, ?_⟩, fun i row hi => ?_, s.data.toList.map fun b => .int .u8 b.toNat, by rw [hl, hK, List.length_map, Array.length_toList]; exact (Nat.mul_one _).symm, fun u hu => ?_, fun w2 _ => ?_, fun i row hi j y hy => ?_⟩
      · exact not_int (hui ▸ srcOk_ty hs)
      · obtain ⟨b, _, rfl⟩ := hg i row hi
        rw [hK]; rfl
      · obtain ⟨b, _, rfl⟩ := List.mem_map.1 hu; rfl
      · rw [hl]
        show (pure ((s.extract 0 s.size).data.map fun b => Value.int .u8 b.toNat) : Sem (Array Value)).run X.P w2 = _
        rw [ByteArray.extract_zero_size, Sem.run_pure]
        congr 1
        apply Array.ext'
        simp
      · obtain ⟨b, hb, rfl⟩ := hg i row hi
        cases j with
        | zero =>
          simp only [List.getElem?_cons_zero, Option.some.injEq] at hy
          subst hy
          exact ⟨.int .u8 b.toNat, by rw [hK]; simp [hb], .int _ _⟩
        | succ j => simp at hy
    · cases h
  · have hx : srcOf X M e x = (match rowsOf M x with | some (o, ys) => (match (match o with | some e' => e == e' | none => ys.isEmpty) with | true => some ys | false => none) | none => none) := by
      cases x <;> first
        | rfl
        | exact absurd ⟨_, rfl⟩ hstr
    rw [hx] at h
    split at h
    · rename_i o ys' hrow
      split at h
      · rename_i hoe
        injection h with h
        subst h
        have ho : o = some e ∨ (o = none ∧ ys' = []) := by
          cases o with
          | none => exact .inr ⟨rfl, by simpa using hoe⟩
          | some e' => left; simp only [beq_iff_eq] at hoe; rw [hoe]
        obtain ⟨hk, a, c, rfl, news, h1, h2, h3, h4⟩ := append_news hI hrow ho hv hpos
        refine ⟨rfl, ⟨d1, hun, ?_⟩, hk, news, h1, h2, h3, h4⟩
        exact not_int (hui ▸ srcOk_ty hs)
      · cases h
    · cases h

def evAppend (X : Cx) (ts : List TypeId) (s x : AV) (M : List Blk) (k : AV → List Blk → Option R) : Option R :=
  match ts with
  | [t, u] =>
    match (X.ti t).ok, (X.ti t).u, (X.ti u).ok, srcOk (X.ti u).u x with
    | true, .slice e, true, true =>
      match srcOf X M e x with
      | some ys =>
        tst ((X.ti e).ok && decide (0 < (X.ti e).size) && decide (0 < (X.ti e).bytes))
          (match s with
           | .nilsl => tst (decide (ys.length * (X.ti e).bytes ≤ 140737488355328)) (k (.own M.length) (M ++ [.row e ys]))
           | .own id =>
             match gm M id with
             | some (.row e' xs) => tst (e == e' && decide ((xs.length + ys.length) * (X.ti e).bytes ≤ 140737488355328)) (k (.own M.length) (M.set id .dead ++ [.row e (xs ++ ys)]))
             | _ => none
           | _ => none)
      | none => none
    | _, _, _, _ => none
  | _ => none

/-- The run of 'append' where there is room. -/
theorem run_append_in {P : Program} {t u ty e : TypeId} {i : TypeInfo} (ht : P.underlying t = some (.slice e)) (hu : ∃ d, P.underlying u = some d ∧ (d = .string ∨ ∃ e, d = .slice e)) (hi : P.info? e = some i)
    {g o n c : Nat} {cur : Array Value} (hg : w.heap[g]? = some (.cells cur e (0, 0))) {v : Value} {m : Nat} (hlen : Builtin.lenOf v = pure m) {news : List Value} (hl : news.length = m * i.size)
    (hf : (Builtin.firstCells i.size m v).run P w = .ok news.toArray w) (h1 : ∀ u ∈ news, u.oneCell' = true) (hroom : n + m ≤ c) (hfit : o + n * i.size + news.length ≤ cur.size) :
    (Builtin.append_ #[t, u] ty #[.slice (some ⟨g, o, none⟩) n c, v]).run P w =
      .ok (.slice (some ⟨g, o, none⟩) (n + m) c) (w.setRow g (cur.toList.take (o + n * i.size) ++ news ++ cur.toList.drop (o + n * i.size + news.length)).toArray) := by
  have hst := run_storeCells_at P g (o + n * i.size) e news 0 cur w hg (by simpa using hfit) h1
  simp only [Nat.add_zero] at hst
  obtain ⟨d, hd, rfl | ⟨e2, rfl⟩⟩ := hu <;> simp [Builtin.append_, run_underlying ht, run_underlying hd, sizeOf, typeInfo, hi, hlen, hroom, hf, Addr.add_lit, hst]

theorem run_append_nothing {P : Program} {t u ty e : TypeId} {i : TypeInfo} (ht : P.underlying t = some (.slice e)) (hu : ∃ d, P.underlying u = some d ∧ (d = .string ∨ ∃ e, d = .slice e)) (hi : P.info? e = some i) {v : Value} (hlen : Builtin.lenOf v = pure 0)
    (hf : (Builtin.firstCells i.size 0 v).run P w = .ok #[] w) :
    (Builtin.append_ #[t, u] ty #[.slice none 0 0, v]).run P w = .ok (.slice none 0 0) w := by
  obtain ⟨d, hd, rfl | ⟨e2, rfl⟩⟩ := hu <;> simp [Builtin.append_, run_underlying ht, run_underlying hd, sizeOf, typeInfo, hi, hlen, hf]

/-- The run of 'append' where there is none. -/
theorem run_append_new {P : Program} {t u ty e : TypeId} {i : TypeInfo} {z : Value} (ht : P.underlying t = some (.slice e)) (hu : ∃ d, P.underlying u = some d ∧ (d = .string ∨ ∃ e, d = .slice e)) (hi : P.info? e = some i) (hz : i.zero = some z)
    {b : Option Addr} {n c : Nat} {olds : List Value} (hfo : (Builtin.firstCells i.size n (.slice b n c)).run P w.drew = .ok olds.toArray w.drew)
    {v : Value} {m : Nat} (hlen : Builtin.lenOf v = pure m) {news : List Value} (hf : (Builtin.firstCells i.size m v).run P w.drew = .ok news.toArray w.drew) (hn : ¬ n + m ≤ c) (h63 : n + m ≤ maxLen)
    (hfit : Builtin.nextslicecap (n + m) c * i.bytes ≤ 281474976710656) :
    (Builtin.append_ #[t, u] ty #[.slice b n c, v]).run P w =
      .ok (.slice (some ⟨w.heap.size, 0, none⟩) (n + m) (grownCap w (n + m) c e))
        (w.drew.alloc (.cells (olds.toArray ++ news.toArray ++ Builtin.zeroCells z.cells (grownCap w (n + m) c e - (n + m))) e)) := by
  have h63' : ¬ (9223372036854775807 < ((n : Int) + (m : Int))) := by simp only [maxLen] at h63; omega
  have h48' : ¬ (281474976710656 < Builtin.nextslicecap (n + m) c * i.bytes) := by omega
  obtain ⟨d, hd, rfl | ⟨e2, rfl⟩⟩ := hu <;> (
    simp [Builtin.append_, run_underlying ht, run_underlying hd, sizeOf, typeInfo, zeroValue, hi, hz, hlen, hn, h63', h48', Question.forced, hf, hfo, newRow, grownCap]
    congr 2
    apply Array.ext'
    simp [List.append_assoc])

theorem evAppend_sound (hX : X.Okb) {ts : List TypeId} {ty : TypeId} {s x : AV} {k : AV → List Blk → Option R} {r : R} (h : evAppend X ts s x M k = some r) :
    ∃ y M', k y M' = some r ∧ Agree (ownIds s) M M' ∧ ∀ {vs vx : Value}, Does X M y M' (fun ρ F w => Rep X.K ρ F w s vs ∧ Rep X.K ρ F w x vx) (Builtin.append_ ts.toArray ty #[vs, vx]) := by
  unfold evAppend at h
  simp only [gm_eq] at h
  split at h
  · rename_i t u
    split at h
    · rename_i e hok hu hok2 hsk
      split at h
      · rename_i ys hrow
        replace h := tst_some h
        obtain ⟨h1, h⟩ := h
        simp only [Bool.and_eq_true, decide_eq_true_eq] at h1
        obtain ⟨⟨he, hpos⟩, hby⟩ := h1
        obtain ⟨i, d, z, f⟩ := hX.facts hok
        obtain ⟨i2, d2, z2, f2⟩ := hX.facts he
        have ht := f.slice hu
        have hksz : (X.K e).length = i2.size := f2.ks
        have hpos' : 0 < (X.K e).length := by rw [hksz, ← f2.size]; exact hpos
        have hby' : 0 < i2.bytes := by rw [← f2.bytes]; exact hby
        have hzs : z2.cells.size = i2.size := f2.zs
        have bound : ∀ n : Nat, n * (X.ti e).bytes ≤ 140737488355328 → n ≤ maxLen := by
          intro n hn
          refine le_maxLen (Nat.le_trans ?_ hn)
          exact Nat.le_mul_of_pos_right _ hby
        -- the new row
        have fresh : ∀ {w0 : World} {S : Sc} {F : Addr → Prop} {ρ : List Hd} {w : World} {M2 : List Blk} (xs : List Row) (olds news : List Value) (c : Nat), Inv X w0 S F ρ M2 w →
            (∀ (i : Nat) row, (xs ++ ys)[i]? = some row → koks (X.K e) row = true) → olds.length = xs.length * (X.K e).length → news.length = ys.length * (X.K e).length →
            (∀ (i : Nat) row, xs[i]? = some row → ∀ (j : Nat) y, row[j]? = some y → ∃ u, olds[i * (X.K e).length + j]? = some u ∧ Rep X.K ρ F w y u) →
            (∀ (i : Nat) row, ys[i]? = some row → ∀ (j : Nat) y, row[j]? = some y → ∃ u, news[i * (X.K e).length + j]? = some u ∧ Rep X.K ρ F w y u) → xs.length + ys.length ≤ maxLen →
            Inv X w0 S F (ρ ++ [⟨.slice (some ⟨w.heap.size, 0, none⟩) (xs.length + ys.length) (grownCap w (xs.length + ys.length) c e), (X.K e).length⟩]) (M2 ++ [.row e (xs ++ ys)])
              (w.drew.alloc (.cells (olds.toArray ++ news.toArray ++ Builtin.zeroCells z2.cells (grownCap w (xs.length + ys.length) c e - (xs.length + ys.length))) e)) ∧
            Grow F F ρ (ρ ++ [⟨.slice (some ⟨w.heap.size, 0, none⟩) (xs.length + ys.length) (grownCap w (xs.length + ys.length) c e), (X.K e).length⟩]) w
              (w.drew.alloc (.cells (olds.toArray ++ news.toArray ++ Builtin.zeroCells z2.cells (grownCap w (xs.length + ys.length) c e - (xs.length + ys.length))) e)) := by
          intro w0 S F ρ w M2 xs olds news c hI hk hlo hln hro hrn hmax
          have hcap := grownCap_ge w (xs.length + ys.length) c e
          have := hI.newRow (t := e) (xs := xs ++ ys) (cur := olds.toArray ++ news.toArray ++ Builtin.zeroCells z2.cells (grownCap w (xs.length + ys.length) c e - (xs.length + ys.length))) (c := grownCap w (xs.length + ys.length) c e)
            hk (by rw [List.length_append]; exact hcap) (grownCap_le_maxLen w _ c e hmax)
            (by
              simp only [Array.size_append, List.size_toArray, size_zeroCells, hlo, hln, hzs, ← hksz, ← Nat.add_mul]
              rw [show xs.length + ys.length + (grownCap w (xs.length + ys.length) c e - (xs.length + ys.length)) = grownCap w (xs.length + ys.length) c e by omega]
              exact Nat.le_refl _)
            (fun i row hi j y hy => by
              have hj := (List.getElem?_eq_some_iff.1 hy).1
              have hrl := koks_length (hk i row hi)
              by_cases hix : i < xs.length
              · rw [List.getElem?_append_left hix] at hi
                obtain ⟨u, h1, h2⟩ := hro i row hi j y hy
                have hlt := (List.getElem?_eq_some_iff.1 h1).1
                refine ⟨u, ?_, h2⟩
                rw [Array.append_assoc, Array.getElem?_append_left (by simpa using hlt)]
                simpa using h1
              · rw [List.getElem?_append_right (by omega)] at hi
                obtain ⟨u, h1, h2⟩ := hrn (i - xs.length) row hi j y hy
                have hlt := (List.getElem?_eq_some_iff.1 h1).1
                refine ⟨u, ?_, h2⟩
                have e0 : i * (X.K e).length + j - olds.length = (i - xs.length) * (X.K e).length + j := by
                  rw [hlo, Nat.sub_mul]
                  have : xs.length * (X.K e).length ≤ i * (X.K e).length := Nat.mul_le_mul_right _ (by omega)
                  omega
                have hge : olds.length ≤ i * (X.K e).length + j := by
                  rw [hlo]
                  have : xs.length * (X.K e).length ≤ i * (X.K e).length := Nat.mul_le_mul_right _ (by omega)
                  omega
                rw [Array.append_assoc, Array.getElem?_append_right (by simpa using hge)]
                simp only [List.size_toArray]
                rw [e0, Array.getElem?_append_left (by simpa using hlt)]
                simpa using h1)
            (w' := w.drew) ⟨rfl, rfl, rfl, Nat.le_refl _, fun _ _ _ => rfl⟩ rfl
          rw [List.length_append] at this
          exact this
        split at h
        · replace h := tst_some h
          obtain ⟨hb, h⟩ := h
          simp only [decide_eq_true_eq] at hb
          refine ⟨_, _, h, Agree.push _ _ _, fun {vs vx w0 S F ρ w} hI hh => ?_⟩
          obtain ⟨hs, hx⟩ := hh
          cases hs
          obtain ⟨hlen, hu', hk, news, hnl, hone, hfc, hrn⟩ := src_news hX hI hok2 hsk hrow hx hpos'
          by_cases hm : ys.length = 0
          · have hys : ys = [] := List.eq_nil_of_length_eq_zero hm
            subst hys
            have hn0 : news = [] := List.eq_nil_of_length_eq_zero (by simpa using hnl)
            subst hn0
            have hf0 := hfc w rfl
            rw [hksz] at hf0
            have hrun := run_append_nothing (w := w) (ty := ty) ht hu' f2.info hlen hf0
            refine ⟨_, w, ρ ++ [⟨.slice none 0 0, (X.K e).length⟩], F, hrun, hI.push' (fun g hg => by simp [Hd.blk?, Value.blk?] at hg) rfl ⟨rfl, fun i row h => by simp at h, .inl ⟨rfl, rfl⟩⟩, ⟨fun _ h => h, fun _ _ h => getElem?_append_old h, fun _ _ => rfl⟩, ?_⟩
            exact own_last (M := M) (hd := ⟨.slice none 0 0, (X.K e).length⟩) hI.len
          · have hmax := bound _ hb
            have hf0 := hfc w.drew rfl
            rw [hksz] at hf0
            have hrun := run_append_new (w := w) (ty := ty) ht hu' f2.info f2.zero (b := none) (n := 0) (c := 0) (olds := []) (by simp [Builtin.firstCells]) hlen hf0 (by omega) (by omega) (by rw [Nat.zero_add, nextslicecap_zero (by omega), ← f2.bytes]; omega)
            have hfr := fresh [] [] news 0 hI (by simpa using hk) (by simp) hnl (fun i row h => by simp at h) hrn (by simpa using hmax)
            simp only [List.length_nil, Nat.zero_add, List.nil_append] at hfr hrun
            refine ⟨_, _, _, F, hrun, hfr.1, hfr.2, ?_⟩
            exact own_last (M := M) (hd := ⟨_, (X.K e).length⟩) hI.len
        · rename_i id
          split at h
          · rename_i e' xs hb
            replace h := tst_some h
            obtain ⟨h2, h⟩ := h
            simp only [Bool.and_eq_true, beq_iff_eq, decide_eq_true_eq] at h2
            obtain ⟨rfl, hbd⟩ := h2
            refine ⟨_, _, h, ((Agree.set _ _ _).trans (Agree.push [] _ _)).mono (by simp [ownIds]), fun {vs vx w0 S F ρ w} hI hh => ?_⟩
            obtain ⟨hs, hx⟩ := hh
            cases hs with
            | own _ hd hid =>
              obtain ⟨hlen, hu', hk, news, hnl, hone, hfc, hrn⟩ := src_news hX hI hok2 hsk hrow hx hpos'
              obtain ⟨q1, q2, q3⟩ := hI.rep id _ hd hb hid
              have hkk : ∀ (i : Nat) row, (xs ++ ys)[i]? = some row → koks (X.K e) row = true := by
                intro i row hi
                by_cases hix : i < xs.length
                · rw [List.getElem?_append_left hix] at hi; exact q2 i row hi
                · rw [List.getElem?_append_right (by omega)] at hi; exact hk _ row hi
              have hmax := bound _ hbd
              -- our block goes out of use, a new one comes
              have dead : ∀ {w : World}, Inv X w0 S F ρ M w → Inv X w0 S F ρ (M.set id .dead) w := by
                intro w hI
                cases hgb : hd.blk? with
                | none => exact hI.retag hb hid hgb trivial
                | some g => exact hI.write hb rfl hid hgb ⟨rfl, rfl, rfl, Nat.le_refl _, fun _ _ _ => rfl⟩ trivial
              rcases q3 with ⟨q3, q4⟩ | ⟨g, o', c, cur, q3, hg, q4, q5, q6, q7⟩
              · subst q4
                rw [q3]
                by_cases hm : ys.length = 0
                · have hys : ys = [] := List.eq_nil_of_length_eq_zero hm
                  subst hys
                  have hn0 : news = [] := List.eq_nil_of_length_eq_zero (by simpa using hnl)
                  subst hn0
                  have hf0 := hfc w rfl
                  rw [hksz] at hf0
                  have hrun := run_append_nothing (w := w) (ty := ty) ht hu' f2.info hlen hf0
                  refine ⟨_, w, ρ ++ [⟨.slice none 0 0, (X.K e).length⟩], F, hrun, (dead hI).push' (fun g hg => by simp [Hd.blk?, Value.blk?] at hg) rfl ⟨rfl, fun i row h => by simp at h, .inl ⟨rfl, rfl⟩⟩, ⟨fun _ h => h, fun _ _ h => getElem?_append_old h, fun _ _ => rfl⟩, ?_⟩
                  exact own_last (M := M) (hd := ⟨.slice none 0 0, (X.K e).length⟩) hI.len
                · have hf0 := hfc w.drew rfl
                  rw [hksz] at hf0
                  have hrun := run_append_new (w := w) (ty := ty) ht hu' f2.info f2.zero (b := none) (n := 0) (c := 0) (olds := []) (by simp [Builtin.firstCells]) hlen hf0 (by omega) (by simpa using hmax) (by rw [Nat.zero_add, nextslicecap_zero (by omega), ← f2.bytes]; simp at hbd; omega)
                  have hfr := fresh [] [] news 0 (dead hI) (by simpa using hk) (by simp) hnl (fun i row h => by simp at h) hrn (by simpa using hmax)
                  simp only [List.length_nil, Nat.zero_add, List.nil_append] at hfr hrun
                  refine ⟨_, _, _, F, hrun, hfr.1, hfr.2, ?_⟩
                  exact own_last (M := M) (hd := ⟨_, (X.K e).length⟩) hI.len
              · rw [q3]
                by_cases hroom : xs.length + ys.length ≤ c
                · have hfit : o' + xs.length * i2.size + news.length ≤ cur.size := by
                    rw [hnl, hksz]
                    rw [q1, hksz] at q6
                    have := Nat.mul_le_mul_right i2.size hroom
                    rw [Nat.add_mul] at this
                    omega
                  have hf0 := hfc w rfl
                  rw [hksz] at hf0
                  have hrun := run_append_in (w := w) (ty := ty) ht hu' f2.info hg hlen (by rw [hnl, hksz]) hf0 hone hroom hfit
                  have hgr := grownBy_setRow w g (cur.toList.take (o' + xs.length * i2.size) ++ news ++ cur.toList.drop (o' + xs.length * i2.size + news.length)).toArray
                  have hgb : hd.blk? = some g := by simp [Hd.blk?, Value.blk?, q3]
                  have hfa : ∀ a, F a → a.block ≠ g := (hI.sep id _ hd g hb rfl hid hgb).2.2
                  have hgrow : Grow F F ρ (ρ ++ [⟨.slice (some ⟨g, o', none⟩) (xs.length + ys.length) c, (X.K e).length⟩]) w (w.setRow g (cur.toList.take (o' + xs.length * i2.size) ++ news ++ cur.toList.drop (o' + xs.length * i2.size + news.length)).toArray) :=
                    ⟨fun _ h => h, fun _ _ h => getElem?_append_old h, hI.blks hgr (fun k hk a ha => by injection hk with hk; subst hk; exact hfa a ha)⟩
                  refine ⟨_, _, ρ ++ [⟨.slice (some ⟨g, o', none⟩) (xs.length + ys.length) c, (X.K e).length⟩], F, hrun, hI.move hb rfl hid (row := some g) hgr (.inr hgb.symm) (fun g' hg' => ?_) rfl ?_, hgrow, own_last (M := M) (hd := ⟨_, (X.K e).length⟩) hI.len⟩
                  · simp [Hd.blk?, Value.blk?] at hg'
                    subst hg'
                    exact ⟨by rw [size_setRow]; exact (hI.sep id _ hd g hb rfl hid hgb).1, .inl hgb⟩
                  · refine ⟨rfl, hkk, .inr ⟨g, o', c, _, by rw [List.length_append], setRow_heap w g cur _ e _ hg, by rw [List.length_append]; exact hroom, q5, ?_, fun i row hi j y hy => ?_⟩⟩
                    · rw [q1] at q6
                      simp only [List.size_toArray, List.length_append, List.length_take, List.length_drop, Array.length_toList]
                      omega
                    · have hj := (List.getElem?_eq_some_iff.1 hy).1
                      have hrl := koks_length (hkk i row hi)
                      rw [splice_get cur news _ hfit]
                      simp only [hksz] at *
                      by_cases hix : i < xs.length
                      · rw [List.getElem?_append_left hix] at hi
                        obtain ⟨u, hu1, hu2⟩ := q7 i row hi j y hy
                        rw [q1] at hu1
                        have : (i + 1) * i2.size ≤ xs.length * i2.size := Nat.mul_le_mul_right _ (by omega)
                        rw [Nat.add_mul, Nat.one_mul] at this
                        rw [if_neg (by omega)]
                        exact ⟨u, hu1, hu2.grow hgrow⟩
                      · rw [List.getElem?_append_right (by omega)] at hi
                        obtain ⟨u, hu1, hu2⟩ := hrn (i - xs.length) row hi j y hy
                        have hlt := (List.getElem?_eq_some_iff.1 hu1).1
                        have e0 : (i - xs.length) * i2.size = i * i2.size - xs.length * i2.size := Nat.sub_mul _ _ _
                        have hge : xs.length * i2.size ≤ i * i2.size := Nat.mul_le_mul_right _ (by omega)
                        rw [if_pos (by omega)]
                        rw [show o' + i * i2.size + j - (o' + xs.length * i2.size) = (i - xs.length) * i2.size + j by omega]
                        exact ⟨u, hu1, hu2.grow hgrow⟩
                · have hro : ∃ olds : List Value, olds.length = xs.length * (X.K e).length ∧ (∀ w2 : World, w2.heap = w.heap → (Builtin.firstCells (X.K e).length xs.length hd.v).run X.P w2 = .ok olds.toArray w2) ∧
                      ∀ (i : Nat) row, xs[i]? = some row → ∀ (j : Nat) y, row[j]? = some y → ∃ u, olds[i * (X.K e).length + j]? = some u ∧ Rep X.K ρ F w y u := by
                    obtain ⟨_, a', c', hv', olds, h1, _, h3, h4⟩ := append_news (e := e) hI (x := .own id) (o := some e) (ys := xs) (by simp [gm_eq, rowsOf, hb]) (.inl rfl) (.own _ hd hid) hpos'
                    exact ⟨olds, h1, h3, h4⟩
                  obtain ⟨olds, hlo, hfo, hro⟩ := hro
                  have hf0 := hfc w.drew rfl
                  have hf1 := hfo w.drew rfl
                  rw [q3] at hf1
                  rw [hksz] at hf0 hf1
                  have hrun := run_append_new (w := w) (ty := ty) ht hu' f2.info f2.zero hf1 hlen hf0 hroom (by omega) (growslice_fits (by omega) (by rw [← f2.bytes]; exact hbd))
                  have hfr := fresh xs olds news c (dead hI) hkk hlo hnl hro hrn hmax
                  refine ⟨_, _, _, F, hrun, hfr.1, hfr.2, ?_⟩
                  have := own_last (X := X) (M := M) (F := F) (w := w.drew.alloc (.cells (olds.toArray ++ news.toArray ++ Builtin.zeroCells z2.cells (grownCap w (xs.length + ys.length) c e - (xs.length + ys.length))) e))
                    (hd := ⟨.slice (some ⟨w.heap.size, 0, none⟩) (xs.length + ys.length) (grownCap w (xs.length + ys.length) c e), (X.K e).length⟩) hI.len
                  exact this
          · cases h
        · cases h
      · cases h
    · cases h
  · cases h

end
end Go.Eng

namespace Go.Eng
open Go Go.MapKept
noncomputable section

variable {X : Cx} {R : Type}
variable {w0 w w' : World} {S : Sc} {F : Addr → Prop} {ρ : List Hd} {M : List Blk}

def keq : AV → AV → Bool
  | .int _ a, .int _ b => a == b
  | .bool a, .bool b => a == b
  | .str a, .str b => a == b
  | _, _ => false
def mfind : List (AV × AV) → AV → Option AV
  | [], _ => none
  | e :: es, x => match keq x e.1 with | true => some e.2 | false => mfind es x
def mput : List (AV × AV) → AV → AV → List (AV × AV)
  | [], x, y => [(x, y)]
  | e :: es, x, y => match keq x e.1 with | true => (x, y) :: es | false => e :: mput es x y
def keyK : TyI → Option Kind
  | .int k => some (.int k)
  | .bool => some .bool
  | .str => some .str
  | _ => none

theorem TFacts.map {t k e : TypeId} {i : TypeInfo} {d : TypeDesc} {z : Value} (f : TFacts X t i d z) (h : (X.ti t).u = .map k e) : X.P.underlying t = some (.map k e) := by
  have h1 := f.und; have h2 := f.u
  rw [h] at h2
  cases d <;> simp_all [tyOf]

/-- A key's type, and what its keys are. -/
structure KeyF (X : Cx) (kt : TypeId) (kd : Kind) (d : TypeDesc) : Prop where
  und : X.P.underlying kt = some d
  ne : kd ≠ .any
  key : ∀ {ρ : List Hd} {F : Addr → Prop} {w : World} {x : AV} {v : Value}, kok kd x = true → Rep X.K ρ F w x v → IsKey d v
  same : ∀ {ρ : List Hd} {F : Addr → Prop} {w : World} {x y : AV} {v u : Value}, kok kd x = true → kok kd y = true → Rep X.K ρ F w x v → Rep X.K ρ F w y u → Instr.sameNow d v u = some (keq x y) ∧ (keq x y = true → u = v)
theorem keyF (hX : X.Okb) {kt : TypeId} {kd : Kind} (hok : (X.ti kt).ok = true) (h : keyK (X.ti kt).u = some kd) : ∃ d, KeyF X kt kd d := by
  obtain ⟨i, d, z, f⟩ := hX.facts hok
  refine ⟨d, f.und, ?_, ?_, ?_⟩
  all_goals rw [f.u] at h
  · rintro rfl; cases d <;> simp [tyOf, keyK] at h
  · intro ρ F w x v hx hr
    cases d <;> simp [tyOf, keyK] at h <;> subst h <;> cases x <;> simp [kok] at hx <;> cases hr <;> simp [IsKey, hx]
  · intro ρ F w x y v u hx hy hr hs
    cases d <;> simp [tyOf, keyK] at h <;> subst h <;> cases x <;> simp [kok] at hx <;> cases y <;> simp [kok] at hy <;> cases hr <;> cases hs <;> simp_all [Instr.sameNow, keq]
    all_goals (intro hb; exact ((bytes_beq _ _).1 hb).symm)

def Ents (X : Cx) (ρ : List Hd) (F : Addr → Prop) (w : World) (kd : Kind) (ag : Bool) (ks : List Kind) (es : List (AV × AV)) (mes : List MapEntry) : Prop :=
  mes.length = es.length ∧ ∀ (i : Nat) e me, es[i]? = some e → mes[i]? = some me → (kok kd e.1 = true ∧ koks ks e.2.cells = true ∧ e.2.shape ag = true) ∧ Rep X.K ρ F w e.1 me.key ∧ Rep X.K ρ F w e.2 me.val

theorem Ents.tail {kd : Kind} {ag : Bool} {ks : List Kind} {e : AV × AV} {es : List (AV × AV)} {me : MapEntry} {mes : List MapEntry} (h : Ents X ρ F w kd ag ks (e :: es) (me :: mes)) : Ents X ρ F w kd ag ks es mes :=
  ⟨by simpa using h.1, fun i e' me' he hm => h.2 (i + 1) e' me' (by simpa using he) (by simpa using hm)⟩

/-- What looking finds. -/
theorem find_spec {kt : TypeId} {kd : Kind} {d : TypeDesc} (hk : KeyF X kt kd d) {ag : Bool} {ks : List Kind} {x : AV} {v : Value} (hx : kok kd x = true) (hr : Rep X.K ρ F w x v) : ∀ (es : List (AV × AV)) (mes : List MapEntry) (n : Nat), Ents X ρ F w kd ag ks es mes →
    (mfind es x = none ∧ Instr.findNow d v mes n = some none ∧ (∀ y, mput es x y = es ++ [(x, y)])) ∨
    ∃ i e me, es[i]? = some e ∧ mes[i]? = some me ∧ mfind es x = some e.2 ∧ Instr.findNow d v mes n = some (some (n + i, me.val)) ∧ me.key = v ∧ ∀ y, mput es x y = es.set i (x, y)
  | [], [], n, _ => .inl ⟨rfl, rfl, fun _ => rfl⟩
  | [], _ :: _, n, h => by have := h.1; simp at this
  | _ :: _, [], n, h => by have := h.1; simp at this
  | e :: es, me :: mes, n, h => by
    obtain ⟨⟨a1, a2, a3⟩, r1, r2⟩ := h.2 0 e me rfl rfl
    obtain ⟨s1, s2⟩ := hk.same hx a1 hr r1
    cases hq : keq x e.1 with
    | true =>
      refine .inr ⟨0, e, me, rfl, rfl, by simp [mfind, hq], ?_, s2 hq, fun y => by simp [mput, hq]⟩
      rw [hq] at s1
      simp [Instr.findNow, s1]
    | false =>
      rw [hq] at s1
      rcases find_spec hk hx hr es mes (n + 1) h.tail with ⟨h1, h2, h3⟩ | ⟨i, e', me', h1, h2, h3, h4, h5, h6⟩
      · exact .inl ⟨by simp [mfind, hq, h1], by simp [Instr.findNow, s1, h2], fun y => by simp [mput, hq, h3]⟩
      · exact .inr ⟨i + 1, e', me', by simpa using h1, by simpa using h2, by simp [mfind, hq, h3], by simp [Instr.findNow, s1, h4]; omega, h5, fun y => by simp [mput, hq, h6]⟩

/-! ### make -/
def evMakeMap (X : Cx) (t : TypeId) (M : List Blk) (k : AV → List Blk → Option R) : Option R :=
  match (X.ti t).ok, (X.ti t).u with
  | true, .map kt et => match keyK (X.ti kt).u with | some kd => k (.mp M.length) (M ++ [.map kd (X.ti et).u.agg (vks X et) []]) | none => none
  | _, _ => none
theorem evMakeMap_sound (hX : X.Okb) {t : TypeId} {k : AV → List Blk → Option R} {r : R} (h : evMakeMap X t M k = some r) :
    ∃ y M', k y M' = some r ∧ Agree [] M M' ∧ Does X M y M' (fun _ _ _ => True) (Instr.makeMap t none) := by
  unfold evMakeMap at h
  split at h
  case h_2 => cases h
  rename_i kt et _ _
  split at h
  case h_2 => cases h
  rename_i kd hkd
  have hne : kd ≠ .any := by rintro rfl; cases hu : (X.ti kt).u <;> simp [hu, keyK] at hkd
  refine ⟨_, _, h, Agree.push _ _ _, fun {w0 S F ρ w} hI _ => ?_⟩
  have hgr : w.grownBy (w.alloc (.map #[] 0)) none := World.grownBy_alloc w _ none
  have hlt : w.heap.size < (w.alloc (.map #[] 0)).heap.size := by simp
  refine ⟨.map (some w.heap.size), w.alloc (.map #[] 0), ρ ++ [⟨.map (some w.heap.size), 0⟩], F, rfl, ?_, ⟨fun _ h => h, fun _ _ h => getElem?_append_old h, fun a ha => hgr.block _ (hI.fz a ha) (by simp)⟩, ?_⟩
  · refine hI.push (hd := ⟨.map (some w.heap.size), 0⟩) hgr (fun g hg => ?_) rfl ⟨hne, w.heap.size, #[], 0, rfl, (MapKept.heap_alloc w _).1, rfl, fun i e me he _ => by simp at he⟩
    simp only [Hd.blk?, Value.blk?, Option.some.injEq] at hg; subst hg; exact ⟨Nat.le_refl _, hlt⟩
  · exact Rep.mp (K := X.K) _ ⟨.map (some w.heap.size), 0⟩ (by rw [← hI.len]; simp)

/-! ### m[k] -/
def mval (X : Cx) (t : TypeId) (x : AV) : AV :=
  match (X.ti t).u.agg with
  | true => .agg (ldn (vks X t) x.cells 0 (X.ti t).size)
  | false => ld ((vks X t).headD .raw) x
def zval (X : Cx) (t : TypeId) : AV :=
  match (X.ti t).u.agg with
  | true => .agg (X.ti t).zero
  | false => (X.ti t).zero.headD .top
def lkOut (X : Cx) (et : TypeId) (ok : Bool) (k : AV → Option R) (o : Option AV) : Option R :=
  match o with
  | some x => (match ok with | true => k (.tup [mval X et x, .bool true]) | false => k (mval X et x))
  | none => (match ok with | true => k (.tup [zval X et, .bool false]) | false => k (zval X et))
def lkVal (X : Cx) (et : TypeId) (o : Option AV) : AV := match o with | some x => mval X et x | none => zval X et
def lkTup (ok : Bool) (x : AV) (b : Bool) : AV := match ok with | true => .tup [x, .bool b] | false => x
def evFind : List (AV × AV) → AV → (Option AV → Option R) → Option R
  | [], _, k => k none
  | e :: es, x, k => match keq x e.1 with | true => k (some e.2) | false => evFind es x k
theorem evFind_eq : ∀ (es : List (AV × AV)) (x : AV) (k : Option AV → Option R), evFind es x k = k (mfind es x)
  | [], _, _ => rfl
  | e :: es, x, k => by
    simp only [evFind, mfind]
    cases keq x e.1 with
    | true => rfl
    | false => exact evFind_eq es x k
def allFix (ks : List Kind) : Bool := ks.all fun k => match k with | .any => false | _ => true
def evLookup (X : Cx) (t : TypeId) (x i : AV) (ok : Bool) (M : List Blk) (k : AV → Option R) : Option R :=
  match (X.ti t).ok, (X.ti t).u with
  | true, .map kt et =>
    match keyK (X.ti kt).u with
    | some kd =>
      tst ((X.ti kt).ok && (X.ti et).ok && kok kd i)
        (match x with
         | .nilmp => lkOut X et ok k none
         | .mp id =>
           match gm M id with
           | some (.map kd' ag ks es) =>
             tst (kd' == kd && ag == (X.ti et).u.agg && ks == vks X et) (match allFix ks with
               | true => (match mfind es i with | some y => lkOut X et ok k (some y) | none => lkOut X et ok k none)
               | false => evFind es i (lkOut X et ok k))
           | _ => none
         | _ => none)
    | none => none
  | _, _ => none

theorem vks_length (hX : X.Okb) {t : TypeId} (hok : (X.ti t).ok = true) : (vks X t).length = (X.ti t).size := by
  obtain ⟨i, d, z, f⟩ := hX.facts hok
  simp [vks, f.ks, f.size]

theorem mval_eq (hX : X.Okb) {t : TypeId} (hok : (X.ti t).ok = true) {x : AV} (hk : koks (vks X t) x.cells = true) (hp : x.shape (X.ti t).u.agg = true) : mval X t x = x := by
  have hl := vks_length hX hok
  unfold mval
  cases ha : (X.ti t).u.agg with
  | true =>
    rw [ha] at hp
    cases x <;> simp [AV.shape] at hp
    rename_i cs
    simp only [AV.cells] at hk ⊢
    rw [ldn_eq hk _ _ (by omega)]
    have := koks_length hk
    rw [List.drop_zero, List.take_of_length_le (by omega)]
  | false =>
    rw [ha] at hp
    have hc : x.cells = [x] := by cases x <;> simp_all [AV.shape, AV.leaf, AV.cells]
    rw [hc] at hk
    cases hv : vks X t with
    | nil => rw [hv] at hk; simp [koks] at hk
    | cons q qs =>
      rw [hv] at hk
      simp only [koks, Bool.and_eq_true] at hk
      exact ld_of_kok hk.1

theorem zval_rep (hX : X.Okb) {t : TypeId} (hok : (X.ti t).ok = true) : ∃ z, (∀ w, (zeroValue t).run X.P w = .ok z w) ∧ ∀ {ρ : List Hd} {F : Addr → Prop} {w : World}, Rep X.K ρ F w (zval X t) z := by
  obtain ⟨i, d, z, f⟩ := hX.facts hok
  refine ⟨z, f.zeroValue, fun {ρ F w} => ?_⟩
  have hz : RepL X.K ρ F w (X.ti t).zero z.cells.toList := by rw [f.zc]; exact repL_zero _ _ _ _ _
  have hag := f.zag
  unfold zval
  cases ha : (X.ti t).u.agg with
  | true =>
    rw [ha] at hag
    cases z <;> simp [vag] at hag
    rename_i cs
    have := Rep.agg (K := X.K) (ρ := ρ) (F := F) (w := w) _ _ hz.1 hz.2
    simpa [Value.cells] using this
  | false =>
    rw [ha] at hag
    have h1 : z.cells.toList = [z] := by cases z <;> simp_all [vag, Value.cells]
    rw [h1] at hz
    have hl := hz.1
    cases hzz : (X.ti t).zero with
    | nil => rw [hzz] at hl; simp at hl
    | cons y ys => exact hz.2 0 y z (by rw [hzz]; rfl) rfl

theorem lkOut_spec {et : TypeId} {ok : Bool} {k : AV → Option R} {o : Option AV} {r : R} (h : lkOut X et ok k o = some r) : k (lkTup ok (lkVal X et o) o.isSome) = some r := by
  unfold lkOut at h
  cases o <;> cases ok <;> exact h

theorem evLookup_sound (hX : X.Okb) {t : TypeId} {x i : AV} {ok : Bool} {k : AV → Option R} {r : R} (h : evLookup X t x i ok M k = some r) :
    ∃ y, k y = some r ∧ ∀ {w0 : World} {S : Sc} {F : Addr → Prop} {ρ : List Hd} {w : World} {v vi : Value}, Inv X w0 S F ρ M w → Rep X.K ρ F w x v → Rep X.K ρ F w i vi →
      ∃ u, (Instr.lookup t v vi ok).run X.P w = .ok u w ∧ Rep X.K ρ F w y u := by
  unfold evLookup at h
  simp only [gm_eq] at h
  split at h
  case h_2 => cases h
  rename_i kt et hto htu
  split at h
  case h_2 => cases h
  rename_i kd hkd
  replace h := tst_some h
  obtain ⟨hc, h⟩ := h
  simp only [Bool.and_eq_true] at hc
  obtain ⟨⟨hkok, heok⟩, hi⟩ := hc
  obtain ⟨ti, td, tz, tf⟩ := hX.facts hto
  have hund := tf.map htu
  obtain ⟨d, hkey⟩ := keyF hX hkok hkd
  obtain ⟨z, hz, hzr⟩ := zval_rep hX heok
  have out : ∀ {o : Option AV} {r : R}, lkOut X et ok k o = some r → ∃ y, k y = some r ∧ ∀ {ρ : List Hd} {F : Addr → Prop} {w : World} {vo : Option Value} {mes : List MapEntry} {v vi : Value}, (match o, vo with | some a, some b => Rep X.K ρ F w (mval X et a) b | none, none => True | _, _ => False) →
      (∀ w1 : World, (Instr.lookup t v vi ok).run X.P w = .ok (match ok with | true => .tuple #[vo.getD z, .bool vo.isSome] | false => vo.getD z) w) → ∃ u, (Instr.lookup t v vi ok).run X.P w = .ok u w ∧ Rep X.K ρ F w y u := by
    intro o r h
    refine ⟨_, lkOut_spec h, fun {ρ F w vo mes v vi} hm hrun => ⟨_, hrun w, ?_⟩⟩
    have hval : Rep X.K ρ F w (lkVal X et o) (vo.getD z) := by
      cases o with
      | none => cases vo with | none => exact hzr | some b => exact hm.elim
      | some a => cases vo with | none => exact hm.elim | some b => exact hm
    have hs : o.isSome = vo.isSome := by
      cases o with
      | none => cases vo with | none => rfl | some b => exact hm.elim
      | some a => cases vo with | none => exact hm.elim | some b => rfl
    cases ok with
    | false => exact hval
    | true =>
      refine .tup _ [_, _] rfl fun j y u hy hu => ?_
      match j with
      | 0 => simp at hy hu; subst hy; subst hu; exact hval
      | 1 => simp at hy hu; subst hy; subst hu; rw [hs]; exact .bool _
      | j + 2 => simp at hy
  cases x <;> simp only at h <;> try (cases h; done)
  case nilmp =>
    obtain ⟨y, h, hd⟩ := out h
    refine ⟨y, h, fun {w0 S F ρ w v vi} hI hv hvi => ?_⟩
    cases hv
    refine hd (vo := none) (mes := []) trivial fun _ => ?_
    have hf : Instr.findNow d vi [] 0 = some none := rfl
    cases ok <;> simp [Instr.lookup, run_underlying hund, Result.andThen, run_checkKey hkey.und (hkey.key hi hvi), run_findKey hkey.und hf, hz]
  case mp id =>
    split at h
    case h_2 => cases h
    rename_i kd' ag ks es hb
    replace h := tst_some h
    obtain ⟨hc, h⟩ := h
    simp only [Bool.and_eq_true, beq_iff_eq] at hc
    obtain ⟨⟨rfl, rfl⟩, rfl⟩ := hc
    have h' : lkOut X et ok k (mfind es i) = some r := by
      split at h
      · split at h
        · rename_i y hy; rw [hy]; exact h
        · rename_i hy; rw [hy]; exact h
      · rw [evFind_eq] at h; exact h
    obtain ⟨y, h, hd⟩ := out h'
    refine ⟨y, h, fun {w0 S F ρ w v vi} hI hv hvi => ?_⟩
    cases hv with
    | mp _ hd' hid =>
    obtain ⟨_, g, mes, clock, hv, hh, hsz, hes⟩ := hI.rep _ _ _ hb hid
    rw [hv]
    have hents : Ents X ρ F w kd' (X.ti et).u.agg (vks X et) es mes.toList := ⟨by simpa using hsz, fun j e me he hm => hes j e me he (by simpa using hm)⟩
    rcases find_spec hkey hi hvi es mes.toList 0 hents with ⟨f1, f2, _⟩ | ⟨j, e, me, e1, e2, f1, f2, _, _⟩
    · refine hd (vo := none) (mes := []) (by rw [f1]; trivial) fun _ => ?_
      cases ok <;> simp [Instr.lookup, run_underlying hund, MapKept.run_getObj_map hh, Result.andThen, run_checkKey hkey.und (hkey.key hi hvi), run_findKey hkey.und f2, hz]
    · obtain ⟨⟨a1, a2, a3⟩, r1, r2⟩ := hents.2 j e me e1 e2
      refine hd (vo := some me.val) (mes := []) (by rw [f1]; show Rep _ _ _ _ _ _; rw [mval_eq hX heok a2 a3]; exact r2) fun _ => ?_
      cases ok <;> simp [Instr.lookup, run_underlying hund, MapKept.run_getObj_map hh, Result.andThen, run_checkKey hkey.und (hkey.key hi hvi), run_findKey hkey.und f2]

/-! ### m[k] = v -/
def mpIds : AV → List Nat | .mp id => [id] | _ => []
def evMapUpdate (X : Cx) (t : TypeId) (m i x : AV) (M : List Blk) (k : List Blk → Option R) : Option R :=
  match (X.ti t).ok, (X.ti t).u, m with
  | true, .map kt et, .mp id =>
    match keyK (X.ti kt).u with
    | some kd =>
      match gm M id with
      | some (.map kd' ag ks es) =>
        tst ((X.ti kt).ok && kok kd i && kd' == kd && x.shape ag && koks ks x.cells) (k (M.set id (.map kd' ag ks (mput es i x))))
      | _ => none
    | none => none
  | _, _, _ => none
theorem evMapUpdate_sound (hX : X.Okb) {t : TypeId} {m i x : AV} {k : List Blk → Option R} {r : R} (h : evMapUpdate X t m i x M k = some r) :
    ∃ M', k M' = some r ∧ Agree (mpIds m) M M' ∧ ∀ {w0 : World} {S : Sc} {F : Addr → Prop} {ρ : List Hd} {w : World} {vm vi vx : Value}, Inv X w0 S F ρ M w → Rep X.K ρ F w m vm → Rep X.K ρ F w i vi → Rep X.K ρ F w x vx →
      ∃ w' F', (Instr.mapUpdate t vm vi vx).run X.P w = .ok () w' ∧ Inv X w0 S F' ρ M' w' ∧ Grow F F' ρ ρ w w' := by
  unfold evMapUpdate at h
  simp only [gm_eq] at h
  split at h
  case h_2 => cases h
  rename_i kt et id hto htu
  split at h
  case h_2 => cases h
  rename_i kd hkd
  split at h
  case h_2 => cases h
  rename_i kd' ag ks es hb
  replace h := tst_some h
  obtain ⟨hc, h⟩ := h
  simp only [Bool.and_eq_true, beq_iff_eq] at hc
  obtain ⟨⟨⟨⟨hkok, hi⟩, rfl⟩, hsh⟩, hks⟩ := hc
  obtain ⟨ti, td, tz, tf⟩ := hX.facts hto
  have hund := tf.map htu
  obtain ⟨d, hkey⟩ := keyF hX hkok hkd
  refine ⟨_, h, Agree.set _ _ _, fun {w0 S F ρ w vm vi vx} hI hm hvi hvx => ?_⟩
  cases hm with
  | mp _ hd hid =>
  obtain ⟨hne, g, mes, clock, hv, hh, hsz, hes⟩ := hI.rep _ _ _ hb hid
  have hblk : hd.blk? = some g := by simp [Hd.blk?, Value.blk?, hv]
  have hlt : g < w.heap.size := (Array.getElem?_eq_some_iff.1 hh).1
  have hsep := hI.sep _ _ _ _ hb rfl hid hblk
  rw [hv]
  have hents : Ents X ρ F w kd' ag ks es mes.toList := ⟨by simpa using hsz, fun j e me he hm => hes j e me he (by simpa using hm)⟩
  have hgrow : ∀ o : Obj, w.grownBy (w.putObj g o) (some g) := fun o => ⟨rfl, rfl, rfl, by simp, fun q hq hne => World.putObj_heap_other (fun e => hne (by rw [e]))⟩
  have hG : ∀ o : Obj, Grow F F ρ ρ w (w.putObj g o) := fun o => ⟨fun _ h => h, fun _ _ h => h, fun a ha => World.putObj_heap_other (hsep.2.2 a ha)⟩
  have done : ∀ (mes' : Array MapEntry) (clock' : Nat), mes'.size = (mput es i x).length → (∀ (j : Nat) e me, (mput es i x)[j]? = some e → mes'[j]? = some me → (kok kd' e.1 = true ∧ koks ks e.2.cells = true ∧ e.2.shape ag = true) ∧ Rep X.K ρ F w e.1 me.key ∧ Rep X.K ρ F w e.2 me.val) →
      Inv X w0 S F ρ (M.set id (.map kd' ag ks (mput es i x))) (w.putObj g (.map mes' clock')) := fun mes' clock' h1 h2 =>
    hI.write hb rfl hid hblk (hgrow _) ⟨hne, g, mes', clock', hv, World.putObj_heap_same hlt, h1, fun j e me he hm' => let ⟨a, r1, r2⟩ := h2 j e me he hm'; ⟨a, r1.grow (hG _), r2.grow (hG _)⟩⟩
  rcases find_spec hkey hi hvi es mes.toList 0 hents with ⟨f1, f2, f3⟩ | ⟨j, e, me, e1, e2, f1, f2, f4, f3⟩
  · refine ⟨w.putObj g (.map (mes.push { key := vi, val := vx, born := clock }) (clock + 1)), F, ?_, done _ _ (by rw [f3]; simp [hsz]) fun q e me he hm' => ?_, hG _⟩
    · simp [Instr.mapUpdate, run_underlying hund, MapKept.run_getObj_map hh, run_checkKey hkey.und (hkey.key hi hvi), run_findKey hkey.und f2, MapKept.run_setObj_map _ hh, Result.andThen, World.putObj]
    · rw [f3] at he
      by_cases hq : q < es.length
      · rw [List.getElem?_append_left hq] at he
        rw [Array.getElem?_push, if_neg (by omega)] at hm'
        exact hes q e me he hm'
      · have hq' : q = es.length := by have := (List.getElem?_eq_some_iff.1 he).1; simp at this; omega
        subst hq'
        rw [List.getElem?_append_right (Nat.le_refl _)] at he
        simp at he
        rw [← hsz, Array.getElem?_push, if_pos rfl] at hm'
        injection hm' with hm'
        subst he; subst hm'
        exact ⟨⟨hi, hks, hsh⟩, hvi, hvx⟩
  · have hjm : mes[j]? = some me := by simpa using e2
    have hjlt : j < mes.size := (Array.getElem?_eq_some_iff.1 hjm).1
    refine ⟨w.putObj g (.map (mes.modify j fun e => { e with key := vi, val := vx }) clock), F, ?_, done _ _ (by rw [f3]; simp [hsz]) fun q e' me' he hm' => ?_, hG _⟩
    · have hkk : me.key = vi := f4
      simp [Instr.mapUpdate, run_underlying hund, MapKept.run_getObj_map hh, run_checkKey hkey.und (hkey.key hi hvi), run_findKey hkey.und f2, hjm, hkk, run_keyThatStays (hkey.key hi hvi), MapKept.run_setObj_map _ hh, Result.andThen, World.putObj]
    · rw [f3, List.getElem?_set] at he
      rw [Array.getElem?_modify] at hm'
      split at he
      · rename_i ej; subst ej
        split at he
        · injection he with he
          subst he
          rw [if_pos rfl, hjm] at hm'
          simp at hm'
          subst hm'
          exact ⟨⟨hi, hks, hsh⟩, hvi, hvx⟩
        · cases he
      · rename_i ej
        rw [if_neg ej] at hm'
        exact hes q e' me' he hm'

end
end Go.Eng
