/-
  The engine, part A: abstract values, what they stand for in a world, and how that survives changes of the world.
  The engine, part B: the invariant between abstract memory and heap, and how it survives steps.
  The engine, part Ba: nested blocks, taken out of use and put into use.
  The engine, part C: the single operations, on abstract values, and that they run so.
  The engine, part D: what the operations do, as a function on abstract values, in continuation-passing form; the first of them proved.
  The engine, part E: reading and writing memory.
  The engine, part F: stores, new variables, freezing.
  The engine, part Fa: rows' slices become the rows' own, are taken out and put back, and are given up: nothing is done in the world.
  The engine, part G: new variables, addresses, parts of values.
  The engine, part H: slices: their lengths, parts of them, new ones, append; structs that are built.
  The engine, part I: values built of parts, slice expressions, make, append.
  The engine, part J: composite slices, make, slice expressions.
-/
import Derived.RangeFuncRecord
import Derived.WalkKit
import Derived.Below
import Derived.DataElems
import Derived.ChangeKeysEq
import Derived.Laws.StructEq
import Derived.WalkSpells
set_option linter.all false
set_option linter.deprecated false
namespace Go.Eng
open Go
inductive Kind where
  | int (k : IntKind)
  | bool
  | str
  | slice (t : TypeId)
  | raw
  | any
  deriving DecidableEq, Inhabited
inductive AV where
  | top
  | int (k : IntKind) (n : Int)
  | bool (b : Bool)
  | str (s : ByteArray)
  | agg (cs : List AV)
  | tup (vs : List AV)
  | nilp
  | iptr (t : TypeId) (row : List AV) (off : Nat)
  | ptr (id i off : Nat)
  | list (t : TypeId) (xs : List (List AV))
  | own (id : Nat)
  | nilsl
  | clos (f : FuncId) (first caps : List AV)
  | nilfn
  | yld (id : Nat)
  | mp (id : Nat)
  | nilmp
  | vsl (id n : Nat)
  | vw (id lo n : Nat)
  | enl
  | sub (t : TypeId) (xs : List (List AV))
  deriving Inhabited
abbrev Row := List AV
def AV.toI : AV → Int | .int _ n => n | _ => 0
def AV.toB : AV → Bool | .bool b => b | _ => false
def AV.toS : AV → ByteArray | .str s => s | _ => ByteArray.empty
def AV.rows : AV → List Row | .list _ xs => xs | .sub _ xs => xs | _ => []
def AV.cells : AV → List AV | .agg cs => cs | x => [x]
def AV.pure : AV → Bool | .int _ _ | .bool _ | .str _ | .nilp | .iptr _ _ _ | .list _ _ | .nilsl | .nilfn | .nilmp | .enl | .clos _ [] [] => true | _ => false
def AV.vlo : AV → Nat | .vw _ lo _ => lo | _ => 0
def AV.vn : AV → Nat | .vw _ _ n => n | _ => 0
def AV.plain : AV → Bool | .top | .tup _ => false | _ => true
def AV.leaf : AV → Bool | .agg _ | .tup _ | .top => false | _ => true
def AV.shape : Bool → AV → Bool | true, .agg _ => true | false, x => x.leaf | _, _ => false
def kok : Kind → AV → Bool
  | .int k, .int k' _ => k == k'
  | .bool, .bool _ => true
  | .str, .str _ => true
  | .slice t, .list t' _ => t == t'
  | .raw, x => x.leaf && x.pure
  | .any, x => x.leaf
  | _, _ => false
def ld : Kind → AV → AV
  | .int k, x => .int k x.toI
  | .bool, x => .bool x.toB
  | .str, x => .str x.toS
  | .slice t, x => .list t x.rows
  | .raw, x => x
  | .any, x => x
theorem ld_of_kok {k : Kind} {x : AV} (h : kok k x = true) : ld k x = x := by
  cases k <;> cases x <;> simp_all [kok, ld, AV.toI, AV.toB, AV.toS, AV.rows]
theorem leaf_of_kok {k : Kind} {x : AV} (h : kok k x = true) : x.leaf = true := by
  cases k <;> cases x <;> simp_all [kok, AV.leaf]
def koks : List Kind → Row → Bool
  | [], [] => true
  | k :: ks, x :: xs => kok k x && koks ks xs
  | _, _ => false
theorem pure_of_kok {k : Kind} {x : AV} (hk : k ≠ .any) (h : kok k x = true) : x.pure = true := by
  cases k <;> cases x <;> simp_all [kok, AV.leaf, AV.pure]
theorem koks_length : ∀ {ks : List Kind} {row : Row}, koks ks row = true → row.length = ks.length
  | [], [], _ => rfl
  | [], _ :: _, h => by simp [koks] at h
  | _ :: _, [], h => by simp [koks] at h
  | k :: ks, x :: xs, h => by
    simp only [koks, Bool.and_eq_true] at h
    simp [koks_length h.2]
theorem koks_get : ∀ {ks : List Kind} {row : Row}, koks ks row = true → ∀ {j : Nat} {k : Kind} {x : AV}, ks[j]? = some k → row[j]? = some x → kok k x = true
  | [], [], _, j, k, x, h, _ => by simp at h
  | [], _ :: _, h, _, _, _, _, _ => by simp [koks] at h
  | _ :: _, [], h, _, _, _, _, _ => by simp [koks] at h
  | k :: ks, x :: xs, h, j, k', x', hk, hx => by
    simp only [koks, Bool.and_eq_true] at h
    cases j with
    | zero => simp at hk hx; subst hk; subst hx; exact h.1
    | succ j => simp at hk hx; exact koks_get h.2 hk hx
theorem koks_leaf {ks : List Kind} {row : Row} (h : koks ks row = true) {j : Nat} {x : AV} (hx : row[j]? = some x) : x.leaf = true := by
  have hl := koks_length h
  have hj : j < ks.length := by
    have := (List.getElem?_eq_some_iff.1 hx).1; omega
  exact leaf_of_kok (koks_get h (List.getElem?_eq_getElem hj) hx)
theorem koks_of {ks : List Kind} {row : Row} (hl : row.length = ks.length) (h : ∀ (j : Nat) (k : Kind) (x : AV), ks[j]? = some k → row[j]? = some x → kok k x = true) : koks ks row = true := by
  induction ks generalizing row with
  | nil => cases row with | nil => rfl | cons x xs => simp at hl
  | cons k ks ih =>
    cases row with
    | nil => simp at hl
    | cons x xs =>
      simp only [koks, Bool.and_eq_true]
      exact ⟨h 0 k x rfl rfl, ih (by simpa using hl) fun j k' x' hk hx => h (j + 1) k' x' (by simpa using hk) (by simpa using hx)⟩
structure Hd where
  v : Value
  sz : Nat
def Value.blk? : Value → Option Nat
  | .slice (some a) _ _ => some a.block
  | .map (some g) => some g
  | .pointer (some a) => some a.block
  | _ => none
def Hd.blk? (h : Hd) : Option Nat := Value.blk? h.v
inductive Rep (K : TypeId → List Kind) (ρ : List Hd) (F : Addr → Prop) (w : World) : AV → Value → Prop
  | top (v : Value) : Rep K ρ F w .top v
  | int (k : IntKind) (n : Int) : Rep K ρ F w (.int k n) (.int k n)
  | bool (b : Bool) : Rep K ρ F w (.bool b) (.bool b)
  | str (s : ByteArray) : Rep K ρ F w (.str s) (.string s)
  | agg (cs : List AV) (vs : List Value) (hl : vs.length = cs.length) (h : ∀ (j : Nat) x v, cs[j]? = some x → vs[j]? = some v → Rep K ρ F w x v) : Rep K ρ F w (.agg cs) (.agg vs.toArray)
  | tup (cs : List AV) (vs : List Value) (hl : vs.length = cs.length) (h : ∀ (j : Nat) x v, cs[j]? = some x → vs[j]? = some v → Rep K ρ F w x v) : Rep K ρ F w (.tup cs) (.tuple vs.toArray)
  | nilp : Rep K ρ F w .nilp (.pointer none)
  | iptr (t : TypeId) (row : Row) (off : Nat) (a : Addr) (vs : List Value) (hk : koks (K t) row = true) (hl : vs.length = row.length)
      (hc : ∀ (j : Nat) v, vs[j]? = some v → w.cell? (a.add j) = some v ∧ F (a.add j))
      (h : ∀ (j : Nat) x v, row[j]? = some x → vs[j]? = some v → Rep K ρ F w x v) : Rep K ρ F w (.iptr t row off) (.pointer (some (a.add off)))
  | ptr (id i off : Nat) (hd : Hd) (g o n c : Nat) (hid : ρ[id]? = some hd) (hv : hd.v = .slice (some ⟨g, o, none⟩) n c) : Rep K ρ F w (.ptr id i off) (.pointer (some ⟨g, o + i * hd.sz + off, none⟩))
  | list0 (t : TypeId) : Rep K ρ F w (.list t []) (.slice none 0 0)
  | list (t : TypeId) (xs : List Row) (a : Addr) (cap : Nat) (vss : List (List Value)) (hl : vss.length = xs.length) (hcap : xs.length ≤ cap) (hmax : cap ≤ maxLen)
      (hk : ∀ (i : Nat) row, xs[i]? = some row → koks (K t) row = true)
      (hc : ∀ (i : Nat) vs, vss[i]? = some vs → vs.length = (K t).length ∧ ∀ (j : Nat) v, vs[j]? = some v → w.cell? (a.add (i * (K t).length + j)) = some v ∧ F (a.add (i * (K t).length + j)))
      (h : ∀ (i : Nat) row vs, xs[i]? = some row → vss[i]? = some vs → ∀ (j : Nat) x v, row[j]? = some x → vs[j]? = some v → Rep K ρ F w x v) :
      Rep K ρ F w (.list t xs) (.slice (some a) xs.length cap)
  | own (id : Nat) (hd : Hd) (hid : ρ[id]? = some hd) : Rep K ρ F w (.own id) hd.v
  | nilsl : Rep K ρ F w .nilsl (.slice none 0 0)
  | clos (f : FuncId) (first caps : List AV) (vf vc : List Value) (hf : vf.length = first.length) (hc : vc.length = caps.length)
      (h1 : ∀ (j : Nat) x v, first[j]? = some x → vf[j]? = some v → Rep K ρ F w x v) (h2 : ∀ (j : Nat) x v, caps[j]? = some x → vc[j]? = some v → Rep K ρ F w x v) :
      Rep K ρ F w (.clos f first caps) (.func (.func f) vf.toArray vc.toArray)
  | nilfn : Rep K ρ F w .nilfn .nilFunc
  | yld (id : Nat) (hd : Hd) (g : Nat) (hid : ρ[id]? = some hd) (hv : hd.v = .pointer (some ⟨g, 0, none⟩)) : Rep K ρ F w (.yld id) (.func (.yield g) #[] #[])
  | mp (id : Nat) (hd : Hd) (hid : ρ[id]? = some hd) : Rep K ρ F w (.mp id) hd.v
  | nilmp : Rep K ρ F w .nilmp (.map none)
  | vsl (id m : Nat) (hd : Hd) (g o n c cap : Nat) (hid : ρ[id]? = some hd) (hv : hd.v = .slice (some ⟨g, o, none⟩) n c) : Rep K ρ F w (.vsl id m) (.slice (some ⟨g, o, none⟩) m cap)
  | vw (id lo m : Nat) (hd : Hd) (g o n c cap : Nat) (hid : ρ[id]? = some hd) (hv : hd.v = .slice (some ⟨g, o, none⟩) n c) (hcap : m ≤ cap ∧ cap ≤ maxLen) (hb : lo + m ≤ n) : Rep K ρ F w (.vw id lo m) (.slice (some ⟨g, o + lo * hd.sz, none⟩) m cap)
  | vwn (id lo : Nat) : Rep K ρ F w (.vw id lo 0) (.slice none 0 0)
  | vws (id lo : Nat) (a : Addr) (cap : Nat) : Rep K ρ F w (.vw id lo 0) (.slice (some a) 0 cap)
  | enl (a : Addr) (cap : Nat) : Rep K ρ F w .enl (.slice (some a) 0 cap)
variable {K : TypeId → List Kind}
theorem Rep.mono {ρ ρ' : List Hd} {F F' : Addr → Prop} {w w' : World} (hρ : ∀ (id : Nat) hd, ρ[id]? = some hd → ρ'[id]? = some hd) (hF : ∀ a, F a → F' a)
    (hw : ∀ a v, F a → w.cell? a = some v → w'.cell? a = some v) {x : AV} {v : Value} (h : Rep K ρ F w x v) : Rep K ρ' F' w' x v := by
  induction h with
  | top v => exact .top v
  | int k n => exact .int k n
  | bool b => exact .bool b
  | str s => exact .str s
  | agg cs vs hl _ ih => exact .agg cs vs hl ih
  | tup cs vs hl _ ih => exact .tup cs vs hl ih
  | nilp => exact .nilp
  | iptr t row off a vs hk hl hc _ ih => exact .iptr t row off a vs hk hl (fun j v hv => ⟨hw _ _ (hc j v hv).2 (hc j v hv).1, hF _ (hc j v hv).2⟩) ih
  | ptr id i off hd g o n c hid hv => exact .ptr id i off hd g o n c (hρ _ _ hid) hv
  | list0 t => exact .list0 t
  | list t xs a cap vss hl hcap hmax hk hc _ ih =>
    exact .list t xs a cap vss hl hcap hmax hk (fun i vs hvs => ⟨(hc i vs hvs).1, fun j v hv => ⟨hw _ _ ((hc i vs hvs).2 j v hv).2 ((hc i vs hvs).2 j v hv).1, hF _ ((hc i vs hvs).2 j v hv).2⟩⟩) ih
  | own id hd hid => exact .own id hd (hρ _ _ hid)
  | nilsl => exact .nilsl
  | clos f first caps vf vc hf hc _ _ ih1 ih2 => exact .clos f first caps vf vc hf hc ih1 ih2
  | nilfn => exact .nilfn
  | yld id hd g hid hv => exact .yld id hd g (hρ _ _ hid) hv
  | mp id hd hid => exact .mp id hd (hρ _ _ hid)
  | nilmp => exact .nilmp
  | vsl id m hd g o n c cap hid hv => exact .vsl id m hd g o n c cap (hρ _ _ hid) hv
  | vw id lo m hd g o n c cap hid hv hc hb => exact .vw id lo m hd g o n c cap (hρ _ _ hid) hv hc hb
  | vwn id lo => exact .vwn id lo
  | vws id lo a cap => exact .vws id lo a cap
  | enl a cap => exact .enl a cap
theorem Rep.pure {ρ ρ' : List Hd} {F : Addr → Prop} {w : World} (hK : ∀ t, ∀ k ∈ K t, k ≠ .any) {x : AV} {v : Value} (h : Rep K ρ F w x v) : x.pure = true → Rep K ρ' F w x v := by
  have cell : ∀ {t : TypeId} {row : Row}, koks (K t) row = true → ∀ {j : Nat} {y : AV}, row[j]? = some y → y.pure = true := by
    intro t row hk j y hy
    have hl := koks_length hk
    have hj : j < (K t).length := by
      have := (List.getElem?_eq_some_iff.1 hy).1; omega
    exact pure_of_kok (hK t _ (List.getElem_mem hj)) (koks_get hk (List.getElem?_eq_getElem hj) hy)
  induction h with
  | int k n => exact fun _ => .int k n
  | bool b => exact fun _ => .bool b
  | str s => exact fun _ => .str s
  | nilp => exact fun _ => .nilp
  | iptr t row off a vs hk hl hc _ ih => exact fun _ => .iptr t row off a vs hk hl hc (fun j y v hy hv => ih j y v hy hv (cell hk hy))
  | list0 t => exact fun _ => .list0 t
  | list t xs a cap vss hl hcap hmax hk hc _ ih => exact fun _ => .list t xs a cap vss hl hcap hmax hk hc (fun i row vs hi hv j y v hy hv' => ih i row vs hi hv j y v hy hv' (cell (hk i row hi) hy))
  | nilsl => exact fun _ => .nilsl
  | clos f first caps vf vc hf hc _ _ _ _ =>
    intro hp
    cases first with
    | cons a b => simp [AV.pure] at hp
    | nil =>
      cases caps with
      | cons a b => simp [AV.pure] at hp
      | nil => exact .clos f [] [] vf vc hf hc (fun j y v hy _ => by simp at hy) (fun j y v hy _ => by simp at hy)
  | nilfn => exact fun _ => .nilfn
  | nilmp => exact fun _ => .nilmp
  | enl a cap => exact fun _ => .enl a cap
  | _ => intro hp; simp [AV.pure] at hp
theorem Rep.top_pure {ρ ρ' : List Hd} {F : Addr → Prop} {w : World} (hK : ∀ t, ∀ k ∈ K t, k ≠ .any) {x : AV} {v : Value} (h : Rep K ρ F w x v) (hp : x = .top ∨ x.pure = true) : Rep K ρ' F w x v := by
  rcases hp with rfl | hp
  · exact .top v
  · exact h.pure hK hp
def RepL (K : TypeId → List Kind) (ρ : List Hd) (F : Addr → Prop) (w : World) (xs : List AV) (vs : List Value) : Prop :=
  vs.length = xs.length ∧ ∀ (j : Nat) x v, xs[j]? = some x → vs[j]? = some v → Rep K ρ F w x v
inductive Ex where
  | normal
  | exit (id : Nat)
  | ret
  deriving DecidableEq, Inhabited
inductive Blk where
  | var (ks : List Kind) (cs : List AV)
  | row (t : TypeId) (xs : List Row)
  | map (k : Kind) (ag : Bool) (ks : List Kind) (es : List (AV × AV))
  | loop (site : Nat) (env : List (Nat × AV)) (busy : Bool) (pend : Option Ex)
  | dfr
  | fro (t : TypeId) (xs : List Row)
  | dead
  | nst (t : TypeId) (xs : List Row) (op : Option (Nat × Nat × Nat))
  deriving Inhabited
inductive TyI where
  | int (k : IntKind)
  | bool
  | str
  | slice (e : TypeId)
  | array (n : Nat) (e : TypeId)
  | struct (fs : List (Nat × TypeId))
  | ptr (e : TypeId)
  | map (k e : TypeId)
  | other
  deriving Inhabited
structure TI where
  ok : Bool
  u : TyI
  size : Nat
  bytes : Nat
  zero : List AV
  ks : List Kind
  deriving Inhabited
def TyI.agg : TyI → Bool | .struct _ | .array _ _ => true | _ => false
def const1 : Value → AV
  | .bool b => .bool b
  | .int k n => .int k n
  | .string s => .str s
  | .pointer none => .nilp
  | .slice none 0 0 => .nilsl
  | .map none => .nilmp
  | .nilFunc => .nilfn
  | _ => .top
def constAV : Value → AV
  | .agg cs => .agg (cs.toList.map const1)
  | .tuple cs => match cs.toList with | [] => .tup [] | _ => .top
  | v => const1 v
def kindsOf (P : Program) : Nat → TypeId → List Kind
  | 0, _ => [.raw]
  | n + 1, t =>
    match P.underlying t with
    | some (.int k) => [.int k]
    | some .bool => [.bool]
    | some .string => [.str]
    | some (.slice e) => [.slice e]
    | some (.struct fs) => fs.toList.flatMap fun f => kindsOf P n f.type
    | some (.array m e) => (List.replicate m (kindsOf P n e)).flatten
    | _ => [.raw]
theorem kindsOf_any (P : Program) : ∀ (n : Nat) (t : TypeId), ∀ k ∈ kindsOf P n t, k ≠ .any
  | 0, t, k, h => by simp [kindsOf] at h; subst h; simp
  | n + 1, t, k, h => by
    unfold kindsOf at h
    split at h
    · simp at h; subst h; simp
    · simp at h; subst h; simp
    · simp at h; subst h; simp
    · simp at h; subst h; simp
    · obtain ⟨f, _, hf⟩ := List.mem_flatMap.1 h
      exact kindsOf_any P n _ k hf
    · obtain ⟨l, hl, hk⟩ := List.mem_flatten.1 h
      rw [List.eq_of_mem_replicate hl] at hk
      exact kindsOf_any P n _ k hk
    · simp at h; subst h; simp
def tyOf : TypeDesc → TyI
  | .int k => .int k
  | .bool => .bool
  | .string => .str
  | .slice e => .slice e
  | .array n e => .array n e
  | .struct fs => .struct (fs.toList.map fun f => (f.offset, f.type))
  | .pointer e => .ptr e
  | .map k e => .map k e
  | _ => .other
def vag : Value → Bool | .agg _ => true | _ => false
def tiOf (P : Program) (t : TypeId) : TI :=
  match P.info? t, P.underlying t with
  | some i, some d =>
    match i.zero with
    | some z => ⟨z.cells.size == i.size && (kindsOf P 12 t).length == i.size && (vag z == (tyOf d).agg), tyOf d, i.size, i.bytes, z.cells.toList.map const1, kindsOf P 12 t⟩
    | none => ⟨false, .other, 0, 0, [], []⟩
  | _, _ => ⟨false, .other, 0, 0, [], []⟩
end Go.Eng

namespace Go.Eng
open Go
noncomputable section
structure Site where
  nt : Nat
  params : Array Tmp
  assign : Code
  body : Code
structure Ub where
  ks : List Kind
  e : TypeId
  bt : TypeId
  pt : TypeId
  up : TypeId
  ne : FuncId
structure Cx where
  P : Program
  ti : TypeId → TI
  site : Nat → Site
  glob : Nat → AV
  eqs : TypeId → Bool
  pk : Bool
  vw : Nat → TypeId → Bool
  ub : Option Ub
def Cx.tyB (X : Cx) (ks : List Kind) (e : TypeId) : Bool := match X.ub with | none => true | some u => match decide (ks = u.ks) with | true => Nat.beq e u.e | false => true
def Cx.fitB (X : Cx) (ks : List Kind) (n m : Nat) : Prop := ∀ u, X.ub = some u → ks = u.ks → n = m
def Cx.K (X : Cx) (t : TypeId) : List Kind := (X.ti t).ks
def look (env : List (Nat × AV)) (u : Nat) : AV := List.rec (motive := fun _ => AV) .top (fun p _ ih => Bool.rec (motive := fun _ => AV) ih p.2 (Nat.beq u p.1)) env
theorem look_nil (u : Nat) : look [] u = .top := rfl
theorem look_cons (t : Nat) (x : AV) (env : List (Nat × AV)) (u : Nat) : look ((t, x) :: env) u = if u == t then x else look env u := by
  show Bool.rec (motive := fun _ => AV) (look env u) x (Nat.beq u t) = _
  cases hb : Nat.beq u t with
  | true =>
    have := Nat.eq_of_beq_eq_true hb
    subst this
    show x = _
    simp
  | false =>
    have : u ≠ t := Nat.ne_of_beq_eq_false hb
    show look env u = _
    simp [this]
def gm (M : List Blk) (i : Nat) : Option Blk := List.rec (motive := fun _ => Nat → Option Blk) (fun _ => none) (fun b _ ih n => Nat.rec (motive := fun _ => Option Blk) (some b) (fun m _ => ih m) n) M i
theorem gm_eq : ∀ (M : List Blk) (i : Nat), gm M i = M[i]?
  | [], _ => rfl
  | _ :: _, 0 => rfl
  | b :: M, n + 1 => by
    show gm M n = _
    rw [gm_eq M n]; rfl
def Ex.code : Ex → Option Code
  | .normal => none
  | .exit id => some (.exit id)
  | .ret => some .ret
def Blk.isDead : Blk → Bool | .dead | .fro _ _ | .nst _ _ _ => true | _ => false
def Blk.isNst : Blk → Bool | .nst _ _ _ => true | _ => false
variable {X : Cx}
def EnvRep (X : Cx) (ρ : List Hd) (F : Addr → Prop) (w : World) (env : List (Nat × AV)) (tmps : Array Value) : Prop :=
  ∀ t, Rep X.K ρ F w (look env t) (tmps.getD t undef)
def BRep (X : Cx) (ρ : List Hd) (F : Addr → Prop) (w : World) (hd : Hd) : Blk → Prop
  | .var ks cs => koks ks cs = true ∧ hd.sz = cs.length ∧ ∃ g cur e, hd.v = .slice (some ⟨g, 0, none⟩) 1 1 ∧ w.heap[g]? = some (.cells cur e (0, 0)) ∧ RepL X.K ρ F w cs (cur.toList.take cs.length) ∧ X.tyB ks e = true ∧ X.fitB ks cur.size cs.length
  | .row t xs => hd.sz = (X.K t).length ∧ (∀ (i : Nat) row, xs[i]? = some row → koks (X.K t) row = true) ∧
      ((hd.v = .slice none 0 0 ∧ xs = []) ∨ ∃ g o c cur, hd.v = .slice (some ⟨g, o, none⟩) xs.length c ∧ w.heap[g]? = some (.cells cur t (0, 0)) ∧ xs.length ≤ c ∧ c ≤ maxLen ∧ o + c * hd.sz ≤ cur.size ∧
        ∀ (i : Nat) row, xs[i]? = some row → ∀ (j : Nat) x, row[j]? = some x → ∃ v, cur[o + i * hd.sz + j]? = some v ∧ Rep X.K ρ F w x v)
  | .map kd ag ks es => kd ≠ .any ∧ ∃ g mes clock, hd.v = .map (some g) ∧ w.heap[g]? = some (.map mes clock) ∧ mes.size = es.length ∧
      ∀ (i : Nat) e me, es[i]? = some e → mes[i]? = some me → (kok kd e.1 = true ∧ koks ks e.2.cells = true ∧ e.2.shape ag = true) ∧ Rep X.K ρ F w e.1 me.key ∧ Rep X.K ρ F w e.2 me.val
  | .loop s env busy pend => ∃ g lp, hd.v = .pointer (some ⟨g, 0, none⟩) ∧ w.heap[g]? = some (.loop lp) ∧ lp.params = (X.site s).params ∧ lp.assign = (X.site s).assign ∧ lp.body = (X.site s).body ∧
      lp.tmps.size = (X.site s).nt ∧ EnvRep X ρ F w env lp.tmps ∧ (busy = true → lp.state = .busy) ∧ (busy = false → pend = none → lp.state = .ready) ∧ (busy = false → pend ≠ none → lp.state = .done) ∧
      lp.pending = pend.bind Ex.code ∧ pend ≠ some .normal
  | .dfr => ∃ g, hd.v = .pointer (some ⟨g, 0, none⟩) ∧ w.heap[g]? = some (.deferred (some []))
  | .fro t xs => Rep X.K ρ F w (.list t xs) hd.v
  | .dead => True
  | .nst _ _ _ => True
structure Sc where
  S : Nat → Prop
  F0 : Addr → Prop
instance : CoeFun Sc (fun _ => Nat → Prop) := ⟨Sc.S⟩
def kokN : Kind → AV → Bool
  | .slice t, .sub t' _ => t == t'
  | k, x => kok k x
def koksN : List Kind → Row → Bool
  | [], [] => true
  | k :: ks, x :: xs => kokN k x && koksN ks xs
  | _, _ => false
theorem koksN_get : ∀ {ks : List Kind} {row : Row}, koksN ks row = true → ∀ {j : Nat} {x : AV}, row[j]? = some x → ∃ k, ks[j]? = some k ∧ kokN k x = true
  | [], [], _, j, x, hx => by simp at hx
  | [], _ :: _, h, _, _, _ => by simp [koksN] at h
  | _ :: _, [], h, _, _, _ => by simp [koksN] at h
  | k :: ks, y :: xs, h, j, x, hx => by
    simp only [koksN, Bool.and_eq_true] at h
    cases j with
    | zero => simp at hx; subst hx; exact ⟨k, rfl, h.1⟩
    | succ j => simp at hx; exact koksN_get h.2 hx
theorem koksN_length : ∀ {ks : List Kind} {row : Row}, koksN ks row = true → row.length = ks.length
  | [], [], _ => rfl
  | [], _ :: _, h => by simp [koksN] at h
  | _ :: _, [], h => by simp [koksN] at h
  | k :: ks, x :: xs, h => by
    simp only [koksN, Bool.and_eq_true] at h
    simp [koksN_length h.2]
def cellOf (w : World) (hd : Hd) (i j : Nat) : Option Value := match hd.v with | .slice (some a) _ _ => w.cell? (a.add (i * hd.sz + j)) | _ => none
def opAt (op : Option (Nat × Nat × Nat)) (i j : Nat) : Option Nat := match op with | some (i', j', k) => if i' = i ∧ j' = j then some k else none | none => none
def NCell (X : Cx) (ρ : List Hd) (F : Addr → Prop) (w : World) (x : AV) (v : Value) : Prop :=
  match x with
  | .sub e ys => BRep X ρ F w ⟨v, (X.K e).length⟩ (.row e ys) ∧ v.oneCell' = true
  | x => Rep X.K ρ F w x v
def NRep (X : Cx) (ρ : List Hd) (F : Addr → Prop) (w : World) (hd : Hd) (t : TypeId) (xs : List Row) (op : Option (Nat × Nat × Nat)) : Prop :=
  (∀ t, ∀ k ∈ X.K t, k ≠ .any) ∧ hd.sz = (X.K t).length ∧ (∀ (i : Nat) row, xs[i]? = some row → koksN (X.K t) row = true) ∧ (∀ i j k, op = some (i, j, k) → i < xs.length ∧ j < (X.K t).length) ∧
    ((hd.v = .slice none 0 0 ∧ xs = []) ∨ ∃ g o c cur, hd.v = .slice (some ⟨g, o, none⟩) xs.length c ∧ w.heap[g]? = some (.cells cur t (0, 0)) ∧ xs.length ≤ c ∧ c ≤ maxLen ∧ o + c * hd.sz ≤ cur.size ∧
      ∀ (i : Nat) row, xs[i]? = some row → ∀ (j : Nat) x, row[j]? = some x → ∃ v, cur[o + i * hd.sz + j]? = some v ∧ (∀ k, opAt op i j = some k → ∃ h, ρ[k]? = some h ∧ v = h.v) ∧ (opAt op i j = none → NCell X ρ F w x v))
inductive Hid (w : World) (ρ : List Hd) (M : List Blk) : Nat → Option (Nat × Nat) → Nat → Prop
  | out {id : Nat} {t : TypeId} {xs : List Row} {op : Option (Nat × Nat × Nat)} {hd : Hd} {g : Nat} (hb : M[id]? = some (.nst t xs op)) (hh : ρ[id]? = some hd) (hg : hd.blk? = some g) : Hid w ρ M id none g
  | sub {id : Nat} {t : TypeId} {xs : List Row} {op : Option (Nat × Nat × Nat)} {hd : Hd} {i j : Nat} {row : Row} {e : TypeId} {ys : List Row} {v : Value} {g : Nat} (hb : M[id]? = some (.nst t xs op)) (hh : ρ[id]? = some hd)
      (hi : xs[i]? = some row) (hj : row[j]? = some (.sub e ys)) (ho : opAt op i j = none) (hc : cellOf w hd i j = some v) (hg : Value.blk? v = some g) : Hid w ρ M id (some (i, j)) g
def Ours (ρ : List Hd) (M : List Blk) (g : Nat) : Prop := ∃ (id : Nat) (b : Blk) (hd : Hd), M[id]? = some b ∧ b.isDead = false ∧ ρ[id]? = some hd ∧ hd.blk? = some g
structure Nst (X : Cx) (w0 : World) (S : Sc) (F : Addr → Prop) (ρ : List Hd) (M : List Blk) (w : World) : Prop where
  own : ∀ {id : Nat} {p : Option (Nat × Nat)} {g : Nat}, Hid w ρ M id p g → g < w.heap.size ∧ (S g ∨ w0.heap.size ≤ g) ∧ (∀ a, F a → a.block ≠ g) ∧ ¬ Ours ρ M g
  inj : ∀ {id id' : Nat} {p p' : Option (Nat × Nat)} {g : Nat}, Hid w ρ M id p g → Hid w ρ M id' p' g → id = id' ∧ p = p'
  rep : ∀ {id : Nat} {t : TypeId} {xs : List Row} {op : Option (Nat × Nat × Nat)} {hd : Hd}, M[id]? = some (.nst t xs op) → ρ[id]? = some hd → NRep X ρ F w hd t xs op
structure Inv (X : Cx) (w0 : World) (S : Sc) (F : Addr → Prop) (ρ : List Hd) (M : List Blk) (w : World) : Prop where
  os : w.os = w0.os
  tape : w.tape = w0.tape
  output : w.output = w0.output
  size : w0.heap.size ≤ w.heap.size
  frame : ∀ g, g < w0.heap.size → ¬ S g → w.heap[g]? = w0.heap[g]?
  len : ρ.length = M.length
  rep : ∀ (id : Nat) b hd, M[id]? = some b → ρ[id]? = some hd → BRep X ρ F w hd b
  sep : ∀ (id : Nat) b hd g, M[id]? = some b → b.isDead = false → ρ[id]? = some hd → hd.blk? = some g → g < w.heap.size ∧ (S g ∨ w0.heap.size ≤ g) ∧ ∀ a, F a → a.block ≠ g
  disj : ∀ (id id' : Nat) b b' hd hd' g, id ≠ id' → M[id]? = some b → M[id']? = some b' → b.isDead = false → b'.isDead = false → ρ[id]? = some hd → ρ[id']? = some hd' →
    hd.blk? = some g → hd'.blk? ≠ some g
  fz : ∀ a, F a → a.block < w.heap.size
  glob : ∀ g, Rep X.K ρ F w (X.glob g) (.pointer (some ⟨g, 0, none⟩))
  one : ∀ (id : Nat) hd, ρ[id]? = some hd → hd.v.oneCell' = true
  old : ∀ a, F a → S.F0 a ∨ S a.block ∨ w0.heap.size ≤ a.block
  fin : ∀ a, S.F0 a → F a
  nst : Nst X w0 S F ρ M w
theorem EnvRep.mono {ρ ρ' : List Hd} {F F' : Addr → Prop} {w w' : World} (hρ : ∀ (id : Nat) hd, ρ[id]? = some hd → ρ'[id]? = some hd) (hF : ∀ a, F a → F' a)
    (hw : ∀ a v, F a → w.cell? a = some v → w'.cell? a = some v) {env : List (Nat × AV)} {tmps : Array Value} (h : EnvRep X ρ F w env tmps) : EnvRep X ρ' F' w' env tmps :=
  fun t => (h t).mono hρ hF hw
theorem BRep.mono {ρ ρ' : List Hd} {F F' : Addr → Prop} {w w' : World} (hρ : ∀ (id : Nat) hd, ρ[id]? = some hd → ρ'[id]? = some hd) (hF : ∀ a, F a → F' a)
    (hw : ∀ a v, F a → w.cell? a = some v → w'.cell? a = some v) {hd : Hd} {b : Blk} (hg : ∀ g, hd.blk? = some g → w'.heap[g]? = w.heap[g]?) (h : BRep X ρ F w hd b) : BRep X ρ' F' w' hd b := by
  cases b with
  | var ks cs =>
    obtain ⟨h1, h2, g, cur, e, hv, hh, hr, hy⟩ := h
    exact ⟨h1, h2, g, cur, e, hv, by rw [hg g (by simp [Hd.blk?, Value.blk?, hv])]; exact hh, ⟨hr.1, fun j x v hx hv => (hr.2 j x v hx hv).mono hρ hF hw⟩, hy⟩
  | row t xs =>
    obtain ⟨h1, h2, h3⟩ := h
    refine ⟨h1, h2, ?_⟩
    rcases h3 with h3 | ⟨g, o, c, cur, hv, hh, h4, h5, h6, h7⟩
    · exact .inl h3
    · refine .inr ⟨g, o, c, cur, hv, by rw [hg g (by simp [Hd.blk?, Value.blk?, hv])]; exact hh, h4, h5, h6, fun i row hi j x hx => ?_⟩
      obtain ⟨v, hcv, hr⟩ := h7 i row hi j x hx
      exact ⟨v, hcv, hr.mono hρ hF hw⟩
  | map kd ag ks es =>
    obtain ⟨hkd, g, mes, clock, hv, hh, hsz, hes⟩ := h
    exact ⟨hkd, g, mes, clock, hv, by rw [hg g (by simp [Hd.blk?, Value.blk?, hv])]; exact hh, hsz, fun i e me he hm => let ⟨a, r1, r2⟩ := hes i e me he hm; ⟨a, r1.mono hρ hF hw, r2.mono hρ hF hw⟩⟩
  | loop s env busy pend =>
    obtain ⟨g, lp, hv, hh, h1, h2, h3, h4, h5, h6⟩ := h
    exact ⟨g, lp, hv, by rw [hg g (by simp [Hd.blk?, Value.blk?, hv])]; exact hh, h1, h2, h3, h4, h5.mono hρ hF hw, h6⟩
  | dfr =>
    obtain ⟨g, hv, hh⟩ := h
    exact ⟨g, hv, by rw [hg g (by simp [Hd.blk?, Value.blk?, hv])]; exact hh⟩
  | fro t xs => exact Rep.mono hρ hF hw h
  | dead => trivial
  | nst _ _ _ => trivial
theorem BRep.mono_dead {ρ ρ' : List Hd} {F F' : Addr → Prop} {w w' : World} (hρ : ∀ (id : Nat) hd, ρ[id]? = some hd → ρ'[id]? = some hd) (hF : ∀ a, F a → F' a)
    (hw : ∀ a v, F a → w.cell? a = some v → w'.cell? a = some v) {hd : Hd} {b : Blk} (hb : b.isDead = true) (h : BRep X ρ F w hd b) : BRep X ρ' F' w' hd b := by
  cases b with
  | fro t xs => exact Rep.mono hρ hF hw h
  | dead => trivial
  | nst _ _ _ => trivial
  | _ => simp [Blk.isDead] at hb
theorem cellOf_eq {w w' : World} {hd : Hd} (h : ∀ g, hd.blk? = some g → w'.heap[g]? = w.heap[g]?) (i j : Nat) : cellOf w' hd i j = cellOf w hd i j := by
  unfold cellOf
  split
  · rename_i a n c hv
    have e : ∀ m, (a.add m).block = a.block := fun m => by unfold Addr.add; split <;> rfl
    unfold World.cell?
    rw [e, h a.block (by simp [Hd.blk?, Value.blk?, hv])]
  · rfl
theorem NRep.mono {ρ ρ' : List Hd} {F F' : Addr → Prop} {w w' : World} (hρ : ∀ (id : Nat) hd, ρ[id]? = some hd → ρ'[id]? = some hd) (hF : ∀ a, F a → F' a)
    (hw : ∀ a v, F a → w.cell? a = some v → w'.cell? a = some v) {hd : Hd} {t : TypeId} {xs : List Row} {op : Option (Nat × Nat × Nat)} (hg : ∀ g, hd.blk? = some g → w'.heap[g]? = w.heap[g]?)
    (hs : ∀ (i j : Nat) row e ys v g, xs[i]? = some row → row[j]? = some (.sub e ys) → opAt op i j = none → cellOf w hd i j = some v → Value.blk? v = some g → w'.heap[g]? = w.heap[g]?)
    (h : NRep X ρ F w hd t xs op) : NRep X ρ' F' w' hd t xs op := by
  obtain ⟨h0, h1, h2, h3, h4⟩ := h
  refine ⟨h0, h1, h2, h3, ?_⟩
  rcases h4 with h4 | ⟨g, o, c, cur, hv, hh, h5, h6, h7, h8⟩
  · exact .inl h4
  · refine .inr ⟨g, o, c, cur, hv, by rw [hg g (by simp [Hd.blk?, Value.blk?, hv])]; exact hh, h5, h6, h7, fun i row hi j x hx => ?_⟩
    obtain ⟨v, hcv, ho, hr⟩ := h8 i row hi j x hx
    refine ⟨v, hcv, fun k hk => let ⟨h', e1, e2⟩ := ho k hk; ⟨h', hρ _ _ e1, e2⟩, fun hk => ?_⟩
    have hr := hr hk
    have hcell : cellOf w hd i j = some v := by
      simp only [cellOf, hv]
      rw [Addr.add_lit, cell_of_row w g _ cur t (0, 0) hh, ← Nat.add_assoc]
      exact hcv
    unfold NCell at hr ⊢
    split at hr
    · exact ⟨hr.1.mono hρ hF hw (fun g' hg' => hs i j row _ _ v g' hi hx hk hcell hg'), hr.2⟩
    · exact hr.mono hρ hF hw
theorem Hid.pop {w : World} {ρ : List Hd} {M : List Blk} {hd : Hd} {b : Blk} (hlen : ρ.length = M.length) (hn : b.isNst = false) {id : Nat} {p : Option (Nat × Nat)} {g : Nat} (hh : Hid w (ρ ++ [hd]) (M ++ [b]) id p g) : Hid w ρ M id p g := by
  have keep : ∀ {c : Blk}, (M ++ [b])[id]? = some c → c.isNst = true → M[id]? = some c := fun {c} hc hcn => by
    by_cases hi : id < M.length
    · rw [List.getElem?_append_left hi] at hc; exact hc
    · rw [List.getElem?_append_right (by omega)] at hc
      have : id - M.length = 0 := by
        have := (List.getElem?_eq_some_iff.1 hc).1
        simp at this; omega
      rw [this] at hc; simp at hc
      subst hc
      rw [hn] at hcn; cases hcn
  cases hh with
  | out hb hh hg =>
    have hb := keep hb rfl
    have hl := (List.getElem?_eq_some_iff.1 hb).1
    rw [List.getElem?_append_left (by omega)] at hh
    exact .out hb hh hg
  | sub hb hh hi hj ho hc hg =>
    have hb := keep hb rfl
    have hl := (List.getElem?_eq_some_iff.1 hb).1
    rw [List.getElem?_append_left (by omega)] at hh
    exact .sub hb hh hi hj ho hc hg
theorem Hid.back0 {w w' : World} {ρ ρ' : List Hd} {M M' : List Blk} (hlen : ρ.length = M.length)
    (hM : ∀ (id : Nat) b, M'[id]? = some b → b.isNst = true → M[id]? = some b) (hρ : ∀ (id : Nat) hd, ρ[id]? = some hd → id < ρ'.length → ρ'[id]? = some hd)
    (hid : ∀ g, (∃ id p, Hid w ρ M id p g ∧ ∃ b, M'[id]? = some b ∧ b.isNst = true) → w'.heap[g]? = w.heap[g]?) {id : Nat} {p : Option (Nat × Nat)} {g : Nat} (hh : Hid w' ρ' M' id p g) : Hid w ρ M id p g := by
  have back : ∀ {id : Nat} {t : TypeId} {xs : List Row} {op : Option (Nat × Nat × Nat)} {hd : Hd}, M'[id]? = some (.nst t xs op) → ρ'[id]? = some hd → M[id]? = some (.nst t xs op) ∧ ρ[id]? = some hd := by
    intro id t xs op hd hb hh
    have hb0 := hM id _ hb rfl
    have hl : id < ρ.length := by rw [hlen]; exact (List.getElem?_eq_some_iff.1 hb0).1
    have h0 := List.getElem?_eq_getElem hl
    have := hρ id _ h0 (List.getElem?_eq_some_iff.1 hh).1
    rw [hh] at this
    exact ⟨hb0, by rw [h0, this]⟩
  cases hh with
  | out hb hh hg =>
    obtain ⟨b1, b2⟩ := back hb hh
    exact .out b1 b2 hg
  | sub hb hh hi hj ho hc hg =>
    obtain ⟨b1, b2⟩ := back hb hh
    refine .sub b1 b2 hi hj ho ?_ hg
    unfold cellOf at hc ⊢
    split at hc
    · rename_i a n c hv
      have hp := hid a.block ⟨_, _, .out b1 b2 (g := a.block) (by simp [Hd.blk?, Value.blk?, hv]), _, hb, rfl⟩
      have e : ∀ m, (a.add m).block = a.block := fun m => by unfold Addr.add; split <;> rfl
      unfold World.cell? at hc ⊢
      rw [e] at hc ⊢
      rw [← hp]; exact hc
    · cases hc
theorem Hid.back {w0 w w' : World} {S : Sc} {F : Addr → Prop} {ρ ρ' : List Hd} {M M' : List Blk} (h : Nst X w0 S F ρ M w) (hlen : ρ.length = M.length)
    (hM : ∀ (id : Nat) b, M'[id]? = some b → b.isNst = true → M[id]? = some b) (hρ : ∀ (id : Nat) hd, ρ[id]? = some hd → id < ρ'.length → ρ'[id]? = some hd)
    (hid : ∀ g, g < w.heap.size → (S g ∨ w0.heap.size ≤ g) → (∀ a, F a → a.block ≠ g) → ¬ Ours ρ M g → w'.heap[g]? = w.heap[g]?) {id : Nat} {p : Option (Nat × Nat)} {g : Nat} (hh : Hid w' ρ' M' id p g) : Hid w ρ M id p g :=
  hh.back0 (w := w) hlen hM hρ fun g ⟨_, _, hg, _⟩ => let ⟨a1, a2, a3, a4⟩ := h.own hg; hid g a1 a2 a3 a4
theorem Nst.step0 {w0 w0' w w' : World} {S S' : Sc} {F F' : Addr → Prop} {ρ ρ' : List Hd} {M M' : List Blk} (h : Nst X w0 S F ρ M w) (hlen : ρ.length = M.length)
    (hM : ∀ (id : Nat) b, M'[id]? = some b → b.isNst = true → M[id]? = some b) (hρ : ∀ (id : Nat) hd, ρ[id]? = some hd → id < ρ'.length → ρ'[id]? = some hd)
    (hrp : ∀ {id : Nat} {t : TypeId} {xs : List Row} {op : Option (Nat × Nat × Nat)} {hd : Hd}, M'[id]? = some (.nst t xs op) → ρ'[id]? = some hd → NRep X ρ F w hd t xs op → (∀ g, hd.blk? = some g → w'.heap[g]? = w.heap[g]?) →
      (∀ (i j : Nat) row e ys v g, xs[i]? = some row → row[j]? = some (.sub e ys) → opAt op i j = none → cellOf w hd i j = some v → Value.blk? v = some g → w'.heap[g]? = w.heap[g]?) → NRep X ρ' F' w' hd t xs op)
    (hid : ∀ g, (∃ id p, Hid w ρ M id p g ∧ ∃ b, M'[id]? = some b ∧ b.isNst = true) → g < w'.heap.size ∧ (S' g ∨ w0'.heap.size ≤ g) ∧ w'.heap[g]? = w.heap[g]? ∧ (∀ a, F' a → a.block ≠ g) ∧ ¬ Ours ρ' M' g) :
    Nst X w0' S' F' ρ' M' w' := by
  have back : ∀ {id : Nat} {t : TypeId} {xs : List Row} {op : Option (Nat × Nat × Nat)} {hd : Hd}, M'[id]? = some (.nst t xs op) → ρ'[id]? = some hd → M[id]? = some (.nst t xs op) ∧ ρ[id]? = some hd := by
    intro id t xs op hd hb hh
    have hb0 := hM id _ hb rfl
    have hl : id < ρ.length := by rw [hlen]; exact (List.getElem?_eq_some_iff.1 hb0).1
    have h0 := List.getElem?_eq_getElem hl
    have := hρ id _ h0 (List.getElem?_eq_some_iff.1 hh).1
    rw [hh] at this
    exact ⟨hb0, by rw [h0, this]⟩
  have out : ∀ {id : Nat} {t : TypeId} {xs : List Row} {op : Option (Nat × Nat × Nat)} {hd : Hd} {g : Nat}, M[id]? = some (.nst t xs op) → ρ[id]? = some hd → (∃ b, M'[id]? = some b ∧ b.isNst = true) → hd.blk? = some g → w'.heap[g]? = w.heap[g]? := by
    intro id t xs op hd g hb hh h' hg
    exact (hid g ⟨_, _, .out hb hh hg, h'⟩).2.2.1
  have hb : ∀ {id : Nat} {p : Option (Nat × Nat)} {g : Nat}, Hid w' ρ' M' id p g → Hid w ρ M id p g := fun hh => hh.back0 hlen hM hρ fun g hg => (hid g hg).2.2.1
  refine ⟨fun hh => ?_, fun h1 h2 => h.inj (hb h1) (hb h2), fun {id t xs op hd} hb' hh => ?_⟩
  · obtain ⟨c1, c2, _, c3, c4⟩ := hid _ ⟨_, _, hb hh, by cases hh with | out h _ _ => exact ⟨_, h, rfl⟩ | sub h _ _ _ _ _ _ => exact ⟨_, h, rfl⟩⟩
    exact ⟨c1, c2, c3, c4⟩
  · obtain ⟨b1, b2⟩ := back hb' hh
    exact hrp hb' hh (h.rep b1 b2) (fun g hg => out b1 b2 ⟨_, hb', rfl⟩ hg) fun i j row e ys v g hi hx ho hc hg => (hid _ ⟨_, _, .sub b1 b2 hi hx ho hc hg, _, hb', rfl⟩).2.2.1
theorem Nst.step {w0 w0' w w' : World} {S S' : Sc} {F F' : Addr → Prop} {ρ ρ' : List Hd} {M M' : List Blk} (h : Nst X w0 S F ρ M w) (hlen : ρ.length = M.length)
    (hM : ∀ (id : Nat) b, M'[id]? = some b → b.isNst = true → M[id]? = some b) (hρ : ∀ (id : Nat) hd, ρ[id]? = some hd → id < ρ'.length → ρ'[id]? = some hd)
    (hrp : ∀ {id : Nat} {t : TypeId} {xs : List Row} {op : Option (Nat × Nat × Nat)} {hd : Hd}, M'[id]? = some (.nst t xs op) → ρ'[id]? = some hd → NRep X ρ F w hd t xs op → (∀ g, hd.blk? = some g → w'.heap[g]? = w.heap[g]?) →
      (∀ (i j : Nat) row e ys v g, xs[i]? = some row → row[j]? = some (.sub e ys) → opAt op i j = none → cellOf w hd i j = some v → Value.blk? v = some g → w'.heap[g]? = w.heap[g]?) → NRep X ρ' F' w' hd t xs op)
    (hid : ∀ g, g < w.heap.size → (S g ∨ w0.heap.size ≤ g) → (∀ a, F a → a.block ≠ g) → ¬ Ours ρ M g → g < w'.heap.size ∧ (S' g ∨ w0'.heap.size ≤ g) ∧ w'.heap[g]? = w.heap[g]? ∧ (∀ a, F' a → a.block ≠ g) ∧ ¬ Ours ρ' M' g) :
    Nst X w0' S' F' ρ' M' w' :=
  h.step0 hlen hM hρ hrp fun g ⟨_, _, hg, _⟩ => let ⟨a1, a2, a3, a4⟩ := h.own hg; hid g a1 a2 a3 a4
theorem Nst.stay {w0 w0' w w' : World} {S S' : Sc} {F F' : Addr → Prop} {ρ ρ' : List Hd} {M M' : List Blk} (h : Nst X w0 S F ρ M w) (hlen : ρ.length = M.length)
    (hM : ∀ (id : Nat) b, M'[id]? = some b → b.isNst = true → M[id]? = some b) (hρ : ∀ (id : Nat) hd, ρ[id]? = some hd → ρ'[id]? = some hd) (hF : ∀ a, F a → F' a) (hw : ∀ a v, F a → w.cell? a = some v → w'.cell? a = some v)
    (hid : ∀ g, g < w.heap.size → (S g ∨ w0.heap.size ≤ g) → (∀ a, F a → a.block ≠ g) → ¬ Ours ρ M g → g < w'.heap.size ∧ (S' g ∨ w0'.heap.size ≤ g) ∧ w'.heap[g]? = w.heap[g]? ∧ (∀ a, F' a → a.block ≠ g) ∧ ¬ Ours ρ' M' g) :
    Nst X w0' S' F' ρ' M' w' :=
  h.step hlen hM (fun id hd hh _ => hρ id hd hh) (fun _ _ hr h1 h2 => hr.mono hρ hF hw h1 h2) hid
theorem Nst.set {w0 w : World} {S : Sc} {F : Addr → Prop} {ρ : List Hd} {M : List Blk} (h : Nst X w0 S F ρ M w) {id : Nat} {b : Blk} (hn : b.isNst = false)
    (ho : ∀ g hd, b.isDead = false → ρ[id]? = some hd → hd.blk? = some g → Ours ρ M g ∨ ∀ i p, ¬ Hid w ρ M i p g) : Nst X w0 S F ρ (M.set id b) w := by
  have keep : ∀ (i : Nat) c, (M.set id b)[i]? = some c → c.isNst = true → M[i]? = some c := fun i c hc hcn => by
    by_cases hi : i = id
    · subst hi
      have hlt : i < M.length := by have := (List.getElem?_eq_some_iff.1 hc).1; simpa using this
      rw [List.getElem?_set_self hlt] at hc
      injection hc with hc
      subst hc
      rw [hn] at hcn; cases hcn
    · rw [List.getElem?_set_ne (Ne.symm hi)] at hc; exact hc
  have back : ∀ {i : Nat} {p : Option (Nat × Nat)} {g : Nat}, Hid w ρ (M.set id b) i p g → Hid w ρ M i p g := by
    intro i p g hh
    cases hh with
    | out hb hh hg => exact .out (keep _ _ hb rfl) hh hg
    | sub hb hh hi hj ho hc hg => exact .sub (keep _ _ hb rfl) hh hi hj ho hc hg
  refine ⟨fun hh => ?_, fun h1 h2 => h.inj (back h1) (back h2), fun hb hh => h.rep (keep _ _ hb rfl) hh⟩
  obtain ⟨a1, a2, a3, a4⟩ := h.own (back hh)
  refine ⟨a1, a2, a3, ?_⟩
  rintro ⟨i, c, hc, q1, q2, q3, q4⟩
  by_cases hi : i = id
  · subst hi
    have hlt : i < M.length := by have := (List.getElem?_eq_some_iff.1 q1).1; simpa using this
    rw [List.getElem?_set_self hlt] at q1
    injection q1 with q1
    subst q1
    rcases ho _ _ q2 q3 q4 with h | h
    · exact a4 h
    · exact h _ _ (back hh)
  · rw [List.getElem?_set_ne (Ne.symm hi)] at q1; exact a4 ⟨i, c, hc, q1, q2, q3, q4⟩
theorem Nst.none {w0 w : World} {S : Sc} {F : Addr → Prop} {ρ : List Hd} {M : List Blk} (h : ∀ b ∈ M, b.isNst = false) : Nst X w0 S F ρ M w := by
  have no : ∀ {id : Nat} {t : TypeId} {xs : List Row} {op : Option (Nat × Nat × Nat)}, M[id]? = some (.nst t xs op) → False := fun hb => by have := h _ (List.mem_of_getElem? hb); cases this
  refine ⟨fun hh => ?_, fun hh _ => ?_, fun hb _ => (no hb).elim⟩
  · cases hh with
    | out hb _ _ => exact (no hb).elim
    | sub hb _ _ _ _ _ _ => exact (no hb).elim
  · cases hh with
    | out hb _ _ => exact (no hb).elim
    | sub hb _ _ _ _ _ _ => exact (no hb).elim
theorem isNst_dead {b : Blk} (h : b.isNst = true) : b.isDead = true := by cases b <;> simp_all [Blk.isNst, Blk.isDead]
section
variable {w0 w w' : World} {S : Sc} {F : Addr → Prop} {ρ : List Hd} {M : List Blk}
theorem Inv.cells (hI : Inv X w0 S F ρ M w) {row : Option Nat} (hg : w.grownBy w' row) (hrow : ∀ k, row = some k → ∀ a, F a → a.block ≠ k) :
    ∀ a v, F a → w.cell? a = some v → w'.cell? a = some v := by
  intro a v hF hc
  refine hg.cell hc ?_
  intro e
  exact hrow _ e.symm a hF rfl
theorem getElem?_append_old {α : Type} {l : List α} {x y : α} {i : Nat} (h : l[i]? = some y) : (l ++ [x])[i]? = some y := by
  rw [List.getElem?_append_left (List.getElem?_eq_some_iff.1 h).1]; exact h
theorem Inv.grown (hI : Inv X w0 S F ρ M w) (hg : w.grownBy w' none) : Inv X w0 S F ρ M w' where
  os := hg.os.trans hI.os
  tape := hg.tape.trans hI.tape
  output := hg.output.trans hI.output
  size := Nat.le_trans hI.size hg.size
  frame := fun g h1 h2 => (hg.block g (Nat.lt_of_lt_of_le h1 hI.size) (by simp)).trans (hI.frame g h1 h2)
  len := hI.len
  rep := fun id b hd hb hh => by
    by_cases hd' : b.isDead = true
    · exact (hI.rep id b hd hb hh).mono_dead (fun _ _ h => h) (fun _ h => h) (hI.cells hg (by simp)) hd'
    · refine (hI.rep id b hd hb hh).mono (fun _ _ h => h) (fun _ h => h) (hI.cells hg (by simp)) ?_
      intro g hgb
      exact hg.block g (hI.sep id b hd g hb (by simpa using hd') hh hgb).1 (by simp)
  sep := fun id b hd g hb hdd hh hgb => let ⟨a1, a2, a3⟩ := hI.sep id b hd g hb hdd hh hgb; ⟨Nat.lt_of_lt_of_le a1 hg.size, a2, a3⟩
  disj := hI.disj
  fz := fun a ha => Nat.lt_of_lt_of_le (hI.fz a ha) hg.size
  glob := fun g => (hI.glob g).mono (fun _ _ h => h) (fun _ h => h) (hI.cells hg (by simp))
  one := hI.one
  old := hI.old
  fin := hI.fin
  nst := hI.nst.stay hI.len (fun _ _ h _ => h) (fun _ _ h => h) (fun _ h => h) (hI.cells hg (by simp)) fun g h1 h2 h3 h4 => ⟨Nat.lt_of_lt_of_le h1 hg.size, h2, hg.block g h1 (by simp), h3, h4⟩
theorem Inv.write (hI : Inv X w0 S F ρ M w) {id : Nat} {b b' : Blk} {hd : Hd} {g : Nat} (hb : M[id]? = some b) (hdead : b.isDead = false) (hh : ρ[id]? = some hd) (hgb : hd.blk? = some g)
    (hg : w.grownBy w' (some g)) (hrep : BRep X ρ F w' hd b') (hn : b'.isNst = false := by rfl) : Inv X w0 S F ρ (M.set id b') w' where
  os := hg.os.trans hI.os
  tape := hg.tape.trans hI.tape
  output := hg.output.trans hI.output
  size := Nat.le_trans hI.size hg.size
  frame := fun k h1 h2 => by
    have hs := hI.sep id b hd g hb hdead hh hgb
    refine (hg.block k (Nat.lt_of_lt_of_le h1 hI.size) ?_).trans (hI.frame k h1 h2)
    intro e
    injection e with e
    subst e
    rcases hs.2.1 with h | h
    · exact h2 h
    · omega
  len := by simpa using hI.len
  rep := fun id' c hd' hc hh' => by
    by_cases hid : id' = id
    · subst hid
      rw [hh] at hh'
      injection hh' with hh'
      subst hh'
      have hlt := (List.getElem?_eq_some_iff.1 hb).1
      rw [List.getElem?_set_self hlt] at hc
      injection hc with hc
      subst hc
      exact hrep
    · rw [List.getElem?_set_ne (Ne.symm hid)] at hc
      have hs := hI.sep id b hd g hb hdead hh hgb
      by_cases hd2 : c.isDead = true
      · exact (hI.rep id' c hd' hc hh').mono_dead (fun _ _ h => h) (fun _ h => h) (hI.cells hg (fun k hk a hF => by injection hk with hk; subst hk; exact hs.2.2 a hF)) hd2
      · refine (hI.rep id' c hd' hc hh').mono (fun _ _ h => h) (fun _ h => h) (hI.cells hg ?_) ?_
        · intro k hk a hF
          injection hk with hk
          subst hk
          exact hs.2.2 a hF
        · intro g' hg'
          refine hg.block g' (hI.sep id' c hd' g' hc (by simpa using hd2) hh' hg').1 ?_
          intro e
          injection e with e
          subst e
          exact hI.disj id' id c b hd' hd g' hid hc hb (by simpa using hd2) hdead hh' hh hg' hgb
  sep := fun id' c hd' g' hc hd2 hh' hg' => by
    by_cases hid : id' = id
    · subst hid
      rw [hh] at hh'
      injection hh' with hh'
      subst hh'
      obtain ⟨a1, a2, a3⟩ := hI.sep id' b hd g' hb hdead hh hg'
      exact ⟨Nat.lt_of_lt_of_le a1 hg.size, a2, a3⟩
    · rw [List.getElem?_set_ne (Ne.symm hid)] at hc
      obtain ⟨a1, a2, a3⟩ := hI.sep id' c hd' g' hc hd2 hh' hg'
      exact ⟨Nat.lt_of_lt_of_le a1 hg.size, a2, a3⟩
  disj := fun i j c d hc hd' k hij h1 h2 h3 h4 h5 h6 h7 => by
    have key : ∀ (i : Nat) c, (M.set id b')[i]? = some c → c.isDead = false → ∃ c0, M[i]? = some c0 ∧ c0.isDead = false := by
      intro i c hc hcd
      by_cases hid : i = id
      · subst hid; exact ⟨b, hb, hdead⟩
      · rw [List.getElem?_set_ne (Ne.symm hid)] at hc; exact ⟨c, hc, hcd⟩
    obtain ⟨c0, a1, a2⟩ := key i c h1 h3
    obtain ⟨d0, b1, b2⟩ := key j d h2 h4
    exact hI.disj i j c0 d0 hc hd' k hij a1 b1 a2 b2 h5 h6 h7
  fz := fun a ha => Nat.lt_of_lt_of_le (hI.fz a ha) hg.size
  glob := fun k => (hI.glob k).mono (fun _ _ h => h) (fun _ h => h) (hI.cells hg (fun j hj a hF => by injection hj with hj; subst hj; exact (hI.sep id b hd g hb hdead hh hgb).2.2 a hF))
  one := hI.one
  old := hI.old
  fin := hI.fin
  nst := by
    have hs := hI.sep id b hd g hb hdead hh hgb
    refine hI.nst.stay hI.len (fun i c hc hcn => ?_) (fun _ _ h => h) (fun _ h => h) (hI.cells hg (fun k hk a hF => by injection hk with hk; subst hk; exact hs.2.2 a hF)) fun k h1 h2 h3 h4 => ⟨Nat.lt_of_lt_of_le h1 hg.size, h2, hg.block k h1 ?_, h3, ?_⟩
    · by_cases hid : i = id
      · subst hid
        have hlt := (List.getElem?_eq_some_iff.1 hb).1
        rw [List.getElem?_set_self hlt] at hc
        injection hc with hc
        subst hc
        rw [hn] at hcn; cases hcn
      · rw [List.getElem?_set_ne (Ne.symm hid)] at hc; exact hc
    · intro e
      injection e with e
      subst e
      exact h4 ⟨id, b, hd, hb, hdead, hh, hgb⟩
    · rintro ⟨i, c, hc, q1, q2, q3, q4⟩
      by_cases hid : i = id
      · subst hid; rw [hh] at q3; injection q3 with q3; subst q3; exact h4 ⟨i, b, hd, hb, hdead, hh, q4⟩
      · rw [List.getElem?_set_ne (Ne.symm hid)] at q1; exact h4 ⟨i, c, hc, q1, q2, q3, q4⟩
theorem Inv.push' (hI : Inv X w0 S F ρ M w) {b : Blk} {hd : Hd} (hnew : ∀ g, hd.blk? = some g → g < w.heap.size ∧ (S g ∨ w0.heap.size ≤ g) ∧ (∀ a, F a → a.block ≠ g) ∧
      (∀ (id : Nat) b' hd', M[id]? = some b' → b'.isDead = false → ρ[id]? = some hd' → hd'.blk? ≠ some g) ∧ ∀ id p, ¬ Hid w ρ M id p g)
    (h1 : hd.v.oneCell' = true) (hrep : BRep X (ρ ++ [hd]) F w hd b) (hn : b.isNst = false := by rfl) : Inv X w0 S F (ρ ++ [hd]) (M ++ [b]) w := by
  have hlen := hI.len
  have split : ∀ (i : Nat) c, (M ++ [b])[i]? = some c → (i < M.length ∧ M[i]? = some c) ∨ (i = M.length ∧ c = b) := by
    intro i c hc
    by_cases hi : i < M.length
    · rw [List.getElem?_append_left hi] at hc; exact .inl ⟨hi, hc⟩
    · rw [List.getElem?_append_right (by omega)] at hc
      have : i - M.length = 0 := by
        have := (List.getElem?_eq_some_iff.1 hc).1
        simp at this; omega
      rw [this] at hc; simp at hc
      exact .inr ⟨by omega, hc.symm⟩
  have splitR : ∀ (i : Nat) h, (ρ ++ [hd])[i]? = some h → (i < M.length ∧ ρ[i]? = some h) ∨ (i = M.length ∧ h = hd) := by
    intro i h hh
    by_cases hi : i < ρ.length
    · rw [List.getElem?_append_left hi] at hh; exact .inl ⟨by omega, hh⟩
    · rw [List.getElem?_append_right (by omega)] at hh
      have : i - ρ.length = 0 := by
        have := (List.getElem?_eq_some_iff.1 hh).1
        simp at this; omega
      rw [this] at hh; simp at hh
      exact .inr ⟨by omega, hh.symm⟩
  have hnst : Nst X w0 S F (ρ ++ [hd]) (M ++ [b]) w := by
    have keep : ∀ (id : Nat) c, (M ++ [b])[id]? = some c → c.isNst = true → M[id]? = some c := fun id c hc hcn => by
      rcases split id c hc with ⟨_, hc⟩ | ⟨_, rfl⟩
      · exact hc
      · rw [hn] at hcn; cases hcn
    have back : ∀ {id p g}, Hid w (ρ ++ [hd]) (M ++ [b]) id p g → Hid w ρ M id p g := by
      intro id p g hh
      cases hh with
      | out hb hh hg =>
        have hb := keep _ _ hb rfl
        have hl := (List.getElem?_eq_some_iff.1 hb).1
        rw [List.getElem?_append_left (by omega)] at hh
        exact .out hb hh hg
      | sub hb hh hi hj ho hc hg =>
        have hb := keep _ _ hb rfl
        have hl := (List.getElem?_eq_some_iff.1 hb).1
        rw [List.getElem?_append_left (by omega)] at hh
        exact .sub hb hh hi hj ho hc hg
    refine ⟨fun hh => ?_, fun h1 h2 => hI.nst.inj (back h1) (back h2), fun {id t xs op h} hb hh => ?_⟩
    · obtain ⟨a1, a2, a3, a4⟩ := hI.nst.own (back hh)
      refine ⟨a1, a2, a3, ?_⟩
      rintro ⟨i, c, hc, q1, q2, q3, q4⟩
      rcases split i c q1 with ⟨_, m1⟩ | ⟨hi, e1⟩
      · rcases splitR i hc q3 with ⟨_, m3⟩ | ⟨_, _⟩
        · exact a4 ⟨i, c, hc, m1, q2, m3, q4⟩
        · omega
      · rcases splitR i hc q3 with ⟨_, _⟩ | ⟨_, e3⟩
        · omega
        · exact (hnew _ (e3 ▸ q4)).2.2.2.2 _ _ (back hh)
    · have hb := keep _ _ hb rfl
      have hl := (List.getElem?_eq_some_iff.1 hb).1
      rw [List.getElem?_append_left (by omega)] at hh
      exact (hI.nst.rep hb hh).mono (fun _ _ h => getElem?_append_old h) (fun _ h => h) (fun _ _ _ h => h) (fun _ _ => rfl) (fun _ _ _ _ _ _ _ _ _ _ _ _ => rfl)
  refine ⟨hI.os, hI.tape, hI.output, hI.size, hI.frame, by simp [hlen], ?_, ?_, ?_, hI.fz, fun g => (hI.glob g).mono (fun _ _ h => getElem?_append_old h) (fun _ h => h) (fun _ _ _ h => h), fun id h hh => by
    rcases splitR id h hh with ⟨_, hh⟩ | ⟨_, rfl⟩
    · exact hI.one id h hh
    · exact h1, hI.old, hI.fin, hnst⟩
  · intro id c h hc hh
    rcases split id c hc with ⟨hi, hc⟩ | ⟨hi, rfl⟩
    · rcases splitR id h hh with ⟨_, hh⟩ | ⟨h2, _⟩
      · exact (hI.rep id c h hc hh).mono (fun _ _ h => getElem?_append_old h) (fun _ h => h) (fun _ _ _ h => h) (fun _ _ => rfl)
      · omega
    · rcases splitR id h hh with ⟨h2, _⟩ | ⟨_, rfl⟩
      · omega
      · exact hrep
  · intro id c h g hc hdd hh hgb
    rcases split id c hc with ⟨hi, hc⟩ | ⟨hi, rfl⟩
    · rcases splitR id h hh with ⟨_, hh⟩ | ⟨h2, _⟩
      · exact hI.sep id c h g hc hdd hh hgb
      · omega
    · rcases splitR id h hh with ⟨h2, _⟩ | ⟨_, rfl⟩
      · omega
      · obtain ⟨a1, a2, a3, _⟩ := hnew g hgb
        exact ⟨a1, a2, a3⟩
  · intro i j c d hc hd' k hij h1 h2 h3 h4 h5 h6 h7 h8
    rcases split i c h1 with ⟨hi, m1⟩ | ⟨hi, e1⟩ <;> rcases split j d h2 with ⟨hj, m2⟩ | ⟨hj, e2⟩
    · rcases splitR i hc h5 with ⟨_, m5⟩ | ⟨_, _⟩
      · rcases splitR j hd' h6 with ⟨_, m6⟩ | ⟨_, _⟩
        · exact hI.disj i j c d hc hd' k hij m1 m2 h3 h4 m5 m6 h7 h8
        · omega
      · omega
    · rcases splitR i hc h5 with ⟨_, m5⟩ | ⟨_, _⟩
      · rcases splitR j hd' h6 with ⟨_, _⟩ | ⟨_, e6⟩
        · omega
        · exact (hnew k (e6 ▸ h8)).2.2.2.1 i c hc m1 h3 m5 h7
      · omega
    · rcases splitR i hc h5 with ⟨_, _⟩ | ⟨_, e5⟩
      · omega
      · rcases splitR j hd' h6 with ⟨_, m6⟩ | ⟨_, _⟩
        · exact (hnew k (e5 ▸ h7)).2.2.2.1 j d hd' m2 h4 m6 h8
        · omega
    · omega
theorem Inv.push (hI : Inv X w0 S F ρ M w) (hg : w.grownBy w' none) {b : Blk} {hd : Hd} (hnew : ∀ g, hd.blk? = some g → w.heap.size ≤ g ∧ g < w'.heap.size)
    (h1 : hd.v.oneCell' = true) (hrep : BRep X (ρ ++ [hd]) F w' hd b) (hn : b.isNst = false := by rfl) : Inv X w0 S F (ρ ++ [hd]) (M ++ [b]) w' := by
  refine (hI.grown hg).push' (fun g hgb => ?_) h1 hrep hn
  obtain ⟨h2, h3⟩ := hnew g hgb
  refine ⟨h3, .inr (Nat.le_trans hI.size h2), fun a ha e => ?_, fun id b' hd' hb' hdd hh hgb' => ?_, fun id p hh => ?_⟩
  · have := hI.fz a ha; omega
  · have := (hI.sep id b' hd' g hb' hdd hh hgb').1; omega
  · have := (hI.nst.own (hh.back hI.nst hI.len (fun _ _ h _ => h) (fun _ _ h _ => h) fun k h1 _ _ _ => hg.block k h1 (by simp))).1; omega
theorem Inv.move (hI : Inv X w0 S F ρ M w) {id : Nat} {b b' : Blk} {hd hd' : Hd} (hb : M[id]? = some b) (hdead : b.isDead = false) (hh : ρ[id]? = some hd) {row : Option Nat}
    (hg : w.grownBy w' row) (hrow : row = none ∨ row = hd.blk?) (hnew : ∀ g, hd'.blk? = some g → g < w'.heap.size ∧ (hd.blk? = some g ∨ w.heap.size ≤ g))
    (h1 : hd'.v.oneCell' = true) (hrep : BRep X (ρ ++ [hd']) F w' hd' b') (hn : b'.isNst = false := by rfl) : Inv X w0 S F (ρ ++ [hd']) (M.set id .dead ++ [b']) w' := by
  have hlt := (List.getElem?_eq_some_iff.1 hb).1
  have hI1 : Inv X w0 S F ρ (M.set id .dead) w' := by
    cases hgb : hd.blk? with
    | none =>
      have hg0 : w.grownBy w' none := by
        rcases hrow with h | h
        · rw [h] at hg; exact hg
        · rw [h, hgb] at hg; exact hg
      have hI0 := hI.grown hg0
      refine ⟨hI0.os, hI0.tape, hI0.output, hI0.size, hI0.frame, by simpa using hI0.len, ?_, ?_, ?_, hI0.fz, hI0.glob, hI0.one, hI0.old, hI0.fin, hI0.nst.set rfl (fun g hd hd0 => by cases hd0)⟩
      · intro i c h hc hh'
        by_cases hi : i = id
        · subst hi; rw [List.getElem?_set_self hlt] at hc; injection hc with hc; subst hc; trivial
        · rw [List.getElem?_set_ne (Ne.symm hi)] at hc; exact hI0.rep i c h hc hh'
      · intro i c h g hc hcd hh' hgb'
        by_cases hi : i = id
        · subst hi; rw [List.getElem?_set_self hlt] at hc; injection hc with hc; subst hc; simp [Blk.isDead] at hcd
        · rw [List.getElem?_set_ne (Ne.symm hi)] at hc; exact hI0.sep i c h g hc hcd hh' hgb'
      · intro i j c d h h' g hij hc hd2 hcd hdd hh' hh'' hgb' 
        have key : ∀ (i : Nat) c, (M.set id .dead)[i]? = some c → c.isDead = false → M[i]? = some c := by
          intro i c hc hcd
          by_cases hi : i = id
          · subst hi; rw [List.getElem?_set_self hlt] at hc; injection hc with hc; subst hc; simp [Blk.isDead] at hcd
          · rw [List.getElem?_set_ne (Ne.symm hi)] at hc; exact hc
        exact hI0.disj i j c d h h' g hij (key i c hc hcd) (key j d hd2 hdd) hcd hdd hh' hh'' hgb'
    | some g =>
      have hg1 : w.grownBy w' (some g) := by
        rcases hrow with h | h
        · rw [h] at hg; exact ⟨hg.os, hg.tape, hg.output, hg.size, fun k hk _ => hg.block k hk (by simp)⟩
        · rw [h, hgb] at hg; exact hg
      exact hI.write hb hdead hh hgb hg1 (b' := .dead) trivial
  have hidb : ∀ {i p g}, Hid w' ρ (M.set id .dead) i p g → Hid w ρ M i p g := by
    intro i p g hh'
    refine hh'.back hI.nst hI.len (fun i c hc hcn => ?_) (fun _ _ h _ => h) fun k q1 _ _ q4 => hg.block k q1 ?_
    · by_cases hi : i = id
      · subst hi; rw [List.getElem?_set_self hlt] at hc; injection hc with hc; subst hc; cases hcn
      · rw [List.getElem?_set_ne (Ne.symm hi)] at hc; exact hc
    · rcases hrow with h | h
      · rw [h]; simp
      · rw [h]; exact fun e => q4 ⟨id, b, hd, hb, hdead, hh, e.symm⟩
  refine hI1.push' (fun g hgb => ?_) h1 hrep hn
  obtain ⟨h2, h3⟩ := hnew g hgb
  rcases h3 with h3 | h3
  · obtain ⟨s1, s2, s3⟩ := hI.sep id b hd g hb hdead hh h3
    refine ⟨h2, s2, s3, fun i c h hc hcd hh' hgb' => ?_, fun i p hp => (hI.nst.own (hidb hp)).2.2.2 ⟨id, b, hd, hb, hdead, hh, h3⟩⟩
    by_cases hi : i = id
    · subst hi; rw [List.getElem?_set_self hlt] at hc; injection hc with hc; subst hc; simp [Blk.isDead] at hcd
    · rw [List.getElem?_set_ne (Ne.symm hi)] at hc
      exact hI.disj i id c b h hd g hi hc hb hcd hdead hh' hh hgb' h3
  · refine ⟨h2, .inr (Nat.le_trans hI.size h3), fun a ha e => ?_, fun i c h hc hcd hh' hgb' => ?_, fun i p hp => ?_⟩
    · have := hI.fz a ha; omega
    rotate_left
    · have := (hI.nst.own (hidb hp)).1; omega
    · by_cases hi : i = id
      · subst hi; rw [List.getElem?_set_self hlt] at hc; injection hc with hc; subst hc; simp [Blk.isDead] at hcd
      · rw [List.getElem?_set_ne (Ne.symm hi)] at hc
        have := (hI.sep i c h g hc hcd hh' hgb').1; omega
theorem Inv.freeze (hI : Inv X w0 S F ρ M w) {id : Nat} {b : Blk} {hd : Hd} {g : Nat} (hb : M[id]? = some b) (hdead : b.isDead = false) (hh : ρ[id]? = some hd) (hgb : hd.blk? = some g)
    {b' : Blk} (hd' : b'.isDead = true) (hrep : BRep X ρ (fun a => F a ∨ a.block = g) w hd b') (hn : b'.isNst = false := by rfl) : Inv X w0 S (fun a => F a ∨ a.block = g) ρ (M.set id b') w where
  os := hI.os
  tape := hI.tape
  output := hI.output
  size := hI.size
  frame := hI.frame
  len := by simpa using hI.len
  rep := fun id' c h' hc hh' => by
    by_cases hid : id' = id
    · subst hid
      have hlt := (List.getElem?_eq_some_iff.1 hb).1
      rw [List.getElem?_set_self hlt] at hc
      injection hc with hc
      subst hc
      rw [hh] at hh'
      injection hh' with hh'
      subst hh'
      exact hrep
    · rw [List.getElem?_set_ne (Ne.symm hid)] at hc
      exact (hI.rep id' c h' hc hh').mono (fun _ _ h => h) (fun _ h => .inl h) (fun _ _ _ h => h) (fun _ _ => rfl)
  sep := fun id' c h' g' hc hd2 hh' hg' => by
    by_cases hid : id' = id
    · subst hid
      have hlt := (List.getElem?_eq_some_iff.1 hb).1
      rw [List.getElem?_set_self hlt] at hc
      injection hc with hc
      subst hc
      rw [hd'] at hd2; cases hd2
    · rw [List.getElem?_set_ne (Ne.symm hid)] at hc
      obtain ⟨a1, a2, a3⟩ := hI.sep id' c h' g' hc hd2 hh' hg'
      refine ⟨a1, a2, fun a ha e => ?_⟩
      rcases ha with ha | ha
      · exact a3 a ha e
      · have : g' = g := by omega
        subst this
        exact hI.disj id' id c b h' hd g' hid hc hb hd2 hdead hh' hh hg' hgb
  disj := fun i j c d hc h' k hij h1 h2 h3 h4 h5 h6 h7 => by
    have key : ∀ (i : Nat) c, (M.set id b')[i]? = some c → c.isDead = false → M[i]? = some c := by
      intro i c hc hcd
      by_cases hid : i = id
      · subst hid
        have hlt := (List.getElem?_eq_some_iff.1 hb).1
        rw [List.getElem?_set_self hlt] at hc
        injection hc with hc
        subst hc
        rw [hd'] at hcd; cases hcd
      · rw [List.getElem?_set_ne (Ne.symm hid)] at hc; exact hc
    exact hI.disj i j c d hc h' k hij (key i c h1 h3) (key j d h2 h4) h3 h4 h5 h6 h7
  fz := fun a ha => by
    rcases ha with ha | ha
    · exact hI.fz a ha
    · have := (hI.sep id b hd g hb hdead hh hgb).1; omega
  glob := fun k => (hI.glob k).mono (fun _ _ h => h) (fun _ h => .inl h) (fun _ _ _ h => h)
  one := hI.one
  fin := fun a ha => .inl (hI.fin a ha)
  old := fun a ha => by
    rcases ha with ha | ha
    · exact hI.old a ha
    · rcases (hI.sep id b hd g hb hdead hh hgb).2.1 with h | h
      · exact .inr (.inl (by rw [ha]; exact h))
      · exact .inr (.inr (by rw [ha]; exact h))
  nst := by
    refine hI.nst.stay hI.len (fun i c hc hcn => ?_) (fun _ _ h => h) (fun _ h => .inl h) (fun _ _ _ h => h) fun k h1 h2 h3 h4 => ⟨h1, h2, rfl, fun a ha e => ?_, ?_⟩
    · by_cases hid : i = id
      · subst hid
        have hlt := (List.getElem?_eq_some_iff.1 hb).1
        rw [List.getElem?_set_self hlt] at hc
        injection hc with hc
        subst hc
        rw [hn] at hcn; cases hcn
      · rw [List.getElem?_set_ne (Ne.symm hid)] at hc; exact hc
    · rcases ha with ha | ha
      · exact h3 a ha e
      · exact h4 ⟨id, b, hd, hb, hdead, hh, by rw [hgb, ← ha, e]⟩
    · rintro ⟨i, c, hc, q1, q2, q3, q4⟩
      by_cases hid : i = id
      · subst hid
        have hlt := (List.getElem?_eq_some_iff.1 hb).1
        rw [List.getElem?_set_self hlt] at q1
        injection q1 with q1
        subst q1
        rw [hd'] at q2; cases q2
      · rw [List.getElem?_set_ne (Ne.symm hid)] at q1; exact h4 ⟨i, c, hc, q1, q2, q3, q4⟩
end
def Agree (ids : List Nat) (M M' : List Blk) : Prop := M.length ≤ M'.length ∧ ∀ id, id < M.length → id ∉ ids → M'[id]? = M[id]?
theorem Agree.refl (ids : List Nat) (M : List Blk) : Agree ids M M := ⟨Nat.le_refl _, fun _ _ _ => rfl⟩
theorem Agree.push (ids : List Nat) (M : List Blk) (b : Blk) : Agree ids M (M ++ [b]) := ⟨by simp, fun id h _ => List.getElem?_append_left h⟩
theorem Agree.set (M : List Blk) (id : Nat) (b : Blk) : Agree [id] M (M.set id b) := ⟨by simp, fun i _ h => List.getElem?_set_ne (fun e => h (by simp [e]))⟩
theorem Agree.trans {ids jds : List Nat} {M M' M'' : List Blk} (h : Agree ids M M') (k : Agree jds M' M'') : Agree (ids ++ jds) M M'' :=
  ⟨Nat.le_trans h.1 k.1, fun i hi hn => by
    rw [List.mem_append, not_or] at hn
    rw [k.2 i (Nat.lt_of_lt_of_le hi h.1) hn.2, h.2 i hi hn.1]⟩
theorem Agree.mono {ids jds : List Nat} {M M' : List Blk} (h : Agree ids M M') (hs : ∀ i ∈ ids, i ∈ jds) : Agree jds M M' := ⟨h.1, fun i hi hn => h.2 i hi fun e => hn (hs i e)⟩
structure Grow (F F' : Addr → Prop) (ρ ρ' : List Hd) (w w' : World) : Prop where
  hF : ∀ a, F a → F' a
  hρ : ∀ (id : Nat) hd, ρ[id]? = some hd → ρ'[id]? = some hd
  hb : ∀ a, F a → w'.heap[a.block]? = w.heap[a.block]?
theorem cell_of_blk {w w' : World} {a : Addr} {v : Value} (h : w'.heap[a.block]? = w.heap[a.block]?) (hc : w.cell? a = some v) : w'.cell? a = some v := by
  unfold World.cell? at hc ⊢
  rw [h]
  exact hc
theorem Grow.hw {F F' : Addr → Prop} {ρ ρ' : List Hd} {w w' : World} (h : Grow F F' ρ ρ' w w') : ∀ a v, F a → w.cell? a = some v → w'.cell? a = some v := fun a _ ha hc => cell_of_blk (h.hb a ha) hc
theorem Inv.blks {w0 w w' : World} {S : Sc} {F : Addr → Prop} {ρ : List Hd} {M : List Blk} (hI : Inv X w0 S F ρ M w) {row : Option Nat} (hg : w.grownBy w' row) (hrow : ∀ k, row = some k → ∀ a, F a → a.block ≠ k) : ∀ a, F a → w'.heap[a.block]? = w.heap[a.block]? :=
  fun a ha => hg.block a.block (hI.fz a ha) fun e => hrow _ e.symm a ha rfl
theorem Grow.refl (F : Addr → Prop) (ρ : List Hd) (w : World) : Grow F F ρ ρ w w := ⟨fun _ h => h, fun _ _ h => h, fun _ _ => rfl⟩
theorem Grow.trans {F F' F'' : Addr → Prop} {ρ ρ' ρ'' : List Hd} {w w' w'' : World} (h : Grow F F' ρ ρ' w w') (k : Grow F' F'' ρ' ρ'' w' w'') : Grow F F'' ρ ρ'' w w'' :=
  ⟨fun a ha => k.hF a (h.hF a ha), fun id hd hh => k.hρ id hd (h.hρ id hd hh), fun a ha => (k.hb a (h.hF a ha)).trans (h.hb a ha)⟩
theorem Rep.grow {K : TypeId → List Kind} {F F' : Addr → Prop} {ρ ρ' : List Hd} {w w' : World} {x : AV} {v : Value} (h : Rep K ρ F w x v) (g : Grow F F' ρ ρ' w w') : Rep K ρ' F' w' x v := h.mono g.hρ g.hF g.hw
theorem EnvRep.grow {F F' : Addr → Prop} {ρ ρ' : List Hd} {w w' : World} {env : List (Nat × AV)} {tmps : Array Value} (h : EnvRep X ρ F w env tmps) (g : Grow F F' ρ ρ' w w') : EnvRep X ρ' F' w' env tmps := fun t => (h t).grow g
theorem RepL.grow {K : TypeId → List Kind} {F F' : Addr → Prop} {ρ ρ' : List Hd} {w w' : World} {xs : List AV} {vs : List Value} (h : RepL K ρ F w xs vs) (g : Grow F F' ρ ρ' w w') : RepL K ρ' F' w' xs vs := ⟨h.1, fun j x v hx hv => (h.2 j x v hx hv).grow g⟩
end
end Go.Eng

namespace Go.Eng
open Go
noncomputable section
variable {X : Cx} {w0 w w' : World} {S : Sc} {F : Addr → Prop} {ρ : List Hd} {M : List Blk}
def HidB (w : World) (hd : Hd) (xs : List Row) (op : Option (Nat × Nat × Nat)) (p : Option (Nat × Nat)) (g : Nat) : Prop :=
  (p = none ∧ hd.blk? = some g) ∨ ∃ i j row e ys v, p = some (i, j) ∧ xs[i]? = some row ∧ row[j]? = some (.sub e ys) ∧ opAt op i j = none ∧ cellOf w hd i j = some v ∧ Value.blk? v = some g
theorem Hid.ofB {id : Nat} {t : TypeId} {xs : List Row} {op : Option (Nat × Nat × Nat)} {hd : Hd} {p : Option (Nat × Nat)} {g : Nat} (hb : M[id]? = some (.nst t xs op)) (hh : ρ[id]? = some hd) (h : HidB w hd xs op p g) : Hid w ρ M id p g := by
  rcases h with ⟨rfl, hg⟩ | ⟨i, j, row, e, ys, v, rfl, h1, h2, h3, h4, h5⟩
  · exact .out hb hh hg
  · exact .sub hb hh h1 h2 h3 h4 h5
theorem Hid.toB {id : Nat} {p : Option (Nat × Nat)} {g : Nat} (h : Hid w ρ M id p g) : ∃ t xs op hd, M[id]? = some (.nst t xs op) ∧ ρ[id]? = some hd ∧ HidB w hd xs op p g := by
  cases h with
  | out hb hh hg => exact ⟨_, _, _, _, hb, hh, .inl ⟨rfl, hg⟩⟩
  | sub hb hh hi hj ho hc hg => exact ⟨_, _, _, _, hb, hh, .inr ⟨_, _, _, _, _, _, rfl, hi, hj, ho, hc, hg⟩⟩
theorem set_get {id i : Nat} {b c : Blk} (h : (M.set id b)[i]? = some c) : (i = id ∧ c = b) ∨ (i ≠ id ∧ M[i]? = some c) := by
  by_cases hi : i = id
  · subst hi
    have hlt : i < M.length := by have := (List.getElem?_eq_some_iff.1 h).1; simpa using this
    rw [List.getElem?_set_self hlt] at h
    injection h with h
    exact .inl ⟨rfl, h.symm⟩
  · rw [List.getElem?_set_ne (Ne.symm hi)] at h; exact .inr ⟨hi, h⟩
theorem Hid.ofSet {id i : Nat} {b : Blk} (hn : b.isNst = false) {p : Option (Nat × Nat)} {g : Nat} (h : Hid w ρ (M.set id b) i p g) : i ≠ id ∧ Hid w ρ M i p g := by
  obtain ⟨t, xs, op, hd, hb, hh, h⟩ := h.toB
  rcases set_get hb with ⟨_, e⟩ | ⟨hi, hb⟩
  · subst e; cases hn
  · exact ⟨hi, .ofB hb hh h⟩
theorem Inv.drop (hI : Inv X w0 S F ρ M w) {id : Nat} {b : Blk} (hb : M[id]? = some b) (hbd : b.isDead = true) : Inv X w0 S F ρ (M.set id .dead) w where
  os := hI.os
  tape := hI.tape
  output := hI.output
  size := hI.size
  frame := hI.frame
  len := by simpa using hI.len
  rep := fun i c h hc hh => by
    rcases set_get hc with ⟨_, rfl⟩ | ⟨_, hc⟩
    · trivial
    · exact hI.rep i c h hc hh
  sep := fun i c h g hc hd hh hg => by
    rcases set_get hc with ⟨_, rfl⟩ | ⟨_, hc⟩
    · cases hd
    · exact hI.sep i c h g hc hd hh hg
  disj := fun i j c d h h' g hij hc hd h1 h2 hh hh' hg => by
    rcases set_get hc with ⟨_, rfl⟩ | ⟨_, hc⟩
    · cases h1
    · rcases set_get hd with ⟨_, rfl⟩ | ⟨_, hd⟩
      · cases h2
      · exact hI.disj i j c d h h' g hij hc hd h1 h2 hh hh' hg
  fz := hI.fz
  glob := hI.glob
  one := hI.one
  old := hI.old
  fin := hI.fin
  nst := hI.nst.set rfl fun _ _ h => by cases h
theorem Inv.scribble (hI : Inv X w0 S F ρ M w) {g : Nat} (hg : w.grownBy w' (some g)) (h1 : S g ∨ w0.heap.size ≤ g) (h2 : ∀ a, F a → a.block ≠ g) (h3 : ¬ Ours ρ M g) (h4 : ∀ id p, ¬ Hid w ρ M id p g) : Inv X w0 S F ρ M w' where
  os := hg.os.trans hI.os
  tape := hg.tape.trans hI.tape
  output := hg.output.trans hI.output
  size := Nat.le_trans hI.size hg.size
  frame := fun k q1 q2 => by
    refine (hg.block k (Nat.lt_of_lt_of_le q1 hI.size) ?_).trans (hI.frame k q1 q2)
    intro e
    injection e with e
    subst e
    rcases h1 with h | h
    · exact q2 h
    · omega
  len := hI.len
  rep := fun id c hd hc hh => by
    have hw := hI.cells hg (fun k hk a hF => by injection hk with hk; subst hk; exact h2 a hF)
    cases hdd : c.isDead with
    | true => exact (hI.rep id c hd hc hh).mono_dead (fun _ _ h => h) (fun _ h => h) hw hdd
    | false => exact (hI.rep id c hd hc hh).mono (fun _ _ h => h) (fun _ h => h) hw fun k hk => hg.block k (hI.sep id c hd k hc hdd hh hk).1 fun e => by injection e with e; subst e; exact h3 ⟨id, c, hd, hc, hdd, hh, hk⟩
  sep := fun id c hd k hc hdd hh hk => let ⟨a1, a2, a3⟩ := hI.sep id c hd k hc hdd hh hk; ⟨Nat.lt_of_lt_of_le a1 hg.size, a2, a3⟩
  disj := hI.disj
  fz := fun a ha => Nat.lt_of_lt_of_le (hI.fz a ha) hg.size
  glob := fun k => (hI.glob k).mono (fun _ _ h => h) (fun _ h => h) (hI.cells hg (fun k hk a hF => by injection hk with hk; subst hk; exact h2 a hF))
  one := hI.one
  old := hI.old
  fin := hI.fin
  nst := by
    have hw := hI.cells hg (fun k hk a hF => by injection hk with hk; subst hk; exact h2 a hF)
    refine hI.nst.step0 hI.len (fun _ _ h _ => h) (fun _ _ h _ => h) (fun _ _ hr q1 q2 => hr.mono (fun _ _ h => h) (fun _ h => h) hw q1 q2) fun k ⟨id, p, hh, _⟩ => ?_
    obtain ⟨a1, a2, a3, a4⟩ := hI.nst.own hh
    exact ⟨Nat.lt_of_lt_of_le a1 hg.size, a2, hg.block k a1 fun e => by injection e with e; subst e; exact h4 _ _ hh, a3, a4⟩
theorem Inv.install (hI : Inv X w0 S F ρ M w) {id : Nat} {b : Blk} {hd : Hd} {t : TypeId} {xs : List Row} {op : Option (Nat × Nat × Nat)} (hb : M[id]? = some b) (hbd : b.isDead = true) (hbn : b.isNst = false) (hh : ρ[id]? = some hd) (hr : NRep X ρ F w hd t xs op)
    (hown : ∀ p g, HidB w hd xs op p g → g < w.heap.size ∧ (S g ∨ w0.heap.size ≤ g) ∧ (∀ a, F a → a.block ≠ g) ∧ ¬ Ours ρ M g ∧ ∀ i q, ¬ Hid w ρ M i q g) (hinj : ∀ p q g, HidB w hd xs op p g → HidB w hd xs op q g → p = q) :
    Inv X w0 S F ρ (M.set id (.nst t xs op)) w where
  os := hI.os
  tape := hI.tape
  output := hI.output
  size := hI.size
  frame := hI.frame
  len := by simpa using hI.len
  rep := fun i c h hc hh => by
    rcases set_get hc with ⟨_, rfl⟩ | ⟨_, hc⟩
    · trivial
    · exact hI.rep i c h hc hh
  sep := fun i c h g hc hd hh hg => by
    rcases set_get hc with ⟨_, rfl⟩ | ⟨_, hc⟩
    · cases hd
    · exact hI.sep i c h g hc hd hh hg
  disj := fun i j c d h h' g hij hc hd h1 h2 hh hh' hg => by
    rcases set_get hc with ⟨_, rfl⟩ | ⟨_, hc⟩
    · cases h1
    · rcases set_get hd with ⟨_, rfl⟩ | ⟨_, hd⟩
      · cases h2
      · exact hI.disj i j c d h h' g hij hc hd h1 h2 hh hh' hg
  fz := hI.fz
  glob := hI.glob
  one := hI.one
  old := hI.old
  fin := hI.fin
  nst := by
    have ours : ∀ {g}, Ours ρ (M.set id (.nst t xs op)) g → Ours ρ M g := by
      rintro g ⟨i, c, h, q1, q2, q3, q4⟩
      rcases set_get q1 with ⟨_, rfl⟩ | ⟨_, q1⟩
      · cases q2
      · exact ⟨i, c, h, q1, q2, q3, q4⟩
    have cases' : ∀ {i p g}, Hid w ρ (M.set id (.nst t xs op)) i p g → (i = id ∧ HidB w hd xs op p g) ∨ (i ≠ id ∧ Hid w ρ M i p g) := by
      intro i p g hi
      obtain ⟨t', xs', op', hd', q1, q2, q3⟩ := hi.toB
      rcases set_get q1 with ⟨e, e2⟩ | ⟨hi, q1⟩
      · injection e2 with e2 e3 e4
        subst e; subst e2; subst e3; subst e4
        rw [hh] at q2
        injection q2 with q2
        subst q2
        exact .inl ⟨rfl, q3⟩
      · exact .inr ⟨hi, .ofB q1 q2 q3⟩
    refine ⟨fun {i p g} hi => ?_, fun {i i' p p' g} h1 h2 => ?_, fun {i t' xs' op' hd'} hb' hh' => ?_⟩
    · rcases cases' hi with ⟨_, hi⟩ | ⟨_, hi⟩
      · obtain ⟨a1, a2, a3, a4, _⟩ := hown p g hi
        exact ⟨a1, a2, a3, fun h => a4 (ours h)⟩
      · obtain ⟨a1, a2, a3, a4⟩ := hI.nst.own hi
        exact ⟨a1, a2, a3, fun h => a4 (ours h)⟩
    · rcases cases' h1 with ⟨e1, h1⟩ | ⟨_, h1⟩ <;> rcases cases' h2 with ⟨e2, h2⟩ | ⟨_, h2⟩
      · exact ⟨e1.trans e2.symm, hinj _ _ _ h1 h2⟩
      · exact ((hown _ _ h1).2.2.2.2 _ _ h2).elim
      · exact ((hown _ _ h2).2.2.2.2 _ _ h1).elim
      · exact hI.nst.inj h1 h2
    · rcases set_get hb' with ⟨e, e2⟩ | ⟨_, hb'⟩
      · injection e2 with e2 e3 e4
        subst e; subst e2; subst e3; subst e4
        rw [hh] at hh'
        injection hh' with hh'
        subst hh'
        exact hr
      · exact hI.nst.rep hb' hh'
theorem Inv.revive {w0 w : World} {S : Sc} {F : Addr → Prop} {ρ : List Hd} {M : List Blk} (hI : Inv X w0 S F ρ M w) {id : Nat} {b : Blk} {hd : Hd} {g : Nat} {b0 : Blk} (hdead : M[id]? = some b0) (hh : ρ[id]? = some hd) (hgb : hd.blk? = some g)
    (h1 : g < w.heap.size) (h2 : S g ∨ w0.heap.size ≤ g) (h3 : ∀ a, F a → a.block ≠ g) (h4 : ∀ (id' : Nat) b' hd', M[id']? = some b' → b'.isDead = false → ρ[id']? = some hd' → hd'.blk? ≠ some g) (h5 : ∀ i p, ¬ Hid w ρ M i p g) (hrep : BRep X ρ F w hd b) (hn : b.isNst = false := by rfl) :
    Inv X w0 S F ρ (M.set id b) w where
  os := hI.os
  tape := hI.tape
  output := hI.output
  size := hI.size
  frame := hI.frame
  len := by simp [hI.len]
  rep := fun i b' hd' hb hh' => by
    rw [List.getElem?_set] at hb
    split at hb
    · rename_i e; subst e
      split at hb
      · injection hb with hb; subst hb; rw [hh] at hh'; injection hh' with hh'; subst hh'; exact hrep
      · cases hb
    · exact hI.rep i b' hd' hb hh'
  sep := fun i b' hd' g' hb hdd hh' hgb' => by
    rw [List.getElem?_set] at hb
    split at hb
    · rename_i e; subst e
      rw [hh] at hh'; injection hh' with hh'; subst hh'; rw [hgb] at hgb'; injection hgb' with e; subst e
      exact ⟨h1, h2, h3⟩
    · exact hI.sep i b' hd' g' hb hdd hh' hgb'
  disj := fun i j b1 b2 hd1 hd2 g' hij hb1 hb2 hd1' hd2' hh1 hh2 hg1 hg2 => by
    rw [List.getElem?_set] at hb1 hb2
    split at hb1
    · rename_i e; subst e
      rw [if_neg hij] at hb2
      rw [hh] at hh1; injection hh1 with hh1; subst hh1; rw [hgb] at hg1; injection hg1 with e; subst e
      exact h4 j b2 hd2 hb2 hd2' hh2 hg2
    · split at hb2
      · rename_i e; subst e
        rw [hh] at hh2; injection hh2 with hh2; subst hh2; rw [hgb] at hg2; injection hg2 with e; subst e
        exact h4 i b1 hd1 hb1 hd1' hh1 hg1
      · exact hI.disj i j b1 b2 hd1 hd2 g' hij hb1 hb2 hd1' hd2' hh1 hh2 hg1 hg2
  fz := hI.fz
  glob := hI.glob
  one := hI.one
  old := hI.old
  fin := hI.fin
  nst := hI.nst.set hn fun g' h' _ hh' hg => .inr (by rw [hh] at hh'; injection hh' with hh'; subst hh'; rw [hgb] at hg; injection hg with hg; subst hg; exact h5)
theorem Inv.freezeS (hI : Inv X w0 S F ρ M w) (G : Nat → Prop) (h : ∀ g, G g → g < w.heap.size ∧ (S g ∨ w0.heap.size ≤ g) ∧ ¬ Ours ρ M g ∧ ∀ i p, ¬ Hid w ρ M i p g) : Inv X w0 S (fun a => F a ∨ G a.block) ρ M w where
  os := hI.os
  tape := hI.tape
  output := hI.output
  size := hI.size
  frame := hI.frame
  len := hI.len
  rep := fun id b hd hb hh => (hI.rep id b hd hb hh).mono (fun _ _ h => h) (fun _ h => .inl h) (fun _ _ hF hc => hc) (fun _ _ => rfl)
  sep := fun id b hd g hb hdd hh hgb => let ⟨a1, a2, a3⟩ := hI.sep id b hd g hb hdd hh hgb; ⟨a1, a2, fun a ha e => by
    rcases ha with ha | ha
    · exact a3 a ha e
    · exact (h _ ha).2.2.1 ⟨id, b, hd, hb, hdd, hh, by rw [hgb, e]⟩⟩
  disj := hI.disj
  fz := fun a ha => by
    rcases ha with ha | ha
    · exact hI.fz a ha
    · exact (h _ ha).1
  glob := fun g => (hI.glob g).mono (fun _ _ h => h) (fun _ h => .inl h) (fun _ _ _ h => h)
  one := hI.one
  old := fun a ha => by
    rcases ha with ha | ha
    · exact hI.old a ha
    · exact .inr (h _ ha).2.1
  fin := fun a ha => .inl (hI.fin a ha)
  nst := ⟨fun {id p g} hh => by
    obtain ⟨a1, a2, a3, a4⟩ := hI.nst.own hh
    refine ⟨a1, a2, fun a ha e => ?_, a4⟩
    rcases ha with ha | ha
    · exact a3 a ha e
    · exact (h _ ha).2.2.2 id p (by rw [e]; exact hh), hI.nst.inj, fun hb hh => (hI.nst.rep hb hh).mono (fun _ _ h => h) (fun _ h => .inl h) (fun _ _ _ h => h) (fun _ _ => rfl) (fun _ _ _ _ _ _ _ _ _ _ _ _ => rfl)⟩
theorem Inv.nstore (hI : Inv X w0 S F ρ M w) {id : Nat} {hd : Hd} {t : TypeId} {xs xs' : List Row} {op op' : Option (Nat × Nat × Nat)} (hb : M[id]? = some (.nst t xs op)) (hh : ρ[id]? = some hd) {g : Nat} (hgb : hd.blk? = some g) (hg : w.grownBy w' (some g))
    (hr : NRep X ρ F w' hd t xs' op') (hs : ∀ p k, HidB w' hd xs' op' p k → HidB w hd xs op p k) : Inv X w0 S F ρ (M.set id (.nst t xs' op')) w' := by
  have hlt := (List.getElem?_eq_some_iff.1 hb).1
  obtain ⟨a1, a2, a3, a4⟩ := hI.nst.own (.out hb hh hgb)
  have hI1 := hI.drop hb rfl
  have ours : ∀ {k}, Ours ρ (M.set id .dead) k → Ours ρ M k := by
    rintro k ⟨i, c, h, q1, q2, q3, q4⟩
    rcases set_get q1 with ⟨_, rfl⟩ | ⟨_, q1⟩
    · cases q2
    · exact ⟨i, c, h, q1, q2, q3, q4⟩
  have no : ∀ i p, ¬ Hid w ρ (M.set id .dead) i p g := fun i p h => by
    obtain ⟨hne, h⟩ := h.ofSet rfl
    exact hne (hI.nst.inj h (.out hb hh hgb)).1
  have hI2 := hI1.scribble hg a2 a3 (fun h => a4 (ours h)) no
  have := hI2.install (id := id) (b := .dead) (op := op') (by rw [List.getElem?_set_self hlt]) rfl rfl hh hr (fun p k hk => ?_) fun p q k h1 h2 => (hI.nst.inj (.ofB hb hh (hs _ _ h1)) (.ofB hb hh (hs _ _ h2))).2
  · rw [List.set_set] at this; exact this
  · obtain ⟨b1, b2, b3, b4⟩ := hI.nst.own (.ofB hb hh (hs _ _ hk))
    refine ⟨Nat.lt_of_lt_of_le b1 hg.size, b2, b3, fun h => b4 (ours h), fun i q h => ?_⟩
    have h := h.back0 (w := w) hI1.len (fun _ _ h _ => h) (fun _ _ h _ => h) fun k' ⟨i', p', hh', _⟩ => hg.block k' (hI1.nst.own hh').1 fun e => by injection e with e; subst e; exact no _ _ hh'
    obtain ⟨hne, h⟩ := h.ofSet rfl
    exact hne (hI.nst.inj h (.ofB hb hh (hs _ _ hk))).1
end
end Go.Eng

namespace Go.Eng
open Go
noncomputable section
def eqOk (P : Program) (t : TypeId) : Bool :=
  match P.underlying t with
  | some (.struct fs) => (fs.toList.all fun f => f.name != "_") && !P.stoodInHeld t && !P.eqGuardType P.depth t
  | _ => false
structure TFacts (X : Cx) (t : TypeId) (i : TypeInfo) (d : TypeDesc) (z : Value) : Prop where
  info : X.P.info? t = some i
  und : X.P.underlying t = some d
  zero : i.zero = some z
  u : (X.ti t).u = tyOf d
  size : (X.ti t).size = i.size
  bytes : (X.ti t).bytes = i.bytes
  zc : (X.ti t).zero = z.cells.toList.map const1
  zs : z.cells.size = i.size
  ks : (X.ti t).ks.length = i.size
  zag : vag z = (X.ti t).u.agg
structure UbOk (P : Program) (u : Ub) : Prop where
  pt : P.underlying u.pt = some (.pointer u.bt)
  up : P.underlying u.up = some .unsafePointer
  bt : ∃ j, P.info? u.bt = some j ∧ j.size ≠ 0
  lies : liesAt P P.depth u.e (u.ks.length / P.cellsOf u.e) 0 u.bt 1 = true
  ks : 0 < u.ks.length
  ne : ∃ fn, P.funcs[u.ne]? = some fn ∧ (fn.name == "runtime.NumGoroutine") = false ∧ fn.body.isNone = true ∧ Extern.findNext fn = none ∧ Extern.find fn = some Extern.AbiNoEscape.same
structure Cx.Okb (X : Cx) : Prop where
  facts : ∀ {t}, (X.ti t).ok = true → ∃ i d z, TFacts X t i d z
  mixed : X.P.follows .mixedOrders = true
  bad : ∀ t, (X.ti t).ok = false → (X.ti t).ks = []
  glob : ∀ g, X.glob g = .top ∨ (X.glob g).pure = true
  eqs : ∀ t, X.eqs t = true → eqOk X.P t = true
  kindsP : X.pk = true → ∀ t, ∀ k ∈ X.K t, k ≠ .any
  ub : ∀ u, X.ub = some u → UbOk X.P u
structure Cx.Ok (X : Cx) : Prop extends Cx.Okb X where
  pkt : X.pk = true
variable {X : Cx} {R : Type}
theorem Cx.Ok.kinds (hX : X.Ok) (t : TypeId) : ∀ k ∈ X.K t, k ≠ .any := hX.toOkb.kindsP hX.pkt t
theorem Cx.Okb.ok (hX : X.Okb) (h : X.pk = true) : X.Ok := ⟨hX, h⟩
instance okb_of_ok : Coe X.Ok X.Okb := ⟨Cx.Ok.toOkb⟩
theorem kinds_of_ti (ht : ∀ t, (X.ti t).ok = true → X.ti t = tiOf X.P t) (hb : ∀ t, (X.ti t).ok = false → (X.ti t).ks = []) (t : TypeId) : ∀ k ∈ X.K t, k ≠ .any := by
  intro k hk
  cases h : (X.ti t).ok with
  | false =>
    have := hb t h
    simp [Cx.K, this] at hk
  | true =>
    have e := ht t h
    unfold Cx.K at hk
    rw [e] at hk
    unfold tiOf at hk
    split at hk
    · split at hk
      · exact kindsOf_any _ _ _ k hk
      · simp at hk
    · simp at hk
def TI.alike (a b : TI) : Prop := a.ok = b.ok ∧ a.u = b.u ∧ a.size = b.size ∧ a.bytes = b.bytes ∧ a.zero = b.zero ∧ a.ks.length = b.ks.length
theorem facts_of_ti {t : TypeId} (e : TI.alike (X.ti t) (tiOf X.P t)) (h : (X.ti t).ok = true) : ∃ i d z, TFacts X t i d z := by
  obtain ⟨e1, e2, e3, e4, e5, e6⟩ := e
  unfold tiOf at e1 e2 e3 e4 e5 e6
  cases hi : X.P.info? t with
  | none => simp only [hi] at e1; rw [e1] at h; simp at h
  | some i =>
    cases hd : X.P.underlying t with
    | none => simp only [hi, hd] at e1; rw [e1] at h; simp at h
    | some d =>
      cases hz : i.zero with
      | none => simp only [hi, hd, hz] at e1; rw [e1] at h; simp at h
      | some z =>
        simp only [hi, hd, hz] at e1 e2 e3 e4 e5 e6
        rw [e1] at h
        simp only [Bool.and_eq_true, beq_iff_eq] at h
        exact ⟨i, d, z, ⟨hi, hd, hz, e2, e3, e4, e5, h.1.1, by rw [e6]; exact h.1.2, by rw [e2]; exact h.2⟩⟩
theorem TFacts.isAgg {t : TypeId} {i : TypeInfo} {d : TypeDesc} {z : Value} (f : TFacts X t i d z) (w : World) : (isAgg t).run X.P w = .ok (X.ti t).u.agg w := by
  rw [f.u]
  unfold Go.isAgg
  simp only [Sem.run_bind, run_underlying f.und, Result.andThen_ok]
  cases d <;> rfl
theorem TFacts.sizeOf {t : TypeId} {i : TypeInfo} {d : TypeDesc} {z : Value} (f : TFacts X t i d z) (w : World) : (sizeOf t).run X.P w = .ok (X.ti t).size w := by
  rw [f.size]; unfold Go.sizeOf typeInfo; simp [f.info]
theorem TFacts.zeroValue {t : TypeId} {i : TypeInfo} {d : TypeDesc} {z : Value} (f : TFacts X t i d z) (w : World) : (zeroValue t).run X.P w = .ok z w := by
  unfold Go.zeroValue typeInfo; simp [f.info, f.zero]
theorem TFacts.typeInfo {t : TypeId} {i : TypeInfo} {d : TypeDesc} {z : Value} (f : TFacts X t i d z) (w : World) : (typeInfo t).run X.P w = .ok i w := by
  unfold Go.typeInfo; simp [f.info]
theorem TFacts.slice {t e : TypeId} {i : TypeInfo} {d : TypeDesc} {z : Value} (f : TFacts X t i d z) (h : (X.ti t).u = .slice e) : X.P.underlying t = some (.slice e) := by
  have := f.u; rw [h] at this; cases d <;> simp [tyOf] at this; subst this; exact f.und
theorem TFacts.array {t e : TypeId} {n : Nat} {i : TypeInfo} {d : TypeDesc} {z : Value} (f : TFacts X t i d z) (h : (X.ti t).u = .array n e) : X.P.underlying t = some (.array n e) := by
  have := f.u; rw [h] at this; cases d <;> simp [tyOf] at this; obtain ⟨rfl, rfl⟩ := this; exact f.und
theorem TFacts.intK {t : TypeId} {k : IntKind} {i : TypeInfo} {d : TypeDesc} {z : Value} (f : TFacts X t i d z) (h : (X.ti t).u = .int k) : X.P.underlying t = some (.int k) := by
  have := f.u; rw [h] at this; cases d <;> simp [tyOf] at this; subst this; exact f.und
theorem TFacts.struct {t : TypeId} {fs : List (Nat × TypeId)} {i : TypeInfo} {d : TypeDesc} {z : Value} (f : TFacts X t i d z) (h : (X.ti t).u = .struct fs) :
    ∃ gs : Array Field, X.P.underlying t = some (.struct gs) ∧ fs = gs.toList.map fun f => (f.offset, f.type) := by
  have := f.u; rw [h] at this; cases d <;> simp [tyOf] at this; exact ⟨_, f.und, this⟩
theorem rep_const1 (K : TypeId → List Kind) (ρ : List Hd) (F : Addr → Prop) (w : World) (v : Value) : Rep K ρ F w (const1 v) v := by
  unfold const1
  split <;> constructor
theorem rep_constAV (K : TypeId → List Kind) (ρ : List Hd) (F : Addr → Prop) (w : World) (v : Value) : Rep K ρ F w (constAV v) v := by
  unfold constAV
  split
  · rename_i cs
    have := Rep.agg (K := K) (ρ := ρ) (F := F) (w := w) (cs.toList.map const1) cs.toList (by simp) (fun j x v hx hv => by
      rw [List.getElem?_map, hv] at hx
      simp at hx
      subst hx
      exact rep_const1 K ρ F w v)
    simpa using this
  · rename_i cs
    split
    · rename_i h
      have hcs : cs = #[] := by apply Array.ext'; simpa using h
      subst hcs
      exact Rep.tup [] [] rfl (fun j x v hx _ => by simp at hx)
    · exact .top _
  · exact rep_const1 K ρ F w v
theorem repL_zero (K : TypeId → List Kind) (ρ : List Hd) (F : Addr → Prop) (w : World) (vs : List Value) : RepL K ρ F w (vs.map const1) vs :=
  ⟨by simp, fun j x v hx hv => by
    rw [List.getElem?_map, hv] at hx
    simp at hx
    subst hx
    exact rep_const1 K ρ F w v⟩
theorem oneCell_of_leaf {K : TypeId → List Kind} {ρ : List Hd} {F : Addr → Prop} {w : World} {x : AV} {v : Value} (h : Rep K ρ F w x v) (hx : x.leaf = true) (hρ : ∀ (id : Nat) hd, ρ[id]? = some hd → hd.v.oneCell' = true) : v.oneCell' = true := by
  cases h <;> simp_all [AV.leaf, Value.oneCell'] <;> (apply hρ; assumption)
theorem Rep.cells {K : TypeId → List Kind} {ρ : List Hd} {F : Addr → Prop} {w : World} {x : AV} {v : Value} (h : Rep K ρ F w x v) (hx : x.leaf = true ∨ ∃ cs, x = .agg cs)
    (hρ : ∀ (id : Nat) hd, ρ[id]? = some hd → hd.v.oneCell' = true) : RepL K ρ F w x.cells v.cells.toList := by
  rcases hx with hx | ⟨cs, rfl⟩
  · have h1 := oneCell_of_leaf h hx hρ
    have e1 : x.cells = [x] := by cases x <;> simp_all [AV.cells, AV.leaf]
    have e2 : v.cells = #[v] := by cases v <;> simp_all [Value.cells, Value.oneCell']
    rw [e1, e2]
    refine ⟨rfl, fun j y u hy hu => ?_⟩
    cases j with
    | zero => simp at hy hu; subst hy; subst hu; exact h
    | succ j => simp at hy
  · cases h with
    | agg _ vs hl h => exact ⟨by simpa [Value.cells, AV.cells] using hl, by simpa [Value.cells, AV.cells] using h⟩
def ValRuns (X : Cx) (o : Oper) (e : Operand → AV) (M : List Blk) (x : AV) (M' : List Blk) : Prop :=
  ∀ (w0 : World) (S : Sc) (F : Addr → Prop) (ρ : List Hd) (w : World) (ρe : Operand → Value), Inv X w0 S F ρ M w → (∀ y, Rep X.K ρ F w (e y) (ρe y)) →
    ∃ nx v w' ρ' F', (execOp ρe o).run X.P w = .ok nx w' ∧ (nx = .value v ∨ (nx = .skip ∧ v = undef)) ∧ Inv X w0 S F' ρ' M' w' ∧ Grow F F' ρ ρ' w w' ∧ Rep X.K ρ' F' w' x v
theorem ValRuns.pure {o : Oper} {e : Operand → AV} {M : List Blk} {x : AV}
    (h : ∀ (w0 : World) (S : Sc) (F : Addr → Prop) (ρ : List Hd) (w : World) (ρe : Operand → Value), Inv X w0 S F ρ M w → (∀ y, Rep X.K ρ F w (e y) (ρe y)) →
      ∃ v, (execOp ρe o).run X.P w = .ok (.value v) w ∧ Rep X.K ρ F w x v) : ValRuns X o e M x M := by
  intro w0 S F ρ w ρe hI hr
  obtain ⟨v, h1, h2⟩ := h w0 S F ρ w ρe hI hr
  exact ⟨_, v, w, ρ, F, h1, .inl rfl, hI, Grow.refl _ _ _, h2⟩
end
end Go.Eng

namespace Go.Eng
open Go
noncomputable section
variable {X : Cx} {R : Type}
def tst (b : Bool) (x : Option R) : Option R := match b with | true => x | false => none
theorem tst_some {b : Bool} {x : Option R} {r : R} (h : tst b x = some r) : b = true ∧ x = some r := by
  cases b <;> simp_all [tst]
def ldn (ks : List Kind) (row : Row) (off : Nat) : Nat → List AV
  | 0 => []
  | n + 1 => ld (ks.getD off .raw) (row.getD off .top) :: ldn ks row (off + 1) n
theorem ldn_eq {ks : List Kind} {row : Row} (h : koks ks row = true) : ∀ (n off : Nat), off + n ≤ ks.length → ldn ks row off n = (row.drop off).take n
  | 0, off, _ => by simp [ldn]
  | n + 1, off, hb => by
    have hl := koks_length h
    have h1 : off < row.length := by omega
    have h2 : off < ks.length := by omega
    simp only [ldn, List.getD, List.getElem?_eq_getElem h1, List.getElem?_eq_getElem h2, Option.getD_some]
    rw [ld_of_kok (koks_get h (List.getElem?_eq_getElem h2) (List.getElem?_eq_getElem h1)), ldn_eq h n (off + 1) (by omega)]
    rw [List.drop_eq_getElem_cons h1, List.take_succ_cons]
def Kind.v : Kind → Kind | .slice _ => .any | .raw => .any | k => k
def kAt (ks : List Kind) (off : Nat) (k : Kind) : Bool := (ks.all (· == k)) || (ks.getD off .raw == k)
theorem kAt_get {ks : List Kind} {off : Nat} {k : Kind} (h : kAt ks off k = true) (ho : off < ks.length) : ks[off]? = some k := by
  unfold kAt at h
  rw [Bool.or_eq_true] at h
  rcases h with h | h
  · rw [List.all_eq_true] at h
    rw [List.getElem?_eq_getElem ho]
    have := h _ (List.getElem_mem ho)
    simp at this
    rw [this]
  · rw [beq_iff_eq, List.getD, List.getElem?_eq_getElem ho] at h
    rw [List.getElem?_eq_getElem ho]
    simpa using h
def setAt : List AV → Nat → List AV → List AV
  | cs, _, [] => cs
  | cs, off, x :: xs => setAt (cs.set off x) (off + 1) xs
theorem setAt_length : ∀ (xs cs : List AV) (off : Nat), (setAt cs off xs).length = cs.length
  | [], _, _ => rfl
  | x :: xs, cs, off => by simp [setAt, setAt_length xs]
theorem setAt_get : ∀ (xs cs : List AV) (off : Nat), off + xs.length ≤ cs.length → ∀ (j : Nat), (setAt cs off xs)[j]? = if off ≤ j ∧ j < off + xs.length then xs[j - off]? else cs[j]?
  | [], cs, off, _, j => by simp [setAt]; omega
  | x :: xs, cs, off, h, j => by
    simp only [List.length_cons] at h
    rw [setAt, setAt_get xs (cs.set off x) (off + 1) (by simp; omega) j]
    by_cases h1 : j = off
    · subst h1
      rw [if_neg (by omega), if_pos (by simp), List.getElem?_set_self (by omega)]
      simp
    · by_cases h2 : off + 1 ≤ j ∧ j < off + 1 + xs.length
      · rw [if_pos h2, if_pos (by simp; omega)]
        rw [show j - off = (j - (off + 1)) + 1 by omega]
        simp
      · rw [if_neg h2, if_neg (by simp; omega), List.getElem?_set_ne (Ne.symm h1)]
def kset : List Kind → Nat → List AV → Bool
  | _, _, [] => true
  | ks, off, x :: xs => kok (ks.getD off .raw) x && kset ks (off + 1) xs
def ksAt (ks : List Kind) (off : Nat) (xs : List AV) : Bool :=
  (match ks with | k :: r => (r.all (· == k)) && xs.all (kok k) | [] => false) || kset ks off xs
theorem kset_get : ∀ {xs : List AV} {ks : List Kind} {off : Nat}, kset ks off xs = true → ∀ {j : Nat} {x : AV}, xs[j]? = some x → kok (ks.getD (off + j) .raw) x = true
  | [], _, _, _, j, x, hx => by simp at hx
  | y :: ys, ks, off, h, j, x, hx => by
    simp only [kset, Bool.and_eq_true] at h
    cases j with
    | zero => simp at hx; subst hx; exact h.1
    | succ j =>
      have := kset_get h.2 (j := j) (x := x) (by simpa using hx)
      rwa [show off + (j + 1) = off + 1 + j by omega]
theorem ksAt_get {xs : List AV} {ks : List Kind} {off : Nat} (h : ksAt ks off xs = true) (hb : off + xs.length ≤ ks.length) {j : Nat} {x : AV} (hx : xs[j]? = some x) : kok (ks.getD (off + j) .raw) x = true := by
  unfold ksAt at h
  rw [Bool.or_eq_true] at h
  rcases h with h | h
  · cases ks with
    | nil => simp at h
    | cons k r =>
      simp only [Bool.and_eq_true, List.all_eq_true] at h
      have hj : j < xs.length := (List.getElem?_eq_some_iff.1 hx).1
      have hlt : off + j < (k :: r).length := by omega
      have hk : (k :: r).getD (off + j) .raw = k := by
        simp only [List.getD, List.getElem?_eq_getElem hlt, Option.getD_some]
        have hm := List.getElem_mem hlt
        rcases List.mem_cons.1 hm with e | e
        · exact e
        · simpa using h.1 _ e
      rw [hk]
      exact h.2 x (List.mem_of_getElem? hx)
  · exact kset_get h hx
theorem koks_setAt {ks : List Kind} {cs xs : List AV} {off : Nat} (hk : koks ks cs = true) (h : ksAt ks off xs = true) (hb : off + xs.length ≤ ks.length) : koks ks (setAt cs off xs) = true := by
  have hl := koks_length hk
  refine koks_of (by rw [setAt_length]; exact hl) fun j k x hkj hx => ?_
  rw [setAt_get xs cs off (by omega) j] at hx
  by_cases hj : off ≤ j ∧ j < off + xs.length
  · rw [if_pos hj] at hx
    have := ksAt_get h hb hx
    rw [show off + (j - off) = j by omega] at this
    simpa [List.getD, hkj] using this
  · rw [if_neg hj] at hx
    exact koks_get hk hkj hx
def kHom (ks : List Kind) (off : Nat) : Kind :=
  match ks with
  | [] => .raw
  | k :: r => match r.all (· == k) with | true => k | false => (k :: r).getD off .raw
theorem kHom_eq {ks : List Kind} {off : Nat} (h : off < ks.length) : kHom ks off = ks[off] := by
  unfold kHom
  split
  · simp at h
  · rename_i k r
    split
    · rename_i ha
      cases off with
      | zero => rfl
      | succ o =>
        have := List.all_eq_true.1 ha (r[o]'(by simpa using h)) (List.getElem_mem _)
        simpa using (eq_of_beq this).symm
    · rw [List.getD_eq_getElem?_getD, List.getElem?_eq_getElem h]; rfl
def opCol (op : Option (Nat × Nat × Nat)) (j : Nat) : Option (Nat × Nat) := match op with | some (i, j', k) => (match Nat.beq j' j with | true => some (i, k) | false => none) | none => none
def AV.isLst : AV → Bool | .list _ _ => true | _ => false
def AV.isSub : AV → Bool | .sub _ _ => true | _ => false
def ldN (kd : Kind) (x : AV) (k : AV → Option R) : Option R := match kd with | .slice t => tst x.isLst (k (.list t x.rows)) | kd => k (ld kd x)
theorem opAt_col {op : Option (Nat × Nat × Nat)} {j : Nat} (h : opCol op j = none) (i : Nat) : opAt op i j = none := by
  match op with
  | none => rfl
  | some (i', j', k) =>
    simp only [opCol] at h
    split at h
    · cases h
    · rename_i hb
      have : j' ≠ j := Nat.ne_of_beq_eq_false hb
      simp [opAt, this]
theorem opAt_col_some {op : Option (Nat × Nat × Nat)} {j i k : Nat} (h : opCol op j = some (i, k)) : op = some (i, j, k) := by
  match op with
  | none => cases h
  | some (i', j', k') =>
    simp only [opCol] at h
    split at h
    · rename_i hb
      injection h with h
      injection h with h1 h2
      rw [h1, h2, Nat.eq_of_beq_eq_true hb]
    · cases h
theorem kok_of_kokN {kd : Kind} {x : AV} (h : kokN kd x = true) (hs : x.isSub = false) : kok kd x = true := by
  unfold kokN at h
  split at h
  · cases hs
  · exact h
theorem kokN_of_kok {kd : Kind} {x : AV} (h : kok kd x = true) : kokN kd x = true := by
  unfold kokN
  split
  · simp [kok] at h
  · exact h
theorem koksN_of {ks : List Kind} {row : Row} (hl : row.length = ks.length) (h : ∀ (j : Nat) (k : Kind) (x : AV), ks[j]? = some k → row[j]? = some x → kokN k x = true) : koksN ks row = true := by
  induction ks generalizing row with
  | nil => cases row with | nil => rfl | cons x xs => simp at hl
  | cons k ks ih =>
    cases row with
    | nil => simp at hl
    | cons x xs =>
      simp only [koksN, Bool.and_eq_true]
      exact ⟨h 0 k x rfl rfl, ih (by simpa using hl) fun j k' x' hk hx => h (j + 1) k' x' (by simpa using hk) (by simpa using hx)⟩
theorem koksN_setAt {ks : List Kind} {cs xs : List AV} {off : Nat} (hk : koksN ks cs = true) (h : ∀ {j : Nat} {y : AV}, xs[j]? = some y → kokN (ks.getD (off + j) .raw) y = true) (hb : off + xs.length ≤ ks.length) : koksN ks (setAt cs off xs) = true := by
  have hl := koksN_length hk
  refine koksN_of (by rw [setAt_length]; exact hl) fun j k x hkj hx => ?_
  rw [setAt_get xs cs off (by omega) j] at hx
  by_cases hj : off ≤ j ∧ j < off + xs.length
  · rw [if_pos hj] at hx
    have := h hx
    rw [show off + (j - off) = j by omega] at this
    simpa [List.getD, hkj] using this
  · rw [if_neg hj] at hx
    obtain ⟨k', e1, e2⟩ := koksN_get hk hx
    rw [hkj] at e1
    injection e1 with e1
    subst e1
    exact e2
def evLoad (X : Cx) (t : TypeId) (p : AV) (M : List Blk) (k : AV → Option R) : Option R :=
  match p with
  | .iptr t' row off =>
    tst ((X.ti t).ok && decide (off + (X.ti t).size ≤ (X.K t').length))
      (match (X.ti t).u.agg with
       | true => k (.agg (ldn (X.K t') row off (X.ti t).size))
       | false => tst ((X.ti t).size == 1) (k (ld (kHom (X.K t') off) (row.getD off .top))))
  | .ptr id i off =>
    match gm M id with
    | some (.var ks cs) =>
      tst ((X.ti t).ok && i == 0 && decide (off + (X.ti t).size ≤ ks.length))
        (match (X.ti t).u.agg with
         | true => k (.agg (ldn ks cs off (X.ti t).size))
         | false => tst ((X.ti t).size == 1 && kAt ks off ((X.ti t).ks.headD .raw).v) (k (ld ((X.ti t).ks.headD .raw).v (cs.getD off .top))))
    | some (.row t' xs) =>
      tst ((X.ti t).ok && decide (off + (X.ti t).size ≤ (X.K t').length) && decide (i < xs.length))
        (match (X.ti t).u.agg with
         | true => k (.agg (ldn (X.K t') (xs.getD i []) off (X.ti t).size))
         | false => tst ((X.ti t).size == 1) (k (ld ((X.K t').getD off .raw) ((xs.getD i []).getD off .top))))
    | some (.nst t' xs op) =>
      tst ((X.ti t).ok && decide (off + (X.ti t).size ≤ (X.K t').length) && decide (i < xs.length))
        (match (X.ti t).u.agg with
         | true => none
         | false => tst ((X.ti t).size == 1) (match opCol op off with
           | some (i0, k0) => tst (Nat.beq i i0) (k (.own k0))
           | none => ldN ((X.K t').getD off .raw) ((xs.getD i []).getD off .top) k))
    | _ => none
  | _ => none
def eqB (X : Cx) : List (Nat × TypeId) → List AV → List AV → Option Bool
  | [], _, _ => some true
  | f :: fs, xs, ys =>
    match eqB X fs xs ys with
    | none => none
    | some r =>
      match (X.ti f.2).ok, (X.ti f.2).u, xs[f.1]?, ys[f.1]? with
      | true, .int _, some (.int ka a), some (.int kb b) => (match ka == kb with | true => some (a == b && r) | false => none)
      | true, .bool, some (.bool a), some (.bool b) => some (a == b && r)
      | _, _, _, _ => none
def evNil (x : AV) (k : Bool → Option R) : Option R :=
  match x with
  | .nilsl => k true
  | .enl => k false
  | .list _ xs => match xs.isEmpty with | true => none | false => k false
  | _ => none
theorem evNil_sound {x : AV} {k : Bool → Option R} {r : R} (h : evNil x k = some r) :
    ∃ b, k b = some r ∧ ∀ {K : TypeId → List Kind} {ρ : List Hd} {F : Addr → Prop} {w : World} {v : Value}, Rep K ρ F w x v → ∃ a n c, v = .slice a n c ∧ a.isNone = b := by
  unfold evNil at h
  split at h
  · exact ⟨_, h, fun {K ρ F w v} hr => by cases hr; exact ⟨none, 0, 0, rfl, rfl⟩⟩
  · exact ⟨_, h, fun {K ρ F w v} hr => by cases hr; exact ⟨some _, 0, _, rfl, rfl⟩⟩
  · rename_i t xs
    split at h
    · cases h
    · rename_i he
      refine ⟨_, h, fun {K ρ F w v} hr => ?_⟩
      cases hr with
      | list0 t => simp at he
      | list t xs a cap vss hl hcap hmax hk hc hx => exact ⟨some _, _, _, rfl, rfl⟩
  · cases h
def evBin (X : Cx) (op : BinOp) (t : TypeId) (x y : AV) (k : AV → Option R) : Option R :=
  match x, y with
  | .int kx a, .int ky b =>
    match op with
    | .shl => tst (decide (0 ≤ b)) (k (.int kx (kx.wrap (a * 2 ^ (min b.toNat kx.bits)))))
    | .shr => tst (decide (0 ≤ b)) (k (.int kx (a.fdiv (2 ^ (min b.toNat kx.bits)))))
    | _ =>
      tst (kx == ky) (match op with
        | .add => k (.int kx (kx.wrap (a + b)))
        | .sub => k (.int kx (kx.wrap (a - b)))
        | .mul => k (.int kx (kx.wrap (a * b)))
        | .quo => tst (!(b == 0)) (k (.int kx (kx.wrap (a.tdiv b))))
        | .rem => tst (!(b == 0)) (k (.int kx (a.tmod b)))
        | .and => k (.int kx (kx.wrap (BitVec.ofInt kx.bits a &&& BitVec.ofInt kx.bits b).toNat))
        | .or => k (.int kx (kx.wrap (BitVec.ofInt kx.bits a ||| BitVec.ofInt kx.bits b).toNat))
        | .xor => k (.int kx (kx.wrap (BitVec.ofInt kx.bits a ^^^ BitVec.ofInt kx.bits b).toNat))
        | .andNot => k (.int kx (kx.wrap (BitVec.ofInt kx.bits a &&& ~~~ BitVec.ofInt kx.bits b).toNat))
        | .eql => k (.bool (a == b))
        | .neq => k (.bool (a != b))
        | .lss => k (.bool (decide (a < b)))
        | .leq => k (.bool (decide (a ≤ b)))
        | .gtr => k (.bool (decide (b < a)))
        | .geq => k (.bool (decide (b ≤ a)))
        | _ => none)
  | .bool a, .bool b =>
    match (X.ti t).ok, (X.ti t).u, op with
    | true, .bool, .eql => k (.bool (a == b))
    | true, .bool, .neq => k (.bool (!(a == b)))
    | _, _, _ => none
  | .agg xs, .agg ys =>
    match X.eqs t, (X.ti t).ok, (X.ti t).u with
    | true, true, .struct fs =>
      match eqB X fs xs ys with
      | none => none
      | some b => match op with | .eql => k (.bool b) | .neq => k (.bool (!b)) | _ => none
    | _, _, _ => none
  | x, .nilsl =>
    match (X.ti t).ok, (X.ti t).u, op with
    | true, .slice _, .eql => evNil x fun b => k (.bool b)
    | true, .slice _, .neq => evNil x fun b => k (.bool (!b))
    | _, _, _ => none
  | _, _ => none
theorem run_eqGuard_int (P : Program) (w : World) (op : BinOp) (t : TypeId) (x y : Operand) (ka kb : IntKind) (a b : Int) : (eqGuard op t x y (.int ka a) (.int kb b)).run P w = .ok () w := by
  unfold eqGuard; cases op <;> rfl
theorem run_eqGuard_bool (P : Program) (w : World) (op : BinOp) (t : TypeId) (x y : Operand) (a b : Bool) : (eqGuard op t x y (.bool a) (.bool b)).run P w = .ok () w := by
  unfold eqGuard; cases op <;> rfl
theorem run_part_leaf {t : TypeId} {i : TypeInfo} {d : TypeDesc} {z : Value} (f : TFacts X t i d z) (ha : (X.ti t).u.agg = false) {vs : Array Value} {off : Nat} {v : Value} (hv : vs[off]? = some v) (w : World) : (part t vs off).run X.P w = .ok v w := by
  simp only [part, Sem.run_bind, f.isAgg, ha, Result.andThen_ok, hv, Sem.run_pure, Bool.false_eq_true, if_false]
theorem eqFields_run (hX : X.Okb) {ρ : List Hd} {F : Addr → Prop} {w : World} {xs ys : List AV} {vs us : Array Value} (h1 : RepL X.K ρ F w xs vs.toList) (h2 : RepL X.K ρ F w ys us.toList) (d : Nat) : ∀ (gs : List Field) (b : Bool), (∀ g ∈ gs, g.name ≠ "_") →
    eqB X (gs.map fun f => (f.offset, f.type)) xs ys = some b → (Op.eqFields (d + 1) vs us gs).run X.P w = .ok b w
  | [], b, _, h => by
    simp only [List.map_nil, eqB, Option.some.injEq] at h
    subst h
    rfl
  | g :: gs, b, hn, h => by
    simp only [List.map_cons, eqB] at h
    split at h
    · cases h
    rename_i r hr
    have ih := eqFields_run hX h1 h2 d gs r (fun g hg => hn g (by simp [hg])) hr
    have hname : g.name ≠ "_" := hn g (by simp)
    have cell : ∀ {zs : List AV} {ws : Array Value} {x : AV}, RepL X.K ρ F w zs ws.toList → zs[g.offset]? = some x → ∃ v, ws[g.offset]? = some v ∧ Rep X.K ρ F w x v := by
      intro zs ws x hz hx
      have hlt : g.offset < zs.length := (List.getElem?_eq_some_iff.1 hx).1
      have hl := hz.1
      simp only [Array.length_toList] at hl
      obtain ⟨u, hu⟩ : ∃ u, ws[g.offset]? = some u := ⟨ws[g.offset]'(by omega), Array.getElem?_eq_getElem (by omega)⟩
      exact ⟨u, hu, hz.2 g.offset _ _ hx (by rw [Array.getElem?_toList]; exact hu)⟩
    split at h
    · rename_i kt ka a kb c hok hu hxa hyb
      cases hk : ka == kb with
      | false => rw [hk] at h; cases h
      | true =>
        rw [hk] at h
        have hk := eq_of_beq hk
        subst hk
        simp only [Option.some.injEq] at h
        subst h
        obtain ⟨i, dd, z, f⟩ := hX.facts hok
        have hund : X.P.underlying g.type = some (.int kt) := by
          have hu2 := f.u; rw [hu] at hu2
          have hf := f.und
          cases dd <;> simp [tyOf] at hu2
          subst hu2; exact hf
        have ha : (X.ti g.type).u.agg = false := by rw [hu]; rfl
        obtain ⟨v, hv, hv2⟩ := cell h1 hxa
        obtain ⟨u, hu', hu2⟩ := cell h2 hyb
        cases hv2; cases hu2
        simp only [Op.eqFields, ne_eq, hname, not_false_eq_true, if_true, Sem.run_bind, run_part_leaf f ha hv, run_part_leaf f ha hu', Result.andThen_ok, run_equalIn_int (P := X.P) w d g.type ka kt a c hund]
        cases hac : a == c with
        | false => simp [Sem.run_pure]
        | true => simpa using ih
    · rename_i a c hok hu hxa hyb
      simp only [Option.some.injEq] at h
      subst h
      obtain ⟨i, dd, z, f⟩ := hX.facts hok
      have hund : X.P.underlying g.type = some .bool := by
        have hu2 := f.u; rw [hu] at hu2
        have hf := f.und
        cases dd <;> simp [tyOf] at hu2
        exact hf
      have ha : (X.ti g.type).u.agg = false := by rw [hu]; rfl
      obtain ⟨v, hv, hv2⟩ := cell h1 hxa
      obtain ⟨u, hu', hu2⟩ := cell h2 hyb
      cases hv2; cases hu2
      simp only [Op.eqFields, ne_eq, hname, not_false_eq_true, if_true, Sem.run_bind, run_part_leaf f ha hv, run_part_leaf f ha hu', Result.andThen_ok, run_equalIn_bool' (P := X.P) w d g.type a c hund]
      cases hac : a == c with
      | false => simp [Sem.run_pure]
      | true => simpa using ih
    · cases h
theorem evBin_sound (hX : X.Okb) {op : BinOp} {t u : TypeId} {x y : AV} {a b : Operand} {k : AV → Option R} {r : R} (h : evBin X op t x y k = some r) :
    ∃ z, k z = some r ∧ ∀ (ρ : List Hd) (F : Addr → Prop) (w : World) (va vb : Value), Rep X.K ρ F w x va → Rep X.K ρ F w y vb →
      ∃ v, (do eqGuard op t a b va vb; binOp op t va vb : Sem Value).run X.P w = .ok v w ∧ Rep X.K ρ F w z v := by
  unfold evBin at h
  split at h
  · rename_i kx a' ky b'
    have key : ∀ (z : AV) (v : Value), (∀ (ρ : List Hd) (F : Addr → Prop) (w : World), Rep X.K ρ F w z v) → (∀ w, (binOp op t (.int kx a') (.int ky b')).run X.P w = .ok v w) → ∀ (ρ : List Hd) (F : Addr → Prop) (w : World) (va vb : Value), Rep X.K ρ F w (.int kx a') va → Rep X.K ρ F w (.int ky b') vb →
      ∃ v, (do eqGuard op t a b va vb; binOp op t va vb : Sem Value).run X.P w = .ok v w ∧ Rep X.K ρ F w z v := by
      intro z v hz hrun ρ F w va vb h1 h2
      cases h1; cases h2
      refine ⟨v, ?_, hz ρ F w⟩
      rw [Sem.run_bind, run_eqGuard_int]
      exact hrun w
    cases op <;> simp only at h <;> first
      | (replace h := tst_some h
         obtain ⟨e, h⟩ := h
         first
          | (have e' := of_decide_eq_true e
             refine ⟨_, h, key _ _ (fun _ _ _ => .int _ _) fun w => ?_⟩
             unfold binOp Op.shift
             simp [show ¬ b' < 0 by omega]
             done)
          | (rw [beq_iff_eq] at e
             subst e
             first
              | (refine ⟨_, h, key _ _ (fun _ _ _ => .int _ _) fun w => ?_⟩
                 first
                  | (simp [binOp, Op.intArith]; done)
                  | (simp [binOp, Op.intBits]; done))
              | (refine ⟨_, h, key _ _ (fun _ _ _ => .bool _) fun w => ?_⟩
                 simp [binOp, Op.intCmp]; done)
              | (replace h := tst_some h
                 obtain ⟨e2, h⟩ := h
                 refine ⟨_, h, key _ _ (fun _ _ _ => .int _ _) fun w => ?_⟩
                 have hb : b' ≠ 0 := by simpa using e2
                 simp [binOp, Op.intDiv, hb]; done)))
      | cases h
  · rename_i a' b'
    cases hok : (X.ti t).ok with
    | false => simp [hok] at h
    | true =>
      obtain ⟨i, d, z, f⟩ := hX.facts hok
      have hu := f.u
      simp only [hok] at h
      split at h
      · rename_i hub
        have hund : X.P.underlying t = some .bool := by
          rw [hub] at hu; cases d <;> simp [tyOf] at hu; exact f.und
        refine ⟨_, h, fun ρ F w va vb h1 h2 => ?_⟩
        cases h1; cases h2
        refine ⟨_, ?_, .bool _⟩
        rw [Sem.run_bind, run_eqGuard_bool]
        exact run_eql_bool (P := X.P) (w := w) t a' b' hund
      · rename_i hub
        have hund : X.P.underlying t = some .bool := by
          rw [hub] at hu; cases d <;> simp [tyOf] at hu; exact f.und
        refine ⟨_, h, fun ρ F w va vb h1 h2 => ?_⟩
        cases h1; cases h2
        refine ⟨_, ?_, .bool _⟩
        rw [Sem.run_bind, run_eqGuard_bool]
        exact run_neq_bool (P := X.P) (w := w) t a' b' hund
      · cases h
  · rename_i xs ys
    split at h
    · rename_i fs heq hok hu
      split at h
      · cases h
      · rename_i bb hbb
        obtain ⟨i, d, z, f⟩ := hX.facts hok
        have hok2 := hX.eqs t heq
        have hu2 := f.u
        rw [hu] at hu2
        have hund := f.und
        cases d <;> simp only [tyOf] at hu2 <;> try cases hu2
        rename_i gs
        unfold eqOk at hok2
        rw [hund] at hok2
        simp only [Bool.and_eq_true, Bool.not_eq_true', List.all_eq_true, bne_iff_ne] at hok2
        obtain ⟨⟨hn, hst⟩, hg⟩ := hok2
        have hfo : X.P.fieldsOf t = gs := by simp [Program.fieldsOf, hund]
        have run : ∀ (ρ : List Hd) (F : Addr → Prop) (w : World) (va vb : Array Value), RepL X.K ρ F w xs va.toList → RepL X.K ρ F w ys vb.toList → (Op.equalIn 10000 t (.agg va) (.agg vb)).run X.P w = .ok bb w := by
          intro ρ F w va vb h1 h2
          rw [run_equalIn_struct w 9999 t va vb (by rw [hfo]; exact hund) hst, hfo]
          exact eqFields_run hX h1 h2 9998 gs.toList bb hn hbb
        split at h
        · refine ⟨_, h, fun ρ F w va vb h1 h2 => ?_⟩
          cases h1 with
          | agg _ v1 hl1 hc1 =>
            cases h2 with
            | agg _ v2 hl2 hc2 =>
              refine ⟨.bool bb, ?_, .bool _⟩
              rw [Sem.run_bind, run_eqGuard_agg (P := X.P) w .eql t a b _ _ hg, Result.andThen_ok, run_eql_struct, run ρ F w _ _ ⟨hl1, hc1⟩ ⟨hl2, hc2⟩]
              rfl
        · refine ⟨_, h, fun ρ F w va vb h1 h2 => ?_⟩
          cases h1 with
          | agg _ v1 hl1 hc1 =>
            cases h2 with
            | agg _ v2 hl2 hc2 =>
              refine ⟨.bool (!bb), ?_, .bool _⟩
              rw [Sem.run_bind, run_eqGuard_agg (P := X.P) w .neq t a b _ _ hg, Result.andThen_ok, run_neq_struct, run ρ F w _ _ ⟨hl1, hc1⟩ ⟨hl2, hc2⟩]
              rfl
        · cases h
    · cases h
  · split at h
    · rename_i e heq hok hu
      obtain ⟨i, d, z', f⟩ := hX.facts hok
      have hund := f.slice hu
      obtain ⟨bb, h, hv⟩ := evNil_sound h
      refine ⟨_, h, fun ρ F w va vb h1 h2 => ?_⟩
      obtain ⟨a', n, c, rfl, rfl⟩ := hv h1
      cases h2
      refine ⟨.bool a'.isNone, ?_, .bool _⟩
      rw [eqGuard_at_slice, Sem.run_bind, Sem.run_pure, Result.andThen_ok]
      exact Lib.run_eql_slice_nil w t _ a' n c 0 0 hund
    · rename_i e heq hok hu
      obtain ⟨i, d, z', f⟩ := hX.facts hok
      have hund := f.slice hu
      obtain ⟨bb, h, hv⟩ := evNil_sound h
      refine ⟨_, h, fun ρ F w va vb h1 h2 => ?_⟩
      obtain ⟨a', n, c, rfl, rfl⟩ := hv h1
      cases h2
      refine ⟨.bool (!a'.isNone), ?_, .bool _⟩
      rw [eqGuard_at_slice, Sem.run_bind, Sem.run_pure, Result.andThen_ok]
      exact run_neq_slice_nil_any w t _ a' n c 0 0 hund
    · cases h
  · cases h
end
end Go.Eng

namespace Go.Eng
open Go
noncomputable section
variable {X : Cx} {R : Type}
variable {w0 w : World} {S : Sc} {F : Addr → Prop} {ρ : List Hd} {M : List Blk}
def CellsAt (w : World) (a : Addr) (vs : List Value) : Prop := ∀ (j : Nat) v, vs[j]? = some v → w.cell? (a.add j) = some v
theorem run_loadAt (hX : X.Okb) {t : TypeId} (hok : (X.ti t).ok = true) {a : Addr} {vs : List Value} (hl : vs.length = (X.ti t).size) (hc : CellsAt w a vs) :
    ((X.ti t).u.agg = true → (Instr.loadAt t (.pointer (some a))).run X.P w = .ok (.agg vs.toArray) w) ∧
    ((X.ti t).u.agg = false → ∀ v, vs = [v] → (Instr.loadAt t (.pointer (some a))).run X.P w = .ok v w) := by
  obtain ⟨i, d, z, f⟩ := hX.facts hok
  constructor
  · intro ha
    unfold Instr.loadAt Instr.sureAddr loadVar
    simp only [Sem.run_bind, Sem.run_pure, Result.andThen_ok, f.isAgg, ha, if_true, f.sizeOf, ← hl, run_loadCells_list w a vs hc]
  · intro ha v hv
    have h0 := hc 0 v (by simp [hv])
    simp only [Addr.add, if_true] at h0
    unfold Instr.loadAt Instr.sureAddr loadVar
    simp [f.isAgg, ha, run_load, h0]
theorem RepL.drop_take {K : TypeId → List Kind} {xs : List AV} {vs : List Value} (h : RepL K ρ F w xs vs) (off n : Nat) : RepL K ρ F w ((xs.drop off).take n) ((vs.drop off).take n) := by
  refine ⟨by simp [h.1], fun j x v hx hv => ?_⟩
  rw [List.getElem?_take] at hx hv
  split at hx
  · rename_i hj
    rw [if_pos hj] at hv
    rw [List.getElem?_drop] at hx hv
    exact h.2 _ x v hx hv
  · cases hx
theorem CellsAt.drop_take {a : Addr} {vs : List Value} (h : CellsAt w a vs) (off n : Nat) : CellsAt w (a.add off) ((vs.drop off).take n) := by
  intro j v hv
  rw [List.getElem?_take] at hv
  split at hv
  · rw [List.getElem?_drop] at hv
    rw [Addr.add_add]
    exact h _ v hv
  · cases hv
theorem Inv.var_cells (hI : Inv X w0 S F ρ M w) {id : Nat} {ks : List Kind} {cs : List AV} (hb : M[id]? = some (.var ks cs)) {hd : Hd} (hh : ρ[id]? = some hd) :
    koks ks cs = true ∧ ∃ g cur e, hd.v = .slice (some ⟨g, 0, none⟩) 1 1 ∧ hd.sz = cs.length ∧ w.heap[g]? = some (.cells cur e (0, 0)) ∧ RepL X.K ρ F w cs (cur.toList.take cs.length) ∧ CellsAt w ⟨g, 0, none⟩ (cur.toList.take cs.length) ∧ X.tyB ks e = true ∧ X.fitB ks cur.size cs.length := by
  obtain ⟨h1, h2, g, cur, e, hv, hg, hr, hy⟩ := hI.rep id _ hd hb hh
  refine ⟨h1, g, cur, e, hv, h2, hg, hr, fun j v hj => ?_, hy⟩
  rw [Addr.add_lit, Nat.zero_add, cell_of_row w g j cur e (0, 0) hg]
  rw [List.getElem?_take] at hj
  split at hj
  · simpa using hj
  · cases hj
theorem BRep.row_cells {t : TypeId} {xs : List Row} {hd : Hd} (h : BRep X ρ F w hd (.row t xs)) {i : Nat} {row : Row} (hi : xs[i]? = some row) :
    koks (X.K t) row = true ∧ hd.sz = (X.K t).length ∧ ∃ g o c cur vs, hd.v = .slice (some ⟨g, o, none⟩) xs.length c ∧ w.heap[g]? = some (.cells cur t (0, 0)) ∧ xs.length ≤ c ∧ c ≤ maxLen ∧ o + c * hd.sz ≤ cur.size ∧
      RepL X.K ρ F w row vs ∧ CellsAt w ⟨g, o + i * hd.sz, none⟩ vs ∧ (∀ (j : Nat) v, vs[j]? = some v → cur[o + i * hd.sz + j]? = some v) := by
  obtain ⟨h1, h2, h3⟩ := h
  have hk := h2 i row hi
  refine ⟨hk, h1, ?_⟩
  rcases h3 with ⟨_, he⟩ | ⟨g, o, c, cur, hv, hg, h4, h5, h6, h7⟩
  · subst he; simp at hi
  · have hlen := koks_length hk
    have hvs : ∃ vs : List Value, vs.length = row.length ∧ ∀ (j : Nat) x v, row[j]? = some x → vs[j]? = some v → cur[o + i * hd.sz + j]? = some v ∧ Rep X.K ρ F w x v := by
      refine ⟨(List.range row.length).map fun j => cur.getD (o + i * hd.sz + j) undef, by simp, fun j x v hx hv => ?_⟩
      obtain ⟨u, hu, hr⟩ := h7 i row hi j x hx
      have hj := (List.getElem?_eq_some_iff.1 hx).1
      rw [List.getElem?_map, List.getElem?_range hj] at hv
      simp only [Option.map_some, Option.some.injEq] at hv
      have : cur.getD (o + i * hd.sz + j) undef = u := by rw [Array.getD_eq_getD_getElem?, hu]; rfl
      rw [this] at hv
      subst hv
      exact ⟨hu, hr⟩
    obtain ⟨vs, hl, hvs⟩ := hvs
    have hcur : ∀ (j : Nat) v, vs[j]? = some v → cur[o + i * hd.sz + j]? = some v := by
      intro j v hj
      have hj' := (List.getElem?_eq_some_iff.1 hj).1
      exact (hvs j (row[j]'(by omega)) v (List.getElem?_eq_getElem (by omega)) hj).1
    refine ⟨g, o, c, cur, vs, hv, hg, h4, h5, h6, ⟨hl, fun j x v hx hv => (hvs j x v hx hv).2⟩, fun j v hj => ?_, hcur⟩
    rw [Addr.add_lit, cell_of_row w g _ cur t (0, 0) hg]
    exact hcur j v hj
theorem Inv.row_cells (hI : Inv X w0 S F ρ M w) {id : Nat} {t : TypeId} {xs : List Row} (hb : M[id]? = some (.row t xs)) {hd : Hd} (hh : ρ[id]? = some hd) {i : Nat} {row : Row} (hi : xs[i]? = some row) :
    koks (X.K t) row = true ∧ hd.sz = (X.K t).length ∧ ∃ g o c cur vs, hd.v = .slice (some ⟨g, o, none⟩) xs.length c ∧ w.heap[g]? = some (.cells cur t (0, 0)) ∧ xs.length ≤ c ∧ c ≤ maxLen ∧ o + c * hd.sz ≤ cur.size ∧
      RepL X.K ρ F w row vs ∧ CellsAt w ⟨g, o + i * hd.sz, none⟩ vs ∧ (∀ (j : Nat) v, vs[j]? = some v → cur[o + i * hd.sz + j]? = some v) := (hI.rep id _ hd hb hh).row_cells hi
theorem getElem?_of_getD {α : Type} {xs : List α} {i : Nat} {d : α} (h : i < xs.length) : xs[i]? = some (xs.getD i d) := by
  simp [List.getD, List.getElem?_eq_getElem h]
theorem RepL.one {K : TypeId → List Kind} {x : AV} {vs : List Value} (h : RepL K ρ F w [x] vs) : ∃ v, vs = [v] ∧ Rep K ρ F w x v := by
  obtain ⟨h1, h2⟩ := h
  match vs, h1 with
  | [v], _ => exact ⟨v, rfl, h2 0 x v rfl rfl⟩
theorem load_core (hX : X.Okb) {t : TypeId} (hok : (X.ti t).ok = true) {ks : List Kind} {row : Row} (hk : koks ks row = true) {a : Addr} {vs : List Value} (hr : RepL X.K ρ F w row vs) (hc : CellsAt w a vs) {off : Nat}
    (hb : off + (X.ti t).size ≤ ks.length) :
    ((X.ti t).u.agg = true → ∃ v, (Instr.loadAt t (.pointer (some (a.add off)))).run X.P w = .ok v w ∧ Rep X.K ρ F w (.agg (ldn ks row off (X.ti t).size)) v) ∧
    ((X.ti t).u.agg = false → (X.ti t).size = 1 → ∃ v, (Instr.loadAt t (.pointer (some (a.add off)))).run X.P w = .ok v w ∧ Rep X.K ρ F w (row.getD off .top) v) := by
  have hl := koks_length hk
  have hvl := hr.1
  have hr' := hr.drop_take off (X.ti t).size
  have hc' := hc.drop_take off (X.ti t).size
  have hlen : ((vs.drop off).take (X.ti t).size).length = (X.ti t).size := by simp; omega
  obtain ⟨l1, l2⟩ := run_loadAt (w := w) hX hok hlen hc'
  constructor
  · intro ha
    refine ⟨_, l1 ha, ?_⟩
    rw [ldn_eq hk _ _ hb]
    exact .agg _ _ hr'.1 hr'.2
  · intro ha h1
    have hlt : off < row.length := by omega
    have e : (row.drop off).take (X.ti t).size = [row.getD off .top] := by
      rw [h1, List.drop_eq_getElem_cons hlt, List.take_succ_cons, List.take_zero]
      simp only [List.getD, List.getElem?_eq_getElem hlt, Option.getD_some]
    rw [e] at hr'
    obtain ⟨v, hv, hrep⟩ := hr'.one
    exact ⟨v, l2 ha v hv, hrep⟩
theorem evLoad_sound (hX : X.Okb) {t : TypeId} {p : AV} {k : AV → Option R} {r : R} (h : evLoad X t p M k = some r) :
    ∃ z, k z = some r ∧ ∀ {w0 : World} {S : Sc} {F : Addr → Prop} {ρ : List Hd} {w : World} {vp : Value}, Inv X w0 S F ρ M w → Rep X.K ρ F w p vp → ∃ v, (Instr.loadAt t vp).run X.P w = .ok v w ∧ Rep X.K ρ F w z v := by
  unfold evLoad at h
  simp only [gm_eq] at h
  split at h
  · rename_i t' row off
    replace h := tst_some h
    obtain ⟨h1, h⟩ := h
    simp only [Bool.and_eq_true, decide_eq_true_eq] at h1
    split at h
    · rename_i ha
      refine ⟨_, h, fun {w0 S F ρ w vp} hI hp => ?_⟩
      cases hp with
      | iptr _ _ _ a vs hk hl hc hr => exact (load_core hX h1.1 hk ⟨hl, hr⟩ (fun j v hv => (hc j v hv).1) h1.2).1 ha
    · rename_i ha
      replace h := tst_some h
      obtain ⟨h2, h⟩ := h
      refine ⟨_, h, fun {w0 S F ρ w vp} hI hp => ?_⟩
      cases hp with
      | iptr _ _ _ a vs hk hl hc hr =>
        obtain ⟨v, hv1, hv2⟩ := (load_core hX h1.1 hk ⟨hl, hr⟩ (fun j v hv => (hc j v hv).1) h1.2).2 ha (by simpa using h2)
        refine ⟨v, hv1, ?_⟩
        have hs : (X.ti t).size = 1 := by simpa using h2
        have hoff : off < (X.K t').length := by omega
        rw [kHom_eq hoff, ld_of_kok]
        · exact hv2
        · have hlt : off < row.length := by rw [koks_length hk]; exact hoff
          exact koks_get hk (List.getElem?_eq_getElem hoff) (getElem?_of_getD hlt)
  · rename_i id i off
    split at h
    · rename_i ks cs hb
      replace h := tst_some h
      obtain ⟨h1, h⟩ := h
      simp only [Bool.and_eq_true, decide_eq_true_eq, beq_iff_eq] at h1
      obtain ⟨⟨hok, hi0⟩, hbd⟩ := h1
      subst hi0
      have core : ∀ {w0 : World} {S : Sc} {F : Addr → Prop} {ρ : List Hd} {w : World} {vp : Value}, Inv X w0 S F ρ M w → Rep X.K ρ F w (.ptr id 0 off) vp →
          koks ks cs = true ∧ ∃ a vs, vp = .pointer (some (Addr.add a off)) ∧ RepL X.K ρ F w cs vs ∧ CellsAt w a vs := by
        intro w0 S F ρ w vp hI hp
        cases hp with
        | ptr _ _ _ hd g o n c hid hv =>
          obtain ⟨hk, g', cur, e, hv', hsz, hg, hr, hc, _⟩ := hI.var_cells hb hid
          rw [hv] at hv'
          injection hv' with h1 h2 h3
          injection h1 with h1
          injection h1 with h1 h4 h5
          subst h1; subst h4
          refine ⟨hk, ⟨g, 0, none⟩, cur.toList.take cs.length, ?_, hr, hc⟩
          simp [Addr.add_lit]
      split at h
      · rename_i ha
        refine ⟨_, h, fun {w0 S F ρ w vp} hI hp => ?_⟩
        obtain ⟨hk, a, vs, rfl, hr, hc⟩ := core hI hp
        exact (load_core hX hok hk hr hc hbd).1 ha
      · rename_i ha
        replace h := tst_some h
        obtain ⟨h2, h⟩ := h
        simp only [Bool.and_eq_true, beq_iff_eq] at h2
        refine ⟨_, h, fun {w0 S F ρ w vp} hI hp => ?_⟩
        obtain ⟨hk, a, vs, rfl, hr, hc⟩ := core hI hp
        obtain ⟨v, hv1, hv2⟩ := (load_core hX hok hk hr hc hbd).2 ha h2.1
        refine ⟨v, hv1, ?_⟩
        have hlt : off < cs.length := by have := koks_length hk; omega
        rw [ld_of_kok (koks_get hk (kAt_get h2.2 (by omega)) (getElem?_of_getD hlt))]
        exact hv2
    · rename_i t' xs hb
      replace h := tst_some h
      obtain ⟨h1, h⟩ := h
      simp only [Bool.and_eq_true, decide_eq_true_eq] at h1
      obtain ⟨⟨hok, hbd⟩, hi⟩ := h1
      have core : ∀ {w0 : World} {S : Sc} {F : Addr → Prop} {ρ : List Hd} {w : World} {vp : Value}, Inv X w0 S F ρ M w → Rep X.K ρ F w (.ptr id i off) vp →
          koks (X.K t') (xs.getD i []) = true ∧ ∃ a vs, vp = .pointer (some (Addr.add a off)) ∧ RepL X.K ρ F w (xs.getD i []) vs ∧ CellsAt w a vs := by
        intro w0 S F ρ w vp hI hp
        cases hp with
        | ptr _ _ _ hd g o n c hid hv =>
          obtain ⟨hk, hsz, g', o', c', cur, vs, hv', hg, _, _, _, hr, hc, _⟩ := hI.row_cells hb hid (getElem?_of_getD (d := []) hi)
          rw [hv] at hv'
          injection hv' with h1 h2 h3
          injection h1 with h1
          injection h1 with h1 h4 h5
          subst h1; subst h4
          refine ⟨hk, _, vs, ?_, hr, hc⟩
          simp [Addr.add_lit]
      split at h
      · rename_i ha
        refine ⟨_, h, fun {w0 S F ρ w vp} hI hp => ?_⟩
        obtain ⟨hk, a, vs, rfl, hr, hc⟩ := core hI hp
        exact (load_core hX hok hk hr hc hbd).1 ha
      · rename_i ha
        replace h := tst_some h
        obtain ⟨h2, h⟩ := h
        refine ⟨_, h, fun {w0 S F ρ w vp} hI hp => ?_⟩
        obtain ⟨hk, a, vs, rfl, hr, hc⟩ := core hI hp
        have hs : (X.ti t).size = 1 := by simpa using h2
        obtain ⟨v, hv1, hv2⟩ := (load_core hX hok hk hr hc hbd).2 ha hs
        refine ⟨v, hv1, ?_⟩
        have hoff : off < (X.K t').length := by omega
        have hlt : off < (xs.getD i []).length := by rw [koks_length hk]; exact hoff
        rw [show (X.K t').getD off .raw = (X.K t')[off] by simp [List.getD, List.getElem?_eq_getElem hoff], ld_of_kok (koks_get hk (List.getElem?_eq_getElem hoff) (getElem?_of_getD hlt))]
        exact hv2
    · rename_i t' xs op hb
      replace h := tst_some h
      obtain ⟨h1, h⟩ := h
      simp only [Bool.and_eq_true, decide_eq_true_eq] at h1
      obtain ⟨⟨hok, hbd⟩, hi⟩ := h1
      split at h
      · cases h
      · rename_i ha
        replace h := tst_some h
        obtain ⟨h2, h⟩ := h
        have hs : (X.ti t).size = 1 := by simpa using h2
        have hoff : off < (X.K t').length := by omega
        have core : ∀ {w0 : World} {S : Sc} {F : Addr → Prop} {ρ : List Hd} {w : World} {vp : Value}, Inv X w0 S F ρ M w → Rep X.K ρ F w (.ptr id i off) vp →
            (kokN ((X.K t').getD off .raw) ((xs.getD i []).getD off .top) = true ∧ (X.K t').getD off .raw ≠ .any) ∧ ∃ v, (Instr.loadAt t vp).run X.P w = .ok v w ∧ (∀ k, opAt op i off = some k → ∃ h, ρ[k]? = some h ∧ v = h.v) ∧ (opAt op i off = none → NCell X ρ F w ((xs.getD i []).getD off .top) v) := by
          intro w0 S F ρ w vp hI hp
          cases hp with
          | ptr _ _ _ hd g o n c hid hv =>
            obtain ⟨q0, q1, q2, q3, q4⟩ := hI.nst.rep hb hid
            have hxi := getElem?_of_getD (d := ([] : Row)) hi
            have hkl := koksN_length (q2 i _ hxi)
            have hlt : off < (xs.getD i []).length := by omega
            have hx : (xs.getD i [])[off]? = some ((xs.getD i []).getD off .top) := getElem?_of_getD hlt
            obtain ⟨kd, e1, e2⟩ := koksN_get (q2 i _ hxi) hx
            refine ⟨⟨by simp only [List.getD, e1, Option.getD_some]; exact e2, by simp only [List.getD, e1, Option.getD_some]; exact q0 _ _ (List.mem_of_getElem? e1)⟩, ?_⟩
            rcases q4 with ⟨q4, _⟩ | ⟨g', o', c', cur, q4, q5, q6, q7, q8, q9⟩
            · rw [hv] at q4; cases q4
            · rw [hv] at q4
              injection q4 with e1 e2 e3
              injection e1 with e1
              injection e1 with e1 e4 e5
              subst e1; subst e4
              obtain ⟨v, hcv, ho, hn⟩ := q9 i _ hxi off _ hx
              refine ⟨v, ?_, ho, hn⟩
              refine (run_loadAt (w := w) hX hok (vs := [v]) (by simp [hs]) (fun j u hj => ?_)).2 ha v rfl
              cases j with
              | zero =>
                simp at hj; subst hj
                rw [Addr.add_lit, cell_of_row w g _ cur t' (0, 0) q5]
                simpa using hcv
              | succ j => simp at hj
        split at h
        · rename_i i0 k0 ho
          replace h := tst_some h
          obtain ⟨h3, h⟩ := h
          have hi0 : i = i0 := Nat.eq_of_beq_eq_true h3
          subst hi0
          have hop := opAt_col_some ho
          refine ⟨_, h, fun {w0 S F ρ w vp} hI hp => ?_⟩
          obtain ⟨_, v, hv1, hv2, _⟩ := core hI hp
          obtain ⟨h', e1, e2⟩ := hv2 k0 (by rw [hop]; simp [opAt])
          exact ⟨v, hv1, by rw [e2]; exact .own k0 h' e1⟩
        · rename_i ho
          have hon := opAt_col ho i
          have plain : ∀ {w0 : World} {S : Sc} {F : Addr → Prop} {ρ : List Hd} {w : World} {vp : Value}, Inv X w0 S F ρ M w → Rep X.K ρ F w (.ptr id i off) vp → (kokN ((X.K t').getD off .raw) ((xs.getD i []).getD off .top) = true ∧ (X.K t').getD off .raw ≠ .any) ∧
              ∃ v, (Instr.loadAt t vp).run X.P w = .ok v w ∧ (((xs.getD i []).getD off .top).isSub = false → Rep X.K ρ F w ((xs.getD i []).getD off .top) v) := by
            intro w0 S F ρ w vp hI hp
            obtain ⟨hk, v, hv1, _, hv3⟩ := core hI hp
            refine ⟨hk, v, hv1, fun hns => ?_⟩
            have := hv3 hon
            unfold NCell at this
            split at this
            · rename_i e; rw [e] at hns; cases hns
            · exact this
          unfold ldN at h
          split at h
          · rename_i kd te hkd
            replace h := tst_some h
            obtain ⟨h3, h⟩ := h
            refine ⟨_, h, fun {w0 S F ρ w vp} hI hp => ?_⟩
            obtain ⟨⟨hk, _⟩, v, hv1, hv2⟩ := plain hI hp
            refine ⟨v, hv1, ?_⟩
            rw [hkd] at hk
            generalize (xs.getD i []).getD off .top = x at h3 hk hv2
            cases x <;> simp only [AV.isLst, Bool.false_eq_true] at h3
            have hk : (te == _) = true := hk
            rw [beq_iff_eq] at hk
            subst hk
            exact hv2 rfl
          · rename_i hkd
            refine ⟨_, h, fun {w0 S F ρ w vp} hI hp => ?_⟩
            obtain ⟨⟨hk, hany⟩, v, hv1, hv2⟩ := plain hI hp
            have hns : ((xs.getD i []).getD off .top).isSub = false := by
              unfold kokN at hk
              split at hk
              · rename_i te _ _ e1 _; exact absurd e1 (hkd te)
              · generalize (xs.getD i []).getD off .top = x at hk
                cases x <;> first | rfl | skip
                generalize (X.K t').getD off .raw = kd at hk hany
                cases kd <;> first | (simp [kok, AV.pure, AV.leaf] at hk; done) | exact absurd rfl hany
            refine ⟨v, hv1, ?_⟩
            rw [ld_of_kok (kok_of_kokN hk hns)]
            exact hv2 hns
    · cases h
  · cases h
end
end Go.Eng

namespace Go.Eng
open Go
noncomputable section
variable {X : Cx} {R : Type}
variable {w0 w : World} {S : Sc} {F : Addr → Prop} {ρ : List Hd} {M : List Blk}
def ptrIds : AV → List Nat | .ptr id _ _ => [id] | _ => []
def ownIds : AV → List Nat | .own id => [id] | _ => []
def rdIds : AV → List Nat | .own id => [id] | .vw id _ _ => [id] | _ => []
def frz (k : Kind) (x : AV) (M : List Blk) (c : AV → List Blk → Option R) : Option R :=
  match k, x with
  | .slice t, .nilsl => c (.list t []) M
  | .slice t, .own id =>
    match gm M id with
    | some (.row t' xs) => tst (t == t') (c (.list t' xs) (M.set id (.fro t' xs)))
    | some (.fro t' xs) => tst (t == t') (c (.list t' xs) M)
    | _ => none
  | _, x => c x M
def frzL : List Kind → List AV → List Blk → (List AV → List Blk → Option R) → Option R
  | k :: ks, x :: xs, M, c => frz k x M fun x' M' => frzL ks xs M' fun xs' M'' => c (x' :: xs') M''
  | _, xs, M, c => c xs M
theorem rep_list_of_brow {t : TypeId} {xs : List Row} {hd : Hd} (hrep : BRep X ρ F w hd (.row t xs)) :
    (hd.blk? = none ∧ xs = [] ∧ hd.v = .slice none 0 0) ∨ ∃ g, hd.blk? = some g ∧ ∀ (F' : Addr → Prop), (∀ a, F a → F' a) → (∀ a, a.block = g → F' a) → Rep X.K ρ F' w (.list t xs) hd.v := by
  have hrep' := hrep
  obtain ⟨h1, h2, h3⟩ := hrep
  rcases h3 with ⟨h3, h4⟩ | ⟨g, o, c, cur, hv, hg, h4, h5, h6, h7⟩
  · exact .inl ⟨by simp [Hd.blk?, Value.blk?, h3], h4, h3⟩
  · refine .inr ⟨g, by simp [Hd.blk?, Value.blk?, hv], fun F' hF hF' => ?_⟩
    rw [hv]
    have hrow : ∀ i : Nat, i < xs.length → ∃ vs, RepL X.K ρ F w (xs.getD i []) vs ∧ CellsAt w ⟨g, o + i * hd.sz, none⟩ vs := by
      intro i hi
      obtain ⟨_, _, g', o', c', cur', vs, hv', _, _, _, _, hr, hc, _⟩ := hrep'.row_cells (getElem?_of_getD (d := []) hi)
      rw [hv] at hv'
      injection hv' with e1 e2 e3
      injection e1 with e1
      injection e1 with e1 e4 e5
      subst e1; subst e4
      exact ⟨vs, hr, hc⟩
    let vss : List (List Value) := (List.range xs.length).map fun i => if h : i < xs.length then (hrow i h).choose else []
    have hvss : ∀ (i : Nat) vs, vss[i]? = some vs → ∃ h : i < xs.length, vs = (hrow i h).choose := by
      intro i vs hvs
      have hi : i < xs.length := by
        have := (List.getElem?_eq_some_iff.1 hvs).1
        simpa [vss] using this
      refine ⟨hi, ?_⟩
      simp only [vss, List.getElem?_map, List.getElem?_range hi, Option.map_some, Option.some.injEq, dif_pos hi] at hvs
      exact hvs.symm
    refine .list t xs ⟨g, o, none⟩ c vss (by simp [vss]) h4 h5 h2 ?_ ?_
    · intro i vs hvs
      obtain ⟨hi, rfl⟩ := hvss i vs hvs
      obtain ⟨hr, hc⟩ := (hrow i hi).choose_spec
      refine ⟨by rw [hr.1, koks_length (h2 i _ (getElem?_of_getD hi))], fun j v hj => ?_⟩
      have := hc j v hj
      rw [Addr.add_lit] at this ⊢
      rw [← h1]
      rw [show o + (i * hd.sz + j) = o + i * hd.sz + j by omega]
      exact ⟨this, hF' _ rfl⟩
    · intro i row vs hrow' hvs j x v hx hv'
      obtain ⟨hi, rfl⟩ := hvss i vs hvs
      obtain ⟨hr, _⟩ := (hrow i hi).choose_spec
      have e : row = xs.getD i [] := by
        have := getElem?_of_getD (d := ([] : Row)) hi
        rw [hrow'] at this
        injection this
      subst e
      exact (hr.2 j x v hx hv').mono (fun _ _ h => h) hF (fun _ _ _ h => h)
theorem rep_list_of_row (hI : Inv X w0 S F ρ M w) {id : Nat} {t : TypeId} {xs : List Row} (hb : M[id]? = some (.row t xs)) {hd : Hd} (hh : ρ[id]? = some hd) :
    (hd.blk? = none ∧ xs = [] ∧ hd.v = .slice none 0 0) ∨ ∃ g, hd.blk? = some g ∧ ∀ (F' : Addr → Prop), (∀ a, F a → F' a) → (∀ a, a.block = g → F' a) → Rep X.K ρ F' w (.list t xs) hd.v := rep_list_of_brow (hI.rep id _ hd hb hh)
theorem Inv.retag (hI : Inv X w0 S F ρ M w) {id : Nat} {b b' : Blk} {hd : Hd} (hb : M[id]? = some b) (hh : ρ[id]? = some hd) (hgb : hd.blk? = none) (hrep : BRep X ρ F w hd b') (hn : b'.isNst = false := by rfl) : Inv X w0 S F ρ (M.set id b') w where
  os := hI.os
  tape := hI.tape
  output := hI.output
  size := hI.size
  frame := hI.frame
  len := by simpa using hI.len
  rep := fun id' c h' hc hh' => by
    by_cases hid : id' = id
    · subst hid
      have hlt := (List.getElem?_eq_some_iff.1 hb).1
      rw [List.getElem?_set_self hlt] at hc
      injection hc with hc
      subst hc
      rw [hh] at hh'
      injection hh' with hh'
      subst hh'
      exact hrep
    · rw [List.getElem?_set_ne (Ne.symm hid)] at hc
      exact hI.rep id' c h' hc hh'
  sep := fun id' c h' g' hc hd2 hh' hg' => by
    by_cases hid : id' = id
    · subst hid
      rw [hh] at hh'
      injection hh' with hh'
      subst hh'
      rw [hgb] at hg'
      cases hg'
    · rw [List.getElem?_set_ne (Ne.symm hid)] at hc
      exact hI.sep id' c h' g' hc hd2 hh' hg'
  disj := fun i j c d hc h' k hij h1 h2 h3 h4 h5 h6 h7 => by
    by_cases hi : i = id
    · subst hi
      rw [hh] at h5
      injection h5 with h5
      subst h5
      rw [hgb] at h7
      cases h7
    · by_cases hj : j = id
      · subst hj
        rw [hh] at h6
        injection h6 with h6
        subst h6
        rw [hgb]
        simp
      · rw [List.getElem?_set_ne (Ne.symm hi)] at h1
        rw [List.getElem?_set_ne (Ne.symm hj)] at h2
        exact hI.disj i j c d hc h' k hij h1 h2 h3 h4 h5 h6 h7
  fz := hI.fz
  glob := hI.glob
  one := hI.one
  old := hI.old
  fin := hI.fin
  nst := hI.nst.set hn fun g h' _ hh' hg => by rw [hh] at hh'; injection hh' with hh'; subst hh'; rw [hgb] at hg; cases hg
theorem frz_sound {k : Kind} {x : AV} {c : AV → List Blk → Option R} {r : R} (h : frz k x M c = some r) :
    ∃ x' M', c x' M' = some r ∧ M'.length = M.length ∧ Agree (ownIds x) M M' ∧ ∀ {w0 : World} {S : Sc} {F : Addr → Prop} {ρ : List Hd} {w : World}, Inv X w0 S F ρ M w → ∃ F', Inv X w0 S F' ρ M' w ∧ Grow F F' ρ ρ w w ∧ ∀ v, Rep X.K ρ F w x v → Rep X.K ρ F' w x' v := by
  unfold frz at h
  simp only [gm_eq] at h
  split at h
  · exact ⟨_, _, h, rfl, Agree.refl _ _, fun {w0 S F ρ w} hI => ⟨F, hI, Grow.refl _ _ _, fun v hv => by cases hv; exact .list0 _⟩⟩
  · rename_i t id
    split at h
    · rename_i t' xs hb
      replace h := tst_some h
      obtain ⟨_, h⟩ := h
      refine ⟨_, _, h, by simp, Agree.set _ _ _, fun {w0 S F ρ w} hI => ?_⟩
      have hlt : id < ρ.length := by have := (List.getElem?_eq_some_iff.1 hb).1; have := hI.len; omega
      have hh : ρ[id]? = some ρ[id] := List.getElem?_eq_getElem hlt
      rcases rep_list_of_row hI hb hh with ⟨h1, h2, h3⟩ | ⟨g, h1, h2⟩
      · refine ⟨F, hI.retag hb hh h1 ?_, Grow.refl _ _ _, fun v hv => ?_⟩
        · subst h2
          show Rep _ _ _ _ _ _
          rw [h3]
          exact .list0 _
        · cases hv with
          | own _ hd hid =>
            rw [hh] at hid
            injection hid with hid
            subst hid
            subst h2
            rw [h3]
            exact .list0 _
      · have hr := h2 (fun a => F a ∨ a.block = g) (fun _ h => .inl h) (fun _ h => .inr h)
        refine ⟨_, hI.freeze hb rfl hh h1 (b' := .fro t' xs) rfl hr, ⟨fun _ h => .inl h, fun _ _ h => h, fun _ _ => rfl⟩, fun v hv => ?_⟩
        cases hv with
        | own _ hd hid =>
          rw [hh] at hid
          injection hid with hid
          subst hid
          exact hr
    · rename_i t' xs hb
      replace h := tst_some h
      obtain ⟨_, h⟩ := h
      refine ⟨_, _, h, rfl, Agree.refl _ _, fun {w0 S F ρ w} hI => ⟨F, hI, Grow.refl _ _ _, fun v hv => ?_⟩⟩
      cases hv with
      | own _ hd hid => exact hI.rep id _ hd hb hid
    · cases h
  · exact ⟨_, _, h, rfl, Agree.refl _ _, fun {w0 S F ρ w} hI => ⟨F, hI, Grow.refl _ _ _, fun _ hv => hv⟩⟩
theorem frzL_sound : ∀ (ks : List Kind) (xs : List AV) (M : List Blk) {c : List AV → List Blk → Option R} {r : R}, frzL ks xs M c = some r →
    ∃ xs' M', c xs' M' = some r ∧ M'.length = M.length ∧ Agree (xs.flatMap ownIds) M M' ∧ ∀ {w0 : World} {S : Sc} {F : Addr → Prop} {ρ : List Hd} {w : World}, Inv X w0 S F ρ M w → ∃ F', Inv X w0 S F' ρ M' w ∧ Grow F F' ρ ρ w w ∧ ∀ vs, RepL X.K ρ F w xs vs → RepL X.K ρ F' w xs' vs
  | [], xs, M, c, r, h => by
    simp only [frzL] at h
    exact ⟨_, _, h, rfl, Agree.refl _ _, fun {w0 S F ρ w} hI => ⟨F, hI, Grow.refl _ _ _, fun _ hv => hv⟩⟩
  | k :: ks, [], M, c, r, h => by
    simp only [frzL] at h
    exact ⟨_, _, h, rfl, Agree.refl _ _, fun {w0 S F ρ w} hI => ⟨F, hI, Grow.refl _ _ _, fun _ hv => hv⟩⟩
  | k :: ks, x :: xs, M, c, r, h => by
    simp only [frzL] at h
    obtain ⟨x', M1, h, hl1, ha1, h1⟩ := frz_sound (X := X) h
    obtain ⟨xs', M2, h, hl2, ha2, h2⟩ := frzL_sound ks xs M1 h
    refine ⟨_, _, h, by omega, by rw [List.flatMap_cons]; exact ha1.trans ha2, fun {w0 S F ρ w} hI => ?_⟩
    obtain ⟨F1, i1, g1, r1⟩ := h1 hI
    obtain ⟨F2, i2, g2, r2⟩ := h2 i1
    refine ⟨F2, i2, g1.trans g2, fun vs hvs => ?_⟩
    match vs, hvs.1 with
    | v :: vs', hl =>
      have hx : Rep X.K ρ F w x v := hvs.2 0 x v rfl rfl
      have hr := r2 vs' ⟨by simpa using hl, fun j y u hy hu => (hvs.2 (j + 1) y u (by simpa using hy) (by simpa using hu)).grow g1⟩
      refine ⟨by simp [hr.1], fun j y u hy hu => ?_⟩
      cases j with
      | zero => simp at hy hu; subst hy; subst hu; exact (r1 v hx).grow g2
      | succ j => exact hr.2 j y u (by simpa using hy) (by simpa using hu)
theorem splice_get (cur : Array Value) (vs : List Value) (o : Nat) (hb : o + vs.length ≤ cur.size) (j : Nat) :
    (cur.toList.take o ++ vs ++ cur.toList.drop (o + vs.length)).toArray[j]? = if o ≤ j ∧ j < o + vs.length then vs[j - o]? else cur[j]? := by
  simp only [List.getElem?_toArray, List.append_assoc]
  by_cases h1 : j < o
  · rw [List.getElem?_append_left (by simp; omega), if_neg (by omega), List.getElem?_take, if_pos h1]
    simp
  · rw [List.getElem?_append_right (by simp; omega)]
    have e : (List.take o cur.toList).length = o := by simp; omega
    rw [e]
    by_cases h2 : j < o + vs.length
    · rw [if_pos ⟨by omega, h2⟩, List.getElem?_append_left (by omega)]
    · rw [if_neg (by omega), List.getElem?_append_right (by omega), List.getElem?_drop]
      rw [show o + vs.length + (j - o - vs.length) = j by omega]
      simp
theorem run_storeAt (hX : X.Okb) {t : TypeId} (hok : (X.ti t).ok = true) {g o : Nat} {cur : Array Value} {e : TypeId} (hg : w.heap[g]? = some (.cells cur e (0, 0))) {v : Value} (hs : v.cells.size = (X.ti t).size)
    (hb : o + v.cells.size ≤ cur.size) (h1 : ∀ u ∈ v.cells.toList, u.oneCell' = true) :
    (Instr.storeAt t (.pointer (some ⟨g, o, none⟩)) v).run X.P w = .ok () (w.setRow g (cur.toList.take o ++ v.cells.toList ++ cur.toList.drop (o + v.cells.toList.length)).toArray) := by
  obtain ⟨i, d, z, f⟩ := hX.facts hok
  have hst := run_storeCells_at X.P g o e v.cells.toList 0 cur w hg (by simpa using hb) h1
  simp only [Nat.add_zero] at hst
  unfold Instr.storeAt Instr.sureAddr storeVar
  simp only [Sem.run_bind, Sem.run_pure, Result.andThen_ok, f.sizeOf, hs, ne_eq, not_true_eq_false, if_false, hst]
theorem grownBy_setRow (w : World) (g : Nat) (cs : Array Value) : w.grownBy (w.setRow g cs) (some g) :=
  ⟨rfl, rfl, rfl, by simp, fun k _ hk => setRow_other w g k cs (fun e => hk (by rw [e]))⟩
theorem leaf_or_agg {x : AV} (h : x.plain = true) : x.leaf = true ∨ ∃ cs, x = .agg cs := by
  cases x <;> simp_all [AV.plain, AV.leaf]
theorem range_iff {o i i' off j m sz : Nat} (hj : j < sz) (hm : off + m ≤ sz) : (o + i * sz + off ≤ o + i' * sz + j ∧ o + i' * sz + j < o + i * sz + off + m) ↔ (i' = i ∧ off ≤ j ∧ j < off + m) := by
  constructor
  · rintro ⟨h1, h2⟩
    rcases Nat.lt_trichotomy i' i with h | h | h
    · have : (i' + 1) * sz ≤ i * sz := Nat.mul_le_mul_right _ (by omega)
      rw [Nat.add_mul, Nat.one_mul] at this
      omega
    · subst h; exact ⟨rfl, by omega, by omega⟩
    · have : (i + 1) * sz ≤ i' * sz := Nat.mul_le_mul_right _ (by omega)
      rw [Nat.add_mul, Nat.one_mul] at this
      omega
  · rintro ⟨rfl, h1, h2⟩; omega
theorem NRep.store {hd : Hd} {t : TypeId} {xs xs' : List Row} {op op' : Option (Nat × Nat × Nat)} (h : NRep X ρ F w hd t xs op) {g o n c : Nat} {cur : Array Value} {e : TypeId} (hv : hd.v = .slice (some ⟨g, o, none⟩) n c) (hg : w.heap[g]? = some (.cells cur e (0, 0)))
    {i off : Nat} {vs : List Value} (hi : i < xs.length) (hb : off + vs.length ≤ (X.K t).length) (hF : ∀ a, F a → a.block ≠ g) (hsub : ∀ p k, HidB w hd xs op (some p) k → k ≠ g) (hlen : xs'.length = xs.length)
    (hop : ∀ i j k, op' = some (i, j, k) → i < xs.length ∧ j < (X.K t).length)
    (hxs : ∀ (i' : Nat) row', xs'[i']? = some row' → ∃ row, xs[i']? = some row ∧ koksN (X.K t) row' = true ∧ ∀ (j : Nat) x, row'[j]? = some x →
      (i' = i ∧ off ≤ j ∧ j < off + vs.length ∧ ∀ v, vs[j - off]? = some v → (∀ k, opAt op' i' j = some k → ∃ h, ρ[k]? = some h ∧ v = h.v) ∧ (opAt op' i' j = none → x.isSub = false ∧ Rep X.K ρ F w x v)) ∨
      (¬ (i' = i ∧ off ≤ j ∧ j < off + vs.length) ∧ row[j]? = some x ∧ opAt op' i' j = opAt op i' j)) :
    let w' := w.setRow g (cur.toList.take (o + i * hd.sz + off) ++ vs ++ cur.toList.drop (o + i * hd.sz + off + vs.length)).toArray
    o + i * hd.sz + off + vs.length ≤ cur.size ∧ NRep X ρ F w' hd t xs' op' ∧ ∀ p k, HidB w' hd xs' op' p k → HidB w hd xs op p k := by
  intro w'
  obtain ⟨q0, q1, q2, q3, q4⟩ := h
  rcases q4 with ⟨q4, _⟩ | ⟨g', o', c', cur', q4, q5, q6, q7, q8, q9⟩
  · rw [hv] at q4; cases q4
  rw [hv] at q4
  injection q4 with e1 e2 e3
  injection e1 with e1
  injection e1 with e1 e4 e5
  subst e1; subst e4; subst e2; subst e3
  rw [hg] at q5
  injection q5 with q5
  injection q5 with q5 q5'
  subst q5; subst q5'
  have hrowb : o + i * hd.sz + off + vs.length ≤ cur.size := by
    have : (i + 1) * hd.sz ≤ c * hd.sz := Nat.mul_le_mul_right _ (by omega)
    rw [Nat.add_mul, Nat.one_mul] at this
    omega
  have hw' : w'.heap[g]? = some (.cells (cur.toList.take (o + i * hd.sz + off) ++ vs ++ cur.toList.drop (o + i * hd.sz + off + vs.length)).toArray e (0, 0)) := setRow_heap w g cur _ e _ hg
  have hcell : ∀ a v, F a → w.cell? a = some v → w'.cell? a = some v := fun a v ha hc => cell_of_blk (setRow_other w g a.block _ (hF a ha)) hc
  have hlenr : ∀ {i' : Nat} {row' : Row} {j : Nat} {x : AV}, xs'[i']? = some row' → row'[j]? = some x → j < hd.sz := by
    intro i' row' j x h1 h2
    obtain ⟨_, _, hk, _⟩ := hxs i' row' h1
    rw [q1, ← koksN_length hk]
    exact (List.getElem?_eq_some_iff.1 h2).1
  have hget : ∀ (i' j : Nat), j < hd.sz → (cur.toList.take (o + i * hd.sz + off) ++ vs ++ cur.toList.drop (o + i * hd.sz + off + vs.length)).toArray[o + i' * hd.sz + j]? = if i' = i ∧ off ≤ j ∧ j < off + vs.length then vs[j - off]? else cur[o + i' * hd.sz + j]? := by
    intro i' j hj
    rw [splice_get cur vs _ hrowb]
    have hri := range_iff (o := o) (i := i) (i' := i') (off := off) (j := j) (m := vs.length) (sz := hd.sz) hj (by omega)
    by_cases hc : i' = i ∧ off ≤ j ∧ j < off + vs.length
    · rw [if_pos hc, if_pos (hri.2 hc)]
      obtain ⟨rfl, _, _⟩ := hc
      congr 1; omega
    · rw [if_neg hc, if_neg (fun h => hc (hri.1 h))]
  have hcl : ∀ (i' j : Nat), j < hd.sz → ¬ (i' = i ∧ off ≤ j ∧ j < off + vs.length) → cellOf w' hd i' j = cellOf w hd i' j := by
    intro i' j hj hn
    simp only [cellOf, hv]
    rw [Addr.add_lit, cell_of_row w' g _ _ e (0, 0) hw', cell_of_row w g _ cur e (0, 0) hg, ← Nat.add_assoc, hget i' j hj, if_neg hn]
  refine ⟨hrowb, ⟨q0, q1, fun i' row' h1 => (hxs i' row' h1).choose_spec.2.1, fun i j k hk => by rw [hlen]; exact hop i j k hk, .inr ⟨g, o, c, _, by rw [hlen]; exact hv, hw', by rw [hlen]; exact q6, q7, ?_, fun i' row' h1 j x h2 => ?_⟩⟩, fun p k hh => ?_⟩
  · simp only [List.size_toArray, List.length_append, List.length_take, List.length_drop, Array.length_toList]; omega
  · obtain ⟨row, h3, _, h4⟩ := hxs i' row' h1
    have hj := hlenr h1 h2
    rw [hget i' j hj]
    rcases h4 j x h2 with ⟨c1, c2, c3, h5⟩ | ⟨hn, h5, h6⟩
    · rw [if_pos ⟨c1, c2, c3⟩]
      have hlt : j - off < vs.length := by omega
      obtain ⟨h6, h7⟩ := h5 _ (List.getElem?_eq_getElem hlt)
      refine ⟨_, List.getElem?_eq_getElem hlt, h6, fun ho => ?_⟩
      obtain ⟨h8, h9⟩ := h7 ho
      unfold NCell
      split
      · cases h8
      · exact h9.mono (fun _ _ h => h) (fun _ h => h) hcell
    · rw [if_neg hn]
      obtain ⟨v, h7, h8, h9⟩ := q9 i' row h3 j x h5
      refine ⟨v, h7, by rw [h6]; exact h8, fun ho => ?_⟩
      rw [h6] at ho
      have h9 := h9 ho
      have hcv : cellOf w hd i' j = some v := by
        simp only [cellOf, hv]
        rw [Addr.add_lit, cell_of_row w g _ cur e (0, 0) hg, ← Nat.add_assoc]; exact h7
      unfold NCell at h9 ⊢
      split at h9
      · refine ⟨h9.1.mono (fun _ _ h => h) (fun _ h => h) hcell (fun k hk => ?_), h9.2⟩
        exact setRow_other w g k _ (hsub (i', j) k (.inr ⟨i', j, row, _, _, v, rfl, h3, h5, ho, hcv, hk⟩))
      · exact h9.mono (fun _ _ h => h) (fun _ h => h) hcell
  · rcases hh with hh | ⟨i', j, row', e', ys, v, rfl, h1, h2, h3, h4, h5⟩
    · exact .inl hh
    · obtain ⟨row, h6, _, h7⟩ := hxs i' row' h1
      have hj := hlenr h1 h2
      rcases h7 j _ h2 with ⟨c1, c2, c3, h8⟩ | ⟨hn, h8, h9⟩
      · have hlt : j - off < vs.length := by omega
        have := ((h8 _ (List.getElem?_eq_getElem hlt)).2 h3).1
        cases this
      · exact .inr ⟨i', j, row, e', ys, v, rfl, h6, h8, by rw [← h9]; exact h3, by rw [← hcl i' j hj hn]; exact h4, h5⟩
def opFits (op : Option (Nat × Nat × Nat)) (i off : Nat) : Bool := match op with | none => true | some (i0, j0, _) => Nat.beq i i0 && Nat.beq off j0
def opOut (op : Option (Nat × Nat × Nat)) (off n : Nat) : Bool := match op with | none => true | some (_, j0, _) => Nat.blt j0 off || Nat.ble (off + n) j0
theorem opFits_spec {op : Option (Nat × Nat × Nat)} {i off k : Nat} (h : opFits op i off = true) {i' j' : Nat} (hn : ¬ (i' = i ∧ j' = off)) : opAt (some (i, off, k)) i' j' = opAt op i' j' := by
  have e1 : opAt (some (i, off, k)) i' j' = none := by simp only [opAt]; rw [if_neg (fun h => hn ⟨h.1.symm, h.2.symm⟩)]
  rw [e1]
  match op with
  | none => rfl
  | some (i0, j0, k0) =>
    simp only [opFits, Bool.and_eq_true] at h
    have h1 := Nat.eq_of_beq_eq_true h.1
    have h2 := Nat.eq_of_beq_eq_true h.2
    subst h1; subst h2
    simp only [opAt]; rw [if_neg (fun h => hn ⟨h.1.symm, h.2.symm⟩)]
theorem opOut_spec {op : Option (Nat × Nat × Nat)} {off n : Nat} (h : opOut op off n = true) {i j : Nat} (h1 : off ≤ j) (h2 : j < off + n) : opAt op i j = none := by
  match op with
  | none => rfl
  | some (i0, j0, k0) =>
    simp only [opOut, Bool.or_eq_true] at h
    simp only [opAt]
    rw [if_neg]
    rintro ⟨_, rfl⟩
    rcases h with h | h
    · have : j0 < off := by simpa using h
      omega
    · have := Nat.le_of_ble_eq_true h
      omega
def evStore (X : Cx) (t : TypeId) (p x : AV) (M : List Blk) (k : List Blk → Option R) : Option R :=
  match p with
  | .ptr id i off =>
    match gm M id with
    | some (.var ks cs) =>
      tst (x.plain && (X.ti t).ok && i == 0 && x.cells.length == (X.ti t).size && decide (off + (X.ti t).size ≤ ks.length) && ksAt ks off x.cells) (k (M.set id (.var ks (setAt cs off x.cells))))
    | some (.row _ _) =>
      tst x.plain (frzL (X.ti t).ks x.cells M fun xc M1 =>
        match gm M1 id with
        | some (.row t' xs) =>
          tst ((X.ti t).ok && xc.length == (X.ti t).size && decide (off + (X.ti t).size ≤ (X.K t').length) && ksAt (X.K t') off xc && decide (i < xs.length)) (k (M1.set id (.row t' (xs.set i (setAt (xs.getD i []) off xc)))))
        | _ => none)
    | some (.nst t' xs op) =>
      match x with
      | .own k0 =>
        tst ((X.ti t).ok && (X.ti t).size == 1 && decide (off < (X.K t').length) && decide (i < xs.length) && opFits op i off)
          (match gm M k0 with
           | some (.row e _) => tst ((X.K t').getD off .raw == .slice e) (k (M.set id (.nst t' xs (some (i, off, k0)))))
           | _ => none)
      | x => tst (x.plain && (X.ti t).ok && x.cells.length == (X.ti t).size && decide (off + (X.ti t).size ≤ (X.K t').length) && ksAt (X.K t') off x.cells && decide (i < xs.length) && opOut op off (X.ti t).size) (k (M.set id (.nst t' (xs.set i (setAt (xs.getD i []) off x.cells)) op)))
    | _ => none
  | _ => none
theorem evStore_sound (hX : X.Okb) {t : TypeId} {p x : AV} {k : List Blk → Option R} {r : R} (h : evStore X t p x M k = some r) :
    ∃ M', k M' = some r ∧ Agree (ptrIds p ++ x.cells.flatMap ownIds) M M' ∧ ∀ {w0 : World} {S : Sc} {F : Addr → Prop} {ρ : List Hd} {w : World} {vp vx : Value}, Inv X w0 S F ρ M w → Rep X.K ρ F w p vp → Rep X.K ρ F w x vx →
      ∃ w' F', (Instr.storeAt t vp vx).run X.P w = .ok () w' ∧ Inv X w0 S F' ρ M' w' ∧ Grow F F' ρ ρ w w' := by
  unfold evStore at h
  simp only [gm_eq] at h
  split at h
  · rename_i id i off
    split at h
    · rename_i ks cs hb
      replace h := tst_some h
      obtain ⟨h1, h⟩ := h
      simp only [Bool.and_eq_true, decide_eq_true_eq, beq_iff_eq] at h1
      obtain ⟨⟨⟨⟨⟨hpl, hok⟩, hi0⟩, hlen⟩, hbd⟩, hks⟩ := h1
      subst hi0
      refine ⟨_, h, (Agree.set _ _ _).mono (by simp [ptrIds]), fun {w0 S F ρ w vp vx} hI hp hx => ?_⟩
      cases hp with
      | ptr _ _ _ hd g o n c hid hv =>
        obtain ⟨hk, g', cur, e, hv', hsz, hg, hr, hc, hy⟩ := hI.var_cells hb hid
        have hv2 := hv'
        rw [hv] at hv'
        injection hv' with e1 e2 e3
        injection e1 with e1
        injection e1 with e1 e4 e5
        subst e1; subst e4
        have hleaf : ∀ y ∈ x.cells, y.leaf = true := by
          intro y hy
          obtain ⟨j, hj⟩ := List.getElem?_of_mem hy
          exact leaf_of_kok (ksAt_get hks (by omega) hj)
        have hxc := hx.cells (leaf_or_agg hpl) hI.one
        have hvs : vx.cells.size = (X.ti t).size := by have := hxc.1; simp at this; omega
        have hkl := koks_length hk
        have hcl : cs.length ≤ cur.size := by have := hr.1; have h2 : cur.toList.length = cur.size := Array.length_toList; rw [List.length_take] at this; omega
        have hone : ∀ u ∈ vx.cells.toList, u.oneCell' = true := by
          intro u hu
          obtain ⟨j, hj⟩ := List.getElem?_of_mem hu
          have hj' := (List.getElem?_eq_some_iff.1 hj).1
          have hl := hxc.1
          have hy : x.cells[j]? = some (x.cells[j]'(by omega)) := List.getElem?_eq_getElem (by omega)
          exact oneCell_of_leaf (hxc.2 j _ u hy hj) (hleaf _ (List.mem_of_getElem? hy)) hI.one
        have hrun := run_storeAt (w := w) hX hok (o := off) hg hvs (by omega) hone
        have e0 : (0 + 0 * hd.sz + off : Nat) = off := by omega
        rw [e0]
        have hgr := grownBy_setRow w g (cur.toList.take off ++ vx.cells.toList ++ cur.toList.drop (off + vx.cells.toList.length)).toArray
        have hfa : ∀ a, F a → a.block ≠ g := (hI.sep id _ hd g hb rfl hid (by simp [Hd.blk?, Value.blk?, hv])).2.2
        have hgrow : Grow F F ρ ρ w (w.setRow g (cur.toList.take off ++ vx.cells.toList ++ cur.toList.drop (off + vx.cells.toList.length)).toArray) :=
          ⟨fun _ h => h, fun _ _ h => h, hI.blks hgr (fun k hk a ha => by injection hk with hk; subst hk; exact hfa a ha)⟩
        refine ⟨_, F, hrun, hI.write hb rfl hid (by simp [Hd.blk?, Value.blk?, hv]) hgr ?_, hgrow⟩
        have hle : off + x.cells.length ≤ cs.length := by have := hxc.1; simp at this; omega
        refine ⟨koks_setAt hk hks (by omega), by rw [setAt_length]; exact hsz, g, _, e, hv2, setRow_heap w g cur _ e _ hg, ⟨?_, fun j y u hy hu => ?_⟩, hy.1, fun u hu hk2 => ?_⟩
        · have := hxc.1
          rw [setAt_length, List.length_take]; simp only [List.length_append, List.length_take, List.length_drop, Array.length_toList]; omega
        · have hjl : j < cs.length := by have := (List.getElem?_eq_some_iff.1 hy).1; rwa [setAt_length] at this
          rw [setAt_get x.cells cs off (by omega) j] at hy
          rw [setAt_length, List.getElem?_take, if_pos hjl] at hu
          have hu' : (cur.toList.take off ++ vx.cells.toList ++ cur.toList.drop (off + vx.cells.toList.length)).toArray[j]? = some u := by simpa using hu
          rw [splice_get cur vx.cells.toList off (by simp; omega) j] at hu'
          have el : vx.cells.toList.length = x.cells.length := hxc.1
          rw [el] at hu'
          by_cases hj : off ≤ j ∧ j < off + x.cells.length
          · rw [if_pos hj] at hy hu'
            exact (hxc.2 _ y u hy hu').grow hgrow
          · rw [if_neg hj] at hy hu'
            exact (hr.2 j y u hy (by rw [List.getElem?_take, if_pos hjl]; simpa using hu')).grow hgrow
        · have h3 := hy.2 u hu hk2
          have h4 : vx.cells.toList.length = x.cells.length := hxc.1
          have h5 : cur.toList.length = cur.size := Array.length_toList
          rw [setAt_length]; simp only [List.size_toArray, List.length_append, List.length_take, List.length_drop]; omega
    · rename_i t0 xs0 hb0
      replace h := tst_some h
      obtain ⟨hpl, h⟩ := h
      obtain ⟨xc, M1, h, hl1, hag, hfz⟩ := frzL_sound (X := X) _ _ _ h
      split at h
      · rename_i t' xs hb
        replace h := tst_some h
        obtain ⟨h1, h⟩ := h
        simp only [Bool.and_eq_true, decide_eq_true_eq, beq_iff_eq] at h1
        obtain ⟨⟨⟨⟨hok, hlen⟩, hbd⟩, hks⟩, hi⟩ := h1
        refine ⟨_, h, (hag.trans (Agree.set _ _ _)).mono (by intro i hi; rw [List.mem_append] at hi ⊢; rcases hi with h | h; exact .inr h; exact .inl (by simpa [ptrIds] using h)), fun {w0 S F0 ρ w vp vx} hI0 hp hx => ?_⟩
        obtain ⟨F, hI, hg0, hfr⟩ := hfz hI0
        cases hp with
        | ptr _ _ _ hd g o n c hid hv =>
          obtain ⟨hk, hsz, g', o', c', cur, vs, hv', hg, hc1, hc2, hc3, hr, hc, hcur⟩ := hI.row_cells hb hid (getElem?_of_getD (d := []) hi)
          have hv3 := hv'
          rw [hv] at hv'
          injection hv' with e1 e2 e3
          injection e1 with e1
          injection e1 with e1 e4 e5
          subst e1; subst e4; subst e3
          have hleaf : ∀ y ∈ xc, y.leaf = true := by
            intro y hy
            obtain ⟨j, hj⟩ := List.getElem?_of_mem hy
            exact leaf_of_kok (ksAt_get hks (by omega) hj)
          have hkl := koks_length hk
          have hxc : RepL X.K ρ F w xc vx.cells.toList := hfr _ (hx.cells (leaf_or_agg hpl) hI0.one)
          have hvs : vx.cells.size = (X.ti t).size := by have := hxc.1; simp at this; omega
          have hone : ∀ u ∈ vx.cells.toList, u.oneCell' = true := by
            intro u hu
            obtain ⟨j, hj⟩ := List.getElem?_of_mem hu
            have hj' := (List.getElem?_eq_some_iff.1 hj).1
            have hl := hxc.1
            have hy : xc[j]? = some (xc[j]'(by omega)) := List.getElem?_eq_getElem (by omega)
            exact oneCell_of_leaf (hxc.2 j _ u hy hj) (hleaf _ (List.mem_of_getElem? hy)) hI.one
          have hrowb : o + i * hd.sz + hd.sz ≤ cur.size := by
            have : (i + 1) * hd.sz ≤ c * hd.sz := Nat.mul_le_mul_right _ (by omega)
            rw [Nat.add_mul, Nat.one_mul] at this
            omega
          have hrun := run_storeAt (w := w) hX hok (o := o + i * hd.sz + off) hg hvs (by omega) hone
          have hgr := grownBy_setRow w g (cur.toList.take (o + i * hd.sz + off) ++ vx.cells.toList ++ cur.toList.drop (o + i * hd.sz + off + vx.cells.toList.length)).toArray
          have hfa : ∀ a, F a → a.block ≠ g := (hI.sep id _ hd g hb rfl hid (by simp [Hd.blk?, Value.blk?, hv])).2.2
          have hgrow : Grow F F ρ ρ w (w.setRow g (cur.toList.take (o + i * hd.sz + off) ++ vx.cells.toList ++ cur.toList.drop (o + i * hd.sz + off + vx.cells.toList.length)).toArray) :=
            ⟨fun _ h => h, fun _ _ h => h, hI.blks hgr (fun k hk a ha => by injection hk with hk; subst hk; exact hfa a ha)⟩
          obtain ⟨q1, q2, q3⟩ := hI.rep id _ hd hb hid
          have q4 : ∀ (i : Nat) row, xs[i]? = some row → ∀ (j : Nat) x, row[j]? = some x → ∃ v, cur[o + i * hd.sz + j]? = some v ∧ Rep X.K ρ F w x v := by
            rcases q3 with ⟨q5, _⟩ | ⟨g2, o2, c2, cur2, hv2, hg2, _, _, _, q7⟩
            · rw [hv] at q5; cases q5
            · rw [hv] at hv2
              injection hv2 with e1 e2 e3
              injection e1 with e1
              injection e1 with e1 e4 e5
              subst e1; subst e4
              rw [hg] at hg2
              injection hg2 with hg2
              injection hg2 with hg2
              subst hg2
              exact q7
          have hxl : xs[i]? = some (xs.getD i []) := getElem?_of_getD hi
          refine ⟨_, F, hrun, hI.write hb rfl hid (by simp [Hd.blk?, Value.blk?, hv]) hgr ?_, hg0.trans hgrow⟩
          refine ⟨hsz, fun i' row' hi' => ?_, .inr ⟨g, o, c, _, by rw [List.length_set]; exact hv3, setRow_heap w g cur _ t' _ hg, by rw [List.length_set]; exact hc1, hc2, ?_, fun i' row' hi' j y hy => ?_⟩⟩
          · by_cases hii : i' = i
            · subst hii
              rw [List.getElem?_set_self hi] at hi'
              injection hi' with hi'
              subst hi'
              exact koks_setAt hk hks (by omega)
            · rw [List.getElem?_set_ne (Ne.symm hii)] at hi'
              exact q2 i' row' hi'
          · simp only [List.size_toArray, List.length_append, List.length_take, List.length_drop, Array.length_toList]
            omega
          · have el : vx.cells.toList.length = xc.length := hxc.1
            rw [splice_get cur vx.cells.toList _ (by simp; omega) _]
            have hrl : ∀ (i : Nat) row, xs[i]? = some row → row.length = hd.sz := fun i row h => by rw [koks_length (q2 i row h), hsz]
            by_cases hii : i' = i
            · subst hii
              rw [List.getElem?_set_self hi] at hi'
              injection hi' with hi'
              subst hi'
              rw [setAt_get xc _ off (by omega) j] at hy
              by_cases hj : off ≤ j ∧ j < off + xc.length
              · rw [if_pos hj] at hy
                rw [if_pos (by omega)]
                have hj2 : j - off < xc.length := by omega
                have hu : vx.cells.toList[j - off]? = some (vx.cells.toList[j - off]'(by omega)) := List.getElem?_eq_getElem (by omega)
                refine ⟨_, by rw [show o + i' * hd.sz + j - (o + i' * hd.sz + off) = j - off by omega]; exact hu, (hxc.2 _ y _ hy hu).grow hgrow⟩
              · rw [if_neg hj] at hy
                rw [if_neg (by omega)]
                obtain ⟨u, hu, hru⟩ := q4 i' _ hxl j y hy
                exact ⟨u, hu, hru.grow hgrow⟩
            · rw [List.getElem?_set_ne (Ne.symm hii)] at hi'
              have hjl : j < hd.sz := by rw [← hrl i' row' hi']; exact (List.getElem?_eq_some_iff.1 hy).1
              have hne : ¬ (o + i * hd.sz + off ≤ o + i' * hd.sz + j ∧ o + i' * hd.sz + j < o + i * hd.sz + off + vx.cells.toList.length) := by
                rcases Nat.lt_or_gt_of_ne hii with hlt | hgt
                · have : (i' + 1) * hd.sz ≤ i * hd.sz := Nat.mul_le_mul_right _ (by omega)
                  rw [Nat.add_mul, Nat.one_mul] at this
                  omega
                · have : (i + 1) * hd.sz ≤ i' * hd.sz := Nat.mul_le_mul_right _ (by omega)
                  rw [Nat.add_mul, Nat.one_mul] at this
                  omega
              rw [if_neg hne]
              obtain ⟨u, hu, hru⟩ := q4 i' row' hi' j y hy
              exact ⟨u, hu, hru.grow hgrow⟩
      · cases h
    · rename_i t' xs op hb
      have core : ∀ {w0 : World} {S : Sc} {F : Addr → Prop} {ρ : List Hd} {w : World} {vp vx : Value} {xs' : List Row} {op' : Option (Nat × Nat × Nat)}, Inv X w0 S F ρ M w → Rep X.K ρ F w (.ptr id i off) vp → (X.ti t).ok = true → i < xs.length → xs'.length = xs.length →
          vx.cells.size = (X.ti t).size → off + (X.ti t).size ≤ (X.K t').length → (∀ u ∈ vx.cells.toList, u.oneCell' = true) → (∀ i j k, op' = some (i, j, k) → i < xs.length ∧ j < (X.K t').length) →
          (∀ (i' : Nat) row', xs'[i']? = some row' → ∃ row, xs[i']? = some row ∧ koksN (X.K t') row' = true ∧ ∀ (j : Nat) x, row'[j]? = some x →
            (i' = i ∧ off ≤ j ∧ j < off + vx.cells.toList.length ∧ ∀ v, vx.cells.toList[j - off]? = some v → (∀ k, opAt op' i' j = some k → ∃ h, ρ[k]? = some h ∧ v = h.v) ∧ (opAt op' i' j = none → x.isSub = false ∧ Rep X.K ρ F w x v)) ∨
            (¬ (i' = i ∧ off ≤ j ∧ j < off + vx.cells.toList.length) ∧ row[j]? = some x ∧ opAt op' i' j = opAt op i' j)) →
          ∃ w' F', (Instr.storeAt t vp vx).run X.P w = .ok () w' ∧ Inv X w0 S F' ρ (M.set id (.nst t' xs' op')) w' ∧ Grow F F' ρ ρ w w' := by
        intro w0 S F ρ w vp vx xs' op' hI hp hok hi hlen hvs hbd hone hop hxs
        cases hp with
        | ptr _ _ _ hd g o n c hid hv =>
          have hgb : hd.blk? = some g := by simp [Hd.blk?, Value.blk?, hv]
          obtain ⟨a1, a2, hfa, a4⟩ := hI.nst.own (.out hb hid hgb)
          have hr := hI.nst.rep hb hid
          obtain ⟨q0, q1, q2, q3, q4⟩ := hr
          rcases q4 with ⟨q4, _⟩ | ⟨g', o', c', cur, q4, q5, q6, q7, q8, q9⟩
          · rw [hv] at q4; cases q4
          have q4' := q4
          rw [hv] at q4
          injection q4 with e1 e2 e3
          injection e1 with e1
          injection e1 with e1 e4 e5
          subst e1; subst e4; subst e2; subst e3
          obtain ⟨r1, r2, r3⟩ := NRep.store (w := w) ⟨q0, q1, q2, q3, .inr ⟨g, o, c, cur, q4', q5, q6, q7, q8, q9⟩⟩ hv q5 (i := i) (off := off) (vs := vx.cells.toList) hi (by simp; omega) hfa
            (fun p k hk e => by subst e; have := (hI.nst.inj (.ofB hb hid hk) (.out hb hid hgb)).2; cases this) hlen hop hxs
          have hrun := run_storeAt (w := w) hX hok (o := o + i * hd.sz + off) q5 hvs (by simpa using r1) hone
          have hgr := grownBy_setRow w g (cur.toList.take (o + i * hd.sz + off) ++ vx.cells.toList ++ cur.toList.drop (o + i * hd.sz + off + vx.cells.toList.length)).toArray
          exact ⟨_, F, hrun, hI.nstore hb hid hgb hgr r2 r3, ⟨fun _ h => h, fun _ _ h => h, hI.blks hgr (fun k hk a ha => by injection hk with hk; subst hk; exact hfa a ha)⟩⟩
      split at h
      · rename_i k0
        replace h := tst_some h
        obtain ⟨h1, h⟩ := h
        simp only [Bool.and_eq_true, decide_eq_true_eq, beq_iff_eq] at h1
        obtain ⟨⟨⟨⟨hok, hsz⟩, hoff⟩, hi⟩, hfit⟩ := h1
        split at h
        · rename_i e rs hk0
          replace h := tst_some h
          obtain ⟨hke, h⟩ := h
          refine ⟨_, h, (Agree.set _ _ _).mono (by simp [ptrIds]), fun {w0 S F ρ w vp vx} hI hp hx => ?_⟩
          cases hx with
          | own _ hd0 hid0 =>
            have hbr := hI.rep k0 _ hd0 hk0 hid0
            have h1c : hd0.v.oneCell' = true := hI.one _ _ hid0
            have hcells : hd0.v.cells = #[hd0.v] := by
              obtain ⟨_, _, h | ⟨g, o, c, cur, h, _⟩⟩ := hbr
              · rw [h.1]; rfl
              · rw [h]; rfl
            refine core hI hp hok hi rfl (by rw [hcells, hsz]; rfl) (by omega) (fun u hu => by rw [hcells] at hu; simp at hu; subst hu; exact h1c) (fun i' j' k' hk' => by injection hk' with hk'; injection hk' with e1 hk'; injection hk' with e2 e3; subst e1; subst e2; exact ⟨hi, hoff⟩) fun i' row' hrow => ?_
            have hlt : id < ρ.length := by have := (List.getElem?_eq_some_iff.1 hb).1; have := hI.len; omega
            obtain ⟨_, _, q2, _, _⟩ := hI.nst.rep hb (List.getElem?_eq_getElem hlt)
            refine ⟨row', hrow, q2 _ _ hrow, fun j x hx => ?_⟩
            rw [hcells]
            by_cases hc : i' = i ∧ off ≤ j ∧ j < off + 1
            · obtain ⟨rfl, c2, c3⟩ := hc
              have : j = off := by omega
              subst this
              refine .inl ⟨rfl, Nat.le_refl _, by simp, fun v hv => ?_⟩
              simp at hv
              subst hv
              exact ⟨fun k hk => by simp [opAt] at hk; subst hk; exact ⟨hd0, hid0, rfl⟩, fun hk => by simp [opAt] at hk⟩
            · exact .inr ⟨by simpa using hc, hx, opFits_spec hfit (fun h => hc ⟨h.1, by omega, by omega⟩)⟩
        · cases h
      · rename_i hno
        replace h := tst_some h
        obtain ⟨h1, h⟩ := h
        simp only [Bool.and_eq_true, decide_eq_true_eq, beq_iff_eq] at h1
        obtain ⟨⟨⟨⟨⟨⟨hpl, hok⟩, hlen⟩, hbd⟩, hks⟩, hi⟩, hout⟩ := h1
        refine ⟨_, h, (Agree.set _ _ _).mono (by simp [ptrIds]), fun {w0 S F ρ w vp vx} hI hp hx => ?_⟩
        have hlt : id < ρ.length := by have := (List.getElem?_eq_some_iff.1 hb).1; have := hI.len; omega
        obtain ⟨q0, _, q2, q3, _⟩ := hI.nst.rep hb (List.getElem?_eq_getElem hlt)
        have hxc := hx.cells (leaf_or_agg hpl) hI.one
        have hl := hxc.1
        have hkok : ∀ {j : Nat} {y : AV}, x.cells[j]? = some y → kok ((X.K t').getD (off + j) .raw) y = true := fun hy => ksAt_get hks (by omega) hy
        have hleaf : ∀ {j : Nat} {y : AV}, x.cells[j]? = some y → y.leaf = true := fun hy => leaf_of_kok (hkok hy)
        have hnsub : ∀ {j : Nat} {y : AV}, x.cells[j]? = some y → y.isSub = false := by
          intro j y hy
          have h1 := hkok hy
          have hj := (List.getElem?_eq_some_iff.1 hy).1
          have h2 : (X.K t').getD (off + j) .raw ≠ .any := by
            rw [List.getD, List.getElem?_eq_getElem (by omega : off + j < (X.K t').length)]
            exact q0 _ _ (List.getElem_mem _)
          generalize (X.K t').getD (off + j) .raw = kd at h1 h2
          cases y <;> first | rfl | skip
          cases kd <;> first | (simp [kok, AV.pure, AV.leaf] at h1; done) | exact absurd rfl h2
        have hone : ∀ u ∈ vx.cells.toList, u.oneCell' = true := by
          intro u hu
          obtain ⟨j, hj⟩ := List.getElem?_of_mem hu
          have hj' := (List.getElem?_eq_some_iff.1 hj).1
          have hy : x.cells[j]? = some (x.cells[j]'(by omega)) := List.getElem?_eq_getElem (by omega)
          exact oneCell_of_leaf (hxc.2 j _ u hy hj) (hleaf hy) hI.one
        refine core hI hp hok hi (by simp) (by simpa [hlen] using hl) hbd hone q3 fun i' row' hrow => ?_
        have hxi := getElem?_of_getD (d := ([] : Row)) hi
        have hkr := koksN_length (q2 i _ hxi)
        by_cases hii : i' = i
        · subst hii
          rw [List.getElem?_set_self hi] at hrow
          injection hrow with hrow
          subst hrow
          refine ⟨_, hxi, koksN_setAt (q2 i' _ hxi) (fun hy => kokN_of_kok (hkok hy)) (by omega), fun j y hy => ?_⟩
          rw [setAt_get x.cells _ off (by omega) j] at hy
          by_cases hc : off ≤ j ∧ j < off + x.cells.length
          · rw [if_pos hc] at hy
            refine .inl ⟨rfl, hc.1, by omega, fun v hv => ⟨fun k hk => ?_, fun _ => ⟨hnsub hy, hxc.2 _ y v hy hv⟩⟩⟩
            rw [opOut_spec hout hc.1 (by omega)] at hk; cases hk
          · rw [if_neg hc] at hy
            exact .inr ⟨fun h => hc ⟨h.2.1, by omega⟩, hy, rfl⟩
        · rw [List.getElem?_set_ne (Ne.symm hii)] at hrow
          exact ⟨row', hrow, q2 _ _ hrow, fun j y hy => .inr ⟨fun h => hii h.1, hy, rfl⟩⟩
    · cases h
  · cases h
end
end Go.Eng

namespace Go.Eng
open Go
noncomputable section
variable {X : Cx} {R : Type}
variable {w0 w : World} {S : Sc} {F : Addr → Prop} {ρ : List Hd} {M : List Blk}
inductive Src where
  | tmp (t : Nat)
  | cell (t c : Nat)
inductive Gh where
  | nest (s : Src)
  | flat (s : Src)
  | close (s : Src)
  | opn (s : Src) (i : Operand) (j : Nat)
  | opnp (t : Nat) (j : Nat)
def AV.froz : AV → AV | .sub t xs => .list t xs | x => x
def nestA (X : Cx) (id : Nat) (M : List Blk) (k : List Blk → Option R) : Option R :=
  match gm M id with
  | some (.row t xs) => tst X.pk (k (M.set id (.nst t xs none)))
  | _ => k M
def flatA (id : Nat) (M : List Blk) (k : List Blk → Option R) : Option R :=
  match gm M id with
  | some (.nst t xs none) => k (M.set id (.row t (xs.map fun r => r.map AV.froz)))
  | _ => k M
def openA (X : Cx) (id i j : Nat) (M : List Blk) (k : List Blk → Option R) : Option R :=
  match gm M id with
  | some (.nst t xs none) =>
    match (X.K t).getD j .raw with
    | .slice e => tst (decide (i < xs.length) && Nat.blt j (X.K t).length && ((xs.getD i []).getD j .top).isSub) (k (M.set id (.nst t xs (some (i, j, M.length))) ++ [.row e ((xs.getD i []).getD j .top).rows]))
    | _ => none
  | _ => k M
def closeA (X : Cx) (id : Nat) (M : List Blk) (k : List Blk → Option R) : Option R :=
  match gm M id with
  | some (.nst t xs (some (i, j, kk))) =>
    match gm M kk with
    | some (.row e ys) => tst ((X.K t).getD j .raw == .slice e) (k ((M.set kk .dead).set id (.nst t (xs.set i ((xs.getD i []).set j (.sub e ys))) none)))
    | _ => none
  | _ => k M
def Acted (X : Cx) (M M' : List Blk) : Prop := ∀ {w0 : World} {S : Sc} {F : Addr → Prop} {ρ : List Hd} {w : World}, Inv X w0 S F ρ M w → ∃ F' ρ', Inv X w0 S F' ρ' M' w ∧ Grow F F' ρ ρ' w w
theorem Acted.refl (M : List Blk) : Acted X M M := fun {w0 S F ρ w} hI => ⟨F, ρ, hI, Grow.refl _ _ _⟩
theorem nsub_of_kok {kd : Kind} {x : AV} (hk : kd ≠ .any) (h : kok kd x = true) : x.isSub = false := by
  cases x <;> first | rfl | skip
  cases kd <;> first | (simp [kok, AV.pure, AV.leaf] at h; done) | exact absurd rfl hk
theorem Inv.kill (hI : Inv X w0 S F ρ M w) {id : Nat} {b : Blk} {hd : Hd} (hb : M[id]? = some b) (hd' : b.isDead = false) (hh : ρ[id]? = some hd) : Inv X w0 S F ρ (M.set id .dead) w := by
  cases hgb : hd.blk? with
  | none => exact hI.retag hb hh hgb trivial
  | some g => exact hI.write hb hd' hh hgb ⟨rfl, rfl, rfl, Nat.le_refl _, fun _ _ _ => rfl⟩ trivial
theorem ours_set {id : Nat} {g : Nat} (h : Ours ρ (M.set id .dead) g) : Ours ρ M g := by
  obtain ⟨i, c, hd, q1, q2, q3, q4⟩ := h
  rcases set_get q1 with ⟨_, rfl⟩ | ⟨_, q1⟩
  · cases q2
  · exact ⟨i, c, hd, q1, q2, q3, q4⟩
theorem nestA_sound (hX : X.Okb) {id : Nat} {k : List Blk → Option R} {r : R} (h : nestA X id M k = some r) : ∃ M', k M' = some r ∧ Acted X M M' := by
  unfold nestA at h
  rw [gm_eq] at h
  split at h
  · rename_i t xs hb
    replace h := tst_some h
    obtain ⟨hpk, h⟩ := h
    refine ⟨_, h, fun {w0 S F ρ w} hI => ?_⟩
    have hlt := (List.getElem?_eq_some_iff.1 hb).1
    have hlr : id < ρ.length := by rw [hI.len]; exact hlt
    have hh : ρ[id]? = some ρ[id] := List.getElem?_eq_getElem hlr
    have hkk : ∀ t, ∀ k ∈ X.K t, k ≠ .any := hX.kindsP hpk
    obtain ⟨q1, q2, q3⟩ := hI.rep id _ _ hb hh
    have hI1 := hI.kill hb rfl hh
    have ns : ∀ {i : Nat} {row : Row} {j : Nat} {x : AV}, xs[i]? = some row → row[j]? = some x → x.isSub = false := by
      intro i row j x hi hx
      have hl := koks_length (q2 i row hi)
      have hj : j < (X.K t).length := by have := (List.getElem?_eq_some_iff.1 hx).1; omega
      exact nsub_of_kok (hkk t _ (List.getElem_mem hj)) (koks_get (q2 i row hi) (List.getElem?_eq_getElem hj) hx)
    have hr : NRep X ρ F w ρ[id] t xs none := by
      refine ⟨hkk, q1, fun i row hi => koksN_of (koks_length (q2 i row hi)) fun j kd x hj hx => kokN_of_kok (koks_get (q2 i row hi) hj hx), fun i j k hk => (by cases hk), ?_⟩
      rcases q3 with q3 | ⟨g, o, c, cur, p1, p2, p3, p4, p5, p6⟩
      · exact .inl q3
      · refine .inr ⟨g, o, c, cur, p1, p2, p3, p4, p5, fun i row hi j x hx => ?_⟩
        obtain ⟨v, hv, hrv⟩ := p6 i row hi j x hx
        refine ⟨v, hv, fun k hk => (by cases hk), fun _ => ?_⟩
        have := ns hi hx
        unfold NCell
        split
        · cases this
        · exact hrv
    have hB : ∀ {p g}, HidB w ρ[id] xs none p g → p = none ∧ ρ[id].blk? = some g := by
      intro p g hp
      rcases hp with hp | ⟨i, j, row, e, ys, v, _, h1, h2, _⟩
      · exact hp
      · have := ns h1 h2; cases this
    have := hI1.install (id := id) (b := .dead) (by rw [List.getElem?_set_self hlt]) rfl rfl hh hr (fun p g hp => ?_) (fun p q g h1 h2 => (hB h1).1.trans (hB h2).1.symm)
    · exact ⟨F, ρ, by rw [List.set_set] at this; exact this, Grow.refl _ _ _⟩
    · obtain ⟨_, hg⟩ := hB hp
      obtain ⟨a1, a2, a3⟩ := hI.sep id _ _ g hb rfl hh hg
      refine ⟨a1, a2, a3, ?_, fun i q hq => ?_⟩
      · rintro ⟨i, c, hd, u1, u2, u3, u4⟩
        rcases set_get u1 with ⟨_, rfl⟩ | ⟨hne, u1⟩
        · cases u2
        · exact hI.disj i id c _ hd _ g hne u1 hb u2 rfl u3 hh u4 hg
      · exact (hI.nst.own (hq.ofSet rfl).2).2.2.2 ⟨id, _, _, hb, rfl, hh, hg⟩
  · exact ⟨_, h, Acted.refl _⟩
theorem NRep.froz {hd : Hd} {t : TypeId} {xs : List Row} {F' : Addr → Prop} (hr : NRep X ρ F w hd t xs none) (hF : ∀ a, F a → F' a) (hS : ∀ p g, HidB w hd xs none (some p) g → ∀ a, a.block = g → F' a) : BRep X ρ F' w hd (.row t (xs.map fun r => r.map AV.froz)) := by
  obtain ⟨q0, q1, q2, _, q3⟩ := hr
  have hrow : ∀ {i : Nat} {row' : Row}, (xs.map fun r => r.map AV.froz)[i]? = some row' → ∃ row, xs[i]? = some row ∧ row' = row.map AV.froz := by
    intro i row' hi
    rw [List.getElem?_map] at hi
    cases hx : xs[i]? with
    | none => rw [hx] at hi; cases hi
    | some row => rw [hx] at hi; simp at hi; exact ⟨row, rfl, hi.symm⟩
  have hcell : ∀ {row : Row} {j : Nat} {x' : AV}, (row.map AV.froz)[j]? = some x' → ∃ x, row[j]? = some x ∧ x' = x.froz := by
    intro row j x' hj
    rw [List.getElem?_map] at hj
    cases hx : row[j]? with
    | none => rw [hx] at hj; cases hj
    | some x => rw [hx] at hj; simp at hj; exact ⟨x, rfl, hj.symm⟩
  refine ⟨q1, fun i row' hi0 => ?_, ?_⟩
  · obtain ⟨row, hi, rfl⟩ := hrow hi0
    have hl := koksN_length (q2 i row hi)
    refine koks_of (by simpa using hl) fun j kd x' hj hx' => ?_
    obtain ⟨x, hx, rfl⟩ := hcell hx'
    obtain ⟨kd', e1, e2⟩ := koksN_get (q2 i row hi) hx
    rw [hj] at e1; injection e1 with e1; subst e1
    cases hs : x.isSub with
    | false =>
      have : x.froz = x := by cases x <;> first | rfl | cases hs
      rw [this]; exact kok_of_kokN e2 hs
    | true =>
      cases x <;> simp only [AV.isSub, Bool.false_eq_true] at hs
      cases kd with
      | slice te => exact e2
      | any => exact absurd rfl (q0 _ _ (List.mem_of_getElem? hj))
      | _ => simp [kokN, kok, AV.pure, AV.leaf] at e2
  · rcases q3 with ⟨q3, q4⟩ | ⟨g, o, c, cur, p1, p2, p3, p4, p5, p6⟩
    · exact .inl ⟨q3, by rw [q4]; rfl⟩
    · refine .inr ⟨g, o, c, cur, by simpa using p1, p2, by simpa using p3, p4, p5, fun i row' hi0 j x' hx' => ?_⟩
      obtain ⟨row, hi, rfl⟩ := hrow hi0
      obtain ⟨x, hx, rfl⟩ := hcell hx'
      obtain ⟨v, hv, _, hc⟩ := p6 i row hi j x hx
      have hc := hc rfl
      refine ⟨v, hv, ?_⟩
      have hcv : cellOf w hd i j = some v := by
        simp only [cellOf, p1]
        rw [Addr.add_lit, cell_of_row w g _ cur t (0, 0) p2, ← Nat.add_assoc]; exact hv
      unfold NCell at hc
      split at hc
      · rcases rep_list_of_brow hc.1 with ⟨_, e1, e2⟩ | ⟨g', e1, e2⟩
        · have e2 : v = .slice none 0 0 := e2
          subst e1; subst e2; exact Rep.list0 _
        · exact e2 _ hF (fun a ha => hS (i, j) g' (.inr ⟨i, j, row, _, _, v, rfl, hi, hx, rfl, hcv, e1⟩) a ha)
      · rename_i hns
        have : x.froz = x := by cases x <;> first | rfl | exact absurd rfl (hns _ _)
        rw [this]
        exact hc.mono (fun _ _ h => h) hF (fun _ _ _ h => h)
theorem flatA_sound {id : Nat} {k : List Blk → Option R} {r : R} (h : flatA id M k = some r) : ∃ M', k M' = some r ∧ Acted X M M' := by
  unfold flatA at h
  rw [gm_eq] at h
  split at h
  · rename_i t xs hb
    refine ⟨_, h, fun {w0 S F ρ w} hI => ?_⟩
    have hlt := (List.getElem?_eq_some_iff.1 hb).1
    have hlr : id < ρ.length := by rw [hI.len]; exact hlt
    have hh : ρ[id]? = some ρ[id] := List.getElem?_eq_getElem hlr
    have hr := hI.nst.rep hb hh
    have hI1 := hI.drop hb rfl
    have facts : ∀ {p g}, HidB w ρ[id] xs none p g → g < w.heap.size ∧ (S g ∨ w0.heap.size ≤ g) ∧ (∀ a, F a → a.block ≠ g) ∧ ¬ Ours ρ (M.set id .dead) g ∧ ∀ i q, ¬ Hid w ρ (M.set id .dead) i q g := by
      intro p g hp
      have hp' := Hid.ofB hb hh hp
      obtain ⟨a1, a2, a3, a4⟩ := hI.nst.own hp'
      exact ⟨a1, a2, a3, fun h => a4 (ours_set h), fun i q h => (h.ofSet rfl).1 (hI.nst.inj (h.ofSet rfl).2 hp').1⟩
    have hI2 := hI1.freezeS (fun g => ∃ p, HidB w ρ[id] xs none (some p) g) (fun g ⟨p, hp⟩ => let ⟨a1, a2, _, a4, a5⟩ := facts hp; ⟨a1, a2, a4, a5⟩)
    have hbr := hr.froz (F' := fun a => F a ∨ ∃ p, HidB w ρ[id] xs none (some p) a.block) (fun _ h => .inl h) (fun p g hp a ha => .inr ⟨p, by rw [ha]; exact hp⟩)
    refine ⟨fun a => F a ∨ ∃ p, HidB w ρ[id] xs none (some p) a.block, ρ, ?_, ⟨fun _ h => Or.inl h, fun _ _ h => h, fun _ _ => rfl⟩⟩
    cases hgb : ρ[id].blk? with
    | none =>
      have := hI2.retag (id := id) (b := .dead) (by rw [List.getElem?_set_self hlt]) hh hgb hbr
      rw [List.set_set] at this; exact this
    | some g =>
      obtain ⟨a1, a2, a3, a4, a5⟩ := facts (.inl ⟨rfl, hgb⟩)
      have := hI2.revive (id := id) (b0 := .dead) (by rw [List.getElem?_set_self hlt]) hh hgb a1 a2 (fun a ha e => ?_) (fun i c hd u1 u2 u3 u4 => a4 ⟨i, c, hd, u1, u2, u3, u4⟩) a5 hbr
      · rw [List.set_set] at this; exact this
      · rcases ha with ha | ⟨p, hp⟩
        · exact a3 a ha e
        · have := (hI.nst.inj (.ofB hb hh hp) (.ofB hb hh (.inl ⟨rfl, by rw [hgb, e]⟩))).2
          cases this
  · exact ⟨_, h, Acted.refl _⟩
theorem openA_sound {id i j : Nat} {k : List Blk → Option R} {r : R} (h : openA X id i j M k = some r) : ∃ M', k M' = some r ∧ Acted X M M' := by
  unfold openA at h
  rw [gm_eq] at h
  split at h
  · rename_i t xs hb
    split at h
    · rename_i e hke
      replace h := tst_some h
      obtain ⟨h1, h⟩ := h
      simp only [Bool.and_eq_true, decide_eq_true_eq] at h1
      obtain ⟨⟨hi, hj⟩, hsb⟩ := h1
      have hj : j < (X.K t).length := by simpa using hj
      refine ⟨_, h, fun {w0 S F ρ w} hI => ?_⟩
      have hlt := (List.getElem?_eq_some_iff.1 hb).1
      have hlr : id < ρ.length := by rw [hI.len]; exact hlt
      have hh : ρ[id]? = some ρ[id] := List.getElem?_eq_getElem hlr
      have hr := hI.nst.rep hb hh
      have hI1 := hI.drop hb rfl
      obtain ⟨q0, q1, q2, _, q3⟩ := hr
      have hxi := getElem?_of_getD (d := ([] : Row)) hi
      have hl := koksN_length (q2 i _ hxi)
      have hxj : (xs.getD i [])[j]? = some ((xs.getD i []).getD j .top) := getElem?_of_getD (by omega)
      obtain ⟨kd, e1, e2⟩ := koksN_get (q2 i _ hxi) hxj
      have ekd : kd = .slice e := by rw [List.getD, e1] at hke; exact hke
      subst ekd
      have hx : ∃ ys, (xs.getD i []).getD j .top = .sub e ys := by
        generalize (xs.getD i []).getD j .top = x at hsb e2
        cases x <;> simp only [AV.isSub, Bool.false_eq_true] at hsb
        have e2 : (e == _) = true := e2
        rw [beq_iff_eq] at e2; subst e2
        exact ⟨_, rfl⟩
      obtain ⟨ys, hx⟩ := hx
      rw [hx] at hxj ⊢
      rcases q3 with ⟨_, q4⟩ | ⟨g, o, c, cur, p1, p2, p3, p4, p5, p6⟩
      · subst q4; simp at hi
      obtain ⟨v, hv, _, hc⟩ := p6 i _ hxi j _ hxj
      obtain ⟨hc1, hc2⟩ := hc rfl
      have hcv : cellOf w ρ[id] i j = some v := by
        simp only [cellOf, p1]
        rw [Addr.add_lit, cell_of_row w g _ cur t (0, 0) p2, ← Nat.add_assoc]; exact hv
      have hI2 : Inv X w0 S F (ρ ++ [⟨v, (X.K e).length⟩]) (M.set id .dead ++ [.row e ys]) w := by
        refine hI1.push' (fun g' hg' => ?_) hc2 (hc1.mono (fun _ _ h => getElem?_append_old h) (fun _ h => h) (fun _ _ _ h => h) (fun _ _ => rfl))
        have hp := Hid.sub hb hh hxi hxj rfl hcv hg'
        obtain ⟨a1, a2, a3, a4⟩ := hI.nst.own hp
        exact ⟨a1, a2, a3, fun i' b' hd' u1 u2 u3 u4 => a4 (ours_set ⟨i', b', hd', u1, u2, u3, u4⟩), fun i' q h => (h.ofSet rfl).1 (hI.nst.inj (h.ofSet rfl).2 hp).1⟩
      have hh2 : (ρ ++ [⟨v, (X.K e).length⟩])[id]? = some ρ[id] := getElem?_append_old hh
      have hlast : (ρ ++ [(⟨v, (X.K e).length⟩ : Hd)])[M.length]? = some ⟨v, (X.K e).length⟩ := by rw [← hI.len]; simp
      have hopn : ∀ {i' j' : Nat}, opAt (some (i, j, M.length)) i' j' = none → ¬ (i' = i ∧ j' = j) := by
        intro i' j' ho hc
        simp only [opAt] at ho
        rw [if_pos ⟨hc.1.symm, hc.2.symm⟩] at ho; cases ho
      have hr2 : NRep X (ρ ++ [⟨v, (X.K e).length⟩]) F w ρ[id] t xs (some (i, j, M.length)) := by
        refine ⟨q0, q1, q2, fun i' j' k' hk' => by injection hk' with hk'; injection hk' with e1 hk'; injection hk' with e2 e3; subst e1; subst e2; exact ⟨hi, hj⟩, .inr ⟨g, o, c, cur, p1, p2, p3, p4, p5, fun i' row' hi' j' x' hx' => ?_⟩⟩
        obtain ⟨u, hu, _, hcu⟩ := p6 i' row' hi' j' x' hx'
        refine ⟨u, hu, fun k' hk' => ?_, fun ho => ?_⟩
        · simp only [opAt] at hk'
          split at hk'
          · rename_i he
            obtain ⟨rfl, rfl⟩ := he
            injection hk' with hk'
            subst hk'
            rw [hv] at hu
            injection hu with hu
            subst hu
            exact ⟨_, hlast, rfl⟩
          · cases hk'
        · have hcu := hcu rfl
          unfold NCell at hcu ⊢
          split at hcu
          · exact ⟨hcu.1.mono (fun _ _ h => getElem?_append_old h) (fun _ h => h) (fun _ _ _ h => h) (fun _ _ => rfl), hcu.2⟩
          · exact hcu.mono (fun _ _ h => getElem?_append_old h) (fun _ h => h) (fun _ _ _ h => h)
      have less : ∀ {p g'}, HidB w ρ[id] xs (some (i, j, M.length)) p g' → HidB w ρ[id] xs none p g' ∧ p ≠ some (i, j) := by
        intro p g' hp
        rcases hp with hp | ⟨i', j', row, e', ys', v', rfl, u1, u2, u3, u4, u5⟩
        · exact ⟨.inl hp, by rw [hp.1]; simp⟩
        · exact ⟨.inr ⟨i', j', row, e', ys', v', rfl, u1, u2, rfl, u4, u5⟩, fun h => hopn u3 (by injection h with h; injection h with h1 h2; exact ⟨h1, h2⟩)⟩
      have := hI2.install (id := id) (b := .dead) (by rw [List.getElem?_append_left (by simpa using hlt), List.getElem?_set_self hlt]) rfl rfl hh2 hr2 (fun p g' hp => ?_) (fun p q g' h1 h2 => (hI.nst.inj (.ofB hb hh (less h1).1) (.ofB hb hh (less h2).1)).2)
      · rw [List.set_append_left _ _ (by simpa using hlt), List.set_set] at this
        exact ⟨F, _, this, ⟨fun _ h => h, fun _ _ h => getElem?_append_old h, fun _ _ => rfl⟩⟩
      · obtain ⟨hp1, hp2⟩ := less hp
        have hp' := Hid.ofB hb hh hp1
        obtain ⟨a1, a2, a3, a4⟩ := hI.nst.own hp'
        refine ⟨a1, a2, a3, ?_, fun i' q h => ?_⟩
        · rintro ⟨i', b', hd', u1, u2, u3, u4⟩
          by_cases hlt' : i' < M.length
          · rw [List.getElem?_append_left (by simpa using hlt')] at u1
            rw [List.getElem?_append_left (by rw [hI.len]; exact hlt')] at u3
            exact a4 (ours_set ⟨i', b', hd', u1, u2, u3, u4⟩)
          · rw [List.getElem?_append_right (by rw [hI.len]; omega)] at u3
            have : i' - ρ.length = 0 := by have := (List.getElem?_eq_some_iff.1 u3).1; simp at this; omega
            rw [this] at u3
            simp at u3
            subst u3
            exact hp2 (hI.nst.inj hp' (Hid.sub hb hh hxi hxj rfl hcv u4)).2
        · have h := h.pop (by simpa using hI.len) rfl
          exact (h.ofSet rfl).1 (hI.nst.inj (h.ofSet rfl).2 hp').1
    · cases h
  · exact ⟨_, h, Acted.refl _⟩
theorem closeA_sound {id : Nat} {k : List Blk → Option R} {r : R} (h : closeA X id M k = some r) : ∃ M', k M' = some r ∧ Acted X M M' := by
  unfold closeA at h
  rw [gm_eq] at h
  split at h
  · rename_i t xs i j kk hb
    rw [gm_eq] at h
    split at h
    · rename_i e ys hk
      replace h := tst_some h
      obtain ⟨hke, h⟩ := h
      rw [beq_iff_eq] at hke
      refine ⟨_, h, fun {w0 S F ρ w} hI => ?_⟩
      have hlt := (List.getElem?_eq_some_iff.1 hb).1
      have hltk := (List.getElem?_eq_some_iff.1 hk).1
      have hlr : id < ρ.length := by rw [hI.len]; exact hlt
      have hh : ρ[id]? = some ρ[id] := List.getElem?_eq_getElem hlr
      have hne : kk ≠ id := fun e => by subst e; rw [hb] at hk; cases hk
      have hhk : ρ[kk]? = some (ρ[kk]'(by rw [hI.len]; exact hltk)) := List.getElem?_eq_getElem _
      generalize ρ[kk]'(by rw [hI.len]; exact hltk) = hdk at hhk
      obtain ⟨q0, q1, q2, q3, q4⟩ := hI.nst.rep hb hh
      obtain ⟨hi, hj⟩ := q3 i j kk rfl
      have hbk := hI.rep kk _ _ hk hhk
      have hI1 := hI.kill hk rfl hhk
      have hI2 := hI1.drop (id := id) (by rw [List.getElem?_set_ne hne]; exact hb) rfl
      have hxi := getElem?_of_getD (d := ([] : Row)) hi
      have hl := koksN_length (q2 i _ hxi)
      have hopn : ∀ {i' j' : Nat}, ¬ (i' = i ∧ j' = j) → opAt (some (i, j, kk)) i' j' = none := by
        intro i' j' hc
        simp only [opAt]; rw [if_neg (fun h => hc ⟨h.1.symm, h.2.symm⟩)]
      have hcell : ∀ {i' : Nat} {row' : Row} {j' : Nat} {x' : AV}, (xs.set i ((xs.getD i []).set j (.sub e ys)))[i']? = some row' → row'[j']? = some x' → (i' = i ∧ j' = j ∧ x' = .sub e ys) ∨ (¬ (i' = i ∧ j' = j) ∧ ∃ row, xs[i']? = some row ∧ row[j']? = some x') := by
        intro i' row' j' x' h1 h2
        by_cases hii : i' = i
        · subst hii
          rw [List.getElem?_set_self hi] at h1
          injection h1 with h1
          subst h1
          by_cases hjj : j' = j
          · subst hjj
            rw [List.getElem?_set_self (by omega)] at h2
            injection h2 with h2
            exact .inl ⟨rfl, rfl, h2.symm⟩
          · rw [List.getElem?_set_ne (Ne.symm hjj)] at h2
            exact .inr ⟨fun h => hjj h.2, _, hxi, h2⟩
        · rw [List.getElem?_set_ne (Ne.symm hii)] at h1
          exact .inr ⟨fun h => hii h.1, _, h1, h2⟩
      rcases q4 with ⟨_, q5⟩ | ⟨g, o, c, cur, p1, p2, p3, p4, p5, p6⟩
      · subst q5; simp at hi
      have hxj : (xs.getD i [])[j]? = some ((xs.getD i []).getD j .top) := getElem?_of_getD (by omega)
      obtain ⟨v, hv, hov, _⟩ := p6 i _ hxi j _ hxj
      obtain ⟨h', e1, e2⟩ := hov kk (by simp [opAt])
      rw [hhk] at e1
      injection e1 with e1
      subst e1
      have hcv : cellOf w ρ[id] i j = some hdk.v := by
        simp only [cellOf, p1]
        rw [Addr.add_lit, cell_of_row w g _ cur t (0, 0) p2, ← Nat.add_assoc, ← e2]; exact hv
      have hr2 : NRep X ρ F w ρ[id] t (xs.set i ((xs.getD i []).set j (.sub e ys))) none := by
        refine ⟨q0, q1, fun i' row' hi' => ?_, fun _ _ _ hk => (by cases hk), .inr ⟨g, o, c, cur, by rw [List.length_set]; exact p1, p2, by rw [List.length_set]; exact p3, p4, p5, fun i' row' hi' j' x' hx' => ?_⟩⟩
        · by_cases hii : i' = i
          · subst hii
            rw [List.getElem?_set_self hi] at hi'
            injection hi' with hi'
            subst hi'
            refine koksN_of (by rw [List.length_set]; exact hl) fun j' kd x hj' hx => ?_
            by_cases hjj : j' = j
            · subst hjj
              rw [List.getElem?_set_self (by omega)] at hx
              injection hx with hx
              subst hx
              rw [List.getD, hj'] at hke
              simp only [Option.getD_some] at hke
              subst hke
              simp [kokN]
            · rw [List.getElem?_set_ne (Ne.symm hjj)] at hx
              obtain ⟨kd', u1, u2⟩ := koksN_get (q2 _ _ hxi) hx
              rw [hj'] at u1; injection u1 with u1; subst u1; exact u2
          · rw [List.getElem?_set_ne (Ne.symm hii)] at hi'
            exact q2 _ _ hi'
        · rcases hcell hi' hx' with ⟨rfl, rfl, rfl⟩ | ⟨hn, row, u1, u2⟩
          · refine ⟨v, hv, fun _ hk => (by cases hk), fun _ => ?_⟩
            rw [e2]
            refine ⟨?_, hI.one _ _ hhk⟩
            have hsz : hdk.sz = (X.K e).length := hbk.1
            rw [← hsz]
            exact hbk
          · obtain ⟨u, hu, _, hcu⟩ := p6 i' row u1 j' x' u2
            exact ⟨u, hu, fun _ hk => (by cases hk), fun _ => hcu (hopn hn)⟩
      have split : ∀ {p g'}, HidB w ρ[id] (xs.set i ((xs.getD i []).set j (.sub e ys))) none p g' → (p = some (i, j) ∧ hdk.blk? = some g') ∨ (p ≠ some (i, j) ∧ HidB w ρ[id] xs (some (i, j, kk)) p g') := by
        intro p g' hp
        rcases hp with hp | ⟨i', j', row, e', ys', v', rfl, u1, u2, u3, u4, u5⟩
        · exact .inr ⟨by rw [hp.1]; simp, .inl hp⟩
        · rcases hcell u1 u2 with ⟨rfl, rfl, _⟩ | ⟨hn, row, m1, m2⟩
          · rw [hcv] at u4
            injection u4 with u4
            subst u4
            exact .inl ⟨rfl, u5⟩
          · exact .inr ⟨fun h => hn (by injection h with h; injection h with h1 h2; exact ⟨h1, h2⟩), .inr ⟨i', j', row, e', ys', v', rfl, m1, m2, hopn hn, u4, u5⟩⟩
      have hke' : ((M.set kk .dead).set id .dead)[id]? = some .dead := by rw [List.getElem?_set_self (by simpa using hlt)]
      have := hI2.install (id := id) (b := .dead) hke' rfl rfl hh hr2 (fun p g' hp => ?_) (fun p q g' h1 h2 => ?_)
      · rw [List.set_set] at this
        exact ⟨F, ρ, this, Grow.refl _ _ _⟩
      · rcases split hp with ⟨_, hp⟩ | ⟨_, hp⟩
        · obtain ⟨a1, a2, a3⟩ := hI.sep kk _ _ g' hk rfl hhk hp
          refine ⟨a1, a2, a3, fun ho => ?_, fun i' q h => ?_⟩
          · obtain ⟨i', b', hd', u1, u2, u3, u4⟩ := ours_set ho
            rcases set_get u1 with ⟨_, rfl⟩ | ⟨hn, u1⟩
            · cases u2
            · exact hI.disj i' kk b' _ hd' _ g' hn u1 hk u2 rfl u3 hhk u4 hp
          · exact (hI.nst.own ((h.ofSet rfl).2.ofSet rfl).2).2.2.2 ⟨kk, _, _, hk, rfl, hhk, hp⟩
        · have hp' := Hid.ofB hb hh hp
          obtain ⟨a1, a2, a3, a4⟩ := hI.nst.own hp'
          exact ⟨a1, a2, a3, fun h => a4 (ours_set (ours_set h)), fun i' q h => (h.ofSet rfl).1 (hI.nst.inj ((h.ofSet rfl).2.ofSet rfl).2 hp').1⟩
      · rcases split h1 with ⟨e1, h1⟩ | ⟨e1, h1⟩ <;> rcases split h2 with ⟨e3, h2⟩ | ⟨e3, h2⟩
        · exact e1.trans e3.symm
        · exact ((hI.nst.own (Hid.ofB hb hh h2)).2.2.2 ⟨kk, _, _, hk, rfl, hhk, h1⟩).elim
        · exact ((hI.nst.own (Hid.ofB hb hh h1)).2.2.2 ⟨kk, _, _, hk, rfl, hhk, h2⟩).elim
        · exact (hI.nst.inj (Hid.ofB hb hh h1) (Hid.ofB hb hh h2)).2
    · cases h
  · exact ⟨_, h, Acted.refl _⟩
end
end Go.Eng

namespace Go.Eng
open Go
noncomputable section
variable {X : Cx} {R : Type}
variable {w0 w : World} {S : Sc} {F : Addr → Prop} {ρ : List Hd} {M : List Blk}
def Does (X : Cx) (M : List Blk) (x : AV) (M' : List Blk) (hyp : List Hd → (Addr → Prop) → World → Prop) (s : Sem Value) : Prop :=
  ∀ {w0 : World} {S : Sc} {F : Addr → Prop} {ρ : List Hd} {w : World}, Inv X w0 S F ρ M w → hyp ρ F w →
    ∃ v w' ρ' F', s.run X.P w = .ok v w' ∧ Inv X w0 S F' ρ' M' w' ∧ Grow F F' ρ ρ' w w' ∧ Rep X.K ρ' F' w' x v
theorem cell_alloc_keeps {w : World} {o : Obj} : ∀ a v, w.cell? a = some v → (w.alloc o).cell? a = some v := by
  intro a v h
  rw [World.cell?_alloc_lt _ _ _ (block_lt_of_cell h)]
  exact h
theorem Inv.newVar (hI : Inv X w0 S F ρ M w) {ks : List Kind} {cs : List AV} (hk : koks ks cs = true) {cur : Array Value} (hr : RepL X.K ρ F w cs cur.toList) (e : TypeId) (hy : X.tyB ks e = true) :
    Inv X w0 S F (ρ ++ [⟨.slice (some ⟨w.heap.size, 0, none⟩) 1 1, cs.length⟩]) (M ++ [.var ks cs]) (w.alloc (.cells cur e)) ∧
    Grow F F ρ (ρ ++ [⟨.slice (some ⟨w.heap.size, 0, none⟩) 1 1, cs.length⟩]) w (w.alloc (.cells cur e)) := by
  have hgrow : Grow F F ρ (ρ ++ [⟨.slice (some ⟨w.heap.size, 0, none⟩) 1 1, cs.length⟩]) w (w.alloc (.cells cur e)) :=
    ⟨fun _ h => h, fun _ _ h => getElem?_append_old h, hI.blks (World.grownBy_alloc w _ none) (by simp)⟩
  refine ⟨hI.push (World.grownBy_alloc w _ none) (hd := ⟨.slice (some ⟨w.heap.size, 0, none⟩) 1 1, cs.length⟩) ?_ rfl ?_, hgrow⟩
  · intro g hg
    simp [Hd.blk?, Value.blk?] at hg
    subst hg
    simp
  · exact ⟨hk, rfl, _, _, _, rfl, heap_alloc_new w _, (by rw [List.take_of_length_le (by have := hr.1; omega)]; exact hr.grow hgrow), hy, fun _ _ _ => by have h1 := hr.1; have h2 : cur.toList.length = cur.size := Array.length_toList; omega⟩
theorem ptr_last {hd : Hd} {g o n c : Nat} (hl : ρ.length = M.length) (hv : hd.v = .slice (some ⟨g, o, none⟩) n c) (i off : Nat) :
    Rep X.K (ρ ++ [hd]) F w (.ptr M.length i off) (.pointer (some ⟨g, o + i * hd.sz + off, none⟩)) :=
  .ptr _ _ _ hd g o n c (by rw [← hl]; simp) hv
def vks (X : Cx) (t : TypeId) : List Kind := (X.ti t).ks.map Kind.v
def evAlloc (X : Cx) (t : TypeId) (M : List Blk) (k : AV → List Blk → Option R) : Option R :=
  tst (((X.ti t).ok && X.tyB (vks X t) t) && koks (vks X t) (X.ti t).zero) (k (.ptr M.length 0 0) (M ++ [.var (vks X t) (X.ti t).zero]))
theorem evAlloc_sound (hX : X.Okb) {t : TypeId} {k : AV → List Blk → Option R} {r : R} (h : evAlloc X t M k = some r) :
    ∃ x M', k x M' = some r ∧ Agree [] M M' ∧ Does X M x M' (fun _ _ _ => True) (Instr.alloc t true (.tuple #[])) := by
  unfold evAlloc at h
  replace h := tst_some h
  obtain ⟨h1, h⟩ := h
  simp only [Bool.and_eq_true] at h1
  obtain ⟨i, d, z, f⟩ := hX.facts h1.1.1
  refine ⟨_, _, h, Agree.push _ _ _, fun {w0 S F ρ w} hI _ => ?_⟩
  have hr : RepL X.K ρ F w (X.ti t).zero z.cells.toList := by rw [f.zc]; exact repL_zero _ _ _ _ _
  obtain ⟨hI', hg⟩ := hI.newVar h1.2 hr t h1.1.2
  refine ⟨.pointer (some ⟨w.heap.size, 0, none⟩), _, _, _, ?_, hI', hg, ?_⟩
  · simp only [Instr.alloc, Sem.run_bind, f.zeroValue, Result.andThen_ok, newVar, newRow, run_newObj, Sem.run_pure, World.alloc_eq]
  · have := ptr_last (X := X) (F := F) (w := w.alloc (.cells z.cells t)) (hd := ⟨.slice (some ⟨w.heap.size, 0, none⟩) 1 1, (X.ti t).zero.length⟩) hI.len rfl 0 0
    simpa using this
def evBox (X : Cx) (t : TypeId) (x : AV) (M : List Blk) (k : AV → List Blk → Option R) : Option R :=
  tst ((x.plain && X.tyB (vks X t) t) && koks (vks X t) x.cells) (k (.ptr M.length 0 0) (M ++ [.var (vks X t) x.cells]))
theorem evBox_sound {t : TypeId} {x : AV} {k : AV → List Blk → Option R} {r : R} (h : evBox X t x M k = some r) :
    ∃ y M', k y M' = some r ∧ Agree [] M M' ∧ ∀ v, Does X M y M' (fun ρ F w => Rep X.K ρ F w x v) (Instr.box t v) := by
  unfold evBox at h
  replace h := tst_some h
  obtain ⟨h1, h⟩ := h
  simp only [Bool.and_eq_true] at h1
  refine ⟨_, _, h, Agree.push _ _ _, fun v {w0 S F ρ w} hI hx => ?_⟩
  have hr := hx.cells (leaf_or_agg h1.1.1) hI.one
  obtain ⟨hI', hg⟩ := hI.newVar h1.2 hr t h1.1.2
  refine ⟨.pointer (some ⟨w.heap.size, 0, none⟩), _, _, _, ?_, hI', hg, ?_⟩
  · simp only [Instr.box, Sem.run_bind, newVar, newRow, run_newObj, Sem.run_pure, Result.andThen_ok, World.alloc_eq]
  · have := ptr_last (X := X) (F := F) (w := w.alloc (.cells v.cells t)) (hd := ⟨.slice (some ⟨w.heap.size, 0, none⟩) 1 1, x.cells.length⟩) hI.len rfl 0 0
    simpa using this
def evFieldAddr (X : Cx) (t : TypeId) (x : AV) (fi : Nat) (k : AV → Option R) : Option R :=
  match (X.ti t).ok, (X.ti t).u with
  | true, .struct fs =>
    match fs[fi]? with
    | some (off, ft) =>
      tst ((X.ti ft).ok && !((X.ti ft).size == 0)) (match x with
        | .ptr id i o => k (.ptr id i (o + off))
        | .iptr t' row o => k (.iptr t' row (o + off))
        | _ => none)
    | none => none
  | _, _ => none
theorem evFieldAddr_sound (hX : X.Okb) {t : TypeId} {x : AV} {fi : Nat} {k : AV → Option R} {r : R} (h : evFieldAddr X t x fi k = some r) :
    ∃ y, k y = some r ∧ ∀ {ρ : List Hd} {F : Addr → Prop} {w : World} {v : Value}, Rep X.K ρ F w x v → ∃ u, (Instr.fieldAt t v fi).run X.P w = .ok u w ∧ Rep X.K ρ F w y u := by
  unfold evFieldAddr at h
  split at h
  · rename_i fs hok hu
    obtain ⟨i, d, z, f⟩ := hX.facts hok
    obtain ⟨gs, hund, hfs⟩ := f.struct hu
    split at h
    · rename_i off ft hfi
      replace h := tst_some h
      obtain ⟨h1, h⟩ := h
      simp only [Bool.and_eq_true, Bool.not_eq_true', beq_eq_false_iff_ne] at h1
      obtain ⟨i2, d2, z2, f2⟩ := hX.facts h1.1
      have hg : ∃ fld, gs[fi]? = some fld ∧ fld.offset = off ∧ fld.type = ft := by
        rw [hfs, List.getElem?_map] at hfi
        cases hgs : gs.toList[fi]? with
        | none => rw [hgs] at hfi; cases hfi
        | some fld =>
          rw [hgs] at hfi
          simp at hfi
          exact ⟨fld, by simpa using hgs, hfi.1, hfi.2⟩
      obtain ⟨fld, hfld, rfl, rfl⟩ := hg
      have hrun : ∀ (w : World) (a : Addr), (Instr.fieldAt t (.pointer (some a)) fi).run X.P w = .ok (.pointer (some (a.add fld.offset))) w := by
        intro w a
        simp only [Instr.fieldAt, Sem.run_bind, run_underlying hund, Result.andThen_ok, hfld, Instr.sureAddr, Sem.run_pure, fieldPlace, f2.sizeOf, h1.2, if_false]
      split at h
      · rename_i id i0 o
        refine ⟨_, h, fun {ρ F w v} hv => ?_⟩
        cases hv with
        | ptr _ _ _ hd g o' n c hid hv =>
          refine ⟨_, hrun _ _, ?_⟩
          rw [Addr.add_lit, show o' + i0 * hd.sz + o + fld.offset = o' + i0 * hd.sz + (o + fld.offset) by omega]
          exact .ptr _ _ _ hd g o' n c hid hv
      · rename_i t' row o
        refine ⟨_, h, fun {ρ F w v} hv => ?_⟩
        cases hv with
        | iptr _ _ _ a vs hk hl hc hr =>
          refine ⟨_, hrun _ _, ?_⟩
          rw [Addr.add_add]
          exact .iptr _ _ _ a vs hk hl hc hr
      · cases h
    · cases h
  · cases h
def evIndexAddr (X : Cx) (t : TypeId) (x i : AV) (M : List Blk) (k : AV → Option R) : Option R :=
  match i with
  | .int _ n =>
    match (X.ti t).ok, (X.ti t).u with
    | true, .slice e =>
      tst ((X.ti e).ok) (match x with
        | .list t' xs => tst (e == t' && (decide (0 ≤ n) && decide (n < (xs.length : Int)))) (k (.iptr t' (xs.getD n.toNat []) 0))
        | .own id =>
          match gm M id with
          | some (.row t' xs) => tst (e == t' && (decide (0 ≤ n) && decide (n < (xs.length : Int)))) (k (.ptr id n.toNat 0))
          | some (.fro t' xs) => tst (e == t' && (decide (0 ≤ n) && decide (n < (xs.length : Int)))) (k (.iptr t' (xs.getD n.toNat []) 0))
          | some (.nst t' xs _) => tst (e == t' && (decide (0 ≤ n) && decide (n < (xs.length : Int)))) (k (.ptr id n.toNat 0))
          | _ => none
        | .vsl id m => tst (decide (0 ≤ n) && decide (n < (m : Int))) (k (.ptr id 0 (n.toNat * (X.ti e).size)))
        | .vw id lo m =>
          match gm M id with
          | some (.row t' _) => tst (e == t' && (decide (0 ≤ n) && decide (n < (m : Int)))) (k (.ptr id (lo + n.toNat) 0))
          | _ => none
        | _ => none)
    | true, .array len e =>
      tst ((X.ti e).ok && (decide (0 ≤ n) && decide (n < (len : Int)))) (match x with
        | .ptr id j off => k (.ptr id j (off + n.toNat * (X.ti e).size))
        | .iptr t' row off => k (.iptr t' row (off + n.toNat * (X.ti e).size))
        | _ => none)
    | _, _ => none
  | _ => none
theorem run_indexAt_slice (hX : X.Okb) {t e : TypeId} (hok : (X.ti t).ok = true) (hu : (X.ti t).u = .slice e) (he : (X.ti e).ok = true) {a : Addr} {len cap : Nat} {kk : IntKind} {n : Int} (h0 : 0 ≤ n) (h1 : n < (len : Int)) (w : World) :
    (Instr.indexAt t (.slice (some a) len cap) (.int kk n)).run X.P w = .ok (.pointer (some (a.add (n.toNat * (X.ti e).size)))) w := by
  obtain ⟨i, d, z, f⟩ := hX.facts hok
  obtain ⟨i2, d2, z2, f2⟩ := hX.facts he
  have hund := f.slice hu
  simp [Instr.indexAt, asIntOf, run_underlying hund, h0, h1, f2.sizeOf]
theorem elem_of_list {t : TypeId} {xs : List Row} {v : Value} (hv : Rep X.K ρ F w (.list t xs) v) {i : Nat} (hi : i < xs.length) :
    ∃ a cap, v = .slice (some a) xs.length cap ∧ Rep X.K ρ F w (.iptr t (xs.getD i []) 0) (.pointer (some (a.add (i * (X.K t).length)))) := by
  cases hv with
  | list0 => simp at hi
  | list _ _ a cap vss hl hcap hmax hk hc hr =>
    have hvi : vss[i]? = some (vss[i]'(by omega)) := List.getElem?_eq_getElem (by omega)
    have hxi := getElem?_of_getD (d := ([] : Row)) hi
    obtain ⟨c1, c2⟩ := hc i _ hvi
    have hrep : Rep X.K ρ F w (.iptr t (xs.getD i []) 0) (.pointer (some ((a.add (i * (X.K t).length)).add 0))) := by
      refine .iptr t _ 0 (a.add (i * (X.K t).length)) (vss[i]'(by omega)) (hk i _ hxi) ?_ ?_ ?_
      · rw [c1, koks_length (hk i _ hxi)]
      · intro j v hj
        rw [Addr.add_add]
        exact c2 j v hj
      · exact hr i _ _ hxi hvi
    exact ⟨a, cap, rfl, by simpa [Addr.add] using hrep⟩
theorem evIndexAddr_sound (hX : X.Okb) {t : TypeId} {x i : AV} {k : AV → Option R} {r : R} (h : evIndexAddr X t x i M k = some r) :
    ∃ y, k y = some r ∧ ∀ {w0 : World} {S : Sc} {F : Addr → Prop} {ρ : List Hd} {w : World} {v vi : Value}, Inv X w0 S F ρ M w → Rep X.K ρ F w x v → Rep X.K ρ F w i vi →
      ∃ u, (Instr.indexAt t v vi).run X.P w = .ok u w ∧ Rep X.K ρ F w y u := by
  unfold evIndexAddr at h
  simp only [gm_eq] at h
  split at h
  · rename_i kk n
    split at h
    · rename_i e hok hu
      replace h := tst_some h
      obtain ⟨he, h⟩ := h
      obtain ⟨i2, d2, z2, f2⟩ := hX.facts he
      have hsz : (X.K e).length = (X.ti e).size := by rw [f2.size]; exact f2.ks
      split at h
      · rename_i t' xs
        replace h := tst_some h
        obtain ⟨h1, h⟩ := h
        simp only [Bool.and_eq_true, decide_eq_true_eq, beq_iff_eq] at h1
        obtain ⟨rfl, h0, h1⟩ := h1
        refine ⟨_, h, fun {w0 S F ρ w v vi} hI hv hi => ?_⟩
        cases hi
        obtain ⟨a, cap, rfl, hp⟩ := elem_of_list hv (i := n.toNat) (by omega)
        refine ⟨_, run_indexAt_slice hX hok hu he h0 h1 w, ?_⟩
        rw [← hsz]
        exact hp
      · rename_i id
        split at h
        · rename_i t' xs hb
          replace h := tst_some h
          obtain ⟨h1, h⟩ := h
          simp only [Bool.and_eq_true, decide_eq_true_eq, beq_iff_eq] at h1
          obtain ⟨rfl, h0, h1⟩ := h1
          refine ⟨_, h, fun {w0 S F ρ w v vi} hI hv hi => ?_⟩
          cases hi
          cases hv with
          | own _ hd hid =>
            have hnl : n.toNat < xs.length := by omega
            obtain ⟨hk, hs, g, o, c, cur, vs, hv, hg, _⟩ := hI.row_cells hb hid (getElem?_of_getD (d := []) hnl)
            rw [hv]
            refine ⟨_, run_indexAt_slice hX hok hu he h0 h1 w, ?_⟩
            rw [Addr.add_lit]
            have := Rep.ptr (K := X.K) (ρ := ρ) (F := F) (w := w) id n.toNat 0 hd g o xs.length c hid hv
            rw [hs, hsz] at this
            simpa using this
        · rename_i t' xs hb
          replace h := tst_some h
          obtain ⟨h1, h⟩ := h
          simp only [Bool.and_eq_true, decide_eq_true_eq, beq_iff_eq] at h1
          obtain ⟨rfl, h0, h1⟩ := h1
          refine ⟨_, h, fun {w0 S F ρ w v vi} hI hv hi => ?_⟩
          cases hi
          cases hv with
          | own _ hd hid =>
            have hl : Rep X.K ρ F w (.list e xs) hd.v := hI.rep id _ hd hb hid
            obtain ⟨a, cap, hv, hp⟩ := elem_of_list hl (i := n.toNat) (by omega)
            rw [hv]
            refine ⟨_, run_indexAt_slice hX hok hu he h0 h1 w, ?_⟩
            rw [← hsz]
            exact hp
        · rename_i t' xs op hb
          replace h := tst_some h
          obtain ⟨h1, h⟩ := h
          simp only [Bool.and_eq_true, decide_eq_true_eq, beq_iff_eq] at h1
          obtain ⟨rfl, h0, h1⟩ := h1
          refine ⟨_, h, fun {w0 S F ρ w v vi} hI hv hi => ?_⟩
          cases hi
          cases hv with
          | own _ hd hid =>
            obtain ⟨_, hs, _, _, hq⟩ := hI.nst.rep hb hid
            rcases hq with ⟨_, hq⟩ | ⟨g, o, c, cur, hv, _⟩
            · subst hq; simp at h1; omega
            · rw [hv]
              refine ⟨_, run_indexAt_slice hX hok hu he h0 h1 w, ?_⟩
              rw [Addr.add_lit]
              have := Rep.ptr (K := X.K) (ρ := ρ) (F := F) (w := w) id n.toNat 0 hd g o xs.length c hid hv
              rw [hs, hsz] at this
              simpa using this
        · cases h
      · rename_i id m
        replace h := tst_some h
        obtain ⟨h1, h⟩ := h
        simp only [Bool.and_eq_true, decide_eq_true_eq] at h1
        refine ⟨_, h, fun {w0 S F ρ w v vi} hI hv hi => ?_⟩
        cases hi
        cases hv with
        | vsl _ _ hd g o n' c cap hid hv =>
          refine ⟨_, run_indexAt_slice hX hok hu he h1.1 h1.2 w, ?_⟩
          rw [Addr.add_lit]
          have := Rep.ptr (K := X.K) (ρ := ρ) (F := F) (w := w) id 0 (n.toNat * (X.ti e).size) hd g o n' c hid hv
          simpa using this
      · rename_i id lo m
        split at h
        · rename_i t' xs hb
          replace h := tst_some h
          obtain ⟨h1, h⟩ := h
          simp only [Bool.and_eq_true, decide_eq_true_eq, beq_iff_eq] at h1
          obtain ⟨rfl, h0, h1⟩ := h1
          refine ⟨_, h, fun {w0 S F ρ w v vi} hI hv hi => ?_⟩
          cases hi
          cases hv with
          | vw _ _ _ hd g o n' c cap hid hv hc hbd =>
            obtain ⟨q1, _⟩ := hI.rep _ _ hd hb hid
            refine ⟨_, run_indexAt_slice hX hok hu he h0 h1 w, ?_⟩
            rw [Addr.add_lit]
            have := Rep.ptr (K := X.K) (ρ := ρ) (F := F) (w := w) id (lo + n.toNat) 0 hd g o n' c hid hv
            rw [q1, hsz] at this ⊢
            rw [show o + lo * (X.ti e).size + n.toNat * (X.ti e).size = o + (lo + n.toNat) * (X.ti e).size + 0 by rw [Nat.add_mul]; omega]
            exact this
          | vwn => simp at h1; omega
          | vws => simp at h1; omega
        · cases h
      · cases h
    · rename_i len e hok hu
      replace h := tst_some h
      obtain ⟨h1, h⟩ := h
      simp only [Bool.and_eq_true, decide_eq_true_eq] at h1
      obtain ⟨he, h0, h1⟩ := h1
      obtain ⟨i1, d1, z1, f1⟩ := hX.facts hok
      obtain ⟨i2, d2, z2, f2⟩ := hX.facts he
      have hund := f1.array hu
      have hrun : ∀ (w : World) (a : Addr), (Instr.indexAt t (.pointer (some a)) (.int kk n)).run X.P w = .ok (.pointer (some (a.add (n.toNat * (X.ti e).size)))) w := by
        intro w a
        simp [Instr.indexAt, asIntOf, run_underlying hund, Instr.sureAddr, h0, h1, f2.sizeOf]
      split at h
      · rename_i id j off
        refine ⟨_, h, fun {w0 S F ρ w v vi} hI hv hi => ?_⟩
        cases hi
        cases hv with
        | ptr _ _ _ hd g o' n' c hid hv =>
          refine ⟨_, hrun _ _, ?_⟩
          rw [Addr.add_lit, show o' + j * hd.sz + off + n.toNat * (X.ti e).size = o' + j * hd.sz + (off + n.toNat * (X.ti e).size) by omega]
          exact .ptr _ _ _ hd g o' n' c hid hv
      · rename_i t' row off
        refine ⟨_, h, fun {w0 S F ρ w v vi} hI hv hi => ?_⟩
        cases hi
        cases hv with
        | iptr _ _ _ a vs hk hl hc hr =>
          refine ⟨_, hrun _ _, ?_⟩
          rw [Addr.add_add]
          exact .iptr _ _ _ a vs hk hl hc hr
      · cases h
    · cases h
  · cases h
def evPart (X : Cx) (t : TypeId) (cs : List AV) (off : Nat) (k : AV → Option R) : Option R :=
  tst ((X.ti t).ok && decide (off + (X.ti t).size ≤ cs.length)) (match (X.ti t).u.agg with
    | true => k (.agg ((cs.drop off).take (X.ti t).size))
    | false => tst ((X.ti t).size == 1) (k (cs.getD off .top)))
theorem evPart_sound (hX : X.Okb) {t : TypeId} {cs : List AV} {off : Nat} {k : AV → Option R} {r : R} (h : evPart X t cs off k = some r) :
    ∃ y, k y = some r ∧ ∀ {ρ : List Hd} {F : Addr → Prop} {w : World} {vs : Array Value}, RepL X.K ρ F w cs vs.toList → ∃ u, (part t vs off).run X.P w = .ok u w ∧ Rep X.K ρ F w y u := by
  unfold evPart at h
  replace h := tst_some h
  obtain ⟨h1, h⟩ := h
  simp only [Bool.and_eq_true, decide_eq_true_eq] at h1
  obtain ⟨i, d, z, f⟩ := hX.facts h1.1
  split at h
  · rename_i ha
    refine ⟨_, h, fun {ρ F w vs} hr => ?_⟩
    refine ⟨.agg (vs.extract off (off + (X.ti t).size)), by simp [part, f.isAgg, ha, f.sizeOf], ?_⟩
    have h2 := hr.drop_take off (X.ti t).size
    have e : vs.extract off (off + (X.ti t).size) = ((vs.toList.drop off).take (X.ti t).size).toArray := by
      apply Array.ext'
      simp [List.extract_eq_take_drop]
    rw [e]
    exact .agg _ _ h2.1 h2.2
  · rename_i ha
    replace h := tst_some h
    obtain ⟨h2, h⟩ := h
    have hs : (X.ti t).size = 1 := by simpa using h2
    refine ⟨_, h, fun {ρ F w vs} hr => ?_⟩
    have hlt : off < cs.length := by omega
    have hl := hr.1
    simp only [Array.length_toList] at hl
    obtain ⟨u, hu⟩ : ∃ u, vs[off]? = some u := ⟨vs[off]'(by omega), Array.getElem?_eq_getElem (by omega)⟩
    refine ⟨u, ?_, hr.2 off _ _ (getElem?_of_getD hlt) (by rw [Array.getElem?_toList]; exact hu)⟩
    simp only [part, Sem.run_bind, f.isAgg, ha, Result.andThen_ok, hu, Sem.run_pure, Bool.false_eq_true, if_false]
def evField (X : Cx) (t : TypeId) (x : AV) (fi : Nat) (k : AV → Option R) : Option R :=
  match (X.ti t).ok, (X.ti t).u, x with
  | true, .struct fs, .agg cs =>
    match fs[fi]? with
    | some (off, ft) => evPart X ft cs off k
    | none => none
  | _, _, _ => none
theorem evField_sound (hX : X.Okb) {t : TypeId} {x : AV} {fi : Nat} {k : AV → Option R} {r : R} (h : evField X t x fi k = some r) :
    ∃ y, k y = some r ∧ ∀ {ρ : List Hd} {F : Addr → Prop} {w : World} {v : Value}, Rep X.K ρ F w x v → ∃ u, (Instr.field t v fi).run X.P w = .ok u w ∧ Rep X.K ρ F w y u := by
  unfold evField at h
  split at h
  · rename_i fs cs hok hu
    obtain ⟨i, d, z, f⟩ := hX.facts hok
    obtain ⟨gs, hund, hfs⟩ := f.struct hu
    split at h
    · rename_i off ft hfi
      have hg : ∃ fld, gs[fi]? = some fld ∧ fld.offset = off ∧ fld.type = ft := by
        rw [hfs, List.getElem?_map] at hfi
        cases hgs : gs.toList[fi]? with
        | none => rw [hgs] at hfi; cases hfi
        | some fld =>
          rw [hgs] at hfi
          simp at hfi
          exact ⟨fld, by simpa using hgs, hfi.1, hfi.2⟩
      obtain ⟨fld, hfld, rfl, rfl⟩ := hg
      obtain ⟨y, hy, hrun⟩ := evPart_sound hX h
      refine ⟨y, hy, fun {ρ F w v} hv => ?_⟩
      cases hv with
      | agg _ vs hl hr =>
        obtain ⟨u, h1, h2⟩ := hrun (vs := vs.toArray) ⟨by simpa using hl, by simpa using hr⟩
        refine ⟨u, ?_, h2⟩
        simp only [Instr.field, Sem.run_bind, run_underlying hund, Result.andThen_ok, hfld, asAgg, Sem.run_pure, h1]
    · cases h
  · cases h
def evIndex (X : Cx) (t : TypeId) (x i : AV) (k : AV → Option R) : Option R :=
  match (X.ti t).ok, (X.ti t).u, x, i with
  | true, .array len e, .agg cs, .int _ n => tst ((X.ti e).ok && (decide (0 ≤ n) && decide (n < (len : Int)))) (evPart X e cs (n.toNat * (X.ti e).size) k)
  | true, .str, .str s, .int _ n => tst (decide (0 ≤ n)) (match s[n.toNat]? with | none => none | some b => k (.int .u8 b.toNat))
  | _, _, _, _ => none
theorem evIndex_sound (hX : X.Okb) {t : TypeId} {x i : AV} {k : AV → Option R} {r : R} (h : evIndex X t x i k = some r) :
    ∃ y, k y = some r ∧ ∀ {ρ : List Hd} {F : Addr → Prop} {w : World} {v vi : Value}, Rep X.K ρ F w x v → Rep X.K ρ F w i vi → ∃ u, (Instr.index t v vi).run X.P w = .ok u w ∧ Rep X.K ρ F w y u := by
  unfold evIndex at h
  split at h
  · rename_i len e cs kk n hok hu
    replace h := tst_some h
    obtain ⟨h1, h⟩ := h
    simp only [Bool.and_eq_true, decide_eq_true_eq] at h1
    obtain ⟨he, h0, h1⟩ := h1
    obtain ⟨i1, d1, z1, f1⟩ := hX.facts hok
    obtain ⟨i2, d2, z2, f2⟩ := hX.facts he
    have hund := f1.array hu
    obtain ⟨y, hy, hrun⟩ := evPart_sound hX h
    refine ⟨y, hy, fun {ρ F w v vi} hv hi => ?_⟩
    cases hi
    cases hv with
    | agg _ vs hl hr =>
      obtain ⟨u, h3, h4⟩ := hrun (vs := vs.toArray) ⟨by simpa using hl, by simpa using hr⟩
      refine ⟨u, ?_, h4⟩
      simp only [Instr.index, asIntOf, Sem.run_bind, Sem.run_pure, run_underlying hund, Result.andThen_ok, h0, h1, and_self, if_true, f2.sizeOf, h3]
  · rename_i s kk n hok hu
    replace h := tst_some h
    obtain ⟨h0, h⟩ := h
    have h0 := of_decide_eq_true h0
    obtain ⟨i1, d1, z1, f1⟩ := hX.facts hok
    have hund : X.P.underlying t = some .string := by
      have := f1.u; rw [hu] at this; cases d1 <;> simp [tyOf] at this; exact f1.und
    split at h
    · cases h
    · rename_i b hb
      refine ⟨_, h, fun {ρ F w v vi} hv hi => ?_⟩
      cases hi
      cases hv
      refine ⟨.int .u8 b.toNat, ?_, .int _ _⟩
      simp only [Instr.index, asIntOf, Sem.run_bind, Sem.run_pure, run_underlying hund, Result.andThen_ok, h0, if_true, hb]
  · cases h
end
end Go.Eng

namespace Go.Eng
open Go
noncomputable section
variable {X : Cx} {R : Type}
variable {w0 w w' : World} {S : Sc} {F : Addr → Prop} {ρ : List Hd} {M : List Blk}
def rowsOf (M : List Blk) : AV → Option (Option TypeId × List Row)
  | .list t xs => some (some t, xs)
  | .nilsl => some (none, [])
  | .own id => match gm M id with | some (.row t xs) => some (some t, xs) | some (.fro t xs) => some (some t, xs) | _ => none
  | .vw id lo m => match gm M id with | some (.row t xs) => some (some t, (xs.drop lo).take m) | _ => none
  | .enl => some (none, [])
  | _ => none
theorem rowsOf_len (hI : Inv X w0 S F ρ M w) {x : AV} {o : Option TypeId} {xs : List Row} (h : rowsOf M x = some (o, xs)) {v : Value} (hv : Rep X.K ρ F w x v) : ∃ a c, v = .slice a xs.length c := by
  unfold rowsOf at h
  simp only [gm_eq] at h
  split at h
  · injection h with h; injection h with _ h; subst h
    cases hv with
    | list0 => exact ⟨_, _, rfl⟩
    | list => exact ⟨_, _, rfl⟩
  · injection h with h; injection h with _ h; subst h
    cases hv; exact ⟨_, _, rfl⟩
  · split at h
    · rename_i hb
      injection h with h; injection h with _ h; subst h
      cases hv with
      | own _ hd hid =>
        rcases (hI.rep _ _ hd hb hid).2.2 with ⟨h1, h2⟩ | ⟨g, o, c, cur, h1, _⟩
        · subst h2; exact ⟨_, _, h1⟩
        · exact ⟨_, _, h1⟩
    · rename_i t xs' hb
      injection h with h; injection h with _ h; subst h
      cases hv with
      | own _ hd hid =>
        have hr : Rep X.K ρ F w (.list t xs') hd.v := hI.rep _ _ hd hb hid
        generalize hd.v = v at hr
        cases hr with
        | list0 => exact ⟨_, _, rfl⟩
        | list => exact ⟨_, _, rfl⟩
    · cases h
  · split at h
    · rename_i id lo m ob t xs' hb
      injection h with h; injection h with _ h; subst h
      cases hv with
      | vw _ _ _ hd g o n c cap hid hv hc hbd =>
        have hlen : n = xs'.length := by
          rcases (hI.rep _ _ hd hb hid).2.2 with ⟨h1, h2⟩ | ⟨g', o', c', cur, h1, _⟩
          · rw [hv] at h1; cases h1
          · rw [hv] at h1; injection h1
        refine ⟨some ⟨g, o + lo * hd.sz, none⟩, cap, ?_⟩
        rw [List.length_take, List.length_drop, show min m (xs'.length - lo) = m by omega]
      | vwn => exact ⟨_, _, rfl⟩
      | vws => exact ⟨_, _, rfl⟩
    · cases h
  · injection h with h; injection h with _ h; subst h
    cases hv; exact ⟨_, _, rfl⟩
  · cases h
theorem rowsOf_cells0 (hI : Inv X w0 S F ρ M w) {x : AV} {t : TypeId} {xs : List Row} (h : rowsOf M x = some (some t, xs)) (hx : ∀ id lo m, x ≠ .vw id lo m) {v : Value} (hv : Rep X.K ρ F w x v) :
    (∀ (i : Nat) row, xs[i]? = some row → koks (X.K t) row = true) ∧
    ((v = .slice none 0 0 ∧ xs = []) ∨ ∃ a c, v = .slice (some a) xs.length c ∧ ∃ vss : List (List Value), vss.length = xs.length ∧
      ∀ (i : Nat) row vs, xs[i]? = some row → vss[i]? = some vs → RepL X.K ρ F w row vs ∧ CellsAt w (a.add (i * (X.K t).length)) vs) := by
  have core : ∀ {v : Value} {t : TypeId} {xs : List Row}, Rep X.K ρ F w (.list t xs) v → (∀ (i : Nat) row, xs[i]? = some row → koks (X.K t) row = true) ∧
    ((v = .slice none 0 0 ∧ xs = []) ∨ ∃ a c, v = .slice (some a) xs.length c ∧ ∃ vss : List (List Value), vss.length = xs.length ∧
      ∀ (i : Nat) row vs, xs[i]? = some row → vss[i]? = some vs → RepL X.K ρ F w row vs ∧ CellsAt w (a.add (i * (X.K t).length)) vs) := by
    intro v t xs hv
    cases hv with
    | list0 => exact ⟨fun i row h => by simp at h, .inl ⟨rfl, rfl⟩⟩
    | list _ _ a cap vss hl hcap hmax hk hc hr =>
      refine ⟨hk, .inr ⟨a, cap, rfl, vss, hl, fun i row vs hi hvs => ⟨⟨?_, hr i row vs hi hvs⟩, fun j u hj => ?_⟩⟩⟩
      · rw [(hc i vs hvs).1, koks_length (hk i row hi)]
      · rw [Addr.add_add]; exact ((hc i vs hvs).2 j u hj).1
  unfold rowsOf at h
  simp only [gm_eq] at h
  split at h
  · injection h with h; injection h with h1 h2; injection h1 with h1; subst h1; subst h2
    exact core hv
  · injection h with h; injection h with h1 h2; cases h1
  · split at h
    · rename_i id t' xs' hb
      injection h with h; injection h with h1 h2; injection h1 with h1; subst h1; subst h2
      cases hv with
      | own _ hd hid =>
        obtain ⟨h1, h2, h3⟩ := hI.rep _ _ hd hb hid
        refine ⟨h2, ?_⟩
        rcases h3 with h3 | ⟨g, o, c, cur, hv', hg, h4, h5, h6, h7⟩
        · exact .inl h3
        · have hex : ∀ i : Nat, i < xs'.length → ∃ vs, RepL X.K ρ F w (xs'.getD i []) vs ∧ CellsAt w ⟨g, o + i * hd.sz, none⟩ vs := by
            intro i hi
            obtain ⟨_, _, g', o', c', cur', vs, hv2, _, _, _, _, hr, hc, _⟩ := hI.row_cells hb hid (getElem?_of_getD (d := []) hi)
            rw [hv'] at hv2
            injection hv2 with e1 e2 e3
            injection e1 with e1
            injection e1 with e1 e4 e5
            subst e1; subst e4
            exact ⟨vs, hr, hc⟩
          refine .inr ⟨_, c, hv', (List.range xs'.length).map fun i => if h : i < xs'.length then (hex i h).choose else [], by simp, fun i row vs hi hvs => ?_⟩
          have hil := (List.getElem?_eq_some_iff.1 hi).1
          simp only [List.getElem?_map, List.getElem?_range hil, Option.map_some, Option.some.injEq, dif_pos hil] at hvs
          subst hvs
          have e : row = xs'.getD i [] := by
            have := getElem?_of_getD (d := ([] : Row)) hil
            rw [hi] at this
            injection this
          subst e
          obtain ⟨hr, hc⟩ := (hex i hil).choose_spec
          refine ⟨hr, ?_⟩
          rw [Addr.add_lit, ← h1]
          exact hc
    · rename_i id t' xs' hb
      injection h with h; injection h with h1 h2; injection h1 with h1; subst h1; subst h2
      cases hv with
      | own _ hd hid => exact core (hI.rep _ _ hd hb hid)
    · cases h
  · exact absurd rfl (hx _ _ _)
  · injection h with h; injection h with h1 h2; cases h1
  · cases h
theorem rowsOf_cells (hI : Inv X w0 S F ρ M w) {x : AV} {t : TypeId} {xs : List Row} (h : rowsOf M x = some (some t, xs)) {v : Value} (hv : Rep X.K ρ F w x v) :
    (∀ (i : Nat) row, xs[i]? = some row → koks (X.K t) row = true) ∧
    ((v = .slice none 0 0 ∧ xs = []) ∨ ∃ a c, v = .slice (some a) xs.length c ∧ ∃ vss : List (List Value), vss.length = xs.length ∧
      ∀ (i : Nat) row vs, xs[i]? = some row → vss[i]? = some vs → RepL X.K ρ F w row vs ∧ CellsAt w (a.add (i * (X.K t).length)) vs) := by
  by_cases hx : ∃ id lo m, x = .vw id lo m
  · obtain ⟨id, lo, m, rfl⟩ := hx
    unfold rowsOf at h
    simp only [gm_eq] at h
    split at h
    · rename_i t' xs' hb
      injection h with h; injection h with h1 h2; injection h1 with h1; subst h1; subst h2
      cases hv with
      | vw _ _ _ hd g o n c cap hid hv hc hbd =>
        obtain ⟨q1, q2, q3⟩ := hI.rep _ _ hd hb hid
        have hro : rowsOf M (.own id) = some (some t', xs') := by simp [gm_eq, rowsOf, hb]
        obtain ⟨hk, hcs⟩ := rowsOf_cells0 hI hro (fun _ _ _ e => by cases e) (.own id hd hid)
        have hsub : ∀ (i : Nat) row, ((xs'.drop lo).take m)[i]? = some row → i < m ∧ xs'[lo + i]? = some row := by
          intro i row hi
          rw [List.getElem?_take] at hi
          split at hi
          · rename_i him; rw [List.getElem?_drop] at hi; exact ⟨him, hi⟩
          · cases hi
        refine ⟨fun i row hi => hk _ row (hsub i row hi).2, ?_⟩
        rcases hcs with ⟨h1, _⟩ | ⟨a, c2, h1, vss, hl, hvs⟩
        · rw [hv] at h1; cases h1
        · rw [hv] at h1
          injection h1 with e1 e2 e3
          injection e1 with e1
          refine .inr ⟨⟨g, o + lo * hd.sz, none⟩, cap, ?_, (vss.drop lo).take m, ?_, fun i row vs hi hvi => ?_⟩
          · rw [List.length_take, List.length_drop, show min m (xs'.length - lo) = m by omega]
          · rw [List.length_take, List.length_drop, List.length_take, List.length_drop, hl]
          · obtain ⟨him, hr⟩ := hsub i row hi
            have hvi' : vss[lo + i]? = some vs := by
              rw [List.getElem?_take, if_pos him, List.getElem?_drop] at hvi; exact hvi
            obtain ⟨r1, r2⟩ := hvs _ _ _ hr hvi'
            refine ⟨r1, ?_⟩
            rw [← e1, Addr.add_lit] at r2
            rw [Addr.add_lit, q1, show o + lo * (X.K t').length + i * (X.K t').length = o + (lo + i) * (X.K t').length by rw [Nat.add_mul]; omega]
            exact r2
      | vwn => exact ⟨fun i row hi => by simp at hi, .inl ⟨rfl, by simp⟩⟩
      | vws _ _ a cap => exact ⟨fun i row hi => by simp at hi, .inr ⟨a, cap, by simp, [], by simp, fun i row vs hi _ => by simp at hi⟩⟩
    · cases h
  · exact rowsOf_cells0 hI h (fun id lo m e => hx ⟨id, lo, m, e⟩) hv
def nLen (M : List Blk) (x : AV) (k : Nat → Option R) : Option R := match x with | .own id => (match gm M id with | some (.nst _ xs _) => k xs.length | _ => none) | _ => none
theorem nLen_some {x : AV} {k : Nat → Option R} {r : R} (h : nLen M x k = some r) : ∃ id t xs op, x = .own id ∧ M[id]? = some (.nst t xs op) ∧ k xs.length = some r := by
  unfold nLen at h
  split at h
  · rename_i id
    split at h
    · rename_i t xs op hb
      rw [gm_eq] at hb
      exact ⟨id, t, xs, op, rfl, hb, h⟩
    · cases h
  · cases h
def evLen (X : Cx) (t : TypeId) (x : AV) (M : List Blk) (k : AV → Option R) : Option R :=
  match (X.ti t).ok, (X.ti t).u, x with
  | true, .array n _, _ => k (.int .i64 n)
  | true, .str, .str s => k (.int .i64 s.size)
  | true, .slice _, .vsl _ m => k (.int .i64 m)
  | true, .slice _, .vw _ _ m => k (.int .i64 m)
  | true, .slice _, x => match rowsOf M x with | some (_, xs) => k (.int .i64 xs.length) | none => nLen M x fun n => k (.int .i64 n)
  | _, _, _ => none
theorem evLen_sound (hX : X.Okb) {t ty : TypeId} {x : AV} {k : AV → Option R} {r : R} (h : evLen X t x M k = some r) :
    ∃ y, k y = some r ∧ ∀ {w0 : World} {S : Sc} {F : Addr → Prop} {ρ : List Hd} {w : World} {v : Value}, Inv X w0 S F ρ M w → Rep X.K ρ F w x v → ∃ u, (Builtin.len_ #[t] ty #[v]).run X.P w = .ok u w ∧ Rep X.K ρ F w y u := by
  unfold evLen at h
  split at h
  · rename_i n e hok hu
    obtain ⟨i, d, z, f⟩ := hX.facts hok
    have hund := f.array hu
    refine ⟨_, h, fun {w0 S F ρ w v} hI hv => ⟨.int .i64 n, ?_, .int _ _⟩⟩
    unfold Builtin.len_
    simp [run_underlying hund, goInt]
  · rename_i s hok hu
    obtain ⟨i, d, z, f⟩ := hX.facts hok
    have hund : X.P.underlying t = some .string := by
      have := f.u; rw [hu] at this; cases d <;> simp [tyOf] at this; exact f.und
    refine ⟨_, h, fun {w0 S F ρ w v} hI hv => ⟨.int .i64 s.size, ?_, .int _ _⟩⟩
    cases hv
    unfold Builtin.len_
    simp [run_underlying hund, goInt]
  · rename_i e id m hok hu
    obtain ⟨i, d, z, f⟩ := hX.facts hok
    have hund := f.slice hu
    refine ⟨_, h, fun {w0 S F ρ w v} hI hv => ⟨.int .i64 m, ?_, .int _ _⟩⟩
    cases hv
    unfold Builtin.len_
    simp [run_underlying hund, goInt]
  · rename_i e id lo m hok hu
    obtain ⟨i, d, z, f⟩ := hX.facts hok
    have hund := f.slice hu
    refine ⟨_, h, fun {w0 S F ρ w v} hI hv => ⟨.int .i64 m, ?_, .int _ _⟩⟩
    cases hv <;> (unfold Builtin.len_; simp [run_underlying hund, goInt])
  · rename_i e hok hu _ _
    obtain ⟨i, d, z, f⟩ := hX.facts hok
    have hund := f.slice hu
    split at h
    · rename_i o xs hrow
      refine ⟨_, h, fun {w0 S F ρ w v} hI hv => ⟨.int .i64 xs.length, ?_, .int _ _⟩⟩
      obtain ⟨a, c, rfl⟩ := rowsOf_len hI hrow hv
      unfold Builtin.len_
      simp [run_underlying hund, goInt]
    · obtain ⟨id, t', xs, op, rfl, hb, h⟩ := nLen_some h
      refine ⟨_, h, fun {w0 S F ρ w v} hI hv => ⟨.int .i64 xs.length, ?_, .int _ _⟩⟩
      cases hv with
      | own _ hd hid =>
        obtain ⟨_, _, _, _, hq⟩ := hI.nst.rep hb hid
        have hl : ∃ a c, hd.v = .slice a xs.length c := by
          rcases hq with ⟨hq, e⟩ | ⟨g, o, c, cur, hv, _⟩
          · subst e; exact ⟨_, _, hq⟩
          · exact ⟨_, _, hv⟩
        obtain ⟨a, c, hv⟩ := hl
        rw [hv]
        unfold Builtin.len_
        simp [run_underlying hund, goInt]
  · cases h
def imin (x y : Int) : Int := if y < x then y else x
def imax (x y : Int) : Int := if y > x then y else x
def evMM (f : Int → Int → Int) (k : IntKind) : Int → List AV → Option Int
  | a, [] => some a
  | a, .int k' b :: rest => match k == k' with | true => evMM f k (f a b) rest | false => none
  | _, _ => none
def evMin (f : Int → Int → Int) (xs : List AV) (k : AV → Option R) : Option R :=
  match xs with
  | .int kd a :: rest => match evMM f kd a rest with | some n => k (.int kd n) | none => none
  | _ => none
theorem evMM_min {P : Program} {K : TypeId → List Kind} : ∀ (xs : List AV) (kd : IntKind) (a n : Int) (vs : List Value), evMM imin kd a xs = some n → RepL K ρ F w xs vs → (vs.foldlM Builtin.min2 (.int kd a)).run P w = .ok (.int kd n) w
  | [], kd, a, n, vs, h, hr => by
    simp only [evMM, Option.some.injEq] at h
    subst h
    match vs, hr.1 with
    | [], _ => rfl
  | x :: xs, kd, a, n, vs, h, hr => by
    cases x <;> simp only [evMM] at h <;> try cases h
    rename_i k' b
    split at h
    · match vs, hr.1 with
      | v :: vs, hl =>
        have hv := hr.2 0 _ v rfl rfl
        cases hv
        rw [List.foldlM_cons, Sem.run_bind]
        simp only [Builtin.min2, Sem.run_pure, Result.andThen_ok]
        exact evMM_min xs kd _ n vs h ⟨by simpa using hl, fun j y u hy hu => hr.2 (j + 1) y u (by simpa using hy) (by simpa using hu)⟩
    · cases h
theorem evMM_max {P : Program} {K : TypeId → List Kind} : ∀ (xs : List AV) (kd : IntKind) (a n : Int) (vs : List Value), evMM imax kd a xs = some n → RepL K ρ F w xs vs → (vs.foldlM Builtin.max2 (.int kd a)).run P w = .ok (.int kd n) w
  | [], kd, a, n, vs, h, hr => by
    simp only [evMM, Option.some.injEq] at h
    subst h
    match vs, hr.1 with
    | [], _ => rfl
  | x :: xs, kd, a, n, vs, h, hr => by
    cases x <;> simp only [evMM] at h <;> try cases h
    rename_i k' b
    split at h
    · match vs, hr.1 with
      | v :: vs, hl =>
        have hv := hr.2 0 _ v rfl rfl
        cases hv
        rw [List.foldlM_cons, Sem.run_bind]
        simp only [Builtin.max2, Sem.run_pure, Result.andThen_ok]
        exact evMM_max xs kd _ n vs h ⟨by simpa using hl, fun j y u hy hu => hr.2 (j + 1) y u (by simpa using hy) (by simpa using hu)⟩
    · cases h
theorem evMin_min {P : Program} {K : TypeId → List Kind} {xs : List AV} {k : AV → Option R} {r : R} (h : evMin imin xs k = some r) :
    ∃ y, k y = some r ∧ ∀ {ρ : List Hd} {F : Addr → Prop} {w : World} {vs : List Value} (ts : Array TypeId) (ty : TypeId), RepL K ρ F w xs vs → ∃ u, (Builtin.min_ ts ty vs.toArray).run P w = .ok u w ∧ Rep K ρ F w y u := by
  unfold evMin at h
  split at h
  · rename_i kd a rest
    split at h
    · rename_i n hn
      refine ⟨_, h, fun {ρ F w vs} ts ty hr => ?_⟩
      match vs, hr.1 with
      | v :: vs, hl =>
        have hv := hr.2 0 _ v rfl rfl
        cases hv
        exact ⟨_, by simpa [Builtin.min_] using evMM_min (P := P) rest kd a n vs hn ⟨by simpa using hl, fun j y u hy hu => hr.2 (j + 1) y u (by simpa using hy) (by simpa using hu)⟩, .int _ _⟩
    · cases h
  · cases h
theorem evMin_max {P : Program} {K : TypeId → List Kind} {xs : List AV} {k : AV → Option R} {r : R} (h : evMin imax xs k = some r) :
    ∃ y, k y = some r ∧ ∀ {ρ : List Hd} {F : Addr → Prop} {w : World} {vs : List Value} (ts : Array TypeId) (ty : TypeId), RepL K ρ F w xs vs → ∃ u, (Builtin.max_ ts ty vs.toArray).run P w = .ok u w ∧ Rep K ρ F w y u := by
  unfold evMin at h
  split at h
  · rename_i kd a rest
    split at h
    · rename_i n hn
      refine ⟨_, h, fun {ρ F w vs} ts ty hr => ?_⟩
      match vs, hr.1 with
      | v :: vs, hl =>
        have hv := hr.2 0 _ v rfl rfl
        cases hv
        exact ⟨_, by simpa [Builtin.max_] using evMM_max (P := P) rest kd a n vs hn ⟨by simpa using hl, fun j y u hy hu => hr.2 (j + 1) y u (by simpa using hy) (by simpa using hu)⟩, .int _ _⟩
    · cases h
  · cases h
def fillA (place : Nat → Option (Nat × Nat)) : List AV → List (Nat × AV) → Option (List AV)
  | cells, [] => some cells
  | cells, (i, x) :: rest =>
    match place i with
    | none => none
    | some (off, size) =>
      match x.plain && x.cells.length == size && decide (off + size ≤ cells.length) with
      | true => fillA place (setAt cells off x.cells) rest
      | false => none
theorem foldl_set_size (off : Nat) : ∀ (vs : List (Value × Nat)) (cs : Array Value), (vs.foldl (fun cs (x : Value × Nat) => cs.setIfInBounds (off + x.2) x.1) cs).size = cs.size
  | [], cs => rfl
  | x :: vs, cs => by simp [foldl_set_size off vs]
theorem foldl_set_get (off : Nat) : ∀ (vs : List Value) (n : Nat) (cs : Array Value), off + n + vs.length ≤ cs.size → ∀ j : Nat,
    ((vs.zipIdx n).foldl (fun cs (x : Value × Nat) => cs.setIfInBounds (off + x.2) x.1) cs)[j]? = if off + n ≤ j ∧ j < off + n + vs.length then vs[j - (off + n)]? else cs[j]?
  | [], n, cs, _, j => by simp; omega
  | v :: vs, n, cs, h, j => by
    simp only [List.length_cons] at h
    rw [List.zipIdx_cons, List.foldl_cons, foldl_set_get off vs (n + 1) _ (by simp; omega) j]
    by_cases h1 : j = off + n
    · subst h1
      rw [if_neg (by omega), if_pos (by simp)]
      have hlt : off + n < cs.size := by omega
      simp [hlt]
    · by_cases h2 : off + (n + 1) ≤ j ∧ j < off + (n + 1) + vs.length
      · rw [if_pos h2, if_pos (by simp; omega), show j - (off + n) = (j - (off + (n + 1))) + 1 by omega]
        simp
      · rw [if_neg h2, if_neg (by simp; omega), Array.getElem?_setIfInBounds_ne (by omega)]
theorem fillA_sound (hone : ∀ (id : Nat) hd, ρ[id]? = some hd → hd.v.oneCell' = true) {K : TypeId → List Kind} {place : Nat → Option (Nat × Nat)} : ∀ (ps : List (Nat × AV)) (cs out : List AV) (vs : Array Value) (pv : List (Nat × Value)), fillA place cs ps = some out → RepL K ρ F w cs vs.toList →
    pv.length = ps.length → (∀ (j : Nat) p q, ps[j]? = some p → pv[j]? = some q → p.1 = q.1 ∧ Rep K ρ F w p.2 q.2) → ∃ us, Instr.fill place vs pv = some us ∧ RepL K ρ F w out us.toList
  | [], cs, out, vs, pv, h, hr, hl, _ => by
    simp only [fillA, Option.some.injEq] at h
    subst h
    match pv, hl with
    | [], _ => exact ⟨vs, rfl, hr⟩
  | (i, x) :: ps, cs, out, vs, pv, h, hr, hl, hp => by
    match pv, hl with
    | (i', v) :: pv, hl =>
      obtain ⟨e, hx⟩ := hp 0 _ _ rfl rfl
      simp only at e hx
      subst e
      simp only [fillA] at h
      split at h
      · cases h
      · rename_i off size hpl
        split at h
        · rename_i hcond
          simp only [Bool.and_eq_true, beq_iff_eq, decide_eq_true_eq] at hcond
          obtain ⟨⟨hplain, hlen⟩, hb⟩ := hcond
          have hxc := hx.cells (leaf_or_agg hplain) hone
          have hvl := hxc.1
          have hcl := hr.1
          simp only [Array.length_toList] at hvl hcl
          have hsz : v.cells.size = size := by omega
          have hr2 : RepL K ρ F w (setAt cs off x.cells) (v.cells.zipIdx.foldl (fun cs (x : Value × Nat) => cs.setIfInBounds (off + x.2) x.1) vs).toList := by
            rw [← Array.foldl_toList, Array.toList_zipIdx]
            refine ⟨by rw [Array.length_toList, foldl_set_size, setAt_length]; exact hcl, fun j y u hy hu => ?_⟩
            rw [Array.getElem?_toList, foldl_set_get off v.cells.toList 0 vs (by simp; omega) j] at hu
            rw [setAt_get x.cells cs off (by omega) j] at hy
            simp only [Nat.add_zero, Array.length_toList] at hu
            rw [hsz] at hu
            rw [hlen] at hy
            by_cases hj : off ≤ j ∧ j < off + size
            · rw [if_pos hj] at hy hu
              exact hxc.2 _ y u hy hu
            · rw [if_neg hj] at hy hu
              exact hr.2 j y u hy (by rw [Array.getElem?_toList]; exact hu)
          obtain ⟨us, h1, h2⟩ := fillA_sound hone ps _ out _ pv h hr2 (by simpa using hl) (fun j p q hp' hq => hp (j + 1) p q (by simpa using hp') (by simpa using hq))
          refine ⟨us, ?_, h2⟩
          have hvs : vs.size = cs.length := hcl
          have hnot : ¬ (v.cells.size ≠ size ∨ off + v.cells.size > vs.size) := by omega
          simp only [Instr.fill, hpl]
          rw [if_neg (by simpa using hnot)]
          exact h1
        · cases h
end
end Go.Eng

namespace Go.Eng
open Go
noncomputable section
variable {X : Cx} {R : Type}
variable {w0 w w' : World} {S : Sc} {F : Addr → Prop} {ρ : List Hd} {M : List Blk}
def structPlace (X : Cx) (fs : List (Nat × TypeId)) (i : Nat) : Option (Nat × Nat) := (fs[i]?).map fun p => (p.1, (X.ti p.2).size)
def evBuild (X : Cx) (t : TypeId) (ps : List (Nat × AV)) (k : AV → Option R) : Option R :=
  match (X.ti t).ok, (X.ti t).u with
  | true, .struct fs => tst (fs.all fun p => (X.ti p.2).ok) (match fillA (structPlace X fs) (X.ti t).zero ps with | some cs => k (.agg cs) | none => none)
  | true, .array _ e => tst ((X.ti e).ok) (match fillA (fun i => some (i * (X.ti e).size, (X.ti e).size)) (X.ti t).zero ps with | some cs => k (.agg cs) | none => none)
  | _, _ => none
theorem run_mapM_places (hX : X.Okb) : ∀ (fs : List Field), (∀ f ∈ fs, (X.ti f.type).ok = true) → ∀ w, (fs.mapM fun f => do pure (f.offset, ← sizeOf f.type) : Sem (List (Nat × Nat))).run X.P w = .ok (fs.map fun f => (f.offset, (X.ti f.type).size)) w
  | [], _, w => rfl
  | f :: fs, h, w => by
    obtain ⟨i, d, z, ff⟩ := hX.facts (h f (by simp))
    rw [List.mapM_cons]
    simp only [Sem.run_bind, ff.sizeOf, Result.andThen_ok, Sem.run_pure, run_mapM_places hX fs (fun g hg => h g (by simp [hg])) w, List.map_cons]
theorem evBuild_sound (hX : X.Okb) {t : TypeId} {ps : List (Nat × AV)} {k : AV → Option R} {r : R} (h : evBuild X t ps k = some r) :
    ∃ y, k y = some r ∧ ∀ {w0 : World} {S : Sc} {F : Addr → Prop} {ρ : List Hd} {w : World} (pv : List (Nat × Value)), Inv X w0 S F ρ M w → pv.length = ps.length →
      (∀ (j : Nat) p q, ps[j]? = some p → pv[j]? = some q → p.1 = q.1 ∧ Rep X.K ρ F w p.2 q.2) → ∃ u, (Instr.build t pv.toArray).run X.P w = .ok u w ∧ Rep X.K ρ F w y u := by
  unfold evBuild at h
  split at h
  · rename_i fs hok hu
    replace h := tst_some h
    obtain ⟨h1, h⟩ := h
    obtain ⟨i, d, z, f⟩ := hX.facts hok
    obtain ⟨gs, hund, hfs⟩ := f.struct hu
    split at h
    · rename_i cs hfill
      refine ⟨_, h, fun {w0 S F ρ w} pv hI hl hp => ?_⟩
      have hz : RepL X.K ρ F w (X.ti t).zero z.cells.toList := by rw [f.zc]; exact repL_zero _ _ _ _ _
      obtain ⟨us, hf, hr⟩ := fillA_sound hI.one ps _ cs z.cells pv hfill hz hl hp
      refine ⟨.agg us, ?_, by have := Rep.agg (K := X.K) (ρ := ρ) (F := F) (w := w) cs us.toList hr.1 hr.2; simpa using this⟩
      have hall : ∀ g ∈ gs.toList, (X.ti g.type).ok = true := by
        intro g hg
        rw [List.all_eq_true] at h1
        exact h1 (g.offset, g.type) (by rw [hfs]; exact List.mem_map.2 ⟨g, hg, rfl⟩)
      have hpl : (gs.mapM fun f => do pure (f.offset, ← sizeOf f.type) : Sem (Array (Nat × Nat))).run X.P w = .ok (gs.toList.map fun f => (f.offset, (X.ti f.type).size)).toArray w := by
        rw [Array.mapM_eq_mapM_toList, Sem.run_map, run_mapM_places hX gs.toList hall w]
        rfl
      have hplace : (fun i => (gs.toList.map fun f => (f.offset, (X.ti f.type).size)).toArray[i]?) = structPlace X fs := by
        funext i
        rw [hfs]
        simp [structPlace]
        cases gs[i]? <;> rfl
      unfold Instr.build
      simp only [Sem.run_bind, f.zeroValue, Result.andThen_ok, run_underlying hund, hpl]
      rw [show (fun x => (gs.toList.map fun f => (f.offset, (X.ti f.type).size)).toArray[x]?) = structPlace X fs from hplace, hf]
      rfl
    · cases h
  · rename_i n e hok hu
    replace h := tst_some h
    obtain ⟨h1, h⟩ := h
    obtain ⟨i, d, z, f⟩ := hX.facts hok
    obtain ⟨i2, d2, z2, f2⟩ := hX.facts h1
    have hund := f.array hu
    split at h
    · rename_i cs hfill
      refine ⟨_, h, fun {w0 S F ρ w} pv hI hl hp => ?_⟩
      have hz : RepL X.K ρ F w (X.ti t).zero z.cells.toList := by rw [f.zc]; exact repL_zero _ _ _ _ _
      obtain ⟨us, hf, hr⟩ := fillA_sound hI.one ps _ cs z.cells pv hfill hz hl hp
      refine ⟨.agg us, ?_, by have := Rep.agg (K := X.K) (ρ := ρ) (F := F) (w := w) cs us.toList hr.1 hr.2; simpa using this⟩
      unfold Instr.build
      simp only [Sem.run_bind, f.zeroValue, Result.andThen_ok, run_underlying hund, f2.sizeOf]
      rw [hf]
      rfl
    · cases h
  · cases h
def chunk (sz : Nat) : Nat → List AV → List Row
  | 0, _ => []
  | n + 1, l => l.take sz :: chunk sz n (l.drop sz)
theorem chunk_length (sz : Nat) : ∀ (n : Nat) (l : List AV), (chunk sz n l).length = n
  | 0, _ => rfl
  | n + 1, l => by simp [chunk, chunk_length sz n]
theorem chunk_get (sz : Nat) : ∀ (n : Nat) (l : List AV) (i : Nat), i < n → (chunk sz n l)[i]? = some ((l.drop (i * sz)).take sz)
  | 0, _, _, h => by omega
  | n + 1, l, 0, _ => by simp [chunk]
  | n + 1, l, i + 1, h => by
    simp only [chunk, List.getElem?_cons_succ]
    rw [chunk_get sz n _ i (by omega), List.drop_drop]
    congr 3
    rw [Nat.add_mul]; omega
def zc : Kind → AV → AV | .slice t, .nilsl => .list t [] | _, x => x
def zrow (X : Cx) (t : TypeId) : Row := List.zipWith zc (X.ti t).ks (X.ti t).zero
theorem rep_zc {k : Kind} {K : TypeId → List Kind} {x : AV} {v : Value} (h : Rep K ρ F w x v) : Rep K ρ F w (zc k x) v := by
  unfold zc
  split
  · cases h; exact .list0 _
  · exact h
theorem repL_zrow {t : TypeId} {i : TypeInfo} {d : TypeDesc} {z : Value} (f : TFacts X t i d z) : RepL X.K ρ F w (zrow X t) z.cells.toList := by
  have hz : RepL X.K ρ F w (X.ti t).zero z.cells.toList := by rw [f.zc]; exact repL_zero _ _ _ _ _
  have hl : (X.ti t).zero.length = (X.ti t).ks.length := by rw [f.ks, f.zc, List.length_map, Array.length_toList, f.zs]
  refine ⟨by rw [hz.1]; simp [zrow, hl], fun j x v hx hv => ?_⟩
  unfold zrow at hx
  rw [List.getElem?_zipWith] at hx
  cases hk : (X.ti t).ks[j]? with
  | none => simp [hk] at hx
  | some k =>
    cases hzz : (X.ti t).zero[j]? with
    | none => simp [hk, hzz] at hx
    | some y =>
      simp only [hk, hzz, Option.some.injEq] at hx
      subst hx
      exact rep_zc (hz.2 j y v hzz hv)
theorem Inv.newRow (hI : Inv X w0 S F ρ M w) {t : TypeId} {xs : List Row} {cur : Array Value} {c : Nat} (hk : ∀ (i : Nat) row, xs[i]? = some row → koks (X.K t) row = true) (hc1 : xs.length ≤ c) (hc2 : c ≤ maxLen)
    (hcur : c * (X.K t).length ≤ cur.size) (hr : ∀ (i : Nat) row, xs[i]? = some row → ∀ (j : Nat) x, row[j]? = some x → ∃ v, cur[i * (X.K t).length + j]? = some v ∧ Rep X.K ρ F w x v) (hg : w.grownBy w' none) (hsz : w'.heap.size = w.heap.size) :
    Inv X w0 S F (ρ ++ [⟨.slice (some ⟨w.heap.size, 0, none⟩) xs.length c, (X.K t).length⟩]) (M ++ [.row t xs]) (w'.alloc (.cells cur t)) ∧
    Grow F F ρ (ρ ++ [⟨.slice (some ⟨w.heap.size, 0, none⟩) xs.length c, (X.K t).length⟩]) w (w'.alloc (.cells cur t)) := by
  have hgr : w.grownBy (w'.alloc (.cells cur t)) none := ⟨hg.os, hg.tape, hg.output, by simp; omega, fun k hk _ => (Go.RowKit.Below.heap_alloc w' _ k (by omega)).trans (hg.block k hk (by simp))⟩
  have hgrow : Grow F F ρ (ρ ++ [⟨.slice (some ⟨w.heap.size, 0, none⟩) xs.length c, (X.K t).length⟩]) w (w'.alloc (.cells cur t)) :=
    ⟨fun _ h => h, fun _ _ h => getElem?_append_old h, hI.blks hgr (by simp)⟩
  refine ⟨hI.push hgr (hd := ⟨.slice (some ⟨w.heap.size, 0, none⟩) xs.length c, (X.K t).length⟩) ?_ rfl ?_, hgrow⟩
  · intro g hg'
    simp [Hd.blk?, Value.blk?] at hg'
    subst hg'
    simp; omega
  · refine ⟨rfl, hk, .inr ⟨w.heap.size, 0, c, cur, rfl, by rw [← hsz]; exact heap_alloc_new w' _, hc1, hc2, by simpa using hcur, fun i row hi j x hx => ?_⟩⟩
    obtain ⟨v, h1, h2⟩ := hr i row hi j x hx
    exact ⟨v, by simpa using h1, h2.grow hgrow⟩
theorem own_last {hd : Hd} (hl : ρ.length = M.length) : Rep X.K (ρ ++ [hd]) F w (.own M.length) hd.v := .own _ _ (by rw [← hl]; simp)
def frzP (X : Cx) (e : TypeId) : List (Nat × AV) → List Blk → (List (Nat × AV) → List Blk → Option R) → Option R
  | [], M, c => c [] M
  | (i, x) :: ps, M, c =>
    match (X.ti e).u.agg, x with
    | true, .agg cs => frzL (X.ti e).ks cs M fun cs' M' => frzP X e ps M' fun ps' M'' => c ((i, .agg cs') :: ps') M''
    | false, x => frz ((X.ti e).ks.headD .raw) x M fun x' M' => frzP X e ps M' fun ps' M'' => c ((i, x') :: ps') M''
    | _, _ => none
theorem ownIds_cells (y : AV) (j : Nat) (hj : j ∈ ownIds y) : j ∈ y.cells.flatMap ownIds := by
  cases y with
  | own id => simpa [AV.cells] using hj
  | _ => exact absurd hj (by simp [ownIds])
theorem frzP_sound {e : TypeId} : ∀ (ps : List (Nat × AV)) (M : List Blk) {c : List (Nat × AV) → List Blk → Option R} {r : R}, frzP X e ps M c = some r →
    ∃ ps' M', c ps' M' = some r ∧ M'.length = M.length ∧ ps'.length = ps.length ∧ Agree (ps.flatMap fun p => p.2.cells.flatMap ownIds) M M' ∧ ∀ {w0 : World} {S : Sc} {F : Addr → Prop} {ρ : List Hd} {w : World}, Inv X w0 S F ρ M w → ∃ F', Inv X w0 S F' ρ M' w ∧ Grow F F' ρ ρ w w ∧
      ∀ pv : List (Nat × Value), pv.length = ps.length → (∀ (j : Nat) p q, ps[j]? = some p → pv[j]? = some q → p.1 = q.1 ∧ Rep X.K ρ F w p.2 q.2) → (∀ (j : Nat) p q, ps'[j]? = some p → pv[j]? = some q → p.1 = q.1 ∧ Rep X.K ρ F' w p.2 q.2)
  | [], M, c, r, h => ⟨[], M, h, rfl, rfl, Agree.refl _ _, fun {w0 S F ρ w} hI => ⟨F, hI, Grow.refl _ _ _, fun _ _ h => h⟩⟩
  | (i, x) :: ps, M, c, r, h => by
    simp only [frzP] at h
    have fin : ∀ (x' : AV) (M1 : List Blk), M1.length = M.length → Agree (x.cells.flatMap ownIds) M M1 → (∀ {w0 : World} {S : Sc} {F : Addr → Prop} {ρ : List Hd} {w : World}, Inv X w0 S F ρ M w → ∃ F', Inv X w0 S F' ρ M1 w ∧ Grow F F' ρ ρ w w ∧ ∀ v, Rep X.K ρ F w x v → Rep X.K ρ F' w x' v) →
        frzP X e ps M1 (fun ps' M'' => c ((i, x') :: ps') M'') = some r → ∃ ps' M', c ps' M' = some r ∧ M'.length = M.length ∧ ps'.length = ((i, x) :: ps).length ∧ Agree (((i, x) :: ps).flatMap fun p => p.2.cells.flatMap ownIds) M M' ∧ ∀ {w0 : World} {S : Sc} {F : Addr → Prop} {ρ : List Hd} {w : World}, Inv X w0 S F ρ M w → ∃ F', Inv X w0 S F' ρ M' w ∧ Grow F F' ρ ρ w w ∧
      ∀ pv : List (Nat × Value), pv.length = ((i, x) :: ps).length → (∀ (j : Nat) p q, ((i, x) :: ps)[j]? = some p → pv[j]? = some q → p.1 = q.1 ∧ Rep X.K ρ F w p.2 q.2) → (∀ (j : Nat) p q, ps'[j]? = some p → pv[j]? = some q → p.1 = q.1 ∧ Rep X.K ρ F' w p.2 q.2) := by
      intro x' M1 hl1 ha1 h1 h
      obtain ⟨ps', M2, h, hl2, hl3, ha2, h2⟩ := frzP_sound ps M1 h
      refine ⟨_, _, h, by omega, by simp [hl3], by rw [List.flatMap_cons]; exact ha1.trans ha2, fun {w0 S F ρ w} hI => ?_⟩
      obtain ⟨F1, i1, g1, r1⟩ := h1 hI
      obtain ⟨F2, i2, g2, r2⟩ := h2 i1
      refine ⟨F2, i2, g1.trans g2, fun pv hl hp => ?_⟩
      match pv, hl with
      | q0 :: pv, hl =>
        obtain ⟨e0, hx0⟩ := hp 0 _ _ rfl rfl
        have hrest := r2 pv (by simpa using hl) (fun j p q hpj hqj => by
          obtain ⟨a, b⟩ := hp (j + 1) p q (by simpa using hpj) (by simpa using hqj)
          exact ⟨a, b.grow g1⟩)
        intro j p q hpj hqj
        cases j with
        | zero => simp at hpj hqj; subst hpj; subst hqj; exact ⟨e0, (r1 _ hx0).grow g2⟩
        | succ j => exact hrest j p q (by simpa using hpj) (by simpa using hqj)
    split at h
    · rename_i cs ha
      obtain ⟨cs', M1, h, hl1, ha1, h1⟩ := frzL_sound (X := X) _ _ _ h
      refine fin (.agg cs') M1 hl1 ha1 (fun {w0 S F ρ w} hI => ?_) h
      obtain ⟨F1, i1, g1, r1⟩ := h1 hI
      refine ⟨F1, i1, g1, fun v hv => ?_⟩
      cases hv with
      | agg _ vs hl hr =>
        have := r1 vs ⟨hl, hr⟩
        exact .agg _ _ this.1 this.2
    · obtain ⟨x', M1, h, hl1, ha1, h1⟩ := frz_sound (X := X) h
      refine fin x' M1 hl1 (ha1.mono fun i hi => ?_) h1 h
      exact ownIds_cells _ _ hi
    · cases h
def evBuildSlice (X : Cx) (t : TypeId) (len : Nat) (ps : List (Nat × AV)) (M : List Blk) (k : AV → List Blk → Option R) : Option R :=
  match (X.ti t).ok, (X.ti t).u with
  | true, .slice e =>
    tst ((X.ti e).ok && decide (0 < (X.ti e).size) && decide (len * (X.ti e).size ≤ 16777216))
      (frzP X e ps M fun ps' M1 =>
        match fillA (fun i => some (i * (X.ti e).size, (X.ti e).size)) ((List.replicate len (zrow X e)).flatten) ps' with
        | some cs =>
          tst ((chunk (X.ti e).size len cs).all fun row => koks (X.K e) row) (k (.own M1.length) (M1 ++ [.row e (chunk (X.ti e).size len cs)]))
        | none => none)
  | _, _ => none
end
end Go.Eng

namespace Go.Eng
open Go
noncomputable section
variable {X : Cx} {R : Type}
variable {w0 w w' : World} {S : Sc} {F : Addr → Prop} {ρ : List Hd} {M : List Blk}
theorem le_maxLen {n : Nat} (h : n ≤ 140737488355328) : n ≤ maxLen := Nat.le_trans h (by decide)
theorem repL_replicate {K : TypeId → List Kind} {row : Row} {vs : List Value} (h : RepL K ρ F w row vs) : ∀ n, RepL K ρ F w (List.replicate n row).flatten (List.replicate n vs).flatten
  | 0 => ⟨rfl, fun j x v hx _ => by simp at hx⟩
  | n + 1 => by
    have ih := repL_replicate h n
    rw [List.replicate_succ, List.replicate_succ, List.flatten_cons, List.flatten_cons]
    refine ⟨by rw [List.length_append, List.length_append, h.1, ih.1], fun j x v hx hv => ?_⟩
    by_cases hj : j < row.length
    · rw [List.getElem?_append_left hj] at hx
      rw [List.getElem?_append_left (by rw [h.1]; exact hj)] at hv
      exact h.2 j x v hx hv
    · rw [List.getElem?_append_right (by omega)] at hx
      rw [List.getElem?_append_right (by rw [h.1]; omega), h.1] at hv
      exact ih.2 _ x v hx hv
theorem zeros_eq (vs : Array Value) (hs : 0 < vs.size) : ∀ n, ((Array.range (n * vs.size)).map (vs[· % vs.size]!)).toList = (List.replicate n vs.toList).flatten := by
  intro n
  induction n with
  | zero => simp
  | succ n ih =>
    rw [List.replicate_succ', List.flatten_append, ← ih]
    apply List.ext_getElem?
    intro j
    simp only [Array.toList_map, Array.toList_range, List.getElem?_map, List.flatten_cons, List.flatten_nil, List.append_nil]
    have e : (n + 1) * vs.size = n * vs.size + vs.size := by rw [Nat.add_mul, Nat.one_mul]
    by_cases h1 : j < n * vs.size
    · rw [List.getElem?_append_left (by simpa using h1), List.getElem?_range (by omega), List.getElem?_map, List.getElem?_range h1]
    · by_cases h2 : j < (n + 1) * vs.size
      · rw [List.getElem?_append_right (by simp; omega), List.getElem?_range h2]
        simp only [List.length_map, List.length_range, Option.map_some]
        have h3 : j % vs.size = j - n * vs.size := by
          rw [show j = (j - n * vs.size) + n * vs.size by omega, Nat.add_mul_mod_self_right, Nat.mod_eq_of_lt (by omega)]
          omega
        have h4 : j - n * vs.size < vs.size := by omega
        rw [h3, Array.getElem?_toList, Array.getElem?_eq_getElem h4, getElem!_pos vs _ h4]
      · rw [List.getElem?_append_right (by simp; omega), List.getElem?_eq_none (by simp; omega), List.getElem?_eq_none (by simp; omega)]
        rfl
theorem chunk_rep {K : TypeId → List Kind} {cs : List AV} {us : List Value} (h : RepL K ρ F w cs us) {sz n : Nat} {i : Nat} {row : Row} (hi : (chunk sz n cs)[i]? = some row) {j : Nat} {x : AV} (hx : row[j]? = some x) :
    ∃ v, us[i * sz + j]? = some v ∧ Rep K ρ F w x v := by
  have hil : i < n := by have := (List.getElem?_eq_some_iff.1 hi).1; rwa [chunk_length] at this
  rw [chunk_get sz n cs i hil] at hi
  injection hi with hi
  subst hi
  rw [List.getElem?_take] at hx
  split at hx
  · rw [List.getElem?_drop] at hx
    have hlt := (List.getElem?_eq_some_iff.1 hx).1
    have hl := h.1
    have hu : us[i * sz + j]? = some (us[i * sz + j]'(by omega)) := List.getElem?_eq_getElem (by omega)
    exact ⟨_, hu, h.2 _ x _ hx hu⟩
  · cases hx
theorem evBuildSlice_sound (hX : X.Okb) {t : TypeId} {len : Nat} {ps : List (Nat × AV)} {k : AV → List Blk → Option R} {r : R} (h : evBuildSlice X t len ps M k = some r) :
    ∃ y M', k y M' = some r ∧ Agree (ps.flatMap fun p => p.2.cells.flatMap ownIds) M M' ∧ ∀ {w0 : World} {S : Sc} {F : Addr → Prop} {ρ : List Hd} {w : World} (pv : List (Nat × Value)), Inv X w0 S F ρ M w → pv.length = ps.length →
      (∀ (j : Nat) p q, ps[j]? = some p → pv[j]? = some q → p.1 = q.1 ∧ Rep X.K ρ F w p.2 q.2) →
      ∃ v w' ρ' F', (Instr.buildSlice t len pv.toArray).run X.P w = .ok v w' ∧ Inv X w0 S F' ρ' M' w' ∧ Grow F F' ρ ρ' w w' ∧ Rep X.K ρ' F' w' y v ∧ ∀ g, g < w.heap.size → w'.heap[g]? = w.heap[g]? := by
  unfold evBuildSlice at h
  split at h
  · rename_i e hok hu
    replace h := tst_some h
    obtain ⟨h1, h⟩ := h
    simp only [Bool.and_eq_true, decide_eq_true_eq] at h1
    obtain ⟨⟨he, hpos⟩, hmax⟩ := h1
    obtain ⟨i, d, z, f⟩ := hX.facts hok
    obtain ⟨i2, d2, z2, f2⟩ := hX.facts he
    have hund := f.slice hu
    obtain ⟨ps', M1, h, hl1, hl2, hag, hfz⟩ := frzP_sound _ _ h
    split at h
    · rename_i cs hfill
      replace h := tst_some h
      obtain ⟨hks, h⟩ := h
      refine ⟨_, _, h, (hag.trans (Agree.push [] _ _)).mono (by simp), fun {w0 S F0 ρ w} pv hI0 hl hp => ?_⟩
      obtain ⟨F, hI, hg0, hp2⟩ := hfz hI0
      have hp' := hp2 pv hl hp
      have hzs : z2.cells.size = (X.ti e).size := by rw [f2.size]; exact f2.zs
      have hksz : (X.K e).length = (X.ti e).size := by rw [f2.size]; exact f2.ks
      have hz : RepL X.K ρ F w (List.replicate len (zrow X e)).flatten ((Array.range (len * z2.cells.size)).map (z2.cells[· % z2.cells.size]!)).toList := by
        rw [zeros_eq z2.cells (by omega)]
        exact repL_replicate (repL_zrow f2) len
      obtain ⟨us, hf, hr⟩ := fillA_sound hI.one ps' _ cs _ pv hfill hz (by omega) hp'
      have hcsl : cs.length = len * (X.ti e).size := by
        have h1 : us.size = len * z2.cells.size := by
          have aux : ∀ (pv : List (Nat × Value)) (place : Nat → Option (Nat × Nat)) (a b : Array Value), Instr.fill place a pv = some b → b.size = a.size := by
            intro pv
            induction pv with
            | nil => intro place a b h; simp only [Instr.fill, Option.some.injEq] at h; rw [h]
            | cons p pv ih =>
              obtain ⟨ix, v⟩ := p
              intro place a b h
              simp only [Instr.fill] at h
              split at h
              · cases h
              · split at h
                · cases h
                · have := ih place _ b h
                  rw [this, ← Array.foldl_toList]
                  exact foldl_set_size _ _ _
          have := aux pv _ _ us hf
          simpa using this
        have := hr.1
        simp only [Array.length_toList] at this
        rw [← this, h1, hzs]
      have hInew := hI.newRow (t := e) (xs := chunk (X.ti e).size len cs) (cur := us) (c := len) (fun i row hi => by
          rw [List.all_eq_true] at hks
          exact hks row (List.mem_of_getElem? hi)) (by rw [chunk_length]; exact Nat.le_refl _)
          (by
            have : len ≤ len * (X.ti e).size := Nat.le_mul_of_pos_right _ hpos
            exact le_maxLen (by omega))
          (by have := hr.1; simp only [Array.length_toList] at this; rw [hksz]; omega)
          (fun i row hi j x hx => by
            obtain ⟨v, h1, h2⟩ := chunk_rep hr hi hx
            rw [hksz]
            exact ⟨v, by rw [Array.getElem?_toList] at h1; exact h1, h2⟩)
          (w' := w) ⟨rfl, rfl, rfl, Nat.le_refl _, fun _ _ _ => rfl⟩ rfl
      refine ⟨.slice (some ⟨w.heap.size, 0, none⟩) len len, _, _, F, ?_, hInew.1, hg0.trans hInew.2, ?_, fun g hg => Go.RowKit.Below.heap_alloc w _ g hg⟩
      · unfold Instr.buildSlice
        simp only [Sem.run_bind, run_underlying hund, Result.andThen_ok, f2.sizeOf]
        rw [if_neg (by omega)]
        by_cases h0 : len * (X.ti e).size = 0
        · have e0 : (Array.range (len * z2.cells.size)).map (z2.cells[· % z2.cells.size]!) = #[] := by rw [hzs, h0]; simp
          rw [e0] at hf
          rw [if_pos h0]
          simp only [Sem.run_bind, Sem.run_pure, Result.andThen_ok]
          have e1 : (Array.range (len * (X.ti e).size)).map (fun x => (#[] : Array Value)[x % (#[] : Array Value).size]!) = #[] := by rw [h0]; simp
          rw [e1, hf]
          simp only [newRow, Sem.run_bind, run_newObj, Result.andThen_ok, Sem.run_pure, World.alloc_eq]
        · rw [if_neg h0]
          simp only [Sem.run_bind, Sem.run_pure, Result.andThen_ok, f2.zeroValue]
          rw [hzs] at hf
          rw [hzs, hf]
          simp only [newRow, Sem.run_bind, run_newObj, Result.andThen_ok, Sem.run_pure, World.alloc_eq]
      · have := own_last (X := X) (F := F) (w := w.alloc (.cells us e)) (hd := ⟨.slice (some ⟨w.heap.size, 0, none⟩) (chunk (X.ti e).size len cs).length len, (X.K e).length⟩) hI.len
        simpa [chunk_length] using this
    · cases h
  · cases h
def evMakeSlice (X : Cx) (t : TypeId) (l c : AV) (M : List Blk) (k : AV → List Blk → Option R) : Option R :=
  match (X.ti t).ok, (X.ti t).u, l, c with
  | true, .slice e, .int _ l, .int _ c =>
    tst ((X.ti e).ok && decide (0 < (X.ti e).size) && decide (0 < (X.ti e).bytes) && koks (X.K e) (zrow X e) && (decide (0 ≤ l) && decide (l ≤ c) && decide (c * (X.ti e).bytes ≤ 140737488355328)))
      (k (.own M.length) (M ++ [.row e (List.replicate l.toNat (zrow X e))]))
  | _, _, _, _ => none
theorem evMakeSlice_sound (hX : X.Okb) {t : TypeId} {l c : AV} {k : AV → List Blk → Option R} {r : R} (h : evMakeSlice X t l c M k = some r) :
    ∃ y M', k y M' = some r ∧ Agree [] M M' ∧ ∀ {vl vc : Value}, Does X M y M' (fun ρ F w => Rep X.K ρ F w l vl ∧ Rep X.K ρ F w c vc) (Instr.makeSlice t vl vc) := by
  unfold evMakeSlice at h
  split at h
  · rename_i e k1 l k2 c hok hu
    replace h := tst_some h
    obtain ⟨h1, h⟩ := h
    simp only [Bool.and_eq_true, decide_eq_true_eq] at h1
    obtain ⟨⟨⟨⟨he, hpos⟩, hby⟩, hkz⟩, ⟨hl0, hlc⟩, hcb⟩ := h1
    obtain ⟨i, d, z, f⟩ := hX.facts hok
    obtain ⟨i2, d2, z2, f2⟩ := hX.facts he
    have hund := f.slice hu
    have hzs : z2.cells.size = (X.ti e).size := by rw [f2.size]; exact f2.zs
    have hksz : (X.K e).length = (X.ti e).size := by rw [f2.size]; exact f2.ks
    obtain ⟨cn, rfl⟩ := Int.eq_ofNat_of_zero_le (show 0 ≤ c by omega)
    obtain ⟨ln, rfl⟩ := Int.eq_ofNat_of_zero_le hl0
    have hcn : cn ≤ 140737488355328 := by
      have h2 : cn ≤ cn * (X.ti e).bytes := Nat.le_mul_of_pos_right _ hby
      have h3 : ((cn * (X.ti e).bytes : Nat) : Int) ≤ 140737488355328 := by rw [Int.natCast_mul]; exact hcb
      generalize cn * (X.ti e).bytes = m at *
      omega
    have hln : ln ≤ cn := by omega
    refine ⟨_, _, h, Agree.push _ _ _, fun {vl vc w0 S F ρ w} hI hv => ?_⟩
    obtain ⟨h1, h2⟩ := hv
    cases h1; cases h2
    have hInew := hI.newRow (t := e) (xs := List.replicate ln (zrow X e)) (cur := (Array.range (cn * (X.ti e).size)).map (z2.cells[· % z2.cells.size]!)) (c := cn) (fun i row hi => by
        have := List.mem_of_getElem? hi
        rw [List.mem_replicate] at this
        rw [this.2]
        exact hkz) (by simpa using hln) (le_maxLen hcn) (by simp [hksz])
        (fun i row hi j x hx => by
          have hil : i < ln := by have := (List.getElem?_eq_some_iff.1 hi).1; simpa using this
          rw [List.getElem?_replicate, if_pos hil] at hi
          injection hi with hi
          subst hi
          have hrz := repL_zrow (X := X) (ρ := ρ) (F := F) (w := w) f2
          have hj := (List.getElem?_eq_some_iff.1 hx).1
          have hl2 := hrz.1
          simp only [Array.length_toList] at hl2
          have hj2 : j < z2.cells.size := by omega
          have hidx : i * (X.K e).length + j < cn * (X.ti e).size := by
            rw [hksz]
            have : (i + 1) * (X.ti e).size ≤ cn * (X.ti e).size := Nat.mul_le_mul_right _ (by omega)
            rw [Nat.add_mul, Nat.one_mul] at this
            omega
          have hm : (i * (X.K e).length + j) % z2.cells.size = j := by
            rw [hksz, hzs, Nat.add_comm, Nat.add_mul_mod_self_right, Nat.mod_eq_of_lt (by omega)]
          refine ⟨z2.cells[j], ?_, hrz.2 j x _ hx (by simp [hj2])⟩
          rw [Array.getElem?_map, Array.getElem?_range, if_pos hidx]
          simp only [Option.map_some, hm]
          rw [getElem!_pos z2.cells j hj2])
        (w' := w) ⟨rfl, rfl, rfl, Nat.le_refl _, fun _ _ _ => rfl⟩ rfl
    refine ⟨.slice (some ⟨w.heap.size, 0, none⟩) ln cn, _, _, F, ?_, hInew.1, hInew.2, ?_⟩
    · have hwl : IntKind.i64.wrap (ln : Int) = ln := by simp [IntKind.wrap, IntKind.bits, IntKind.signed]; omega
      have hwc : IntKind.i64.wrap (cn : Int) = cn := by simp [IntKind.wrap, IntKind.bits, IntKind.signed]; omega
      have hb2 : (i2.bytes : Int) * (cn : Int) ≤ 140737488355328 := by rw [← f2.bytes, Int.mul_comm]; exact hcb
      have hbl : (i2.bytes : Int) * (ln : Int) ≤ 140737488355328 := by
        have : (i2.bytes : Int) * (ln : Int) ≤ (i2.bytes : Int) * (cn : Int) := Int.mul_le_mul_of_nonneg_left (by omega) (by omega)
        omega
      have hnot : ¬ ((((cn : Int) < 0 ∨ (281474976710656 : Int) < (i2.bytes : Int) * (cn : Int)) ∨ (ln : Int) < 0) ∨ (cn : Int) < (ln : Int)) := by omega
      unfold Instr.makeSlice
      simp only [Sem.run_bind, run_underlying hund, Result.andThen_ok, asInt, asIntOf, Sem.run_pure, f2.typeInfo, hwl, hwc]
      rw [if_neg (by simpa using hnot)]
      by_cases h0 : cn * (X.ti e).size = 0
      · have : cn = 0 := by rcases Nat.mul_eq_zero.1 h0 with h | h; exact h; omega
        subst this
        have e9 : ∀ g : Nat → Value, (Array.range 0).map g = #[] := by intro g; simp
        simp [f2.sizeOf, newRow, e9]
      · simp [f2.sizeOf, newRow, f2.zeroValue, h0]
    · have := own_last (X := X) (F := F) (w := w.alloc (.cells ((Array.range (cn * (X.ti e).size)).map (z2.cells[· % z2.cells.size]!)) e)) (hd := ⟨.slice (some ⟨w.heap.size, 0, none⟩) (List.replicate ln (zrow X e)).length cn, (X.K e).length⟩) hI.len
      simpa using this
  · cases h
def zcN : Kind → AV → AV | .slice t, .nilsl => .sub t [] | _, x => x
def zrowN (X : Cx) (t : TypeId) : Row := List.zipWith zcN (X.ti t).ks (X.ti t).zero
def evMakeN (X : Cx) (t : TypeId) (l c : AV) (M : List Blk) (k : AV → List Blk → Option R) : Option R :=
  match (X.ti t).ok, (X.ti t).u, l, c with
  | true, .slice e, .int _ l, .int _ c =>
    tst (X.pk && (X.ti e).ok && decide (0 < (X.ti e).size) && decide (0 < (X.ti e).bytes) && koksN (X.K e) (zrowN X e) && (decide (0 ≤ l) && decide (l ≤ c) && decide (c * (X.ti e).bytes ≤ 140737488355328)))
      (k (.own M.length) (M ++ [.nst e (List.replicate l.toNat (zrowN X e)) none]))
  | _, _, _, _ => none
theorem evMakeN_sound (hX : X.Okb) {t : TypeId} {l c : AV} {k : AV → List Blk → Option R} {r : R} (h : evMakeN X t l c M k = some r) :
    ∃ y M', k y M' = some r ∧ Agree [] M M' ∧ ∀ {vl vc : Value}, Does X M y M' (fun ρ F w => Rep X.K ρ F w l vl ∧ Rep X.K ρ F w c vc) (Instr.makeSlice t vl vc) := by
  unfold evMakeN at h
  split at h
  · rename_i e k1 l k2 c hok hu
    replace h := tst_some h
    obtain ⟨h1, h⟩ := h
    simp only [Bool.and_eq_true, decide_eq_true_eq] at h1
    obtain ⟨⟨⟨⟨⟨hpk, he⟩, hpos⟩, hby⟩, hkz⟩, ⟨hl0, hlc⟩, hcb⟩ := h1
    obtain ⟨i, d, z, f⟩ := hX.facts hok
    obtain ⟨i2, d2, z2, f2⟩ := hX.facts he
    have hund := f.slice hu
    have hzs : z2.cells.size = (X.ti e).size := by rw [f2.size]; exact f2.zs
    have hksz : (X.K e).length = (X.ti e).size := by rw [f2.size]; exact f2.ks
    obtain ⟨cn, rfl⟩ := Int.eq_ofNat_of_zero_le (show 0 ≤ c by omega)
    obtain ⟨ln, rfl⟩ := Int.eq_ofNat_of_zero_le hl0
    have hcn : cn ≤ 140737488355328 := by
      have h2 : cn ≤ cn * (X.ti e).bytes := Nat.le_mul_of_pos_right _ hby
      have h3 : ((cn * (X.ti e).bytes : Nat) : Int) ≤ 140737488355328 := by rw [Int.natCast_mul]; exact hcb
      generalize cn * (X.ti e).bytes = m at *
      omega
    have hln : ln ≤ cn := by omega
    refine ⟨_, _, h, Agree.push _ _ _, fun {vl vc w0 S F ρ w} hI hv => ?_⟩
    obtain ⟨h1, h2⟩ := hv
    cases h1; cases h2
    let cur := (Array.range (cn * (X.ti e).size)).map (z2.cells[· % z2.cells.size]!)
    let hd : Hd := ⟨.slice (some ⟨w.heap.size, 0, none⟩) ln cn, (X.K e).length⟩
    have hgr : w.grownBy (w.alloc (.cells cur e)) none := World.grownBy_alloc w _ none
    have hI1 : Inv X w0 S F (ρ ++ [hd]) (M ++ [.dead]) (w.alloc (.cells cur e)) := by
      refine hI.push hgr (fun g hg => ?_) rfl trivial
      simp [hd, Hd.blk?, Value.blk?] at hg
      subst hg
      simp
    have hh : (ρ ++ [hd])[M.length]? = some hd := by rw [← hI.len]; simp
    have hz : RepL X.K (ρ ++ [hd]) F (w.alloc (.cells cur e)) (X.ti e).zero z2.cells.toList := by rw [f2.zc]; exact repL_zero _ _ _ _ _
    have hzl : (X.ti e).zero.length = (X.ti e).ks.length := by rw [f2.ks, f2.zc, List.length_map, Array.length_toList, f2.zs]
    have hnl : ∀ {row : Row} {j : Nat} {x : AV} {ii : Nat}, (List.replicate ln (zrowN X e))[ii]? = some row → row[j]? = some x → ii < ln ∧ ∃ (hj : j < z2.cells.size), (x.isSub = false ∧ Rep X.K (ρ ++ [hd]) F (w.alloc (.cells cur e)) x z2.cells[j]) ∨ ∃ e', x = .sub e' [] ∧ z2.cells[j] = .slice none 0 0 := by
      intro row j x ii hi hx
      have hil : ii < ln := by have := (List.getElem?_eq_some_iff.1 hi).1; simpa using this
      refine ⟨hil, ?_⟩
      rw [List.getElem?_replicate, if_pos hil] at hi
      injection hi with hi
      subst hi
      have hx0 := hx
      unfold zrowN at hx
      rw [List.getElem?_zipWith] at hx
      cases hk : (X.ti e).ks[j]? with
      | none => simp [hk] at hx
      | some kd =>
        cases hzz : (X.ti e).zero[j]? with
        | none => simp [hk, hzz] at hx
        | some y =>
          simp only [hk, hzz, Option.some.injEq] at hx
          subst hx
          have hl2 := hz.1
          simp only [Array.length_toList] at hl2
          have hj : j < z2.cells.size := by have := (List.getElem?_eq_some_iff.1 hzz).1; omega
          have hry := hz.2 j y z2.cells[j] hzz (by simp [hj])
          refine ⟨hj, ?_⟩
          unfold zcN
          split
          · refine .inr ⟨_, rfl, ?_⟩
            generalize z2.cells[j] = u at hry
            cases hry
            rfl
          · refine .inl ⟨?_, hry⟩
            generalize z2.cells[j] = u at hry
            cases hry <;> rfl
    have hget : ∀ {ii j : Nat}, ii < ln → (hj : j < z2.cells.size) → cur[0 + ii * (X.K e).length + j]? = some z2.cells[j] := by
      intro ii j hil hj2
      have hidx : ii * (X.K e).length + j < cn * (X.ti e).size := by
        rw [hksz]
        have : (ii + 1) * (X.ti e).size ≤ cn * (X.ti e).size := Nat.mul_le_mul_right _ (by omega)
        rw [Nat.add_mul, Nat.one_mul] at this
        omega
      have hm : (ii * (X.K e).length + j) % z2.cells.size = j := by
        rw [hksz, hzs, Nat.add_comm, Nat.add_mul_mod_self_right, Nat.mod_eq_of_lt (by omega)]
      simp only [cur]
      rw [Nat.zero_add, Array.getElem?_map, Array.getElem?_range, if_pos hidx]
      simp only [Option.map_some, hm]
      rw [getElem!_pos z2.cells j hj2]
    have hheap : (w.alloc (.cells cur e)).heap[w.heap.size]? = some (.cells cur e (0, 0)) := heap_alloc_new w _
    have hr : NRep X (ρ ++ [hd]) F (w.alloc (.cells cur e)) hd e (List.replicate ln (zrowN X e)) none := by
      refine ⟨hX.kindsP hpk, rfl, fun i row hi => ?_, fun _ _ _ hk => (by cases hk), .inr ⟨w.heap.size, 0, cn, cur, by simp [hd], hheap, by simpa using hln, le_maxLen hcn, by simp [hd, cur, hksz], fun ii row hi j x hx => ?_⟩⟩
      · have := List.mem_of_getElem? hi
        rw [List.mem_replicate] at this
        rw [this.2]; exact hkz
      · obtain ⟨hil, hj, hc⟩ := hnl hi hx
        refine ⟨_, hget hil hj, fun _ hk => (by cases hk), fun _ => ?_⟩
        rcases hc with ⟨hs, hr⟩ | ⟨e', rfl, hv⟩
        · unfold NCell
          split
          · cases hs
          · exact hr
        · rw [hv]
          exact ⟨⟨rfl, fun i row hi => by simp at hi, .inl ⟨rfl, rfl⟩⟩, rfl⟩
    have hB : ∀ {p g}, HidB (w.alloc (.cells cur e)) hd (List.replicate ln (zrowN X e)) none p g → p = none ∧ g = w.heap.size := by
      intro p g hp
      rcases hp with ⟨h1, h2⟩ | ⟨ii, j, row, e', ys, v, _, h1, h2, _, h4, h5⟩
      · exact ⟨h1, by simp [hd, Hd.blk?, Value.blk?] at h2; exact h2.symm⟩
      · obtain ⟨hil, hj, hc⟩ := hnl h1 h2
        rcases hc with ⟨hs, _⟩ | ⟨e'', _, hv⟩
        · cases hs
        · simp only [cellOf, hd] at h4
          rw [Addr.add_lit, cell_of_row _ _ _ cur e (0, 0) hheap, ← Nat.add_assoc, hget hil hj, hv] at h4
          injection h4 with h4
          subst h4
          simp [Value.blk?] at h5
    have hI2 := hI1.install (id := M.length) (b := .dead) (by simp) rfl rfl hh hr (fun p g hp => ?_) (fun p q g h1 h2 => (hB h1).1.trans (hB h2).1.symm)
    · rw [List.set_append_right _ _ (Nat.le_refl _)] at hI2
      simp only [Nat.sub_self, List.set_cons_zero] at hI2
      refine ⟨.slice (some ⟨w.heap.size, 0, none⟩) ln cn, _, _, F, ?_, hI2, ⟨fun _ h => h, fun _ _ h => getElem?_append_old h, hI.blks hgr (by simp)⟩, own_last (M := M) (hd := hd) hI.len⟩
      have hwl : IntKind.i64.wrap (ln : Int) = ln := by simp [IntKind.wrap, IntKind.bits, IntKind.signed]; omega
      have hwc : IntKind.i64.wrap (cn : Int) = cn := by simp [IntKind.wrap, IntKind.bits, IntKind.signed]; omega
      have hb2 : (i2.bytes : Int) * (cn : Int) ≤ 140737488355328 := by rw [← f2.bytes, Int.mul_comm]; exact hcb
      have hbl : (i2.bytes : Int) * (ln : Int) ≤ 140737488355328 := by
        have : (i2.bytes : Int) * (ln : Int) ≤ (i2.bytes : Int) * (cn : Int) := Int.mul_le_mul_of_nonneg_left (by omega) (by omega)
        omega
      have hnot : ¬ ((((cn : Int) < 0 ∨ (281474976710656 : Int) < (i2.bytes : Int) * (cn : Int)) ∨ (ln : Int) < 0) ∨ (cn : Int) < (ln : Int)) := by omega
      unfold Instr.makeSlice
      simp only [Sem.run_bind, run_underlying hund, Result.andThen_ok, asInt, asIntOf, Sem.run_pure, f2.typeInfo, hwl, hwc]
      rw [if_neg (by simpa using hnot)]
      by_cases h0 : cn * (X.ti e).size = 0
      · have : cn = 0 := by rcases Nat.mul_eq_zero.1 h0 with h | h; exact h; omega
        subst this
        have e9 : ∀ g : Nat → Value, (Array.range 0).map g = #[] := by intro g; simp
        simp [f2.sizeOf, newRow, e9, cur]
      · simp [f2.sizeOf, newRow, f2.zeroValue, h0, cur]
    · obtain ⟨_, rfl⟩ := hB hp
      refine ⟨by simp, .inr hI.size, fun a ha e => ?_, ?_, fun i q h => ?_⟩
      · have := hI.fz a ha; omega
      · rintro ⟨i, b, hd', u1, u2, u3, u4⟩
        by_cases hlt : i < M.length
        · rw [List.getElem?_append_left hlt] at u1
          rw [List.getElem?_append_left (by rw [hI.len]; exact hlt)] at u3
          have := (hI.sep i b hd' _ u1 u2 u3 u4).1; omega
        · rw [List.getElem?_append_right (by omega)] at u1
          have h0 : i - M.length = 0 := by have := (List.getElem?_eq_some_iff.1 u1).1; simp at this; omega
          rw [h0] at u1; simp at u1; subst u1; cases u2
      · have h := (h.pop hI.len rfl).back hI.nst hI.len (fun _ _ h _ => h) (fun _ _ h _ => h) fun k q1 _ _ _ => hgr.block k q1 (by simp)
        have := (hI.nst.own h).1; omega
  · cases h
end
end Go.Eng
