/-
  The engine, part Ae: closed runs, quicker: temporaries and memory with the newest first, operations read once.
  The engine, part Af: closed runs, quicker: the single operations.
  The engine, part Ag: closed runs, quicker: regions and code.
  The engine, part Ah: closed runs, quicker: code, calls, what is lent.
  The engine, part Aj: deferred calls of closures: what a frame does on its way out.
  The engine, part Ai: closed runs, quicker: calls, what is lent to a call, the whole run.
  gen.compile's deferred closure does nothing while its frame returns: recover hands back nil.
-/
import Derived.Test.YtjiegemglmjfeaaGreatDoorGk4
import Derived.DefersIn
import Derived.Test.YtjiegemglmjfeaaGreatDoorChecked
import Derived.RecoverIn
import Derived.KernelRfl
set_option linter.all false
set_option linter.deprecated false
namespace Go.Eng
open Go Go.ChangeShapes Go.WideShapes Go.ChangeAt Go.RowKit
noncomputable section
variable {X : Cx} {R : Type}
inductive En where
  | nil
  | c (t : Nat) (x : AV) (r : En)
def En.l : En → List (Nat × AV)
  | .nil => []
  | .c t x r => (t, x) :: r.l
def lk (e : En) (u : Nat) : AV := En.rec (motive := fun _ => AV) .top (fun t x _ ih => Bool.rec (motive := fun _ => AV) ih x (Nat.beq u t)) e
theorem lk_eq : ∀ (e : En) (u : Nat), lk e u = look e.l u
  | .nil, _ => rfl
  | .c t x r, u => by
    show Bool.rec (motive := fun _ => AV) (lk r u) x (Nat.beq u t) = Bool.rec (motive := fun _ => AV) (look r.l u) x (Nat.beq u t)
    rw [lk_eq r u]
def ov (X : Cx) (e : En) (y : Operand) : AV := Operand.rec (motive := fun _ => AV) (fun t => lk e t) (fun v => constAV v) (fun g => X.glob g) (fun f => .clos f [] []) y
theorem ov_eq (X : Cx) (e : En) (y : Operand) : ov X e y = evv X e.l y := by
  cases y <;> first | exact lk_eq _ _ | rfl
theorem ov_fun (X : Cx) (e : En) : ov X e = evv X e.l := funext (ov_eq X e)
def fN (n : Nat) (k : Nat → Option R) : Option R := Nat.rec (motive := fun _ => Option R) (k 0) (fun m _ => k (Nat.succ m)) n
theorem fN_eq (n : Nat) (k : Nat → Option R) : fN n k = k n := by cases n <;> rfl
def fB (b : Bool) (k : Bool → Option R) : Option R := Bool.rec (motive := fun _ => Option R) (k false) (k true) b
theorem fB_eq (b : Bool) (k : Bool → Option R) : fB b k = k b := by cases b <;> rfl
def iff (b : Bool) (x y : Option R) : Option R := Bool.rec (motive := fun _ => Option R) y x b
theorem iff_eq (b : Bool) (x y : Option R) : iff b x y = match b with | true => x | false => y := by cases b <;> rfl
theorem iff_none {b : Bool} {x : Option R} {r : R} (h : iff b x none = some r) : b = true ∧ x = some r := by
  cases b with
  | true => exact ⟨rfl, h⟩
  | false => cases h
def nth {α : Type} (l : List α) (i : Nat) (k : α → Option R) : Option R := List.rec (motive := fun _ => Nat → Option R) (fun _ => none) (fun a _ ih n => Nat.rec (motive := fun _ => Option R) (k a) (fun m _ => ih m) n) l i
theorem nth_some {α : Type} {k : α → Option R} {r : R} : ∀ {l : List α} {i : Nat}, nth l i k = some r → ∃ a, l[i]? = some a ∧ k a = some r
  | [], _, h => by cases h
  | a :: l, 0, h => ⟨a, rfl, h⟩
  | a :: l, i + 1, h => by
    obtain ⟨b, h1, h2⟩ := nth_some (l := l) (i := i) h
    exact ⟨b, by simpa using h1, h2⟩
def setK {α : Type} (l : List α) (i : Nat) (x : α) (k : List α → Option R) : Option R :=
  List.rec (motive := fun _ => Nat → (List α → Option R) → Option R) (fun _ _ => none) (fun a tl ih n k => Nat.rec (motive := fun _ => Option R) (k (x :: tl)) (fun m _ => ih m fun l => k (a :: l)) n) l i k
theorem setK_some {α : Type} {x : α} {r : R} : ∀ {l : List α} {i : Nat} {k : List α → Option R}, setK l i x k = some r → k (l.set i x) = some r ∧ i < l.length
  | [], _, _, h => by cases h
  | a :: l, 0, k, h => ⟨h, by simp⟩
  | a :: l, i + 1, k, h => by
    obtain ⟨h1, h2⟩ := setK_some (l := l) (i := i) (k := fun l => k (a :: l)) h
    exact ⟨h1, by simpa using h2⟩
def takeK {α : Type} (n : Nat) (l : List α) (k : List α → Option R) : Option R :=
  Nat.rec (motive := fun _ => List α → (List α → Option R) → Option R) (fun _ k => k []) (fun _ ih l k => List.rec (motive := fun _ => Option R) none (fun a tl _ => ih tl fun r => k (a :: r)) l) n l k
theorem takeK_some {α : Type} {r : R} : ∀ {n : Nat} {l : List α} {k : List α → Option R}, takeK n l k = some r → k (l.take n) = some r ∧ n ≤ l.length
  | 0, l, k, h => ⟨h, Nat.zero_le _⟩
  | n + 1, [], k, h => by cases h
  | n + 1, a :: l, k, h => by
    obtain ⟨h1, h2⟩ := takeK_some (n := n) (l := l) (k := fun r => k (a :: r)) h
    exact ⟨h1, by simpa using h2⟩
def dropK {α : Type} (n : Nat) (l : List α) : List α :=
  Nat.rec (motive := fun _ => List α → List α) (fun l => l) (fun _ ih l => List.rec (motive := fun _ => List α) [] (fun _ tl _ => ih tl) l) n l
theorem dropK_eq {α : Type} : ∀ (n : Nat) (l : List α), dropK n l = l.drop n
  | 0, l => rfl
  | n + 1, [] => rfl
  | n + 1, a :: l => dropK_eq n l
def mget (rm : List Blk) (m id : Nat) (k : Blk → Option R) : Option R := iff (Nat.ble (Nat.succ id) m) (nth rm (Nat.sub m (Nat.succ id)) k) none
theorem mget_some {rm : List Blk} {m id : Nat} {k : Blk → Option R} {r : R} (hm : m = rm.length) (h : mget rm m id k = some r) : ∃ b, rm.reverse[id]? = some b ∧ k b = some r ∧ id < m := by
  obtain ⟨h1, h2⟩ := iff_none h
  have hlt : id < m := Nat.le_of_ble_eq_true h1
  obtain ⟨b, h3, h4⟩ := nth_some h2
  refine ⟨b, ?_, h4, hlt⟩
  rw [List.getElem?_reverse (by omega), ← hm]
  rw [← h3]
  congr 1
  show m - 1 - id = m - (id + 1)
  omega
def mputK (rm : List Blk) (m id : Nat) (b : Blk) (k : List Blk → Option R) : Option R := setK rm (Nat.sub m (Nat.succ id)) b k
theorem mputK_some {rm : List Blk} {m id : Nat} {b : Blk} {k : List Blk → Option R} {r : R} (hm : m = rm.length) (hid : id < m) (h : mputK rm m id b k = some r) : ∃ rm', k rm' = some r ∧ rm'.length = m ∧ rm'.reverse = rm.reverse.set id b := by
  obtain ⟨h1, h2⟩ := setK_some h
  refine ⟨_, h1, by rw [List.length_set, hm], ?_⟩
  apply List.ext_getElem?
  intro i
  have hs : Nat.sub m (Nat.succ id) = rm.length - 1 - id := by show m - (id + 1) = _; omega
  by_cases hi : i < rm.length
  · rw [List.getElem?_reverse (by rw [List.length_set]; exact hi), List.getElem?_set, List.getElem?_set, List.length_set, List.length_reverse, hs]
    by_cases he : id = i
    · subst he
      rw [if_pos rfl, if_pos rfl, if_pos (by omega), if_pos hi]
    · rw [if_neg he, if_neg (by omega), List.getElem?_reverse hi]
  · rw [List.getElem?_eq_none (by rw [List.length_reverse, List.length_set]; omega), List.getElem?_eq_none (by rw [List.length_set, List.length_reverse]; omega)]
def revF {α : Type} (l acc : List α) : List α := List.rec (motive := fun _ => List α → List α) (fun acc => acc) (fun a _ ih acc => ih (a :: acc)) l acc
theorem revF_eq {α : Type} : ∀ (l acc : List α), revF l acc = l.reverse ++ acc
  | [], acc => rfl
  | a :: l, acc => by
    show revF l (a :: acc) = _
    rw [revF_eq l, List.reverse_cons, List.append_assoc]; rfl
def lenF {α : Type} (l : List α) : Nat := List.rec (motive := fun _ => Nat) 0 (fun _ _ ih => Nat.succ ih) l
theorem lenF_eq {α : Type} : ∀ (l : List α), lenF l = l.length
  | [] => rfl
  | a :: l => by show Nat.succ (lenF l) = _; rw [lenF_eq l]; rfl
def revK {α : Type} (l : List α) (k : List α → Nat → Option R) : Option R :=
  List.rec (motive := fun _ => List α → Nat → Option R) (fun acc n => k acc n) (fun a _ ih acc n => fN (Nat.succ n) fun n => ih (a :: acc) n) l [] 0
theorem revK_aux {α : Type} (k : List α → Nat → Option R) : ∀ (l acc : List α) (n : Nat), (List.rec (motive := fun _ => List α → Nat → Option R) (fun acc n => k acc n) (fun a _ ih acc n => fN (Nat.succ n) fun n => ih (a :: acc) n) l acc n : Option R) = k (l.reverse ++ acc) (l.length + n)
  | [], acc, n => by simp
  | a :: l, acc, n => by
    show fN (Nat.succ n) (fun n => (List.rec (motive := fun _ => List α → Nat → Option R) (fun acc n => k acc n) (fun a _ ih acc n => fN (Nat.succ n) fun n => ih (a :: acc) n) l (a :: acc) n : Option R)) = _
    rw [fN_eq, revK_aux k l, List.reverse_cons, List.append_assoc, List.length_cons]
    congr 1
    omega
theorem revK_eq {α : Type} (l : List α) (k : List α → Nat → Option R) : revK l k = k l.reverse l.length := by
  unfold revK
  rw [revK_aux, List.append_nil, Nat.add_zero]
section
variable {α : Type}
def onInt (x : AV) (f : IntKind → Int → α) (d : α) : α := AV.rec (motive_1 := fun _ => α) (motive_2 := fun _ => α) (motive_3 := fun _ => α) d f (fun _ => d) (fun _ => d) (fun _ _ => d) (fun _ _ => d) d (fun _ _ _ _ => d) (fun _ _ _ => d) (fun _ _ _ => d) (fun _ => d) d (fun _ _ _ _ _ => d) d (fun _ => d) (fun _ => d) d (fun _ _ => d) (fun _ _ _ => d) d (fun _ _ _ => d) d (fun _ _ _ _ => d) d (fun _ _ _ _ => d) x
def onBool (x : AV) (f : Bool → α) (d : α) : α := AV.rec (motive_1 := fun _ => α) (motive_2 := fun _ => α) (motive_3 := fun _ => α) d (fun _ _ => d) f (fun _ => d) (fun _ _ => d) (fun _ _ => d) d (fun _ _ _ _ => d) (fun _ _ _ => d) (fun _ _ _ => d) (fun _ => d) d (fun _ _ _ _ _ => d) d (fun _ => d) (fun _ => d) d (fun _ _ => d) (fun _ _ _ => d) d (fun _ _ _ => d) d (fun _ _ _ _ => d) d (fun _ _ _ _ => d) x
def onAddr (x : AV) (f : Nat → Nat → Nat → α) (g : TypeId → Row → Nat → α) (d : α) : α := AV.rec (motive_1 := fun _ => α) (motive_2 := fun _ => α) (motive_3 := fun _ => α) d (fun _ _ => d) (fun _ => d) (fun _ => d) (fun _ _ => d) (fun _ _ => d) d (fun t row off _ => g t row off) f (fun _ _ _ => d) (fun _ => d) d (fun _ _ _ _ _ => d) d (fun _ => d) (fun _ => d) d (fun _ _ => d) (fun _ _ _ => d) d (fun _ _ _ => d) d (fun _ _ _ _ => d) d (fun _ _ _ _ => d) x
def onTup (x : AV) (f : List AV → α) (d : α) : α := AV.rec (motive_1 := fun _ => α) (motive_2 := fun _ => α) (motive_3 := fun _ => α) d (fun _ _ => d) (fun _ => d) (fun _ => d) (fun _ _ => d) (fun vs _ => f vs) d (fun _ _ _ _ => d) (fun _ _ _ => d) (fun _ _ _ => d) (fun _ => d) d (fun _ _ _ _ _ => d) d (fun _ => d) (fun _ => d) d (fun _ _ => d) (fun _ _ _ => d) d (fun _ _ _ => d) d (fun _ _ _ _ => d) d (fun _ _ _ _ => d) x
def onSl (x : AV) (f : TypeId → List Row → α) (g : Nat → α) (d : α) : α := AV.rec (motive_1 := fun _ => α) (motive_2 := fun _ => α) (motive_3 := fun _ => α) d (fun _ _ => d) (fun _ => d) (fun _ => d) (fun _ _ => d) (fun _ _ => d) d (fun _ _ _ _ => d) (fun _ _ _ => d) (fun t xs _ => f t xs) g d (fun _ _ _ _ _ => d) d (fun _ => d) (fun _ => d) d (fun _ _ => d) (fun _ _ _ => d) d (fun _ _ _ => d) d (fun _ _ _ _ => d) d (fun _ _ _ _ => d) x
def onFn (x : AV) (f : FuncId → List AV → List AV → α) (d : α) : α := AV.rec (motive_1 := fun _ => α) (motive_2 := fun _ => α) (motive_3 := fun _ => α) d (fun _ _ => d) (fun _ => d) (fun _ => d) (fun _ _ => d) (fun _ _ => d) d (fun _ _ _ _ => d) (fun _ _ _ => d) (fun _ _ _ => d) (fun _ => d) d (fun g a b _ _ => f g a b) d (fun _ => d) (fun _ => d) d (fun _ _ => d) (fun _ _ _ => d) d (fun _ _ _ => d) d (fun _ _ _ _ => d) d (fun _ _ _ _ => d) x
def onCell (x : AV) (f : List AV → α) (g d : α) : α := AV.rec (motive_1 := fun _ => α) (motive_2 := fun _ => α) (motive_3 := fun _ => α) d (fun _ _ => g) (fun _ => g) (fun _ => g) (fun cs _ => f cs) (fun _ _ => d) g (fun _ _ _ _ => g) (fun _ _ _ => g) (fun _ _ _ => g) (fun _ => g) g (fun _ _ _ _ _ => g) g (fun _ => g) (fun _ => g) g (fun _ _ => g) (fun _ _ _ => g) g (fun _ _ _ => g) d (fun _ _ _ _ => d) d (fun _ _ _ _ => d) x
end
def leafF (x : AV) : Bool := onCell x (fun _ => false) true false
theorem leafF_eq (x : AV) : leafF x = x.leaf := by cases x <;> rfl
theorem onInt_some {x : AV} {f : IntKind → Int → Option R} {d : Option R} {r : R} (h : onInt x f d = some r) : (∃ k n, x = .int k n ∧ f k n = some r) ∨ d = some r := by
  cases x <;> first | exact .inr h | exact .inl ⟨_, _, rfl, h⟩
theorem onBool_some {x : AV} {f : Bool → Option R} {r : R} (h : onBool x f none = some r) : ∃ b, x = .bool b ∧ f b = some r := by
  cases x <;> first | exact ⟨_, rfl, h⟩ | cases h
theorem onAddr_some {x : AV} {f : Nat → Nat → Nat → Option R} {g : TypeId → Row → Nat → Option R} {d : Option R} {r : R} (h : onAddr x f g d = some r) : (∃ id i off, x = .ptr id i off ∧ f id i off = some r) ∨ (∃ t row off, x = .iptr t row off ∧ g t row off = some r) ∨ d = some r := by
  cases x <;> first | exact .inl ⟨_, _, _, rfl, h⟩ | exact .inr (.inl ⟨_, _, _, rfl, h⟩) | exact .inr (.inr h)
theorem onTup_some {x : AV} {f : List AV → Option R} {r : R} (h : onTup x f none = some r) : ∃ vs, x = .tup vs ∧ f vs = some r := by
  cases x <;> first | exact ⟨_, rfl, h⟩ | cases h
theorem onSl_some {x : AV} {f : TypeId → List Row → Option R} {g : Nat → Option R} {d : Option R} {r : R} (h : onSl x f g d = some r) : (∃ t xs, x = .list t xs ∧ f t xs = some r) ∨ (∃ id, x = .own id ∧ g id = some r) ∨ d = some r := by
  cases x <;> first | exact .inl ⟨_, _, rfl, h⟩ | exact .inr (.inl ⟨_, rfl, h⟩) | exact .inr (.inr h)
theorem onFn_some {x : AV} {f : FuncId → List AV → List AV → Option R} {d : Option R} {r : R} (h : onFn x f d = some r) : (∃ g a b, x = .clos g a b ∧ f g a b = some r) ∨ d = some r := by
  cases x <;> first | exact .inl ⟨_, _, _, rfl, h⟩ | exact .inr h
theorem onCell_some {x : AV} {f : List AV → Option R} {g : Option R} {r : R} (h : onCell x f g none = some r) : (∃ cs, x = .agg cs ∧ f cs = some r) ∨ (x.leaf = true ∧ g = some r) := by
  cases x <;> first | exact .inl ⟨_, rfl, h⟩ | exact .inr ⟨rfl, h⟩ | cases h
def kno (k : IntKind) : Nat := IntKind.rec (motive := fun _ => Nat) 0 1 2 3 4 5 6 7 k
theorem kno_inj {a b : IntKind} (h : Nat.beq (kno a) (kno b) = true) : a = b := by
  cases a <;> cases b <;> first | rfl | (exact absurd h (by decide))
theorem kno_eq (a b : IntKind) : Nat.beq (kno a) (kno b) = (a == b) := by cases a <;> cases b <;> decide
def kokF (k : Kind) (x : AV) : Bool :=
  Kind.rec (motive := fun _ => Bool) (fun a => onInt x (fun b _ => Nat.beq (kno a) (kno b)) false) (onBool x (fun _ => true) false) (kok .str x) (fun t => onSl x (fun t' _ => Nat.beq t t') (fun _ => false) false) (kok .raw x) (leafF x) k
theorem nbeq_eq (a b : Nat) : Nat.beq a b = (a == b) := by
  by_cases h : a = b
  · subst h; simp
  · rw [beq_eq_false_iff_ne.2 h]
    cases hb : Nat.beq a b with
    | false => rfl
    | true => exact absurd (Nat.eq_of_beq_eq_true hb) h
theorem kokF_eq (k : Kind) (x : AV) : kokF k x = kok k x := by
  cases k with
  | int a => cases x <;> first | exact kno_eq _ _ | rfl
  | bool => cases x <;> rfl
  | str => rfl
  | slice t => cases x <;> first | exact nbeq_eq _ _ | rfl
  | raw => rfl
  | any => exact leafF_eq x
def koksF (ks : List Kind) (row : Row) : Bool :=
  List.rec (motive := fun _ => Row → Bool) (fun row => List.rec (motive := fun _ => Bool) true (fun _ _ _ => false) row) (fun k _ ih row => List.rec (motive := fun _ => Bool) false (fun x xs _ => Bool.rec (motive := fun _ => Bool) false (ih xs) (kokF k x)) row) ks row
theorem koksF_eq : ∀ (ks : List Kind) (row : Row), koksF ks row = koks ks row
  | [], [] => rfl
  | [], _ :: _ => rfl
  | _ :: _, [] => rfl
  | k :: ks, x :: xs => by
    show Bool.rec (motive := fun _ => Bool) false (koksF ks xs) (kokF k x) = (kok k x && koks ks xs)
    rw [kokF_eq, koksF_eq ks xs]
    cases kok k x <;> rfl
def lim (k : IntKind) : Nat := IntKind.rec (motive := fun _ => Nat) 128 32768 2147483648 9223372036854775808 256 65536 4294967296 18446744073709551616 k
theorem wrap_lim {k : IntKind} {n : Nat} (h : n < lim k) : k.wrap (n : Int) = n := by
  cases k <;> simp only [lim] at h <;> simp [IntKind.wrap, IntKind.bits, IntKind.signed] <;> omega
section
abbrev NOp (R : Type) : Type := IntKind → Nat → Nat → (AV → Option R) → Option R → Option R
def nAdd : NOp R := fun ki a b k slow => fN (Nat.add a b) fun s => iff (Nat.blt s (lim ki)) (k (.int ki (.ofNat s))) slow
def nMul : NOp R := fun ki a b k slow => fN (Nat.mul a b) fun s => iff (Nat.blt s (lim ki)) (k (.int ki (.ofNat s))) slow
def nSub : NOp R := fun ki a b k slow => iff (Nat.ble b a) (fN (Nat.sub a b) fun s => iff (Nat.blt s (lim ki)) (k (.int ki (.ofNat s))) slow) slow
def nEql : NOp R := fun _ a b k _ => fB (Nat.beq a b) fun b => k (.bool b)
def nNeq : NOp R := fun _ a b k _ => Bool.rec (motive := fun _ => Option R) (k (.bool true)) (k (.bool false)) (Nat.beq a b)
def nLss : NOp R := fun _ a b k _ => fB (Nat.blt a b) fun b => k (.bool b)
def nLeq : NOp R := fun _ a b k _ => fB (Nat.ble a b) fun b => k (.bool b)
def nGtr : NOp R := fun _ a b k _ => fB (Nat.blt b a) fun b => k (.bool b)
def nGeq : NOp R := fun _ a b k _ => fB (Nat.ble b a) fun b => k (.bool b)
def nSlow : NOp R := fun _ _ _ _ slow => slow
def nOp (op : BinOp) : NOp R := BinOp.rec (motive := fun _ => NOp R) nAdd nSub nMul nSlow nSlow nSlow nSlow nSlow nSlow nSlow nSlow nEql nNeq nLss nLeq nGtr nGeq op
def binK (op : BinOp) (x y : AV) (k : AV → Option R) (slow : Option R) : Option R :=
  onInt x (fun ka a => onInt y (fun kb b => iff (Nat.beq (kno ka) (kno kb)) (Int.rec (motive := fun _ => Option R) (fun a => Int.rec (motive := fun _ => Option R) (fun b => nOp op ka a b k slow) (fun _ => slow) b) (fun _ => slow) a) slow) slow) slow
theorem blt_dec (a b : Nat) : Nat.blt a b = decide ((a : Int) < (b : Int)) := by
  by_cases h : a < b
  · rw [decide_eq_true (by exact_mod_cast h)]; exact Nat.ble_eq_true_of_le h
  · rw [decide_eq_false (by exact_mod_cast h)]
    cases hb : Nat.blt a b with
    | false => rfl
    | true => exact absurd (Nat.le_of_ble_eq_true hb) h
theorem ble_dec (a b : Nat) : Nat.ble a b = decide ((a : Int) ≤ (b : Int)) := by
  by_cases h : a ≤ b
  · rw [decide_eq_true (by exact_mod_cast h)]; exact Nat.ble_eq_true_of_le h
  · rw [decide_eq_false (by exact_mod_cast h)]
    cases hb : Nat.ble a b with
    | false => rfl
    | true => exact absurd (Nat.le_of_ble_eq_true hb) h
theorem beq_int (a b : Nat) : Nat.beq a b = ((a : Int) == (b : Int)) := by
  by_cases h : a = b
  · subst h; simp
  · have : ¬ ((a : Int) = b) := by exact_mod_cast h
    rw [beq_eq_false_iff_ne.2 this]
    cases hb : Nat.beq a b with
    | false => rfl
    | true => exact absurd (Nat.eq_of_beq_eq_true hb) h
theorem nOp_spec {op : BinOp} {t : TypeId} {ki : IntKind} {a b : Nat} {k : AV → Option R} {slow : Option R} {r : R} (h : nOp op ki a b k slow = some r) :
    slow = some r ∨ ∃ y, k y = some r ∧ ∀ (R' : Type) (k' : AV → Option R'), evBin X op t (.int ki (a : Int)) (.int ki (b : Int)) k' = k' y := by
  have e : (ki == ki) = true := by cases ki <;> rfl
  have small : ∀ {s : Nat}, Nat.blt s (lim ki) = true → ki.wrap (s : Int) = s := fun h => wrap_lim (Nat.le_of_ble_eq_true h)
  have ar : ∀ {f : Nat → Nat → Nat} {s : Nat}, (fN s fun s => iff (Nat.blt s (lim ki)) (k (.int ki (.ofNat s))) slow) = some r → slow = some r ∨ (k (.int ki (s : Int)) = some r ∧ ki.wrap (s : Int) = s) := by
    intro f s h
    rw [fN_eq] at h
    cases hb : Nat.blt s (lim ki) with
    | true => rw [hb] at h; exact .inr ⟨h, small hb⟩
    | false => rw [hb] at h; exact .inl h
  cases op with
  | add =>
    rcases ar (f := Nat.add) (s := Nat.add a b) h with h | ⟨h, hw⟩
    · exact .inl h
    · refine .inr ⟨_, h, fun R' k' => ?_⟩
      simp only [evBin, e, tst]
      have : (a : Int) + (b : Int) = ((Nat.add a b : Nat) : Int) := (Int.natCast_add a b).symm
      rw [this, hw]
  | mul =>
    rcases ar (f := Nat.mul) (s := Nat.mul a b) h with h | ⟨h, hw⟩
    · exact .inl h
    · refine .inr ⟨_, h, fun R' k' => ?_⟩
      simp only [evBin, e, tst]
      have : (a : Int) * (b : Int) = ((Nat.mul a b : Nat) : Int) := (Int.natCast_mul a b).symm
      rw [this, hw]
  | sub =>
    have h : iff (Nat.ble b a) (fN (Nat.sub a b) fun s => iff (Nat.blt s (lim ki)) (k (.int ki (.ofNat s))) slow) slow = some r := h
    cases hb : Nat.ble b a with
    | false => rw [hb] at h; exact .inl h
    | true =>
      rw [hb] at h
      rcases ar (f := Nat.sub) (s := Nat.sub a b) h with h | ⟨h, hw⟩
      · exact .inl h
      · refine .inr ⟨_, h, fun R' k' => ?_⟩
        simp only [evBin, e, tst]
        have : (a : Int) - (b : Int) = ((Nat.sub a b : Nat) : Int) := (Int.ofNat_sub (Nat.le_of_ble_eq_true hb)).symm
        rw [this, hw]
  | eql =>
    have h : fB (Nat.beq a b) (fun b => k (.bool b)) = some r := h
    rw [fB_eq] at h
    exact .inr ⟨_, h, fun R' k' => by simp only [evBin, e, tst, beq_int]⟩
  | neq =>
    refine .inr ⟨.bool ((a : Int) != (b : Int)), ?_, fun R' k' => by simp only [evBin, e, tst]⟩
    have h : Bool.rec (motive := fun _ => Option R) (k (.bool true)) (k (.bool false)) (Nat.beq a b) = some r := h
    rw [bne, ← beq_int]
    cases hb : Nat.beq a b <;> rw [hb] at h <;> exact h
  | lss =>
    have h : fB (Nat.blt a b) (fun b => k (.bool b)) = some r := h
    rw [fB_eq] at h
    exact .inr ⟨_, h, fun R' k' => by simp only [evBin, e, tst, blt_dec]⟩
  | leq =>
    have h : fB (Nat.ble a b) (fun b => k (.bool b)) = some r := h
    rw [fB_eq] at h
    exact .inr ⟨_, h, fun R' k' => by simp only [evBin, e, tst, ble_dec]⟩
  | gtr =>
    have h : fB (Nat.blt b a) (fun b => k (.bool b)) = some r := h
    rw [fB_eq] at h
    exact .inr ⟨_, h, fun R' k' => by simp only [evBin, e, tst, blt_dec]⟩
  | geq =>
    have h : fB (Nat.ble b a) (fun b => k (.bool b)) = some r := h
    rw [fB_eq] at h
    exact .inr ⟨_, h, fun R' k' => by simp only [evBin, e, tst, ble_dec]⟩
  | _ => exact .inl h
theorem binK_spec {op : BinOp} {t : TypeId} {x y : AV} {k : AV → Option R} {slow : Option R} {r : R} (h : binK op x y k slow = some r) :
    slow = some r ∨ (∃ ka a kb b, x = .int ka a ∧ y = .int kb b) ∧ ∃ z, k z = some r ∧ ∀ (R' : Type) (k' : AV → Option R'), evBin X op t x y k' = k' z := by
  unfold binK at h
  rcases onInt_some h with ⟨ka, a, rfl, h1⟩ | h1
  · rcases onInt_some h1 with ⟨kb, b, rfl, h2⟩ | h2
    · cases hb : Nat.beq (kno ka) (kno kb) with
      | false => rw [hb] at h2; exact .inl h2
      | true =>
        rw [hb] at h2
        have := kno_inj hb
        subst this
        cases a with
        | negSucc _ => exact .inl h2
        | ofNat a =>
          cases b with
          | negSucc _ => exact .inl h2
          | ofNat b =>
            rcases nOp_spec (X := X) (t := t) h2 with h3 | ⟨z, h3, hs⟩
            · exact .inl h3
            · exact .inr ⟨⟨_, _, _, _, rfl, rfl⟩, z, h3, hs⟩
    · exact .inl h2
  · exact .inl h1
end
end
end Go.Eng

namespace Go.Eng
open Go Go.ChangeShapes Go.WideShapes Go.ChangeAt Go.RowKit
noncomputable section
variable {X : Cx} {R : Type}
abbrev CallT (R : Type) : Type := FuncId → List AV → List Blk → Nat → (AV → List Blk → Nat → Option R) → Option R
def CallsOk (X : Cx) (C : CallT R) : Prop := ∀ {g : FuncId} {args : List AV} {rm : List Blk} {m : Nat} {k : AV → List Blk → Nat → Option R} {r : R}, m = rm.length → C g args rm m k = some r → ∃ x rm' m', ACalls X g args rm.reverse x rm'.reverse ∧ m' = rm'.length ∧ k x rm' m' = some r
abbrev XF (R : Type) : Type := Cx → Tab R → CallT R → Oper → En → List Blk → Nat → (AV → List Blk → Nat → Option R) → Option R
def onBlk {α : Type} (b : Blk) (f : List Kind → List AV → α) (g : TypeId → List Row → α) (d : α) : α := Blk.rec (motive := fun _ => α) f g (fun _ _ _ _ => d) (fun _ _ _ _ => d) d (fun _ _ => d) d (fun _ _ _ => d) b
theorem onBlk_some {b : Blk} {f : List Kind → List AV → Option R} {g : TypeId → List Row → Option R} {d : Option R} {r : R} (h : onBlk b f g d = some r) : (∃ ks cs, b = .var ks cs ∧ f ks cs = some r) ∨ (∃ t xs, b = .row t xs ∧ g t xs = some r) ∨ d = some r := by
  cases b <;> first | exact .inl ⟨_, _, rfl, h⟩ | exact .inr (.inl ⟨_, _, rfl, h⟩) | exact .inr (.inr h)
inductive XI where
  | mov (x : Operand)
  | pick (c a b : Operand)
  | ld1 (p : Operand) (kd : Kind)
  | ldA (p : Operand) (n : Nat)
  | fad (x : Operand) (off : Nat)
  | bin (op : BinOp) (x y : Operand)
  | not (x : Operand)
  | box (ks : List Kind) (x : Operand)
  | alc (ks : List Kind) (z : List AV)
  | sto (p x : Operand) (n : Nat)
  | ext (x : Operand) (i : Nat)
  | iad (x i : Operand) (e : TypeId)
  | cal (f : Operand) (args : List Operand)
  | slow
  | len (x : Operand)
  | qui
  | bld (t : TypeId) (n : Nat) (ps : List (Nat × Operand))
  | bui (t : TypeId) (ps : List (Nat × Operand))
def qOp (o : Op) : Bool := match o with | .makeFunc _ _ _ => true | .nilCheck _ => true | .build _ _ => true | .field _ _ _ => true | .index _ _ _ => true | .unOp _ _ _ => true | _ => false
def opc (X : Cx) (o : Oper) : XI :=
  match o.op with
  | .move x => .mov x
  | .assign x => .mov x
  | .pick c a b => .pick c a b
  | .load t p => (match (X.ti t).ok, (X.ti t).u.agg, Nat.beq (X.ti t).size 1 with
    | true, true, _ => .ldA p (X.ti t).size
    | true, false, true => .ld1 p ((X.ti t).ks.headD .raw).v
    | _, _, _ => .slow)
  | .fieldAddr t x f => (match (X.ti t).ok, (X.ti t).u with
    | true, .struct fs => (match fs[f]? with
      | some p => (match (X.ti p.2).ok && !((X.ti p.2).size == 0) with | true => .fad x p.1 | false => .slow)
      | none => .slow)
    | _, _ => .slow)
  | .binOp op _ x y _ => .bin op x y
  | .unOp .not _ x => .not x
  | .box t x => (match X.tyB (vks X t) t with | true => .box (vks X t) x | false => .slow)
  | .alloc t => (match ((X.ti t).ok && X.tyB (vks X t) t) && koks (vks X t) (X.ti t).zero with | true => .alc (vks X t) (X.ti t).zero | false => .slow)
  | .store t p x => (match (X.ti t).ok with | true => .sto p x (X.ti t).size | false => .slow)
  | .extract x i => .ext x i
  | .buildSlice t n ps => .bld t n ps.toList
  | .build t ps => .bui t ps.toList
  | .indexAddr t x i => (match (X.ti t).ok, (X.ti t).u with
    | true, .slice e => (match (X.ti e).ok with | true => .iad x i e | false => .slow)
    | _, _ => .slow)
  | .call c => (match c.callee with
    | .value f => .cal f c.args.toList
    | .builtin .len => (match c.argTypes.toList, c.args.toList with
      | [t], [x] => (match (X.ti t).ok, (X.ti t).u with | true, .slice _ => .len x | _, _ => .slow)
      | _, _ => .slow)
    | _ => .slow)
  | _ => (match qOp o.op with | true => .qui | false => .slow)
def xSlow : XF R := fun X T _ o en rm _ k => evop X T (ov X en) o (revF rm []) fun x M => revK M fun rm m => k x rm m
def xQui : XF R := fun X _ _ o en rm m k => evop X (tab0 R) (ov X en) o [] fun x _ => k x rm m
def xMov (x : Operand) : XF R := fun X _ _ _ en rm m k => k (ov X en x) rm m
def xPick (c a b : Operand) : XF R := fun X _ _ _ en rm m k => onBool (ov X en c) (fun t => iff t (k (ov X en a) rm m) (k (ov X en b) rm m)) none
def xLd1 (p : Operand) (kd : Kind) : XF R := fun X _ _ _ en rm m k =>
  onAddr (ov X en p) (fun id i off => mget rm m id fun b => onBlk b (fun ks cs => iff (Nat.beq i 0) (iff (kAt ks off kd) (nth cs off fun v => k v rm m) none) none) (fun _ xs => nth xs i fun row => nth row off fun v => k v rm m) none)
    (fun _ row off => nth row off fun v => k v rm m) none
def part (len off n : Nat) (row : Row) (k : Row → Option R) : Option R := iff (Nat.beq off 0) (iff (Nat.beq len n) (k row) (takeK n row k)) (iff (Nat.ble (Nat.add off n) len) (takeK n (dropK off row) k) none)
def xLdA (p : Operand) (n : Nat) : XF R := fun X _ _ _ en rm m k =>
  onAddr (ov X en p) (fun id i off => mget rm m id fun b => onBlk b (fun ks cs => iff (Nat.beq i 0) (part (lenF ks) off n cs fun cs => k (.agg cs) rm m) none) (fun t xs => nth xs i fun row => part (lenF (X.K t)) off n row fun cs => k (.agg cs) rm m) none)
    (fun t row off => part (lenF (X.K t)) off n row fun cs => k (.agg cs) rm m) none
def xFad (x : Operand) (f : Nat) : XF R := fun X _ _ _ en rm m k =>
  onAddr (ov X en x) (fun id i off => fN (Nat.add off f) fun off => k (.ptr id i off) rm m) (fun t row off => fN (Nat.add off f) fun off => k (.iptr t row off) rm m) none
def xBin (op : BinOp) (x y : Operand) : XF R := fun X T C o en rm m k => binK op (ov X en x) (ov X en y) (fun z => k z rm m) (match ownNil (ov X en x) (ov X en y) with | true => xSlow X T C o en rm m k | false => xQui X T C o en rm m k)
def xNot (x : Operand) : XF R := fun X _ _ _ en rm m k => onBool (ov X en x) (fun b => iff b (k (.bool false) rm m) (k (.bool true) rm m)) none
def xBox (ks : List Kind) (x : Operand) : XF R := fun X _ _ _ en rm m k =>
  onCell (ov X en x) (fun cs => iff (koksF ks cs) (fN (Nat.succ m) fun m' => k (.ptr m 0 0) (.var ks cs :: rm) m') none) (iff (koksF ks [ov X en x]) (fN (Nat.succ m) fun m' => k (.ptr m 0 0) (.var ks [ov X en x] :: rm) m') none) none
def xAlc (ks : List Kind) (z : List AV) : XF R := fun _ _ _ _ _ rm m k => fN (Nat.succ m) fun m' => k (.ptr m 0 0) (.var ks z :: rm) m'
def ovl (xs cs : List AV) (k : List AV → Option R) : Option R := List.rec (motive := fun _ => List AV → (List AV → Option R) → Option R) (fun cs k => k cs) (fun x _ ih cs k => List.rec (motive := fun _ => Option R) none (fun _ tl _ => ih tl fun r => k (x :: r)) cs) xs cs k
def putL (off : Nat) (xs cs : List AV) (k : List AV → Option R) : Option R := Nat.rec (motive := fun _ => List AV → (List AV → Option R) → Option R) (fun cs k => ovl xs cs k) (fun _ ih cs k => List.rec (motive := fun _ => Option R) none (fun a tl _ => ih tl fun r => k (a :: r)) cs) off cs k
theorem ovl_some {r : R} : ∀ {xs cs : List AV} {k : List AV → Option R}, ovl xs cs k = some r → k (xs ++ cs.drop xs.length) = some r ∧ xs.length ≤ cs.length
  | [], cs, k, h => ⟨h, Nat.zero_le _⟩
  | x :: xs, [], k, h => by cases h
  | x :: xs, c :: cs, k, h => by
    obtain ⟨h1, h2⟩ := ovl_some (xs := xs) (cs := cs) (k := fun r => k (x :: r)) h
    exact ⟨h1, by simpa using h2⟩
theorem putL_some {xs : List AV} {r : R} : ∀ {off : Nat} {cs : List AV} {k : List AV → Option R}, putL off xs cs k = some r → k (cs.take off ++ (xs ++ cs.drop (off + xs.length))) = some r ∧ off + xs.length ≤ cs.length
  | 0, cs, k, h => by
    obtain ⟨h1, h2⟩ := ovl_some (xs := xs) (cs := cs) (k := k) h
    exact ⟨by rw [List.take_zero, Nat.zero_add]; exact h1, by omega⟩
  | off + 1, [], k, h => by cases h
  | off + 1, a :: cs, k, h => by
    obtain ⟨h1, h2⟩ := putL_some (off := off) (cs := cs) (k := fun r => k (a :: r)) h
    refine ⟨?_, by simp only [List.length_cons]; omega⟩
    rw [List.take_succ_cons, show off + 1 + xs.length = (off + xs.length) + 1 by omega, List.drop_succ_cons]
    exact h1
theorem setAt_put {xs cs : List AV} {off : Nat} (h : off + xs.length ≤ cs.length) : setAt cs off xs = cs.take off ++ (xs ++ cs.drop (off + xs.length)) := by
  apply List.ext_getElem?
  intro j
  rw [setAt_get xs cs off h j]
  have hl : (cs.take off).length = off := by rw [List.length_take]; omega
  by_cases h1 : j < off
  · rw [if_neg (by omega), List.getElem?_append_left (by omega), List.getElem?_take, if_pos h1]
  · rw [List.getElem?_append_right (by omega), hl]
    by_cases h2 : j - off < xs.length
    · rw [if_pos (by omega), List.getElem?_append_left h2]
    · rw [if_neg (by omega), List.getElem?_append_right (by omega), List.getElem?_drop]
      congr 1
      omega
theorem ksAt_part {ks : List Kind} {off : Nat} {xs : List AV} (h : koks ((ks.drop off).take xs.length) xs = true) : ksAt ks off xs = true := by
  unfold ksAt
  rw [Bool.or_eq_true]
  have aux : ∀ {xs : List AV} {off : Nat}, (∀ (j : Nat) x, xs[j]? = some x → kok (ks.getD (off + j) .raw) x = true) → kset ks off xs = true := by
    intro xs
    induction xs with
    | nil => intro off _; rfl
    | cons x xs ih =>
      intro off h
      simp only [kset, Bool.and_eq_true]
      exact ⟨h 0 x rfl, ih fun j y hy => by rw [show off + 1 + j = off + (j + 1) by omega]; exact h (j + 1) y (by simpa using hy)⟩
  refine .inr (aux fun j x hx => ?_)
  have hl := koks_length h
  have hj : j < xs.length := (List.getElem?_eq_some_iff.1 hx).1
  have hjk : j < ((ks.drop off).take xs.length).length := by omega
  have hk := koks_get h (List.getElem?_eq_getElem hjk) hx
  have e : ks[off + j]? = some (((ks.drop off).take xs.length)[j]) := by
    have := List.getElem?_eq_getElem hjk
    rw [List.getElem?_take, if_pos hj, List.getElem?_drop] at this
    exact this
  rw [List.getD, e]; exact hk
def fV (x : AV) (k : AV → Option R) : Option R := AV.rec (motive_1 := fun _ => Option R) (motive_2 := fun _ => Option R) (motive_3 := fun _ => Option R) (k .top) (fun a n => k (.int a n)) (fun b => k (.bool b)) (fun s => k (.str s)) (fun cs _ => k (.agg cs)) (fun vs _ => k (.tup vs)) (k .nilp) (fun t row off _ => k (.iptr t row off)) (fun id i off => k (.ptr id i off)) (fun t xs _ => k (.list t xs)) (fun id => k (.own id)) (k .nilsl) (fun f a b _ _ => k (.clos f a b)) (k .nilfn) (fun id => k (.yld id)) (fun id => k (.mp id)) (k .nilmp) (fun id n => k (.vsl id n)) (fun id lo n => k (.vw id lo n)) (k .enl) (fun t xs _ => k (.sub t xs)) none (fun _ _ _ _ => none) none (fun _ _ _ _ => none) x
theorem fV_eq (x : AV) (k : AV → Option R) : fV x k = k x := by cases x <;> rfl
def fillQ (place : Nat → Option (Nat × Nat)) (ps : List (Nat × AV)) (cells : List AV) (k : List AV → Option R) : Option R :=
  List.rec (motive := fun _ => List AV → (List AV → Option R) → Option R) (fun cells k => k cells) (fun p _ ih cells k => Option.rec (motive := fun _ => Option R) none
    (fun q => fV p.2 fun v => onCell v (fun cs => iff (Nat.beq (lenF cs) q.2) (putL q.1 cs cells fun cells => ih cells k) none) (iff (Nat.beq q.2 1) (setK cells q.1 v fun cells => ih cells k) none) none) (place p.1)) ps cells k
theorem cells_leaf0 {x : AV} (h : x.leaf = true) : x.cells = [x] ∧ x.plain = true := by cases x <;> first | exact ⟨rfl, rfl⟩ | cases h
theorem fillQ_some {place : Nat → Option (Nat × Nat)} {r : R} : ∀ {ps : List (Nat × AV)} {cells : List AV} {k : List AV → Option R}, fillQ place ps cells k = some r → ∃ cs, fillA place cells ps = some cs ∧ k cs = some r
  | [], cells, k, h => ⟨cells, rfl, h⟩
  | (i, x) :: ps, cells, k, h => by
    have h : Option.rec (motive := fun _ => Option R) none
      (fun q => fV x fun v => onCell v (fun cs => iff (Nat.beq (lenF cs) q.2) (putL q.1 cs cells fun cells => fillQ place ps cells k) none) (iff (Nat.beq q.2 1) (setK cells q.1 v fun cells => fillQ place ps cells k) none) none) (place i) = some r := h
    cases hp : place i with
    | none => rw [hp] at h; cases h
    | some q =>
      obtain ⟨off, size⟩ := q
      rw [hp] at h
      have h : (fV x fun v => onCell v (fun cs => iff (Nat.beq (lenF cs) size) (putL off cs cells fun cells => fillQ place ps cells k) none) (iff (Nat.beq size 1) (setK cells off v fun cells => fillQ place ps cells k) none) none) = some r := h
      rw [fV_eq] at h
      simp only [fillA, hp]
      rcases onCell_some h with ⟨cs, hx, h⟩ | ⟨hl, h⟩
      · subst hx
        obtain ⟨hs, h⟩ := iff_none h
        have hs := Nat.eq_of_beq_eq_true hs
        rw [lenF_eq] at hs
        obtain ⟨h, hle⟩ := putL_some h
        obtain ⟨cs', h1, h2⟩ := fillQ_some h
        refine ⟨cs', ?_, h2⟩
        simp only [AV.plain, AV.cells, hs, beq_self_eq_true, Bool.true_and, decide_eq_true (show off + size ≤ cells.length by omega), if_true]
        rw [setAt_put hle]; exact h1
      · obtain ⟨hs, h⟩ := iff_none h
        have hs := Nat.eq_of_beq_eq_true hs
        obtain ⟨h, hle⟩ := setK_some h
        obtain ⟨cs', h1, h2⟩ := fillQ_some h
        refine ⟨cs', ?_, h2⟩
        obtain ⟨e1, e2⟩ := cells_leaf0 hl
        subst hs
        simp only [e1, e2, List.length_singleton, beq_self_eq_true, Bool.true_and, decide_eq_true (show off + 1 ≤ cells.length by omega), setAt]
        exact h1
def sxC {α : Type} (n : Nat) (l : List α) (k : List α → List α → Option R) : Option R :=
  Nat.rec (motive := fun _ => List α → (List α → List α → Option R) → Option R) (fun l k => k [] l) (fun _ ih l k => List.rec (motive := fun _ => Option R) (k [] []) (fun a tl _ => ih tl fun x y => k (a :: x) y) l) n l k
theorem sxC_eq {α : Type} : ∀ (n : Nat) (l : List α) (k : List α → List α → Option R), sxC n l k = k (l.take n) (l.drop n)
  | 0, l, k => rfl
  | n + 1, [], k => rfl
  | n + 1, a :: l, k => sxC_eq n l fun x y => k (a :: x) y
def chR (ks : List Kind) (sz n : Nat) (l : List AV) (k : List Row → Option R) : Option R :=
  Nat.rec (motive := fun _ => List AV → (List Row → Option R) → Option R) (fun _ k => k []) (fun _ ih l k => sxC sz l fun a r => iff (koksF ks a) (ih r fun rows => k (a :: rows)) none) n l k
theorem chR_some {ks : List Kind} {sz : Nat} {r : R} : ∀ {n : Nat} {l : List AV} {k : List Row → Option R}, chR ks sz n l k = some r → k (chunk sz n l) = some r ∧ ((chunk sz n l).all fun row => koks ks row) = true
  | 0, l, k, h => ⟨h, rfl⟩
  | n + 1, l, k, h => by
    have h : (sxC sz l fun a r => iff (koksF ks a) (chR ks sz n r fun rows => k (a :: rows)) none) = some r := h
    rw [sxC_eq] at h
    obtain ⟨h1, h⟩ := iff_none h
    obtain ⟨h2, h3⟩ := chR_some h
    refine ⟨h2, ?_⟩
    rw [koksF_eq] at h1
    simp only [chunk, List.all_cons, h1, h3, Bool.true_and]
def bldC (X : Cx) (e : TypeId) (len : Nat) : Bool := (X.ti e).ok && decide (0 < (X.ti e).size) && decide (len * (X.ti e).size ≤ 16777216)
def bldZ (X : Cx) (e : TypeId) (len : Nat) : List AV := (List.replicate len (zrow X e)).flatten
def bldQ (X : Cx) (t : TypeId) (len : Nat) (ps : List (Nat × AV)) (k : TypeId → List Row → Option R) : Option R :=
  match (X.ti t).ok, (X.ti t).u with
  | true, .slice e => iff (bldC X e len) (fillQ (fun i => some (i * (X.ti e).size, (X.ti e).size)) ps (bldZ X e len) fun cs => chR (X.K e) (X.ti e).size len cs fun rows => k e rows) none
  | _, _ => none
theorem bldQ_some {t : TypeId} {len : Nat} {ps : List (Nat × AV)} {k : TypeId → List Row → Option R} {r : R} (h : bldQ X t len ps k = some r) : ∃ e rows, bldF X t len ps = some (e, rows) ∧ k e rows = some r := by
  unfold bldQ at h
  split at h
  · rename_i e h1 h2
    obtain ⟨hc, h⟩ := iff_none h
    obtain ⟨cs, hf, h⟩ := fillQ_some h
    obtain ⟨h, hk⟩ := chR_some h
    refine ⟨_, _, ?_, h⟩
    unfold bldF
    unfold bldC at hc
    unfold bldZ at hf
    simp only [h1, h2, hc, hf, hk]
  · cases h
def xSto (p x : Operand) (n : Nat) : XF R := fun X T C o en rm m k =>
  onAddr (ov X en p) (fun id i off => mget rm m id fun b => onBlk b
    (fun ks cs => iff (Nat.beq i 0) (onCell (ov X en x) (fun xs => iff (Nat.beq off 0 && Nat.beq (lenF ks) n) (iff (koksF ks xs) (mputK rm m id (.var ks xs) fun rm => k (.tup []) rm m) none)
        (iff (Nat.beq (lenF xs) n && koksF ((ks.drop off).take n) xs) (putL off xs cs fun cs => mputK rm m id (.var ks cs) fun rm => k (.tup []) rm m) none))
      (iff (Nat.beq n 1) (nth ks off fun kd => iff (kokF kd (ov X en x)) (setK cs off (ov X en x) fun cs => mputK rm m id (.var ks cs) fun rm => k (.tup []) rm m) none) none) none) none)
    (fun _ _ => xSlow X T C o en rm m k) (xSlow X T C o en rm m k))
    (fun _ _ _ => none) none
def xExt (x : Operand) (i : Nat) : XF R := fun X _ _ _ en rm m k => onTup (ov X en x) (fun vs => nth vs i fun y => k y rm m) none
def xIad (x i : Operand) (e : TypeId) : XF R := fun X T C o en rm m k =>
  onInt (ov X en i) (fun _ n => Int.rec (motive := fun _ => Option R) (fun n => onSl (ov X en x) (fun t xs => iff (Nat.beq e t) (nth xs n fun row => k (.iptr t row 0) rm m) none)
    (fun id => mget rm m id fun b => onBlk b (fun _ _ => none) (fun t xs => iff (Nat.beq e t) (nth xs n fun _ => k (.ptr id n 0) rm m) none) (xSlow X T C o en rm m k)) (xSlow X T C o en rm m k)) (fun _ => none) n) none
def mapV (f : Operand → AV) (l : List Operand) (k : List AV → Option R) : Option R := List.rec (motive := fun _ => (List AV → Option R) → Option R) (fun k => k []) (fun y _ ih k => fV (f y) fun v => ih fun vs => k (v :: vs)) l k
theorem mapV_eq (f : Operand → AV) : ∀ (l : List Operand) (k : List AV → Option R), mapV f l k = k (l.map f)
  | [], _ => rfl
  | y :: l, k => by
    show fV (f y) (fun v => mapV f l fun vs => k (v :: vs)) = _
    rw [fV_eq, mapV_eq f l]; rfl
def appF {α : Type} (a b : List α) : List α := List.rec (motive := fun _ => List α) b (fun x _ ih => x :: ih) a
theorem appF_eq {α : Type} : ∀ (a b : List α), appF a b = a ++ b
  | [], b => rfl
  | x :: a, b => by show x :: appF a b = _; rw [appF_eq a b]; rfl
def xCal (f : Operand) (args : List Operand) : XF R := fun X T C o en rm m k =>
  onFn (ov X en f) (fun g a b => iff (isNe X g) (xSlow X T C o en rm m k) (mapV (ov X en) args fun vs => C g (appF a (List.rec (motive := fun _ => List AV) vs (fun _ _ _ => appF vs b) b)) rm m k)) (xSlow X T C o en rm m k)
def onLen {α : Type} (x : AV) (f : Nat → α) (g : TypeId → List Row → α) (h : Nat → α) (d : α) : α := AV.rec (motive_1 := fun _ => α) (motive_2 := fun _ => α) (motive_3 := fun _ => α) d (fun _ _ => d) (fun _ => d) (fun _ => d) (fun _ _ => d) (fun _ _ => d) d (fun _ _ _ _ => d) (fun _ _ _ => d) (fun t xs _ => g t xs) h (f 0) (fun _ _ _ _ _ => d) d (fun _ => d) (fun _ => d) d (fun _ n => f n) (fun _ _ n => f n) (f 0) (fun _ _ _ => d) d (fun _ _ _ _ => d) d (fun _ _ _ _ => d) x
theorem onLen_some {x : AV} {f : Nat → Option R} {g : TypeId → List Row → Option R} {h : Nat → Option R} {r : R} (hk : onLen x f g h none = some r) : (x = .nilsl ∨ x = .enl) ∧ f 0 = some r ∨ (∃ id n, x = .vsl id n ∧ f n = some r) ∨ (∃ id lo n, x = .vw id lo n ∧ f n = some r) ∨ (∃ t xs, x = .list t xs ∧ g t xs = some r) ∨ ∃ id, x = .own id ∧ h id = some r := by
  cases x with
  | nilsl => exact .inl ⟨.inl rfl, hk⟩
  | enl => exact .inl ⟨.inr rfl, hk⟩
  | vsl id n => exact .inr (.inl ⟨_, _, rfl, hk⟩)
  | vw id lo n => exact .inr (.inr (.inl ⟨_, _, _, rfl, hk⟩))
  | list t xs => exact .inr (.inr (.inr (.inl ⟨_, _, rfl, hk⟩)))
  | own id => exact .inr (.inr (.inr (.inr ⟨_, rfl, hk⟩)))
  | _ => cases hk
def lenK (xs : List Row) (k : Nat → Option R) : Option R := List.rec (motive := fun _ => Nat → Option R) (fun n => k n) (fun _ _ ih n => fN (Nat.succ n) ih) xs 0
theorem lenK_aux (k : Nat → Option R) : ∀ (xs : List Row) (n : Nat), (List.rec (motive := fun _ => Nat → Option R) (fun n => k n) (fun _ _ ih n => fN (Nat.succ n) ih) xs n : Option R) = k (xs.length + n)
  | [], n => by simp
  | x :: xs, n => by
    show fN (Nat.succ n) (fun n => (List.rec (motive := fun _ => Nat → Option R) (fun n => k n) (fun _ _ ih n => fN (Nat.succ n) ih) xs n : Option R)) = _
    rw [fN_eq, lenK_aux k xs, List.length_cons]
    congr 1
    omega
theorem lenK_eq (xs : List Row) (k : Nat → Option R) : lenK xs k = k xs.length := lenK_aux k xs 0
def xLen (x : Operand) : XF R := fun X _ _ _ en rm m k =>
  onLen (ov X en x) (fun n => k (.int .i64 (.ofNat n)) rm m) (fun _ xs => lenK xs fun n => k (.int .i64 (.ofNat n)) rm m)
    (fun id => mget rm m id fun b => onBlk b (fun _ _ => none) (fun _ xs => lenK xs fun n => k (.int .i64 (.ofNat n)) rm m) none) none
def xBld (t : TypeId) (n : Nat) (ps : List (Nat × Operand)) : XF R := fun X T C o en rm m k =>
  iff (impPs (ps.map fun p => (p.1, ov X en p.2))) (xSlow X T C o en rm m k)
    (bldQ X t n (ps.map fun p => (p.1, ov X en p.2)) fun e rows => fN (Nat.succ m) fun m' => k (.own m) (.row e rows :: rm) m')
def xBui (t : TypeId) (ps : List (Nat × Operand)) : XF R := fun X T C o en rm m k =>
  match (X.ti t).ok, (X.ti t).u with
  | true, .struct fs => iff (fs.all fun p => (X.ti p.2).ok) (fillQ (structPlace X fs) (ps.map fun p => (p.1, ov X en p.2)) (X.ti t).zero fun cs => k (.agg cs) rm m) none
  | _, _ => xQui X T C o en rm m k
def xi (z : XI) : XF R := XI.rec (motive := fun _ => XF R) xMov xPick xLd1 xLdA xFad xBin xNot xBox xAlc xSto xExt xIad xCal xSlow xLen xQui xBld xBui z
section
variable {o : Oper} {en : En} {rm : List Blk} {m : Nat} {k : AV → List Blk → Nat → Option R} {r : R} {T : Tab R} {C : CallT R}
def Went (X : Cx) (o : Oper) (en : En) (rm : List Blk) (k : AV → List Blk → Nat → Option R) (r : R) : Prop :=
  ∃ x rm' m', m' = rm'.length ∧ OpRuns X o (ov X en) rm.reverse x rm'.reverse ∧ k x rm' m' = some r
theorem runs_of (hX : X.Okb) {e : Operand → AV} {M M' : List Blk} {x : AV}
    (h : ∀ {w0 : World} {S : Sc} {F : Addr → Prop} {ρ : List Hd} {w : World} {ρe : Operand → Value}, Inv X w0 S F ρ M w → (∀ y, Rep X.K ρ F w (e y) (ρe y)) → evop1 X (tab0 (AV × List Blk)) e o M (fun x M => some (x, M)) = some (x, M')) : OpRuns X o e M x M' := by
  intro rd n w0 S F ρ w a next Q hI hr hk
  obtain ⟨x1, M1, hrun, he, _⟩ := evop1_sound hX (tab0_ok X _) (h hI hr)
  injection he with he
  injection he with e1 e2
  subst e1; subst e2
  exact hrun hI hr hk
theorem evop1_of {e : Operand → AV} {M : List Blk} {T : Tab R} {k : AV → List Blk → Option R} (h : isX X e o = false) : evop1 X T e o M k = evop0 X T e o M k := by unfold evop1; rw [h]
theorem slow_went (hX : X.Okb) (hT : T.CallOk X) (h : xSlow X T C o en rm m k = some r) : Went X o en rm k r := by
  unfold xSlow at h
  obtain ⟨x, M', hrun, h, _⟩ := evop_sound hX hT h
  rw [revK_eq] at h
  rw [revF_eq, List.append_nil] at hrun
  exact ⟨x, M'.reverse, M'.length, by rw [List.length_reverse], by rw [List.reverse_reverse]; exact hrun, h⟩
theorem qOp_quiet {e : Operand → AV} (hq : qOp o.op = true) : quietIds X e o = some [] := by
  unfold qOp at hq
  split at hq <;> first | exact absurd hq (by decide) | (rename_i ho; simp only [quietIds, ho])
theorem qui_went (hX : X.Okb) (hm : m = rm.length) (hq : quietIds X (ov X en) o = some []) (h : xQui X T C o en rm m k = some r) : Went X o en rm k r := by
  obtain ⟨y, h, hr⟩ := quiet_runs hX hq h
  exact ⟨y, rm, m, hm, hr rm.reverse (fun _ h => by simp at h), h⟩
theorem quiet_went (hX : X.Okb) (hm : m = rm.length) {x : AV}
    (h : ∀ {w0 : World} {S : Sc} {F : Addr → Prop} {ρ : List Hd} {w : World} {ρe : Operand → Value}, Inv X w0 S F ρ rm.reverse w → (∀ y, Rep X.K ρ F w (ov X en y) (ρe y)) → evop1 X (tab0 (AV × List Blk)) (ov X en) o rm.reverse (fun x M => some (x, M)) = some (x, rm.reverse))
    (hk : k x rm m = some r) : Went X o en rm k r := ⟨x, rm, m, hm, runs_of hX h, hk⟩
theorem mov_went (hX : X.Okb) (hm : m = rm.length) {x : Operand} (ho : o.op = .move x ∨ o.op = .assign x) (h : xMov x X T C o en rm m k = some r) : Went X o en rm k r := by
  refine quiet_went hX hm (fun _ _ => ?_) h
  rcases ho with ho | ho
  · rw [evop1_of (by simp only [isX, ho])]
    simp only [evop0, ho]
  · rw [evop1_of (by simp only [isX, ho])]
    simp only [evop0, ho]
theorem pick_went (hX : X.Okb) (hm : m = rm.length) {c a b : Operand} (ho : o.op = .pick c a b) (h : xPick c a b X T C o en rm m k = some r) : Went X o en rm k r := by
  obtain ⟨t, ht, h⟩ := onBool_some h
  rw [iff_eq] at h
  have hx : isX X (ov X en) o = false := by simp only [isX, ho]
  cases t with
  | true =>
    refine quiet_went hX hm (fun _ _ => ?_) h
    rw [evop1_of hx]; simp only [evop0, ho, ht]
  | false =>
    refine quiet_went hX hm (fun _ _ => ?_) h
    rw [evop1_of hx]; simp only [evop0, ho, ht]
theorem not_went (hX : X.Okb) (hm : m = rm.length) {t : TypeId} {x : Operand} (ho : o.op = .unOp .not t x) (h : xNot x X T C o en rm m k = some r) : Went X o en rm k r := by
  obtain ⟨b, hb, h⟩ := onBool_some h
  rw [iff_eq] at h
  have hx : isX X (ov X en) o = false := by simp only [isX, ho]
  cases b with
  | true =>
    refine quiet_went hX hm (fun _ _ => ?_) h
    rw [evop1_of hx]; simp only [evop0, ho, hb, evUn, Bool.not_true]
  | false =>
    refine quiet_went hX hm (fun _ _ => ?_) h
    rw [evop1_of hx]; simp only [evop0, ho, hb, evUn, Bool.not_false]
theorem ext_went (hX : X.Okb) (hm : m = rm.length) {x : Operand} {i : Nat} (ho : o.op = .extract x i) (h : xExt x i X T C o en rm m k = some r) : Went X o en rm k r := by
  obtain ⟨vs, hv, h⟩ := onTup_some h
  obtain ⟨y, hy, h⟩ := nth_some h
  refine quiet_went hX hm (fun _ _ => ?_) h
  rw [evop1_of (by simp only [isX, ho])]; simp only [evop0, ho, hv, hy]
theorem bin_went (hX : X.Okb) (hT : T.CallOk X) (hm : m = rm.length) {op : BinOp} {t u : TypeId} {x y : Operand} (ho : o.op = .binOp op t x y u) (h : xBin op x y X T C o en rm m k = some r) : Went X o en rm k r := by
  rcases binK_spec (X := X) (t := t) h with h | ⟨⟨ka, a, kb, b, e1, e2⟩, z, h, hs⟩
  · split at h
    · exact slow_went hX hT h
    · rename_i hn
      exact qui_went (T := T) (C := C) hX hm (by simp only [quietIds, ho, hn]) h
  · refine quiet_went hX hm (fun _ _ => ?_) h
    rw [evop1_of (by simp only [isX, ho, e1])]; simp only [evop0, ho]; rw [hs]
theorem ptr_hd {K : TypeId → List Kind} {ρ : List Hd} {F : Addr → Prop} {w : World} {id i off : Nat} {v : Value} (h : Rep K ρ F w (.ptr id i off) v) : ∃ hd, ρ[id]? = some hd := by
  cases h with | ptr _ _ _ hd g o n c h1 h2 => exact ⟨hd, h1⟩
theorem iptr_koks {K : TypeId → List Kind} {ρ : List Hd} {F : Addr → Prop} {w : World} {t : TypeId} {row : Row} {off : Nat} {v : Value} (h : Rep K ρ F w (.iptr t row off) v) : koks (K t) row = true := by
  cases h with | iptr _ _ _ a vs hk _ _ _ => exact hk
theorem ld_cell {ks : List Kind} {row : Row} (h : koks ks row = true) {off : Nat} {v : AV} (hv : row[off]? = some v) : off < ks.length ∧ ∀ (kd : Kind), ks[off]? = some kd → ld kd (row.getD off .top) = v := by
  have hl := koks_length h
  have hlt : off < row.length := (List.getElem?_eq_some_iff.1 hv).1
  refine ⟨by omega, fun kd hk => ?_⟩
  rw [List.getD, hv, Option.getD_some]
  exact ld_of_kok (koks_get h hk hv)
theorem kHom_get {ks : List Kind} {off : Nat} (h : off < ks.length) : ks[off]? = some (kHom ks off) := by rw [kHom_eq h, List.getElem?_eq_getElem h]
theorem ld1_went (hX : X.Okb) (hm : m = rm.length) {t : TypeId} {p : Operand} (ho : o.op = .load t p) (h1 : (X.ti t).ok = true) (h2 : (X.ti t).u.agg = false) (h3 : Nat.beq (X.ti t).size 1 = true) (h : xLd1 p ((X.ti t).ks.headD .raw).v X T C o en rm m k = some r) : Went X o en rm k r := by
  have hs := Nat.eq_of_beq_eq_true h3
  have hx : isX X (ov X en) o = false := by simp only [isX, ho]
  rcases onAddr_some h with ⟨id, i, off, hp, h⟩ | ⟨t', row, off, hp, h⟩ | h
  · obtain ⟨b, hb, h, hid⟩ := mget_some hm h
    rcases onBlk_some h with ⟨ks, cs, rfl, h⟩ | ⟨t', xs, rfl, h⟩ | h
    · obtain ⟨hi, h⟩ := iff_none h
      obtain ⟨hka, h⟩ := iff_none h
      obtain ⟨v, hv, h⟩ := nth_some h
      refine quiet_went hX hm (fun {w0 S F ρ w ρe} hI hr => ?_) h
      have hpr := hr p
      rw [hp] at hpr
      obtain ⟨hd, hhd⟩ := ptr_hd hpr
      have hbr : BRep X ρ F w hd (.var ks cs) := hI.rep id _ hd hb hhd
      obtain ⟨hl, hld⟩ := ld_cell hbr.1 hv
      rw [evop1_of hx]
      have hb' : rm.reverse[id]? = some (.var ks cs) := hb
      simp only [evop0, ho, evLoad, hp, gm_eq, hb', h1, h2, hs, hi, Nat.eq_of_beq_eq_true hi, beq_self_eq_true, hka, tst, Bool.true_and, Bool.and_true, decide_eq_true (show off + 1 ≤ ks.length from hl)]
      rw [hld _ (kAt_get hka hl)]
    · obtain ⟨row, hrow, h⟩ := nth_some h
      obtain ⟨v, hv, h⟩ := nth_some h
      refine quiet_went hX hm (fun {w0 S F ρ w ρe} hI hr => ?_) h
      have hpr := hr p
      rw [hp] at hpr
      obtain ⟨hd, hhd⟩ := ptr_hd hpr
      have hbr : BRep X ρ F w hd (.row t' xs) := hI.rep id _ hd hb hhd
      obtain ⟨hl, hld⟩ := ld_cell (hbr.2.1 i row hrow) hv
      rw [evop1_of hx]
      have hb' : rm.reverse[id]? = some (.row t' xs) := hb
      have hil : i < xs.length := (List.getElem?_eq_some_iff.1 hrow).1
      have hg : xs.getD i [] = row := by rw [List.getD, hrow]; rfl
      simp only [evop0, ho, evLoad, hp, gm_eq, hb', h1, h2, hs, hg, beq_self_eq_true, tst, Bool.true_and, Bool.and_true, decide_eq_true (show off + 1 ≤ (X.K t').length from hl), decide_eq_true hil]
      rw [hld ((X.K t').getD off .raw) (by rw [List.getD, List.getElem?_eq_getElem hl]; rfl)]
    · cases h
  · obtain ⟨v, hv, h⟩ := nth_some h
    refine quiet_went hX hm (fun {w0 S F ρ w ρe} hI hr => ?_) h
    have hpr := hr p
    rw [hp] at hpr
    have hk := iptr_koks hpr
    obtain ⟨hl, hld⟩ := ld_cell hk hv
    rw [evop1_of hx]
    simp only [evop0, ho, evLoad, hp, h1, h2, hs, beq_self_eq_true, tst, Bool.true_and, decide_eq_true (show off + 1 ≤ (X.K t').length from hl)]
    rw [hld _ (kHom_get hl)]
  · cases h
theorem part_some {ks : List Kind} {row : Row} (hk : koks ks row = true) {off n : Nat} {f : Row → Option R} (h : part (lenF ks) off n row f = some r) : off + n ≤ ks.length ∧ f (ldn ks row off n) = some r := by
  have hl := koks_length hk
  have key : ∀ {o' : Nat}, o' + n ≤ ks.length → f ((row.drop o').take n) = some r → f (ldn ks row o' n) = some r := by
    intro o' hb h
    rw [ldn_eq hk n o' hb]; exact h
  unfold part at h
  rw [iff_eq] at h
  split at h
  · rename_i ho
    have ho := Nat.eq_of_beq_eq_true ho
    subst ho
    rw [iff_eq] at h
    split at h
    · rename_i hn
      have hn := Nat.eq_of_beq_eq_true hn
      rw [lenF_eq] at hn
      subst hn
      refine ⟨by omega, key (by omega) ?_⟩
      rw [List.drop_zero, List.take_of_length_le (by omega)]
      exact h
    · obtain ⟨h, hn⟩ := takeK_some h
      exact ⟨by omega, key (by omega) (by rw [List.drop_zero]; exact h)⟩
  · obtain ⟨hb, h⟩ := iff_none h
    have hb : off + n ≤ ks.length := by have := Nat.le_of_ble_eq_true hb; rwa [lenF_eq] at this
    rw [dropK_eq] at h
    exact ⟨hb, key hb (takeK_some h).1⟩
theorem part_any {len off n : Nat} {row : Row} {f : Row → Option R} (h : part len off n row f = some r) : ∃ y, f y = some r := by
  unfold part at h
  rw [iff_eq] at h
  split at h
  · rw [iff_eq] at h
    split at h
    · exact ⟨_, h⟩
    · exact ⟨_, (takeK_some h).1⟩
  · exact ⟨_, (takeK_some (iff_none h).2).1⟩
theorem cells_leaf {x : AV} (h : x.leaf = true) : x.cells = [x] := by cases x <;> first | rfl | cases h
theorem plain_leaf {x : AV} (h : x.leaf = true) : x.plain = true := by cases x <;> first | rfl | cases h
theorem ldA_went (hX : X.Okb) (hm : m = rm.length) {t : TypeId} {p : Operand} (ho : o.op = .load t p) (h1 : (X.ti t).ok = true) (h2 : (X.ti t).u.agg = true) (h : xLdA p (X.ti t).size X T C o en rm m k = some r) : Went X o en rm k r := by
  have hx : isX X (ov X en) o = false := by simp only [isX, ho]
  rcases onAddr_some h with ⟨id, i, off, hp, h⟩ | ⟨t', row, off, hp, h⟩ | h
  · obtain ⟨b, hb, h, hid⟩ := mget_some hm h
    rcases onBlk_some h with ⟨ks, cs, rfl, h⟩ | ⟨t', xs, rfl, h⟩ | h
    · obtain ⟨hi, h⟩ := iff_none h
      by_cases hkk : koks ks cs = true
      · obtain ⟨hle, h⟩ := part_some hkk h
        refine quiet_went hX hm (fun {w0 S F ρ w ρe} hI hr => ?_) h
        rw [evop1_of hx]
        have hb' : rm.reverse[id]? = some (.var ks cs) := hb
        simp only [evop0, ho, evLoad, hp, gm_eq, hb', h1, h2, hi, Nat.eq_of_beq_eq_true hi, beq_self_eq_true, tst, Bool.true_and, Bool.and_true, decide_eq_true hle]
      · have hno : ∀ {k' : Row → Option R}, part (lenF ks) off (X.ti t).size cs k' = some r → ∃ y, k' y = some r := fun h => part_any h
        obtain ⟨y, h⟩ := hno h
        refine quiet_went hX hm (fun {w0 S F ρ w ρe} hI hr => ?_) h
        have hpr := hr p
        rw [hp] at hpr
        obtain ⟨hd, hhd⟩ := ptr_hd hpr
        have hbr : BRep X ρ F w hd (.var ks cs) := hI.rep id _ hd hb hhd
        exact absurd hbr.1 hkk
    · obtain ⟨row, hrow, h⟩ := nth_some h
      by_cases hkk : koks (X.K t') row = true
      · obtain ⟨hle, h⟩ := part_some hkk h
        refine quiet_went hX hm (fun {w0 S F ρ w ρe} hI hr => ?_) h
        rw [evop1_of hx]
        have hb' : rm.reverse[id]? = some (.row t' xs) := hb
        have hil : i < xs.length := (List.getElem?_eq_some_iff.1 hrow).1
        have hg : xs.getD i [] = row := by rw [List.getD, hrow]; rfl
        simp only [evop0, ho, evLoad, hp, gm_eq, hb', h1, h2, hg, tst, Bool.true_and, Bool.and_true, decide_eq_true hle, decide_eq_true hil]
      · obtain ⟨y, h⟩ := part_any h
        refine quiet_went hX hm (fun {w0 S F ρ w ρe} hI hr => ?_) h
        have hpr := hr p
        rw [hp] at hpr
        obtain ⟨hd, hhd⟩ := ptr_hd hpr
        have hbr : BRep X ρ F w hd (.row t' xs) := hI.rep id _ hd hb hhd
        exact absurd (hbr.2.1 i row hrow) hkk
    · cases h
  · by_cases hkk : koks (X.K t') row = true
    · obtain ⟨hle, h⟩ := part_some hkk h
      refine quiet_went hX hm (fun {w0 S F ρ w ρe} hI hr => ?_) h
      rw [evop1_of hx]
      simp only [evop0, ho, evLoad, hp, h1, h2, tst, Bool.true_and, decide_eq_true hle]
    · obtain ⟨y, h⟩ := part_any h
      refine quiet_went hX hm (fun {w0 S F ρ w ρe} hI hr => ?_) h
      have hpr := hr p
      rw [hp] at hpr
      exact absurd (iptr_koks hpr) hkk
  · cases h
theorem fad_went (hX : X.Okb) (hm : m = rm.length) {t : TypeId} {x : Operand} {f : Nat} {fs : List (Nat × TypeId)} {q : Nat × TypeId} (ho : o.op = .fieldAddr t x f) (h1 : (X.ti t).ok = true) (h2 : (X.ti t).u = .struct fs) (h3 : fs[f]? = some q) (h4 : ((X.ti q.2).ok && !((X.ti q.2).size == 0)) = true) (h : xFad x q.1 X T C o en rm m k = some r) : Went X o en rm k r := by
  have hx : isX X (ov X en) o = false := by simp only [isX, ho]
  obtain ⟨off0, ft⟩ := q
  rcases onAddr_some h with ⟨id, i, off, hp, h⟩ | ⟨t', row, off, hp, h⟩ | h
  · rw [fN_eq] at h
    refine quiet_went hX hm (fun {w0 S F ρ w ρe} hI hr => ?_) h
    rw [evop1_of hx]
    simp only [evop0, ho, evFieldAddr, hp, h1, h2, h3, h4, tst]
    rfl
  · rw [fN_eq] at h
    refine quiet_went hX hm (fun {w0 S F ρ w ρe} hI hr => ?_) h
    rw [evop1_of hx]
    simp only [evop0, ho, evFieldAddr, hp, h1, h2, h3, h4, tst]
    rfl
  · cases h
theorem push_went (hX : X.Okb) (hm : m = rm.length) {b : Blk}
    (h : ∀ {w0 : World} {S : Sc} {F : Addr → Prop} {ρ : List Hd} {w : World} {ρe : Operand → Value}, Inv X w0 S F ρ rm.reverse w → (∀ y, Rep X.K ρ F w (ov X en y) (ρe y)) → evop1 X (tab0 (AV × List Blk)) (ov X en) o rm.reverse (fun x M => some (x, M)) = some (.ptr m 0 0, rm.reverse ++ [b]))
    (hk : (fN (Nat.succ m) fun m' => k (.ptr m 0 0) (b :: rm) m') = some r) : Went X o en rm k r := by
  rw [fN_eq] at hk
  exact ⟨_, _, _, by rw [List.length_cons, ← hm], by rw [List.reverse_cons]; exact runs_of hX h, hk⟩
theorem box_went (hX : X.Okb) (hm : m = rm.length) {t : TypeId} {x : Operand} (ho : o.op = .box t x) (h1 : X.tyB (vks X t) t = true) (h : xBox (vks X t) x X T C o en rm m k = some r) : Went X o en rm k r := by
  have hx : isX X (ov X en) o = false := by simp only [isX, ho]
  rcases onCell_some h with ⟨cs, hv, h⟩ | ⟨hl, h⟩
  · obtain ⟨hk, h⟩ := iff_none h
    rw [koksF_eq] at hk
    refine push_went hX hm (fun {w0 S F ρ w ρe} hI hr => ?_) h
    rw [evop1_of hx]
    simp only [evop0, ho, evBox, hv, AV.plain, AV.cells, h1, hk, tst, Bool.true_and, List.length_reverse, hm]
  · obtain ⟨hk, h⟩ := iff_none h
    rw [koksF_eq] at hk
    refine push_went hX hm (fun {w0 S F ρ w ρe} hI hr => ?_) h
    rw [evop1_of hx]
    have hc : (ov X en x).cells = [ov X en x] := cells_leaf hl
    have hp : (ov X en x).plain = true := plain_leaf hl
    simp only [evop0, ho, evBox, hc, hp, h1, hk, tst, Bool.true_and, List.length_reverse, hm]
theorem alc_went (hX : X.Okb) (hm : m = rm.length) {t : TypeId} (ho : o.op = .alloc t) (h1 : (((X.ti t).ok && X.tyB (vks X t) t) && koks (vks X t) (X.ti t).zero) = true) (h : xAlc (vks X t) (X.ti t).zero X T C o en rm m k = some r) : Went X o en rm k r := by
  refine push_went hX hm (fun {w0 S F ρ w ρe} hI hr => ?_) h
  rw [evop1_of (by simp only [isX, ho])]
  simp only [evop0, ho, evAlloc, h1, tst, List.length_reverse, hm]
theorem setAt_all : ∀ (xs cs : List AV), xs.length = cs.length → setAt cs 0 xs = xs := by
  intro xs cs h
  apply List.ext_getElem?
  intro j
  rw [setAt_get xs cs 0 (by omega) j]
  by_cases hj : j < xs.length
  · rw [if_pos ⟨Nat.zero_le _, by omega⟩, Nat.sub_zero]
  · rw [if_neg (by omega), List.getElem?_eq_none (by omega), List.getElem?_eq_none (by omega)]
theorem kset_of : ∀ {xs : List AV} {ks : List Kind} {off : Nat}, (∀ (j : Nat) x, xs[j]? = some x → kok (ks.getD (off + j) .raw) x = true) → kset ks off xs = true
  | [], _, _, _ => rfl
  | x :: xs, ks, off, h => by
    simp only [kset, Bool.and_eq_true]
    exact ⟨h 0 x rfl, kset_of fun j y hy => by rw [show off + 1 + j = off + (j + 1) by omega]; exact h (j + 1) y (by simpa using hy)⟩
theorem ksAt_koks {ks : List Kind} {xs : List AV} (h : koks ks xs = true) : ksAt ks 0 xs = true := by
  unfold ksAt
  rw [Bool.or_eq_true]
  refine .inr (kset_of fun j x hx => ?_)
  have hl := koks_length h
  have hj : j < ks.length := by have := (List.getElem?_eq_some_iff.1 hx).1; omega
  rw [Nat.zero_add, List.getD, List.getElem?_eq_getElem hj]
  exact koks_get h (List.getElem?_eq_getElem hj) hx
theorem ksAt_one {ks : List Kind} {off : Nat} {kd : Kind} {x : AV} (hk : ks[off]? = some kd) (h : kok kd x = true) : ksAt ks off [x] = true := by
  unfold ksAt
  rw [Bool.or_eq_true]
  refine .inr (kset_of fun j y hy => ?_)
  cases j with
  | zero =>
    simp only [List.getElem?_cons_zero, Option.some.injEq] at hy
    subst hy
    rw [Nat.add_zero, List.getD, hk]; exact h
  | succ j => simp at hy
theorem put_went (hX : X.Okb) (hm : m = rm.length) {id : Nat} (hid : id < m) {b : Blk}
    (h : ∀ {w0 : World} {S : Sc} {F : Addr → Prop} {ρ : List Hd} {w : World} {ρe : Operand → Value}, Inv X w0 S F ρ rm.reverse w → (∀ y, Rep X.K ρ F w (ov X en y) (ρe y)) → evop1 X (tab0 (AV × List Blk)) (ov X en) o rm.reverse (fun x M => some (x, M)) = some (.tup [], rm.reverse.set id b))
    (hk : (mputK rm m id b fun rm => k (.tup []) rm m) = some r) : Went X o en rm k r := by
  obtain ⟨rm', hk, hl, hr⟩ := mputK_some hm hid hk
  exact ⟨_, rm', m, hl.symm, by rw [hr]; exact runs_of hX h, hk⟩
theorem sto_went (hX : X.Okb) (hT : T.CallOk X) (hm : m = rm.length) {t : TypeId} {p x : Operand} (ho : o.op = .store t p x) (h1 : (X.ti t).ok = true) (h : xSto p x (X.ti t).size X T C o en rm m k = some r) : Went X o en rm k r := by
  have hx : isX X (ov X en) o = false := by simp only [isX, ho]
  rcases onAddr_some h with ⟨id, i, off, hp, h⟩ | ⟨t', row, off, hp, h⟩ | h
  · obtain ⟨b, hb, h, hid⟩ := mget_some hm h
    have hb0 := hb
    rcases onBlk_some h with ⟨ks, cs, rfl, h⟩ | ⟨t', xs, _, h⟩ | h
    · obtain ⟨hi, h⟩ := iff_none h
      rcases onCell_some h with ⟨xs, hv, h⟩ | ⟨hl, h⟩
      · rw [iff_eq] at h
        split at h
        · rename_i hc
          rw [Bool.and_eq_true] at hc
          have hoff := Nat.eq_of_beq_eq_true hc.1
          have hn := Nat.eq_of_beq_eq_true hc.2
          rw [lenF_eq] at hn
          obtain ⟨hk, h⟩ := iff_none h
          rw [koksF_eq] at hk
          refine put_went hX hm hid (fun {w0 S F ρ w ρe} hI hr => ?_) h
          have hpr := hr p
          rw [hp] at hpr
          obtain ⟨hd, hhd⟩ := ptr_hd hpr
          have hbr : BRep X ρ F w hd (.var ks cs) := hI.rep id _ hd hb hhd
          have hcl := koks_length hbr.1
          have hxl := koks_length hk
          rw [evop1_of hx]
          have hset : setAt cs 0 xs = xs := setAt_all xs cs (by omega)
          subst hoff
          simp only [evop0, ho, evStore, hp, hv, gm_eq, hb0, AV.plain, AV.cells, h1, hi, Nat.eq_of_beq_eq_true hi, hxl, hn, beq_self_eq_true, ksAt_koks hk, hset, tst, Bool.true_and, Nat.zero_add, Nat.le_refl, decide_true]
        · obtain ⟨hc, h⟩ := iff_none h
          rw [Bool.and_eq_true] at hc
          have hxn := Nat.eq_of_beq_eq_true hc.1
          rw [lenF_eq] at hxn
          have hkk := hc.2
          rw [koksF_eq, ← hxn] at hkk
          obtain ⟨h, hle⟩ := putL_some h
          refine put_went hX hm hid (fun {w0 S F ρ w ρe} hI hr => ?_) h
          have hpr := hr p
          rw [hp] at hpr
          obtain ⟨hd, hhd⟩ := ptr_hd hpr
          have hbr : BRep X ρ F w hd (.var ks cs) := hI.rep id _ hd hb hhd
          have hcl := koks_length hbr.1
          rw [evop1_of hx]
          simp only [evop0, ho, evStore, hp, hv, gm_eq, hb0, AV.plain, AV.cells, h1, hi, Nat.eq_of_beq_eq_true hi, ← hxn, beq_self_eq_true, ksAt_part hkk, setAt_put hle, tst, Bool.true_and, Bool.and_true, decide_eq_true (show off + xs.length ≤ ks.length by omega)]
      · obtain ⟨hn, h⟩ := iff_none h
        obtain ⟨kd, hkd, h⟩ := nth_some h
        obtain ⟨hk, h⟩ := iff_none h
        rw [kokF_eq] at hk
        obtain ⟨h, hlt⟩ := setK_some h
        refine put_went hX hm hid (fun {w0 S F ρ w ρe} hI hr => ?_) h
        rw [evop1_of hx]
        have hc : (ov X en x).cells = [ov X en x] := cells_leaf hl
        have hpl : (ov X en x).plain = true := plain_leaf hl
        have hol : off < ks.length := (List.getElem?_eq_some_iff.1 hkd).1
        simp only [evop0, ho, evStore, hp, gm_eq, hb0, hc, hpl, h1, hi, Nat.eq_of_beq_eq_true hi, List.length_singleton, Nat.eq_of_beq_eq_true hn, beq_self_eq_true, ksAt_one hkd hk, setAt, tst, Bool.true_and, Bool.and_true, decide_eq_true (show off + 1 ≤ ks.length from hol)]
    · exact slow_went hX hT h
    · exact slow_went hX hT h
  · cases h
  · cases h
theorem iad_went (hX : X.Okb) (hT : T.CallOk X) (hm : m = rm.length) {t e : TypeId} {x i : Operand} (ho : o.op = .indexAddr t x i) (h1 : (X.ti t).ok = true) (h2 : (X.ti t).u = .slice e) (h3 : (X.ti e).ok = true) (h : xIad x i e X T C o en rm m k = some r) : Went X o en rm k r := by
  have hx : isX X (ov X en) o = false := by simp only [isX, ho]
  rcases onInt_some h with ⟨ki, n, hi, h⟩ | h
  · cases n with
    | negSucc n => cases h
    | ofNat n =>
      have bnd : ∀ {xs : List Row} {row : Row}, xs[n]? = some row → (decide ((0 : Int) ≤ Int.ofNat n) && decide (Int.ofNat n < (xs.length : Int))) = true := by
        intro xs row hr
        have hlt : n < xs.length := (List.getElem?_eq_some_iff.1 hr).1
        rw [Bool.and_eq_true]
        exact ⟨decide_eq_true (Int.natCast_nonneg n), decide_eq_true (Int.ofNat_lt.2 hlt)⟩
      rcases onSl_some h with ⟨t', xs, hv, h⟩ | ⟨id, hv, h⟩ | h
      · obtain ⟨ht, h⟩ := iff_none h
        have ht := Nat.eq_of_beq_eq_true ht
        subst ht
        obtain ⟨row, hrow, h⟩ := nth_some h
        refine quiet_went hX hm (fun {w0 S F ρ w ρe} hI hr => ?_) h
        rw [evop1_of hx]
        have hg : xs.getD n [] = row := by rw [List.getD, hrow]; rfl
        simp only [evop0, ho, evIndexAddr, hi, hv, h1, h2, h3, bnd hrow, beq_self_eq_true, tst, Bool.true_and]
        show some (AV.iptr e (xs.getD n []) 0, rm.reverse) = _
        rw [hg]
      · obtain ⟨b, hb, h, hid⟩ := mget_some hm h
        have hb0 := hb
        rcases onBlk_some h with ⟨ks, cs, rfl, h⟩ | ⟨t', xs, rfl, h⟩ | h
        · cases h
        · obtain ⟨ht, h9⟩ := iff_none h
          have ht := Nat.eq_of_beq_eq_true ht
          subst ht
          obtain ⟨row, hrow, h8⟩ := nth_some h9
          refine quiet_went hX hm (fun {w0 S F ρ w ρe} hI hr => ?_) h8
          rw [evop1_of hx]
          simp only [evop0, ho, evIndexAddr, hi, hv, gm_eq, hb0, h1, h2, h3, bnd hrow, beq_self_eq_true, tst, Bool.true_and]
          rfl
        · exact slow_went hX hT h
      · exact slow_went hX hT h
  · cases h
open Classical in
def tabC (g : FuncId) (args : List AV) (M : List Blk) (x : AV) (M' : List Blk) : Tab (AV × List Blk) :=
  ⟨⟨0, 0⟩, fun _ _ _ => none, fun g' args' M0 k => if g' = g ∧ args' = args ∧ M0 = M then k x M' else none, fun _ _ _ _ => none⟩
theorem tabC_ok {g : FuncId} {args : List AV} {M : List Blk} {x : AV} {M' : List Blk} (h : ACalls X g args M x M') : (tabC g args M x M').CallOk X := by
  refine ⟨fun {f bs M0 k r} hk => ?_, fun {id bs M0 k r} hk => by cases hk⟩
  simp only [tabC] at hk
  split at hk
  · rename_i he
    obtain ⟨rfl, rfl, rfl⟩ := he
    exact ⟨x, M', h, hk, fun ids hi => by cases hi⟩
  · cases hk
theorem runs_call (hX : X.Okb) {e : Operand → AV} {c : Call} {f : Operand} {g : FuncId} {a b : List AV} {M M' : List Blk} {x : AV} (ho : o.op = .call c) (hc : c.callee = .value f) (hf : e f = .clos g a b) (hne : isNe X g = false)
    (h : ACalls X g (a ++ c.args.toList.map e ++ b) M x M') : OpRuns X o e M x M' := by
  have hx : isX X e o = false := by
    simp only [isX, ho, hc, hf]
    cases a with
    | nil => cases b with
      | nil => exact hne
      | cons _ _ => rfl
    | cons _ _ => rfl
  have he : evop1 X (tabC g (a ++ c.args.toList.map e ++ b) M x M') e o M (fun x M => some (x, M)) = some (x, M') := by
    rw [evop1_of hx]
    simp only [evop0, ho, hc, hf, tabC]
    rw [if_pos ⟨trivial, trivial, trivial⟩]
  obtain ⟨x1, M1, hrun, h1, _⟩ := evop1_sound hX (tabC_ok h) he
  injection h1 with h1
  injection h1 with e1 e2
  subst e1; subst e2
  exact @hrun
theorem cal_went (hX : X.Okb) (hT : T.CallOk X) (hC : CallsOk X C) (hm : m = rm.length) {c : Call} {f : Operand} (ho : o.op = .call c) (hc : c.callee = .value f) (h : xCal f c.args.toList X T C o en rm m k = some r) : Went X o en rm k r := by
  rcases onFn_some h with ⟨g, a, b, hf, h⟩ | h
  · rw [iff_eq] at h
    split at h
    · exact slow_went hX hT h
    · rename_i hne
      rw [mapV_eq, appF_eq] at h
      obtain ⟨x, rm', m', hA, hm', h⟩ := hC hm h
      refine ⟨x, rm', m', hm', runs_call hX ho hc hf hne ?_, h⟩
      have e : a ++ List.map (ov X en) c.args.toList ++ b = a ++ (List.rec (motive := fun _ => List AV) (List.map (ov X en) c.args.toList) (fun _ _ _ => appF (List.map (ov X en) c.args.toList) b) b : List AV) := by
        cases b with
        | nil => simp
        | cons y b => show _ = a ++ appF _ _; rw [appF_eq, List.append_assoc]
      rw [e]; exact hA
  · exact slow_went hX hT h
theorem len_went (hX : X.Okb) (hm : m = rm.length) {c : Call} {t e : TypeId} {x : Operand} (ho : o.op = .call c) (hc : c.callee = .builtin .len) (ht : c.argTypes.toList = [t]) (hx : c.args.toList = [x]) (h1 : (X.ti t).ok = true) (h2 : (X.ti t).u = .slice e) (h : xLen x X T C o en rm m k = some r) : Went X o en rm k r := by
  have hi : isX X (ov X en) o = false := by simp only [isX, ho, hc]
  have spec : ∀ {y : AV}, (evLen X t (ov X en x) rm.reverse fun y => some (y, rm.reverse)) = some (y, rm.reverse) → evop1 X (tab0 (AV × List Blk)) (ov X en) o rm.reverse (fun x M => some (x, M)) = some (y, rm.reverse) := by
    intro y hy
    rw [evop1_of hi]
    simp only [evop0, ho, hc, ht, hx]
    exact hy
  rcases onLen_some h with ⟨hv, h⟩ | ⟨id, n, hv, h⟩ | ⟨id, lo, n, hv, h⟩ | ⟨t', xs, hv, h⟩ | ⟨id, hv, h⟩
  · refine quiet_went hX hm (fun _ _ => spec ?_) h
    rcases hv with hv | hv <;> simp only [evLen, h1, h2, hv, rowsOf] <;> rfl
  · refine quiet_went hX hm (fun _ _ => spec ?_) h
    simp only [evLen, h1, h2, hv]; rfl
  · refine quiet_went hX hm (fun _ _ => spec ?_) h
    simp only [evLen, h1, h2, hv]; rfl
  · rw [lenK_eq] at h
    refine quiet_went hX hm (fun _ _ => spec ?_) h
    simp only [evLen, h1, h2, hv, rowsOf]; rfl
  · obtain ⟨b, hb, h, hid⟩ := mget_some hm h
    have hb0 := hb
    rcases onBlk_some h with ⟨ks, cs, _, h4⟩ | ⟨t', xs, hbe, h4⟩ | h4
    · cases h4
    · subst hbe
      rw [lenK_eq] at h4
      refine quiet_went hX hm (fun _ _ => spec ?_) h4
      simp only [evLen, h1, h2, hv, rowsOf, gm_eq, hb0]; rfl
    · cases h4
theorem bld_runs (hX : X.Okb) {e : Operand → AV} {M : List Blk} {t : TypeId} {n : Nat} {ps : Array (Nat × Operand)} (ho : o.op = .buildSlice t n ps) {el : TypeId} {rows : List Row} (hb : bldF X t n (ps.toList.map fun p => (p.1, e p.2)) = some (el, rows)) : OpRuns X o e M (.own M.length) (M ++ [.row el rows]) := by
  refine OpRuns.of_does (s := fun ρe => Instr.buildSlice t n (ps.map fun (i, x) => (i, ρe x))) (by simp [ho]) (fun ρe => by simp [execOp, ho]) (fun {w0 S F ρ w ρe} hI hr => ?_)
  obtain ⟨us, hrun, hlen, hrep⟩ := bldF_run hX hb (w := w) hI.one (ps.toList.map fun p => (p.1, ρe p.2)) (by simp) (fun j p q hp hq => by
    rw [List.getElem?_map] at hp hq
    cases hj : ps.toList[j]? with
    | none => rw [hj] at hp; cases hp
    | some z =>
      rw [hj] at hp hq
      simp only [Option.map_some, Option.some.injEq] at hp hq
      subst hp; subst hq
      exact ⟨rfl, hr z.2⟩)
  have e1 : (ps.map fun (i, x) => (i, ρe x)) = (ps.toList.map fun p => (p.1, ρe p.2)).toArray := by apply Array.ext'; simp
  have hg := World.grownBy_alloc w (.cells us el (0, 0)) none
  refine ⟨_, _, ρ ++ [⟨.slice (some ⟨w.heap.size, 0, none⟩) n n, (X.K el).length⟩], F, by rw [e1]; exact hrun, hI.push hg (fun g hgb => ?_) rfl (hrep.mono (fun id hd h => getElem?_append_old h) (fun _ h => h) (fun _ _ _ h => h) (fun _ _ => rfl)), ⟨fun _ h => h, fun id hd h => getElem?_append_old h, hI.blks hg (by simp)⟩, .own _ ⟨.slice (some ⟨w.heap.size, 0, none⟩) n n, (X.K el).length⟩ (by rw [← hI.len]; simp)⟩
  simp only [Hd.blk?, Value.blk?, Option.some.injEq] at hgb
  subst hgb
  exact ⟨Nat.le_refl _, by simp⟩
theorem bld_went (hX : X.Okb) (hT : T.CallOk X) (hm : m = rm.length) {t : TypeId} {n : Nat} {ps : Array (Nat × Operand)} (ho : o.op = .buildSlice t n ps) (h : xBld t n ps.toList X T C o en rm m k = some r) : Went X o en rm k r := by
  unfold xBld at h
  rw [iff_eq] at h
  split at h
  · exact slow_went hX hT h
  · obtain ⟨e, rows, hb, h⟩ := bldQ_some h
    rw [fN_eq] at h
    refine ⟨_, _, _, by rw [List.length_cons, ← hm], ?_, h⟩
    rw [List.reverse_cons]
    have h2 : OpRuns X o (ov X en) rm.reverse (.own rm.reverse.length) (rm.reverse ++ [.row e rows]) := bld_runs (M := rm.reverse) hX ho hb
    rw [List.length_reverse, ← hm] at h2
    exact @h2
theorem bui_went (hX : X.Okb) (hm : m = rm.length) {t : TypeId} {ps : Array (Nat × Operand)} (ho : o.op = .build t ps) (h : xBui t ps.toList X T C o en rm m k = some r) : Went X o en rm k r := by
  unfold xBui at h
  split at h
  · rename_i fs h1 h2
    obtain ⟨hc, h⟩ := iff_none h
    obtain ⟨cs, hf, h⟩ := fillQ_some h
    refine quiet_went hX hm (fun _ _ => ?_) h
    rw [evop1_of (by simp only [isX, ho])]
    simp only [evop0, ho, evBuild, h1, h2, hc, hf, tst]
  · exact qui_went (T := T) (C := C) hX hm (by simp only [quietIds, ho]) h
theorem xi_went (hX : X.Okb) (hT : T.CallOk X) (hC : CallsOk X C) (hm : m = rm.length) (h : xi (opc X o) X T C o en rm m k = some r) : Went X o en rm k r := by
  unfold opc at h
  split at h
  · rename_i x ho; exact mov_went (T := T) (C := C) hX hm (.inl ho) h
  · rename_i x ho; exact mov_went (T := T) (C := C) hX hm (.inr ho) h
  · rename_i c a b ho; exact pick_went (T := T) (C := C) hX hm ho h
  · rename_i t p ho
    split at h
    · rename_i h1 h2; exact ldA_went (T := T) (C := C) hX hm ho h1 h2 h
    · rename_i h1 h2 h3; exact ld1_went (T := T) (C := C) hX hm ho h1 h2 h3 h
    · exact slow_went (C := C) (m := m) hX hT h
  · rename_i t x f ho
    split at h
    · rename_i fs h1 h2
      split at h
      · rename_i q hq
        split at h
        · rename_i h4; exact fad_went (T := T) (C := C) hX hm ho h1 h2 hq h4 h
        · exact slow_went (C := C) (m := m) hX hT h
      · exact slow_went (C := C) (m := m) hX hT h
    · exact slow_went (C := C) (m := m) hX hT h
  · rename_i op t x y u ho; exact bin_went (T := T) (C := C) hX hT hm ho h
  · rename_i t x ho; exact not_went (T := T) (C := C) hX hm ho h
  · rename_i t x ho
    split at h
    · rename_i h1; exact box_went (T := T) (C := C) hX hm ho h1 h
    · exact slow_went (C := C) (m := m) hX hT h
  · rename_i t ho
    split at h
    · rename_i h1; exact alc_went (T := T) (C := C) hX hm ho h1 h
    · exact slow_went (C := C) (m := m) hX hT h
  · rename_i t p x ho
    split at h
    · rename_i h1; exact sto_went (C := C) hX hT hm ho h1 h
    · exact slow_went (C := C) (m := m) hX hT h
  · rename_i x i ho; exact ext_went (T := T) (C := C) hX hm ho h
  · rename_i t n ps ho; exact bld_went (C := C) hX hT hm ho h
  · rename_i t ps ho; exact bui_went (T := T) (C := C) hX hm ho h
  · rename_i t x i ho
    split at h
    · rename_i e h1 h2
      split at h
      · rename_i h3; exact iad_went (C := C) hX hT hm ho h1 h2 h3 h
      · exact slow_went (C := C) (m := m) hX hT h
    · exact slow_went (C := C) (m := m) hX hT h
  · rename_i c ho
    split at h
    · rename_i f hc; exact cal_went hX hT hC hm ho hc h
    · rename_i hc
      split at h
      · rename_i t x ht hx
        split at h
        · rename_i e h1 h2; exact len_went (T := T) (C := C) hX hm ho hc ht hx h1 h2 h
        · exact slow_went (C := C) (m := m) hX hT h
      · exact slow_went (C := C) (m := m) hX hT h
    · exact slow_went (C := C) (m := m) hX hT h
  · split at h
    · rename_i hq
      exact qui_went (T := T) (C := C) hX hm (qOp_quiet hq) h
    · exact slow_went (C := C) (m := m) hX hT h
end
end
end Go.Eng

namespace Go.Eng
open Go Go.ChangeShapes Go.WideShapes Go.ChangeAt Go.RowKit
noncomputable section
variable {X : Cx} {R : Type}
abbrev XC (R : Type) : Type := En → List Blk → Nat → (En → List Blk → Nat → Option R) → Option R
abbrev XK (R : Type) : Type := En → List Blk → Nat → (Ex → En → List Blk → Nat → Option R) → Option R
structure XO where
  o : Oper
  x : XI
  gd : Option (Nat × Bool)
def comp1 (X : Cx) (nt : Nt) (ops : Array Oper) (o : Oper) : Option XO :=
  match (match o.dst with | none => true | some d => Nat.blt d nt.n && bitF nt.mask d), o.guard with
  | true, none => some ⟨o, opc X o, none⟩
  | true, some (j, want) => (match gslot ops j with | some d => some ⟨o, opc X o, some (d, want)⟩ | none => none)
  | _, _ => none
def compL (X : Cx) (nt : Nt) (ops : Array Oper) : List Oper → Option (List XO)
  | [] => some []
  | o :: os => (match comp1 X nt ops o with | some z => (match compL X nt ops os with | some l => some (z :: l) | none => none) | none => none)
def onGd {α : Type} (x : AV) (f : Bool → α) (g : List AV → α) (d : α) : α := AV.rec (motive_1 := fun _ => α) (motive_2 := fun _ => α) (motive_3 := fun _ => α) d (fun _ _ => d) f (fun _ => d) (fun _ _ => d) (fun vs _ => g vs) d (fun _ _ _ _ => d) (fun _ _ _ => d) (fun _ _ _ => d) (fun _ => d) d (fun _ _ _ _ _ => d) d (fun _ => d) (fun _ => d) d (fun _ _ => d) (fun _ _ _ => d) d (fun _ _ _ => d) d (fun _ _ _ _ => d) d (fun _ _ _ _ => d) x
theorem onGd_some {x : AV} {f : Bool → Option R} {g : List AV → Option R} {r : R} (h : onGd x f g none = some r) : (∃ b, x = .bool b ∧ f b = some r) ∨ ∃ vs, x = .tup vs ∧ g vs = some r := by
  cases x <;> first | exact .inl ⟨_, rfl, h⟩ | exact .inr ⟨_, rfl, h⟩ | cases h
def xput (o : Oper) (en : En) (x : AV) (k : En → Option R) : Option R := Option.rec (motive := fun _ => Option R) (k en) (fun d => k (.c d x en)) o.dst
def xone (X : Cx) (T : Tab R) (C : CallT R) (z : XO) (ih : XC R) : XC R := fun en rm m k =>
  Option.rec (motive := fun _ => Option R)
    (xi z.x X T C z.o en rm m fun x rm m => xput z.o en x fun en => ih en rm m k)
    (fun g => onGd (lk en g.1)
      (fun b => iff (iffB b g.2) (xi z.x X T C z.o en rm m fun x rm m => xput z.o en x fun en => ih en rm m k) (xput z.o en (.tup []) fun en => ih en rm m k))
      (fun vs => List.rec (motive := fun _ => Option R) (xput z.o en (.tup []) fun en => ih en rm m k) (fun _ _ _ => none) vs) none)
    z.gd
where iffB (a b : Bool) : Bool := Bool.rec (motive := fun _ => Bool) (Bool.rec (motive := fun _ => Bool) true false b) b a
def xops (X : Cx) (T : Tab R) (C : CallT R) (l : List XO) : XC R := List.rec (motive := fun _ => XC R) (fun en rm m k => k en rm m) (fun z _ ih => xone X T C z ih) l
def trimE (en : En) (seen : Nat) (k : En → Option R) : Option R :=
  En.rec (motive := fun _ => Nat → (En → Option R) → Option R) (fun _ k => k .nil)
    (fun t x _ ih seen k => Bool.rec (motive := fun _ => Option R) (ih (Nat.lor seen (Nat.shiftLeft 1 t)) fun r => k (.c t x r)) (ih seen k) (Nat.beq (Nat.land (Nat.shiftRight seen t) 1) 1)) en seen k
theorem trimE_spec : ∀ (en : En) (seen : Nat) (k : En → Option R), ∃ out, trimE en seen k = k out ∧ ∀ t, look out.l t = .top ∨ (seen.testBit t = false ∧ look out.l t = look en.l t)
  | .nil, seen, k => ⟨.nil, rfl, fun t => .inl rfl⟩
  | .c p x r, seen, k => by
    cases hb : seen.testBit p with
    | true =>
      obtain ⟨out, h1, h2⟩ := trimE_spec r seen k
      refine ⟨out, ?_, fun t => ?_⟩
      · rw [← h1]
        show Bool.rec (motive := fun _ => Option R) _ (trimE r seen k) (Nat.beq (Nat.land (Nat.shiftRight seen p) 1) 1) = _
        rw [bit_eq, hb]
      · rcases h2 t with h2 | ⟨h2, h3⟩
        · exact .inl h2
        · refine .inr ⟨h2, ?_⟩
          have hne : (t == p) = false := by
            rw [beq_eq_false_iff_ne]; intro e; subst e; rw [hb] at h2; cases h2
          show _ = look ((p, x) :: r.l) t
          rw [look_cons, hne, h3]; rfl
    | false =>
      obtain ⟨out, h1, h2⟩ := trimE_spec r (Nat.lor seen (Nat.shiftLeft 1 p)) (fun r => k (.c p x r))
      refine ⟨.c p x out, ?_, fun t => ?_⟩
      · rw [← h1]
        show Bool.rec (motive := fun _ => Option R) (trimE r (Nat.lor seen (Nat.shiftLeft 1 p)) fun r => k (.c p x r)) _ (Nat.beq (Nat.land (Nat.shiftRight seen p) 1) 1) = _
        rw [bit_eq, hb]
      · show look ((p, x) :: out.l) t = _ ∨ _ ∧ look ((p, x) :: out.l) t = look ((p, x) :: r.l) t
        rw [look_cons, look_cons]
        by_cases e : t = p
        · subst e; rw [beq_self_eq_true]; exact .inr ⟨hb, rfl⟩
        · have hne : (t == p) = false := beq_eq_false_iff_ne.2 e
          rw [hne]
          rcases h2 t with h2 | ⟨h2, h3⟩
          · exact .inl h2
          · rw [lor_bit, hne, Bool.or_false] at h2
            exact .inr ⟨h2, h3⟩
def enOf : List (Nat × AV) → En := List.rec (motive := fun _ => En) .nil (fun p _ ih => .c p.1 p.2 ih)
theorem enOf_l : ∀ (l : List (Nat × AV)), (enOf l).l = l
  | [] => rfl
  | p :: l => by show (p.1, p.2) :: (enOf l).l = _; rw [enOf_l l]
def stX (en : En) (rm : List Blk) (rd : Rd) : St := ⟨en.l, rm.reverse, [], rd⟩
def rdF (a b : Rd) : Bool := match a, b with | .out, .out => true | .unk, .unk => true | _, _ => false
theorem rdF_eq {a b : Rd} (h : rdF a b = true) : a = b := by cases a <;> cases b <;> first | rfl | cases h
def backX (rd : Rd) (st : St) (k : En → List Blk → Nat → Option R) : Option R :=
  match st.dfs, rdF st.rd rd with
  | [], true => revK st.mem fun rm m => k (enOf st.env) rm m
  | _, _ => none
theorem backX_some {rd : Rd} {st : St} {k : En → List Blk → Nat → Option R} {r : R} (h : backX rd st k = some r) : ∃ en rm m, st = stX en rm rd ∧ m = rm.length ∧ k en rm m = some r := by
  unfold backX at h
  split at h
  · rename_i h1 h2
    rw [revK_eq] at h
    refine ⟨_, _, _, ?_, by rw [List.length_reverse], h⟩
    obtain ⟨env, mem, dfs, rd'⟩ := st
    simp only at h1 h2
    subst h1
    rw [rdF_eq h2]
    simp only [stX, enOf_l, List.reverse_reverse]
  · cases h
abbrev LendT : Type := FuncId → List AV → List Blk → Option AV
def LendOk (X : Cx) (V : LendT) : Prop := ∀ {g : FuncId} {args : List AV} {M : List Blk} {x : AV}, V g args M = some x → ∀ (M0 : List Blk), (∀ id, id < M.length → M0[id]? = M[id]?) → ACalls X g args M0 x M0
def lentC (X : Cx) (V : LendT) (e : Operand → AV) (o : Oper) (M : List Blk) : Option AV :=
  match o.op with
  | .call c => (match c.callee with
    | .value f => (match e f with | .clos g a b => (match isNe X g with | true => none | false => V g (a ++ c.args.toList.map e ++ b) M) | _ => none)
    | _ => none)
  | _ => none
theorem lentC_runs (hX : X.Okb) {V : LendT} (hV : LendOk X V) {e : Operand → AV} {o : Oper} {M : List Blk} {x : AV} (h : lentC X V e o M = some x) (M0 : List Blk) (hM : ∀ id, id < M.length → M0[id]? = M[id]?) : OpRuns X o e M0 x M0 := by
  unfold lentC at h
  split at h
  · rename_i c ho
    split at h
    · rename_i f hc
      split at h
      · rename_i g a b hf
        split at h
        · cases h
        · rename_i hne
          exact runs_call hX ho hc hf hne (hV h M0 hM)
      · cases h
    · cases h
  · cases h
def evel (T : Tab R) (i : Nat) (o : Oper) (cl n : Nat) (st : St) (dl : List Ent) (k : List Ent → St → Option R) (x : AV) : Option R :=
  tst (chk ⟨i, o, true, x, List.range n, cl, st.env, st.mem, st.mem⟩ dl) (putD T.nt st o.dst x st.mem (k (⟨i, o, true, x, List.range n, cl, st.env, st.mem, st.mem⟩ :: dl)))
def eve1 (X : Cx) (V : LendT) (n0 : Nat) (T : Tab R) (i : Nat) (o : Oper) (cl : Nat) (st : St) (dl : List Ent) (k : List Ent → St → Option R) : Option R :=
  match lentC X V (evv X (rst (readsOf o) st.env)) o (st.mem.take n0) with
  | some x => evel T i o cl (st.mem.take n0).length st dl k x
  | none => match lentC X V (evv X (rst (readsOf o) st.env)) o st.mem with
    | some x => evel T i o cl st.mem.length st dl k x
    | none => evc1 X T i o cl st dl k
def eveg (X : Cx) (V : LendT) (n0 : Nat) (T : Tab R) (ops : Array Oper) (i : Nat) (o : Oper) (cl : Nat) (st : St) (dl : List Ent) (k : List Ent → St → Option R) : Option R :=
  match o.guard with
  | none => eve1 X V n0 T i o cl st dl k
  | some (j, want) =>
    match gslot ops j with
    | none => none
    | some d =>
      match look st.env d with
      | .bool b =>
        match b with
        | true => match want with
          | true => eve1 X V n0 T i o cl { st with env := (d, .bool true) :: st.env } dl k
          | false => putD T.nt { st with env := (d, .bool true) :: st.env } o.dst (.tup []) st.mem (k dl)
        | false => match want with
          | false => eve1 X V n0 T i o cl { st with env := (d, .bool false) :: st.env } dl k
          | true => putD T.nt { st with env := (d, .bool false) :: st.env } o.dst (.tup []) st.mem (k dl)
      | .tup [] => putD T.nt st o.dst (.tup []) st.mem (k dl)
      | _ => none
def eves (X : Cx) (V : LendT) (n0 : Nat) (T : Tab R) (ops : Array Oper) : List SE → List Ent → St → (St → Option R) → Option R
  | [], _, st, k => k st
  | t :: l, dl, st, k => eveg X V n0 T ops t.1 t.2.1 t.2.2 st dl fun dl' st' => eves X V n0 T ops l dl' st' k
def evregE (X : Cx) (V : LendT) (T : Tab R) (ops : Array Oper) (st : St) (k : St → Option R) : Option R :=
  match regS ops with
  | some l => eves X V st.mem.length T ops l [] st k
  | none => none
section
variable {D : Nat → Bool} {nt : Nt} {ops : Array Oper} {env0 env1 : List (Nat × AV)} {M0 M1 : List Blk}
theorem evel_sound (hX : X.Okb) {T : Tab R} {V : LendT} (hV : LendOk X V) {i : Nat} {o : Oper} {cl : Nat} {st : St} {log dl : List Ent} {k : List Ent → St → Option R} {r : R} (hl : Log X D T.nt ops env0 M0 log env1 M1) (hk : Kept log dl) (hps : ∀ s ∈ log, pairS ops (i, o, cl) s.st = true) (hi : ops[i]? = some o) (hc : clOf log o.after.toList = some cl)
    (he : ∀ u, look st.env u = look env1 u) (hm : st.mem = M1) (hw : Wants X ops o st.env true) {x : AV} {Mt : List Blk} (hx : lentC X V (evv X (rst (readsOf o) st.env)) o Mt = some x) (hMt : ∀ id, id < Mt.length → st.mem[id]? = Mt[id]?) (h : evel T i o cl Mt.length st dl k x = some r) :
    ∃ t dl' st', k dl' st' = some r ∧ Log X D T.nt ops env0 M0 (t :: log) st'.env st'.mem ∧ Kept (t :: log) dl' ∧ t.st = (i, o, cl) ∧ st'.dfs = st.dfs ∧ st'.rd = st.rd := by
  unfold evel at h
  replace h := tst_some h
  obtain ⟨hchk, h⟩ := h
  have runs : (⟨i, o, true, x, List.range Mt.length, cl, st.env, st.mem, st.mem⟩ : Ent).Runs X T.nt ops := by
    intro Mx hM _ rdc n w0 S F ρ a w Q K hI hsz hr hk
    unfold wpOpIn
    simp only [hi, hw hr, if_true]
    exact lentC_runs hX hV hx Mx (fun id hid => (hM rfl id (List.mem_range.2 hid)).trans (hMt id hid)) hI (fun z => evv_rep hI (envRep_rst fun u hu => hr u (List.mem_append_left _ hu)) z) (fun v w' ρ' F' hI' hg hx => hk v w' F' ρ' hI' hx hg)
  obtain ⟨st', h, hl', e1, e2⟩ := putD_log (t := ⟨i, o, true, x, List.range Mt.length, cl, st.env, st.mem, st.mem⟩) hl he hm (fun _ => rfl) (fun hq => by cases hq) (fun _ => runs) hi (pairs_of hps hk (.inl hchk)) hc (fun _ => rfl) h
  exact ⟨_, _, st', h, hl', fun s hs => by
    rcases List.mem_cons.1 hs with rfl | hs
    · exact .inr List.mem_cons_self
    · exact (hk s hs).imp (fun h => h) (List.mem_cons_of_mem _), rfl, e1, e2⟩
theorem eve1_sound (hX : X.Okb) {T : Tab R} (hT : T.CallOk X) {V : LendT} (hV : LendOk X V) {n0 i : Nat} {o : Oper} {cl : Nat} {st : St} {log dl : List Ent} {k : List Ent → St → Option R} {r : R} (hl : Log X D T.nt ops env0 M0 log env1 M1) (hk : Kept log dl) (hps : ∀ s ∈ log, pairS ops (i, o, cl) s.st = true) (hi : ops[i]? = some o) (hc : clOf log o.after.toList = some cl)
    (he : ∀ u, look st.env u = look env1 u) (hm : st.mem = M1) (hw : Wants X ops o st.env true) (h : eve1 X V n0 T i o cl st dl k = some r) :
    ∃ t dl' st', k dl' st' = some r ∧ Log X D T.nt ops env0 M0 (t :: log) st'.env st'.mem ∧ Kept (t :: log) dl' ∧ t.st = (i, o, cl) ∧ st'.dfs = st.dfs ∧ st'.rd = st.rd := by
  unfold eve1 at h
  split at h
  · rename_i x hx
    exact evel_sound hX hV hl hk hps hi hc he hm hw hx (fun id hid => by rw [List.length_take] at hid; rw [List.getElem?_take, if_pos (by omega)]) h
  · split at h
    · rename_i x hx
      exact evel_sound hX hV hl hk hps hi hc he hm hw hx (fun _ _ => rfl) h
    · exact evc1_sound hX hT hl hk hps hi hc he hm hw h
theorem eveg_sound (hX : X.Okb) {T : Tab R} (hT : T.CallOk X) {V : LendT} (hV : LendOk X V) {n0 i : Nat} {o : Oper} {cl : Nat} {st : St} {log dl : List Ent} {k : List Ent → St → Option R} {r : R} (hl : Log X D T.nt ops env0 M0 log st.env st.mem) (hk : Kept log dl) (hps : ∀ s ∈ log, pairS ops (i, o, cl) s.st = true) (hi : ops[i]? = some o) (hc : clOf log o.after.toList = some cl)
    (h : eveg X V n0 T ops i o cl st dl k = some r) :
    ∃ t dl' st', k dl' st' = some r ∧ Log X D T.nt ops env0 M0 (t :: log) st'.env st'.mem ∧ Kept (t :: log) dl' ∧ t.st = (i, o, cl) ∧ st'.dfs = st.dfs ∧ st'.rd = st.rd := by
  unfold eveg at h
  split at h
  · rename_i hg
    exact eve1_sound hX hT hV hl hk hps hi hc (fun _ => rfl) rfl (fun {ρ F w tmps} _ => wanted_none hg _) h
  · rename_i j want hg
    split at h
    · cases h
    · rename_i d hd
      have hmem : d ∈ readsOf o ++ guardOf ops o := List.mem_append_right _ (by simp [guardOf, hg, hd])
      have wants : ∀ (b : Bool) (env : List (Nat × AV)), look env d = .bool b → Wants X ops o env (b == want) := by
        intro b env hb ρ F w tmps hr
        have := hr d hmem
        rw [hb] at this
        generalize hv : tmps.getD d undef = v at this
        cases this
        rw [wanted_some hg, yielded_of hd hv]
        cases b <;> cases want <;> rfl
      split at h
      · rename_i b hb
        split at h
        · split at h
          · exact eve1_sound hX hT hV (st := { st with env := (d, .bool true) :: st.env }) hl hk hps hi hc (fun u => look_refine hb u) rfl (wants true _ (by simp [look_cons, look_nil])) h
          · exact evc0_sound (st := { st with env := (d, .bool true) :: st.env }) hl hk hps hi hc (fun u => look_refine hb u) rfl (wants true _ (by simp [look_cons, look_nil])) h
        · split at h
          · exact eve1_sound hX hT hV (st := { st with env := (d, .bool false) :: st.env }) hl hk hps hi hc (fun u => look_refine hb u) rfl (wants false _ (by simp [look_cons, look_nil])) h
          · exact evc0_sound (st := { st with env := (d, .bool false) :: st.env }) hl hk hps hi hc (fun u => look_refine hb u) rfl (wants false _ (by simp [look_cons, look_nil])) h
      · rename_i hb
        refine evc0_sound hl hk hps hi hc (fun _ => rfl) rfl (fun {ρ F w tmps} hr => ?_) h
        have := hr d hmem
        rw [hb] at this
        generalize hv : tmps.getD d undef = v at this
        cases this with
        | tup cs vs hl2 _ =>
          have : vs = [] := by simpa using hl2
          subst this
          rw [wanted_some hg, yielded_undef hd hv]
          rfl
      · cases h
theorem eves_sound (hX : X.Okb) {T : Tab R} (hT : T.CallOk X) {V : LendT} (hV : LendOk X V) {n0 : Nat} {k : St → Option R} {r : R} : ∀ (l : List SE) {log dl : List Ent} {st : St}, ChS ops (log.map Ent.st) l → pairsS ops (log.map Ent.st) l = true → Log X D T.nt ops env0 M0 log st.env st.mem → Kept log dl → eves X V n0 T ops l dl st k = some r →
    ∃ log' st', k st' = some r ∧ Log X D T.nt ops env0 M0 log' st'.env st'.mem ∧ st'.dfs = st.dfs ∧ st'.rd = st.rd ∧ log'.map Ent.st = l.reverse ++ log.map Ent.st
  | [], log, dl, st, _, _, hl, _, h => ⟨log, st, h, hl, rfl, rfl, by simp⟩
  | t :: l, log, dl, st, hch, hps, hl, hk, h => by
    cases hch with
    | cons acc i o cl l' ho hc hch =>
      simp only [pairsS, Bool.and_eq_true] at hps
      simp only [eves] at h
      rw [clS_eq] at hc
      obtain ⟨u, dl', st1, h, hl1, hk1, hst, e1, e2⟩ := eveg_sound hX hT hV hl hk (fun s hs => List.all_eq_true.1 hps.1 _ (List.mem_map_of_mem hs)) ho hc h
      rw [← hst] at hch hps
      obtain ⟨log', st', h, hl', e3, e4, e5⟩ := eves_sound hX hT hV l (log := u :: log) hch hps.2 hl1 hk1 h
      refine ⟨log', st', h, hl', e3.trans e1, e4.trans e2, ?_⟩
      rw [e5, List.map_cons, hst]
      simp
theorem evregE_sound (hX : X.Okb) {T : Tab R} (hT : T.CallOk X) {V : LendT} (hV : LendOk X V) {id : Nat} {st : St} {k : St → Option R} {r : R} (h : evregE X V T ops st k = some r) :
    ∃ st', k st' = some r ∧ CodeRuns X T.nt (.region id ops true) st .normal st' := by
  unfold evregE at h
  split at h
  · rename_i l hr
    unfold regS at hr
    split at hr
    · cases hr
    · rename_i l0 hord
      replace hr := tst_some hr
      obtain ⟨hb, hr⟩ := hr
      rw [fzL_eq fzS_eq] at hr
      injection hr with hr
      subst hr
      rw [Bool.and_eq_true, Bool.and_eq_true] at hb
      obtain ⟨⟨hps, hlen⟩, hall⟩ := hb
      rw [pairsF_eq] at hps
      obtain ⟨log, st', h, hl, e1, e2, e3⟩ := eves_sound hX hT hV (ops := ops) (env0 := st.env) (M0 := st.mem) _ (log := []) (dl := []) (st := st) (ordS_ok _ hord) hps (show Log X (fun _ => false) T.nt ops st.env st.mem [] st.env st.mem from ⟨fun _ => rfl, rfl⟩) (fun s hs => by cases hs) h
      have e3' : log.map Ent.st = l0.reverse := by simpa using e3
      refine ⟨st', h, fun {rdc n w0 S F ρ a w Q} hI hs hq => wpIn_region_any hX.mixed ?_⟩
      have hg := World.grownBy_drawn w
      have hI' := hI.grown hg
      have hgr : Grow F F ρ ρ w { w with drawn := w.drawn + 1 } := ⟨fun _ h => h, fun _ _ h => h, hI.blks hg (by simp)⟩
      have hs' := hs.grow hgr
      refine any_runs (ds := a.defers) (tv := rdc.tv) (wb := w) (S := S) (w0 := w0) (F0 := F) (ρ0 := ρ) hl (fun i hi => ?_) (fun a' w' F' ρ' hI2 hE hsz hdf hkp hg2 => ?_) ops.size _ F ρ a _ (by simp) ?_ ?_ (fun _ _ h => by cases h) ?_
      · have := List.all_eq_true.1 hall i (List.mem_range.2 hi)
        obtain ⟨t, ht, hti⟩ := List.any_eq_true.1 this
        have : t ∈ log.map Ent.st := by rw [e3']; exact List.mem_reverse.2 ht
        obtain ⟨u, hu, rfl⟩ := List.mem_map.1 this
        exact ⟨u, hu, by simpa [Ent.st] using hti⟩
      · refine hq a' w' F' ρ' hI2 ⟨hE, hsz, ?_, ?_, hkp⟩ hg2
        · rw [e1, hdf]; exact hs.defs.mono hg2.hF hg2.hb
        · exact hs.rd.mono hg2.hF hg2.hb
      · have hll : log.length = l0.length := by
          have := congrArg List.length e3'
          simpa using this
        exact Nat.le_trans List.countP_le_length (hll ▸ Nat.le_of_ble_eq_true hlen)
      · intro t ht hin
        exfalso
        simp only [isIn, Array.getD_eq_getD_getElem?, Array.getElem?_replicate] at hin
        split at hin <;> simp at hin
      · have hno : ∀ i, ¬ isIn (Array.replicate ops.size false) i := by
          intro i hin
          simp only [isIn, Array.getD_eq_getD_getElem?, Array.getElem?_replicate] at hin
          split at hin <;> simp at hin
        refine ⟨?_, hgr, hs.size, rfl, hs.kept, fun s _ hin => absurd hin (hno _), fun u _ => hs'.env u⟩
        have : memS st.mem (Array.replicate ops.size false) log = st.mem := by
          have := memS_skip (M0 := st.mem) (L := Array.replicate ops.size false) (l2 := log) (l1 := []) fun s _ _ => hno _
          simpa [memS] using this
        rw [this]
        exact hI'
  · cases h
end
def evregZ (X : Cx) (V : LendT) (T : Tab R) (ops : Array Oper) (st : St) (k : St → Option R) : Option R :=
  match (stPairs 0 ops.toList || flWay X ops) || X.pk with
  | true => evreg X T ops true st k
  | false => evregE X V T ops st k
theorem evregZ_sound (hX : X.Okb) {T : Tab R} (hT : T.CallOk X) {V : LendT} (hV : LendOk X V) {id : Nat} {ops : Array Oper} {st : St} {k : St → Option R} {r : R} (h : evregZ X V T ops st k = some r) :
    ∃ st', k st' = some r ∧ CodeRuns X T.nt (.region id ops true) st .normal st' := by
  unfold evregZ at h
  split at h
  · exact evreg_sound hX hT h
  · exact evregE_sound hX hT hV h
def xreg (X : Cx) (T : Tab R) (C : CallT R) (V : LendT) (rd : Rd) (ops : Array Oper) (draw : Bool) (dead : Nat) : XK R := fun en rm m k =>
  Bool.rec (motive := fun _ => Option R)
    (Option.rec (motive := fun _ => Option R) none (fun l => xops X T C l en rm m fun en rm m => Nat.rec (motive := fun _ => Option R) (k .normal en rm m) (fun _ _ => trimE en dead fun en => k .normal en rm m) dead) (compL X T.nt ops ops.toList))
    (evregZ X V T ops ⟨en.l, revF rm [], [], rd⟩ fun st => backX rd st fun en rm m => trimE en dead fun en => k .normal en rm m) draw
section
variable {T : Tab R} {C : CallT R}
theorem envRep_trim {ρ : List Hd} {F : Addr → Prop} {w : World} {en out : En} {tmps : Array Value} (h : ∀ t, look out.l t = .top ∨ look out.l t = look en.l t) (he : EnvRep X ρ F w en.l tmps) : EnvRep X ρ F w out.l tmps := fun t => by
  rcases h t with e | e
  · rw [e]; exact .top _
  · rw [e]; exact he t
theorem xput_some {nt : Nt} {o : Oper} {en : En} {x : AV} {k : En → Option R} {r : R} (hd : (match o.dst with | none => true | some d => Nat.blt d nt.n && bitF nt.mask d) = true) (h : xput o en x k = some r) :
    ∃ en', k en' = some r ∧ ∀ {rm rm' : List Blk} {rd : Rd} {rdc : Cy} {F : Addr → Prop} {ρ : List Hd} {a : Act} {w : World} {v : Value}, Sim X nt (stX en rm rd) rdc F ρ a w → Rep X.K ρ F w x v → Sim X nt (stX en' rm' rd) rdc F ρ (a.put o.dst v) w := by
  unfold xput at h
  cases ho : o.dst with
  | none =>
    rw [ho] at h
    exact ⟨en, h, fun {rm rm' rd rdc F ρ a w v} hs _ => ⟨hs.env, hs.size, hs.defs, hs.rd, hs.kept⟩⟩
  | some d =>
    rw [ho] at h hd
    simp only [Bool.and_eq_true, bitF, bit_eq] at hd
    exact ⟨.c d x en, h, fun {rm rm' rd rdc F ρ a w v} hs hx => ⟨hs.env.put (by rw [hs.size]; simpa using hd.1) hx, by simp [Act.put, hs.size], hs.defs, hs.rd, kept_put hd.2 hs.kept⟩⟩
theorem xone_step (hX : X.Okb) (hT : T.CallOk X) (hC : CallsOk X C) {ops : Array Oper} {o : Oper} {z : XO} {ih : XC R} {en : En} {rm : List Blk} {m : Nat} {rd : Rd} {k : En → List Blk → Nat → Option R} {r : R} (hz : comp1 X T.nt ops o = some z) (hm : m = rm.length)
    (h : xone X T C z ih en rm m k = some r) : ∃ en' rm' m', m' = rm'.length ∧ OneRuns X T.nt ops o (stX en rm rd) (stX en' rm' rd) ∧ ih en' rm' m' k = some r := by
  have run : ∀ {z : XO}, z.o = o → z.x = opc X o → (match o.dst with | none => true | some d => Nat.blt d T.nt.n && bitF T.nt.mask d) = true → (xi z.x X T C z.o en rm m fun x rm m => xput z.o en x fun en => ih en rm m k) = some r →
      (∀ {rdc : Cy} {F : Addr → Prop} {ρ : List Hd} {a : Act} {w : World}, Sim X T.nt (stX en rm rd) rdc F ρ a w → Region.wanted o (yielded ops a.tmps) = true) →
      ∃ en' rm' m', m' = rm'.length ∧ OneRuns X T.nt ops o (stX en rm rd) (stX en' rm' rd) ∧ ih en' rm' m' k = some r := by
    intro z e1 e2 hd h hw
    rw [e1, e2] at h
    obtain ⟨x, rm', m', hm', hrun, h⟩ := xi_went hX hT hC hm h
    obtain ⟨en', h, hp⟩ := xput_some (X := X) (nt := T.nt) hd h
    rw [ov_fun] at hrun
    exact ⟨en', rm', m', hm', one_run (stg := stX en rm rd) hrun (fun hs => ⟨hs, hw hs⟩) rfl (fun hs hx => hp hs hx), h⟩
  have skip : ∀ {z : XO}, z.o = o → (match o.dst with | none => true | some d => Nat.blt d T.nt.n && bitF T.nt.mask d) = true → (xput z.o en (.tup []) fun en => ih en rm m k) = some r →
      (∀ {rdc : Cy} {F : Addr → Prop} {ρ : List Hd} {a : Act} {w : World}, Sim X T.nt (stX en rm rd) rdc F ρ a w → Region.wanted o (yielded ops a.tmps) = false) →
      ∃ en' rm' m', m' = rm'.length ∧ OneRuns X T.nt ops o (stX en rm rd) (stX en' rm' rd) ∧ ih en' rm' m' k = some r := by
    intro z e1 hd h hw
    rw [e1] at h
    obtain ⟨en', h, hp⟩ := xput_some (X := X) (nt := T.nt) hd h
    exact ⟨en', rm, m, hm, one_skip (stg := stX en rm rd) (st' := stX en' rm rd) (fun hs => ⟨hs, hw hs⟩) rfl (fun hs hx => hp hs hx), h⟩
  unfold comp1 at hz
  split at hz
  · rename_i hd hg
    injection hz with hz
    subst hz
    exact run rfl rfl hd h (fun _ => wanted_none hg _)
  · rename_i j want hd hg
    split at hz
    · rename_i d hsl
      injection hz with hz
      subst hz
      have h' : onGd (lk en d) (fun b => iff (xone.iffB b want) (xi (opc X o) X T C o en rm m fun x rm m => xput o en x fun en => ih en rm m k) (xput o en (.tup []) fun en => ih en rm m k))
        (fun vs => List.rec (motive := fun _ => Option R) (xput o en (.tup []) fun en => ih en rm m k) (fun _ _ _ => none) vs) none = some r := h
      have hlk : lk en d = look en.l d := lk_eq en d
      rcases onGd_some h' with ⟨b, hb, h⟩ | ⟨vs, hv, h⟩
      · have ys : ∀ {rdc : Cy} {F : Addr → Prop} {ρ : List Hd} {a : Act} {w : World}, Sim X T.nt (stX en rm rd) rdc F ρ a w → yielded ops a.tmps j = some b := by
          intro rdc F ρ a w hs
          have := hs.env d
          rw [show look (stX en rm rd).env d = .bool b from hlk ▸ hb] at this
          generalize hv : a.tmps.getD d undef = v at this
          cases this
          exact yielded_of hsl hv
        rw [iff_eq] at h
        split at h
        · rename_i he
          refine run (z := ⟨o, opc X o, none⟩) rfl rfl hd h (fun hs => ?_)
          rw [wanted_some hg, ys hs]
          cases b <;> cases want <;> first | rfl | cases he
        · rename_i he
          refine skip (z := ⟨o, opc X o, none⟩) rfl hd h (fun hs => ?_)
          rw [wanted_some hg, ys hs]
          cases b <;> cases want <;> first | rfl | cases he
      · cases vs with
        | cons _ _ => cases h
        | nil =>
          refine skip (z := ⟨o, opc X o, none⟩) rfl hd h (fun {rdc F ρ a w} hs => ?_)
          have := hs.env d
          rw [show look (stX en rm rd).env d = .tup [] from hlk ▸ hv] at this
          generalize hu : a.tmps.getD d undef = v at this
          have hv0 : v = undef := by
            cases this with
            | tup _ vs hl _ => have : vs = [] := List.eq_nil_of_length_eq_zero (by simpa using hl); subst this; rfl
          rw [wanted_some hg, yielded_undef hsl (hu.trans hv0)]
          rfl
    · cases hz
  · cases hz
theorem xops_sound (hX : X.Okb) (hT : T.CallOk X) (hC : CallsOk X C) {ops : Array Oper} {rd : Rd} : ∀ (rest : List Oper) (i0 : Nat) {l : List XO} {en : En} {rm : List Blk} {m : Nat} {k : En → List Blk → Nat → Option R} {r : R}, (∀ (i : Nat), rest[i]? = ops[i0 + i]?) → compL X T.nt ops rest = some l → m = rm.length → xops X T C l en rm m k = some r →
    ∃ en' rm' m', m' = rm'.length ∧ k en' rm' m' = some r ∧ ∀ {rdc : Cy} {n : Nat} {w0 : World} {S : Sc} {F : Addr → Prop} {ρ : List Hd} {a : Act} {w : World} {Q : Exit → Act → World → Prop}, Inv X w0 S F ρ rm.reverse w → Sim X T.nt (stX en rm rd) rdc F ρ a w →
      (∀ a' w' F' ρ', Inv X w0 S F' ρ' rm'.reverse w' → Sim X T.nt (stX en' rm' rd) rdc F' ρ' a' w' → Grow F F' ρ ρ' w w' → Q .normal a' w') → wpOpsIn (fen rdc.r) n X.P ops Q ((List.range rest.length).map (i0 + ·)) a w
  | [], i0, l, en, rm, m, k, r, _, hl, hm, h => by
    injection hl with hl
    subst hl
    exact ⟨en, rm, m, hm, h, fun {rdc n w0 S F ρ a w Q} hI hs hq => hq a w F ρ hI hs (Grow.refl _ _ _)⟩
  | o :: rest, i0, l, en, rm, m, k, r, hr, hl, hm, h => by
    simp only [compL] at hl
    split at hl
    · rename_i z hz
      split at hl
      · rename_i l' hl'
        injection hl with hl
        subst hl
        obtain ⟨en1, rm1, m1, hm1, h1, h⟩ := xone_step hX hT hC (rd := rd) hz hm h
        obtain ⟨en2, rm2, m2, hm2, h, h2⟩ := xops_sound hX hT hC rest (i0 + 1) (fun i => by have := hr (i + 1); rw [show i0 + 1 + i = i0 + (i + 1) by omega]; simpa using this) hl' hm1 h
        refine ⟨en2, rm2, m2, hm2, h, fun {rdc n w0 S F ρ a w Q} hI hs hq => ?_⟩
        have ho : ops[i0]? = some o := by have := hr 0; simpa using this.symm
        have hl : (List.range (o :: rest).length).map (i0 + ·) = i0 :: (List.range rest.length).map ((i0 + 1) + ·) := by
          rw [List.length_cons, List.range_succ_eq_map, List.map_cons, List.map_map]
          congr 1
          apply List.map_congr_left
          intro i _
          simp; omega
        rw [hl]
        refine wpOpsIn_cons' ho (h1 hI hs ?_ i0 ho)
        intro a' w' F' ρ' hI' hs' hg
        exact h2 hI' hs' (fun a'' w'' F'' ρ'' hI'' hs'' hg'' => hq a'' w'' F'' ρ'' hI'' hs'' (hg.trans hg''))
      · cases hl
    · cases hl
def XRuns (X : Cx) (nt : Nt) (rd : Rd) (c : Code) (en : En) (rm : List Blk) (e : Ex) (en' : En) (rm' : List Blk) : Prop := CodeRuns X nt c (stX en rm rd) (Ex.exit' e) (stX en' rm' rd)
def XSays (X : Cx) (nt : Nt) (rd : Rd) (c : Code) (f : XK R) : Prop := ∀ (en : En) (rm : List Blk) (m : Nat) (k : Ex → En → List Blk → Nat → Option R) (r : R), m = rm.length → f en rm m k = some r → ∃ e en' rm' m', m' = rm'.length ∧ XRuns X nt rd c en rm e en' rm' ∧ k e en' rm' m' = some r
theorem XRuns.trim {nt : Nt} {rd : Rd} {c : Code} {en : En} {rm : List Blk} {e : Ex} {en' out : En} {rm' : List Blk} (h : XRuns X nt rd c en rm e en' rm') (ht : ∀ t, look out.l t = .top ∨ look out.l t = look en'.l t) : XRuns X nt rd c en rm e out rm' :=
  fun {rdc n w0 S F ρ a w Q} hI hs hq => h hI hs fun a' w' F' ρ' hI' hs' hg => hq a' w' F' ρ' hI' ⟨envRep_trim ht hs'.env, hs'.size, hs'.defs, hs'.rd, hs'.kept⟩ hg
theorem xreg_sound (hX : X.Okb) (hT : T.CallOk X) (hC : CallsOk X C) {V : LendT} (hV : LendOk X V) {rd : Rd} {id : Nat} {ops : Array Oper} {draw : Bool} {dead : Nat} : XSays X T.nt rd (.region id ops draw) (xreg X T C V rd ops draw dead) := by
  intro en rm m k r hm h
  cases draw with
  | false =>
    have h : (Option.rec (motive := fun _ => Option R) none (fun l => xops X T C l en rm m fun en rm m => Nat.rec (motive := fun _ => Option R) (k .normal en rm m) (fun _ _ => trimE en dead fun en => k .normal en rm m) dead) (compL X T.nt ops ops.toList)) = some r := h
    cases hl : compL X T.nt ops ops.toList with
    | none => rw [hl] at h; cases h
    | some l =>
      rw [hl] at h
      obtain ⟨en1, rm1, m1, hm1, h, hrun⟩ := xops_sound hX hT hC (rd := rd) ops.toList 0 (fun i => by simp) hl hm h
      have hr : XRuns X T.nt rd (.region id ops false) en rm .normal en1 rm1 := by
        intro rdc n w0 S F ρ a w Q hI hs hq
        refine wpIn_region ?_
        have := hrun (n := n) hI hs hq
        simpa using this
      cases dead with
      | zero => exact ⟨.normal, en1, rm1, m1, hm1, hr, h⟩
      | succ d =>
        have h : trimE en1 (d + 1) (fun en => k .normal en rm1 m1) = some r := h
        obtain ⟨out, h1, h2⟩ := trimE_spec en1 (d + 1) (fun en => k .normal en rm1 m1)
        rw [h1] at h
        exact ⟨.normal, out, rm1, m1, hm1, hr.trim fun t => (h2 t).imp (fun h => h) (·.2), h⟩
  | true =>
    have h : (evregZ X V T ops ⟨en.l, revF rm [], [], rd⟩ fun st => backX rd st fun en rm m => trimE en dead fun en => k .normal en rm m) = some r := h
    obtain ⟨st', h, hrun⟩ := evregZ_sound hX hT hV (id := id) h
    obtain ⟨en1, rm1, m1, rfl, hm1, h⟩ := backX_some h
    obtain ⟨out, h1, h2⟩ := trimE_spec en1 dead (fun en => k .normal en rm1 m1)
    rw [h1] at h
    rw [revF_eq, List.append_nil] at hrun
    have hr : XRuns X T.nt rd (.region id ops true) en rm .normal en1 rm1 := hrun
    exact ⟨.normal, out, rm1, m1, hm1, hr.trim fun t => (h2 t).imp (fun h => h) (·.2), h⟩
end
def maxN (a b : Nat) : Nat := Bool.rec (motive := fun _ => Nat) a b (Nat.ble a b)
theorem maxN_le {a b n : Nat} (h : maxN a b ≤ n) : a ≤ n ∧ b ≤ n := by
  unfold maxN at h
  cases hb : Nat.ble a b with
  | true =>
    rw [hb] at h
    have h : b ≤ n := h
    have := Nat.le_of_ble_eq_true hb
    omega
  | false =>
    rw [hb] at h
    have h : a ≤ n := h
    have : ¬ a ≤ b := fun h => by rw [Nat.ble_eq_true_of_le h] at hb; cases hb
    omega
def hiV (x : AV) : Nat := AV.rec (motive_1 := fun _ => Nat) (motive_2 := fun _ => Nat) (motive_3 := fun _ => Nat) 0 (fun _ _ => 0) (fun _ => 0) (fun _ => 0) (fun _ ih => ih) (fun _ ih => ih) 0 (fun _ _ _ ih => ih) (fun id _ _ => Nat.succ id) (fun _ _ ih => ih) (fun id => Nat.succ id) 0
  (fun _ _ _ a b => maxN a b) 0 (fun id => Nat.succ id) (fun id => Nat.succ id) 0 (fun id _ => Nat.succ id) (fun id _ _ => Nat.succ id) 0 (fun _ _ ih => ih) 0 (fun _ _ a b => maxN a b) 0 (fun _ _ a b => maxN a b) x
def hiL (l : List AV) : Nat := AV.rec_1 (motive_1 := fun _ => Nat) (motive_2 := fun _ => Nat) (motive_3 := fun _ => Nat) 0 (fun _ _ => 0) (fun _ => 0) (fun _ => 0) (fun _ ih => ih) (fun _ ih => ih) 0 (fun _ _ _ ih => ih) (fun id _ _ => Nat.succ id) (fun _ _ ih => ih) (fun id => Nat.succ id) 0
  (fun _ _ _ a b => maxN a b) 0 (fun id => Nat.succ id) (fun id => Nat.succ id) 0 (fun id _ => Nat.succ id) (fun id _ _ => Nat.succ id) 0 (fun _ _ ih => ih) 0 (fun _ _ a b => maxN a b) 0 (fun _ _ a b => maxN a b) l
def hiM (l : List (List AV)) : Nat := AV.rec_2 (motive_1 := fun _ => Nat) (motive_2 := fun _ => Nat) (motive_3 := fun _ => Nat) 0 (fun _ _ => 0) (fun _ => 0) (fun _ => 0) (fun _ ih => ih) (fun _ ih => ih) 0 (fun _ _ _ ih => ih) (fun id _ _ => Nat.succ id) (fun _ _ ih => ih) (fun id => Nat.succ id) 0
  (fun _ _ _ a b => maxN a b) 0 (fun id => Nat.succ id) (fun id => Nat.succ id) 0 (fun id _ => Nat.succ id) (fun id _ _ => Nat.succ id) 0 (fun _ _ ih => ih) 0 (fun _ _ a b => maxN a b) 0 (fun _ _ a b => maxN a b) l
theorem hiL_get {n : Nat} : ∀ {l : List AV}, hiL l ≤ n → ∀ {j : Nat} {x : AV}, l[j]? = some x → hiV x ≤ n
  | [], _, _, _, h => by simp at h
  | y :: l, h, 0, x, hx => by simp only [List.getElem?_cons_zero, Option.some.injEq] at hx; subst hx; exact (maxN_le (a := hiV y) (b := hiL l) h).1
  | y :: l, h, j + 1, x, hx => hiL_get (l := l) (maxN_le (a := hiV y) (b := hiL l) h).2 (by simpa using hx)
theorem hiM_get {n : Nat} : ∀ {l : List (List AV)}, hiM l ≤ n → ∀ {j : Nat} {x : List AV}, l[j]? = some x → hiL x ≤ n
  | [], _, _, _, h => by simp at h
  | y :: l, h, 0, x, hx => by simp only [List.getElem?_cons_zero, Option.some.injEq] at hx; subst hx; exact (maxN_le (a := hiL y) (b := hiM l) h).1
  | y :: l, h, j + 1, x, hx => hiM_get (l := l) (maxN_le (a := hiL y) (b := hiM l) h).2 (by simpa using hx)
theorem take_get2 {α : Type} {l : List α} {n id : Nat} (hid : Nat.succ id ≤ n) {x : α} (h : l[id]? = some x) : (l.take n)[id]? = some x := by
  rw [List.getElem?_take, if_pos (by omega)]; exact h
theorem Rep.hi {K : TypeId → List Kind} {ρ : List Hd} {F : Addr → Prop} {w : World} {n : Nat} {x : AV} {v : Value} (h : Rep K ρ F w x v) : hiV x ≤ n → Rep K (ρ.take n) F w x v := by
  induction h with
  | top v => exact fun _ => .top v
  | int k n => exact fun _ => .int k n
  | bool b => exact fun _ => .bool b
  | str s => exact fun _ => .str s
  | agg cs vs hl _ ih => exact fun h => .agg cs vs hl fun j x v hx hv => ih j x v hx hv (hiL_get (l := cs) h hx)
  | tup cs vs hl _ ih => exact fun h => .tup cs vs hl fun j x v hx hv => ih j x v hx hv (hiL_get (l := cs) h hx)
  | nilp => exact fun _ => .nilp
  | iptr t row off a vs hk hl hc _ ih => exact fun h => .iptr t row off a vs hk hl hc fun j x v hx hv => ih j x v hx hv (hiL_get (l := row) h hx)
  | ptr id i off hd g o m c hid hv => exact fun h => .ptr id i off hd g o m c (take_get2 h hid) hv
  | list0 t => exact fun _ => .list0 t
  | list t xs a cap vss hl hcap hmax hk hc _ ih => exact fun h => .list t xs a cap vss hl hcap hmax hk hc fun i row vs hi hv j x v hx hv' => ih i row vs hi hv j x v hx hv' (hiL_get (hiM_get (l := xs) h hi) hx)
  | own id hd hid => exact fun h => .own id hd (take_get2 h hid)
  | nilsl => exact fun _ => .nilsl
  | clos f a b vf vc hf hc _ _ ih1 ih2 => exact fun h => .clos f a b vf vc hf hc (fun j x v hx hv => ih1 j x v hx hv (hiL_get (maxN_le (a := hiL a) (b := hiL b) h).1 hx)) (fun j x v hx hv => ih2 j x v hx hv (hiL_get (maxN_le (a := hiL a) (b := hiL b) h).2 hx))
  | nilfn => exact fun _ => .nilfn
  | yld id hd g hid hv => exact fun h => .yld id hd g (take_get2 h hid) hv
  | mp id hd hid => exact fun h => .mp id hd (take_get2 h hid)
  | nilmp => exact fun _ => .nilmp
  | vsl id m hd g o k c cap hid hv => exact fun h => .vsl id m hd g o k c cap (take_get2 h hid) hv
  | vw id lo m hd g o k c cap hid hv hc hb => exact fun h => .vw id lo m hd g o k c cap (take_get2 h hid) hv hc hb
  | vwn id lo => exact fun _ => .vwn id lo
  | vws id lo a cap => exact fun _ => .vws id lo a cap
  | enl a cap => exact fun _ => .enl a cap
theorem RepL.hi {K : TypeId → List Kind} {ρ : List Hd} {F : Addr → Prop} {w : World} {n : Nat} {xs : List AV} {vs : List Value} (h : RepL K ρ F w xs vs) (hb : hiL xs ≤ n) : RepL K (ρ.take n) F w xs vs :=
  ⟨h.1, fun j x v hx hv => (h.2 j x v hx hv).hi (hiL_get hb hx)⟩
def hiE (l : List (AV × AV)) : Nat := List.rec (motive := fun _ => Nat) 0 (fun e _ ih => maxN (maxN (hiV e.1) (hiV e.2)) ih) l
theorem hiE_get {n : Nat} : ∀ {l : List (AV × AV)}, hiE l ≤ n → ∀ {j : Nat} {e : AV × AV}, l[j]? = some e → hiV e.1 ≤ n ∧ hiV e.2 ≤ n
  | [], _, _, _, h => by simp at h
  | y :: l, h, 0, x, hx => by simp only [List.getElem?_cons_zero, Option.some.injEq] at hx; subst hx; exact maxN_le (maxN_le (a := maxN (hiV y.1) (hiV y.2)) (b := hiE l) h).1
  | y :: l, h, j + 1, x, hx => hiE_get (l := l) (maxN_le (a := maxN (hiV y.1) (hiV y.2)) (b := hiE l) h).2 (by simpa using hx)
def hiP (l : List (Nat × AV)) : Nat := List.rec (motive := fun _ => Nat) 0 (fun e _ ih => maxN (hiV e.2) ih) l
theorem look_hi {n : Nat} : ∀ {env : List (Nat × AV)}, hiP env ≤ n → ∀ t, look env t = .top ∨ hiV (look env t) ≤ n
  | [], _, _ => .inl rfl
  | (u, x) :: env, h, t => by
    have h := maxN_le (a := hiV x) (b := hiP env) h
    rw [look_cons]
    split
    · exact .inr h.1
    · exact look_hi h.2 t
def hiB (b : Blk) : Nat := Blk.rec (motive := fun _ => Nat) (fun _ cs => hiL cs) (fun _ xs => hiM xs) (fun _ _ _ es => hiE es) (fun _ env _ _ => hiP env) 0 (fun _ xs => hiM xs) 0 (fun _ xs op => maxN (hiM xs) (Option.rec (motive := fun _ => Nat) 0 (fun p => Nat.succ p.2.2) op)) b
theorem BRep.hi {ρ : List Hd} {F : Addr → Prop} {w : World} {n : Nat} {hd : Hd} {b : Blk} (h : BRep X ρ F w hd b) (hb : hiB b ≤ n) : BRep X (ρ.take n) F w hd b := by
  cases b with
  | var ks cs =>
    obtain ⟨h1, h2, g, cur, e, h3, h4, h5, h6⟩ := h
    exact ⟨h1, h2, g, cur, e, h3, h4, h5.hi hb, h6⟩
  | row t xs =>
    obtain ⟨h1, h2, h3⟩ := h
    refine ⟨h1, h2, ?_⟩
    rcases h3 with h3 | ⟨g, o, c, cur, e1, e2, e3, e4, e5, e6⟩
    · exact .inl h3
    · refine .inr ⟨g, o, c, cur, e1, e2, e3, e4, e5, fun i row hi j x hx => ?_⟩
      obtain ⟨v, hv, hr⟩ := e6 i row hi j x hx
      exact ⟨v, hv, hr.hi (hiL_get (hiM_get (l := xs) hb hi) hx)⟩
  | map kd ag ks es =>
    obtain ⟨h0, g, mes, clock, h1, h2, h3, h4⟩ := h
    refine ⟨h0, g, mes, clock, h1, h2, h3, fun i e me he hm => ?_⟩
    obtain ⟨h5, h6, h7⟩ := h4 i e me he hm
    have := hiE_get (l := es) hb he
    exact ⟨h5, h6.hi this.1, h7.hi this.2⟩
  | loop s env busy pend =>
    obtain ⟨g, lp, h1, h2, h3, h4, h5, h6, h7, h8⟩ := h
    refine ⟨g, lp, h1, h2, h3, h4, h5, h6, fun t => ?_, h8⟩
    rcases look_hi (env := env) hb t with e | e
    · rw [e]; exact .top _
    · exact (h7 t).hi e
  | dfr => exact h
  | fro t xs => exact Rep.hi (n := n) (show Rep X.K ρ F w (.list t xs) hd.v from h) hb
  | dead => trivial
  | nst t xs op => trivial
theorem opAt_some {op : Option (Nat × Nat × Nat)} {i j k : Nat} (h : opAt op i j = some k) : op = some (i, j, k) := by
  match op with
  | none => cases h
  | some (i', j', k') =>
    simp only [opAt] at h
    split at h
    · rename_i hc
      injection h with h
      rw [hc.1, hc.2, h]
    · cases h
theorem NRep.hi {ρ : List Hd} {F : Addr → Prop} {w : World} {n : Nat} {hd : Hd} {t : TypeId} {xs : List Row} {op : Option (Nat × Nat × Nat)} (h : NRep X ρ F w hd t xs op) (hb : hiB (.nst t xs op) ≤ n) : NRep X (ρ.take n) F w hd t xs op := by
  obtain ⟨h1, h2, h3, h4, h5⟩ := h
  have hb := maxN_le (a := hiM xs) (b := Option.rec (motive := fun _ => Nat) 0 (fun p => Nat.succ p.2.2) op) hb
  refine ⟨h1, h2, h3, h4, ?_⟩
  rcases h5 with h5 | ⟨g, o, c, cur, e1, e2, e3, e4, e5, e6⟩
  · exact .inl h5
  · refine .inr ⟨g, o, c, cur, e1, e2, e3, e4, e5, fun i row hi j x hx => ?_⟩
    obtain ⟨v, hv, q1, q2⟩ := e6 i row hi j x hx
    have hxn : hiV x ≤ n := hiL_get (hiM_get (l := xs) hb.1 hi) hx
    refine ⟨v, hv, fun k hk => ?_, fun hk => ?_⟩
    · obtain ⟨h, hh, hvv⟩ := q1 k hk
      refine ⟨h, ?_, hvv⟩
      have := hb.2
      rw [opAt_some hk] at this
      rw [List.getElem?_take, if_pos (show k < n from this)]; exact hh
    · have q := q2 hk
      cases x with
      | sub e ys => exact ⟨BRep.hi q.1 (b := .row e ys) hxn, q.2⟩
      | _ => exact Rep.hi q hxn
theorem Inv.cut2 (hG : GlobFree X) {w0 w : World} {S : Sc} {F : Addr → Prop} {ρ : List Hd} {M : List Blk} {n : Nat} (hI : Inv X w0 S F ρ M w) (hb : ∀ b ∈ M.take n, hiB b ≤ n) : Inv X w0 S F (ρ.take n) (M.take n) w := by
  have tk : ∀ {α : Type} {l : List α} {i : Nat} {x : α}, (l.take n)[i]? = some x → l[i]? = some x := by
    intro α l i x h
    rw [List.getElem?_take] at h
    split at h
    · exact h
    · cases h
  exact {
    os := hI.os, tape := hI.tape, output := hI.output, size := hI.size, frame := hI.frame
    len := by rw [List.length_take, List.length_take, hI.len]
    rep := fun id b hd h1 h2 => (hI.rep id b hd (tk h1) (tk h2)).hi (hb b (List.mem_of_getElem? h1))
    sep := fun id b hd g h1 h2 h3 => hI.sep id b hd g (tk h1) h2 (tk h3)
    disj := fun id id' b b' hd hd' g hne h1 h2 h3 h4 h5 h6 => hI.disj id id' b b' hd hd' g hne (tk h1) (tk h2) h3 h4 (tk h5) (tk h6)
    fz := hI.fz
    glob := fun g => hG g (hI.glob g)
    one := fun id hd h => hI.one id hd (tk h)
    old := hI.old, fin := hI.fin
    nst := by
      have back : ∀ {id p g}, Hid w (ρ.take n) (M.take n) id p g → Hid w ρ M id p g := fun h => by
        cases h with
        | out hb hh hg => exact .out (tk hb) (tk hh) hg
        | sub hb hh hi hj ho hc hg => exact .sub (tk hb) (tk hh) hi hj ho hc hg
      refine ⟨fun h => ?_, fun h1 h2 => hI.nst.inj (back h1) (back h2), fun hm hh => (hI.nst.rep (tk hm) (tk hh)).hi (hb _ (List.mem_of_getElem? hm))⟩
      obtain ⟨a1, a2, a3, a4⟩ := hI.nst.own (back h)
      exact ⟨a1, a2, a3, fun ⟨i, b, hd, q1, q2, q3, q4⟩ => a4 ⟨i, b, hd, tk q1, q2, tk q3, q4⟩⟩ }
theorem ACalls.cut2 (hG : GlobFree X) {f : FuncId} {args : List AV} {M M' : List Blk} {x : AV} (h : ACalls X f args M x M') (hx : hiV x ≤ M.length) (hb : ∀ b ∈ M'.take M.length, hiB b ≤ M.length) : ACalls X f args M x (M'.take M.length) := by
  refine ⟨h.1, fun {w0 S F ρ w vs} hI hr => (h.2 hI hr).mono ?_⟩
  rintro e w' ⟨v, ρ', F', rfl, hI', hg, hr'⟩
  refine ⟨v, ρ'.take M.length, F', rfl, hI'.cut2 hG hb, ⟨hg.hF, fun id hd hh => ?_, hg.hb⟩, hr'.hi hx⟩
  have hlt : id < ρ.length := (List.getElem?_eq_some_iff.1 hh).1
  rw [hI.len] at hlt
  rw [List.getElem?_take, if_pos hlt]
  exact hg.hρ id hd hh
def hiR (rm : List Blk) : Nat := List.rec (motive := fun _ => Nat) 0 (fun b _ ih => maxN (hiB b) ih) rm
theorem hiR_mem {n : Nat} : ∀ {rm : List Blk}, hiR rm ≤ n → ∀ b ∈ rm, hiB b ≤ n
  | [], _, _, h => by simp at h
  | c :: rm, h, b, hb => by
    have h := maxN_le (a := hiB c) (b := hiR rm) h
    rcases List.mem_cons.1 hb with rfl | hb
    · exact h.1
    · exact hiR_mem h.2 b hb
def hiN (en : En) : Nat := En.rec (motive := fun _ => Nat) 0 (fun _ x _ ih => maxN (hiV x) ih) en
theorem hiN_eq : ∀ (en : En), hiN en = hiP en.l
  | .nil => rfl
  | .c t x r => by show maxN (hiV x) (hiN r) = maxN (hiV x) (hiP r.l); rw [hiN_eq r]
def dropC {α : Type} (n : Nat) (l : List α) (k : List α → Option R) : Option R :=
  Nat.rec (motive := fun _ => List α → Option R) (fun l => k l) (fun _ ih l => List.rec (motive := fun _ => Option R) none (fun _ tl _ => ih tl) l) n l
theorem dropC_some {α : Type} {k : List α → Option R} {r : R} : ∀ {n : Nat} {l : List α}, dropC n l k = some r → k (l.drop n) = some r
  | 0, _, h => h
  | n + 1, [], h => by cases h
  | n + 1, a :: l, h => dropC_some (n := n) (l := l) h
theorem drop_rev {rm : List Blk} {m n : Nat} (hm : m = rm.length) (hn : n ≤ m) : (rm.drop (m - n)).reverse = rm.reverse.take n := by
  subst hm
  rw [List.reverse_drop, show rm.length - (rm.length - n) = n by omega]
def tidyX (n dead : Nat) (en : En) (rm : List Blk) (m : Nat) (k : En → List Blk → Nat → Option R) : Option R :=
  trimE en dead fun en => Bool.rec (motive := fun _ => Option R)
    (Bool.rec (motive := fun _ => Option R) (k en rm m) (dropC (Nat.sub m n) rm fun rm1 => Bool.rec (motive := fun _ => Option R) (k en rm m) (k en rm1 n) (Nat.ble (hiR rm1) n)) (andF (Nat.ble n m) (Nat.ble (hiN en) n)))
    (k en rm m) (Nat.beq n m)
theorem tidyX_some (hG : GlobFree X) {n dead : Nat} {en : En} {rm : List Blk} {m : Nat} (hm : m = rm.length) {k : En → List Blk → Nat → Option R} {r : R} (h : tidyX n dead en rm m k = some r) : ∃ en' rm' m', m' = rm'.length ∧ k en' rm' m' = some r ∧
    ∀ {nt : Nt} {rd : Rd} {rdc : Cy} {w0 : World} {S : Sc} {F : Addr → Prop} {ρ : List Hd} {a : Act} {w : World}, Inv X w0 S F ρ rm.reverse w → Sim X nt (stX en rm rd) rdc F ρ a w → ∃ ρ', Inv X w0 S F ρ' rm'.reverse w ∧ Sim X nt (stX en' rm' rd) rdc F ρ' a w ∧ GrowF n F F ρ ρ' w w := by
  unfold tidyX at h
  obtain ⟨out, h1, h2⟩ := trimE_spec (R := R) en dead (fun en => Bool.rec (motive := fun _ => Option R)
    (Bool.rec (motive := fun _ => Option R) (k en rm m) (dropC (Nat.sub m n) rm fun rm1 => Bool.rec (motive := fun _ => Option R) (k en rm m) (k en rm1 n) (Nat.ble (hiR rm1) n)) (andF (Nat.ble n m) (Nat.ble (hiN en) n)))
    (k en rm m) (Nat.beq n m))
  rw [h1] at h
  have ht : ∀ t, look out.l t = .top ∨ look out.l t = look en.l t := fun t => (h2 t).imp (fun h => h) (·.2)
  have gr : ∀ {F : Addr → Prop} {ρ : List Hd} {w : World}, GrowF n F F ρ ρ w w := ⟨fun _ h => h, fun _ _ _ h => h, fun _ _ => rfl⟩
  have plain : k out rm m = some r → ∃ en' rm' m', m' = rm'.length ∧ k en' rm' m' = some r ∧
      ∀ {nt : Nt} {rd : Rd} {rdc : Cy} {w0 : World} {S : Sc} {F : Addr → Prop} {ρ : List Hd} {a : Act} {w : World}, Inv X w0 S F ρ rm.reverse w → Sim X nt (stX en rm rd) rdc F ρ a w → ∃ ρ', Inv X w0 S F ρ' rm'.reverse w ∧ Sim X nt (stX en' rm' rd) rdc F ρ' a w ∧ GrowF n F F ρ ρ' w w :=
    fun h => ⟨out, rm, m, hm, h, fun {nt rd rdc w0 S F ρ a w} hI hs => ⟨ρ, hI, ⟨envRep_trim ht hs.env, hs.size, hs.defs, hs.rd, hs.kept⟩, gr⟩⟩
  cases hb : Nat.beq n m with
  | true => rw [hb] at h; exact plain h
  | false =>
    rw [hb] at h
    cases hc : andF (Nat.ble n m) (Nat.ble (hiN out) n) with
    | false => rw [hc] at h; exact plain h
    | true =>
      rw [hc] at h
      rw [andF_eq, Bool.and_eq_true] at hc
      have hle : n ≤ m := Nat.le_of_ble_eq_true hc.1
      have hen : hiP out.l ≤ n := by rw [← hiN_eq]; exact Nat.le_of_ble_eq_true hc.2
      replace h := dropC_some h
      cases hd : Nat.ble (hiR (rm.drop (Nat.sub m n))) n with
      | false => rw [hd] at h; exact plain h
      | true =>
        rw [hd] at h
        have hrev : (rm.drop (m - n)).reverse = rm.reverse.take n := drop_rev hm hle
        have hall : ∀ b ∈ rm.reverse.take n, hiB b ≤ n := by
          rw [← hrev]
          exact fun b hb => hiR_mem (Nat.le_of_ble_eq_true hd) b (List.mem_reverse.1 hb)
        refine ⟨out, rm.drop (m - n), n, by rw [List.length_drop]; omega, h, fun {nt rd rdc w0 S F ρ a w} hI hs => ⟨ρ.take n, ?_, ⟨fun t => ?_, hs.size, hs.defs, hs.rd, hs.kept⟩, fun _ h => h, fun id hd hlt hh => by rw [List.getElem?_take, if_pos hlt]; exact hh, fun _ _ => rfl⟩⟩
        · rw [hrev]; exact hI.cut2 hG hall
        · show Rep X.K (ρ.take n) F w (look out.l t) _
          rcases look_hi hen t with e | e
          · rw [e]; exact .top _
          · exact (envRep_trim ht hs.env t).hi e
end
end Go.Eng

namespace Go.Eng
open Go Go.ChangeShapes Go.WideShapes Go.ChangeAt Go.RowKit
noncomputable section
variable {X : Cx} {R : Type}
def xrounds (f : XK R) (n dead : Nat) (rounds : Nat) : XK R :=
  Nat.rec (motive := fun _ => XK R) (fun _ _ _ _ => none) (fun _ ih en rm m k => f en rm m fun e en rm m => tidyX n dead en rm m fun en rm m => Ex.rec (motive := fun _ => Option R) (ih en rm m k) (fun i => k (.exit i) en rm m) (k .ret en rm m) e) rounds
def xk (X : Cx) (T : Tab R) (C : CallT R) (V : LendT) (rd : Rd) (rg : Nat → XK R) (dd : Nat → Nat) (rounds : Nat) (c : Code) : Nat → XK R :=
  Code.rec (motive := fun _ => Nat → XK R)
    (fun _ en rm m k => k .normal en rm m)
    (fun _ ops draw p => xreg X T C V rd ops draw (dd p))
    (fun _ _ ia ib p en rm m k => ia (Nat.mul 2 p) en rm m fun e en rm m => Ex.rec (motive := fun _ => Option R) (ib (Nat.succ (Nat.mul 2 p)) en rm m k) (fun i => k (.exit i) en rm m) (k .ret en rm m) e)
    (fun c _ _ ia ib p en rm m k => onBool (ov X en c) (fun b => iff b (ia (Nat.mul 2 p) en rm m k) (ib (Nat.succ (Nat.mul 2 p)) en rm m k)) none)
    (fun i _ ia p en rm m k => ia (Nat.mul 2 p) en rm m fun e en rm m => Ex.rec (motive := fun _ => Option R) (k .normal en rm m) (fun j => iff (Nat.beq j i) (k .normal en rm m) (k (.exit j) en rm m)) (k .ret en rm m) e)
    (fun _ ia p en rm m k => xrounds (ia (Nat.mul 2 p)) m (dd p) rounds en rm m k)
    (fun _ _ _ _ _ _ p => rg p)
    (fun i _ en rm m k => k (.exit i) en rm m)
    (fun _ ia p en rm m k => ia (Nat.mul 2 p) en rm m k)
    (fun _ _ en rm m k => k .normal en rm m)
    (fun _ _ _ _ _ _ => none)
    (fun _ en rm m k => k .ret en rm m)
    (fun _ _ _ _ _ _ => none)
    c
section
variable {T : Tab R} {C : CallT R} {rd : Rd}
theorem xrounds_sound (hG : GlobFree X) {c : Code} {f : XK R} (hf : XSays X T.nt rd c f) {n dead : Nat} : ∀ (rounds : Nat) {en : En} {rm : List Blk} {m : Nat} {k : Ex → En → List Blk → Nat → Option R} {r : R}, m = rm.length → xrounds f n dead rounds en rm m k = some r →
    ∃ e en' rm' m', m' = rm'.length ∧ k e en' rm' m' = some r ∧ ∀ {rdc : Cy} {i : Nat} {w0 : World} {S : Sc} {F : Addr → Prop} {ρ : List Hd} {a : Act} {w : World} {Q : Exit → Act → World → Prop}, Inv X w0 S F ρ rm.reverse w → Sim X T.nt (stX en rm rd) rdc F ρ a w →
      (∀ a' w' F' ρ', Inv X w0 S F' ρ' rm'.reverse w' → Sim X T.nt (stX en' rm' rd) rdc F' ρ' a' w' → GrowF n F F' ρ ρ' w w' → Q (Ex.exit' e) a' w') → Code.roundsIn (fen rdc.r) i X.P c Q rounds a w
  | 0, en, rm, m, k, r, _, h => by cases h
  | rounds + 1, en, rm, m, k, r, hm, h => by
    have h : (f en rm m fun e en rm m => tidyX n dead en rm m fun en rm m => Ex.rec (motive := fun _ => Option R) (xrounds f n dead rounds en rm m k) (fun i => k (.exit i) en rm m) (k .ret en rm m) e) = some r := h
    obtain ⟨e, en1, rm1, m1, hm1, hrun, h⟩ := hf _ _ _ _ _ hm h
    obtain ⟨en2, rm2, m2, hm2, h, htd⟩ := tidyX_some hG hm1 h
    cases e with
    | normal =>
      obtain ⟨e', en', rm', m', hm', hk, hr⟩ := xrounds_sound hG hf rounds hm2 h
      refine ⟨e', en', rm', m', hm', hk, fun {rdc i w0 S F ρ a w Q} hI hs hq => ?_⟩
      rw [roundsIn_succ]
      refine hrun hI hs fun a' w' F' ρ' hI' hs' hg => ?_
      obtain ⟨ρ2, hI2, hs2, hg2⟩ := htd hI' hs'
      exact hr hI2 hs2 fun a'' w'' F'' ρ'' hI'' hs'' hg'' => hq a'' w'' F'' ρ'' hI'' hs'' (((hg.toF n).trans hg2).trans hg'')
    | exit j =>
      refine ⟨.exit j, en2, rm2, m2, hm2, h, fun {rdc i w0 S F ρ a w Q} hI hs hq => ?_⟩
      rw [roundsIn_succ]
      refine hrun hI hs fun a' w' F' ρ' hI' hs' hg => ?_
      obtain ⟨ρ2, hI2, hs2, hg2⟩ := htd hI' hs'
      exact hq a' w' F' ρ2 hI2 hs2 ((hg.toF n).trans hg2)
    | ret =>
      refine ⟨.ret, en2, rm2, m2, hm2, h, fun {rdc i w0 S F ρ a w Q} hI hs hq => ?_⟩
      rw [roundsIn_succ]
      refine hrun hI hs fun a' w' F' ρ' hI' hs' hg => ?_
      obtain ⟨ρ2, hI2, hs2, hg2⟩ := htd hI' hs'
      exact hq a' w' F' ρ2 hI2 hs2 ((hg.toF n).trans hg2)
theorem xk_sound (hX : X.Okb) (hG : GlobFree X) (hT : T.CallOk X) (hC : CallsOk X C) {V : LendT} (hV : LendOk X V) {root : Code} {rg : Nat → XK R} {dd : Nat → Nat} {rounds : Nat}
    (hrg : ∀ {p : Nat} {g : Operand} {ps : Array Tmp} {x y : Code}, At root p (.rangeFunc g ps x y) → XSays X T.nt rd (.rangeFunc g ps x y) (rg p)) : ∀ (c : Code) {p : Nat}, At root p c → XSays X T.nt rd c (xk X T C V rd rg dd rounds c p)
  | .skip, p, _ => fun en rm m k r hm h => ⟨.normal, en, rm, m, hm, fun {rdc n w0 S F ρ a w Q} hI hs hq => wpIn_skip (hq a w F ρ hI hs (Grow.refl _ _ _)), h⟩
  | .label l, p, _ => fun en rm m k r hm h => ⟨.normal, en, rm, m, hm, fun {rdc n w0 S F ρ a w Q} hI hs hq => wpIn_label (hq a w F ρ hI hs (Grow.refl _ _ _)), h⟩
  | .region id ops draw, p, _ => xreg_sound hX hT hC hV
  | .seq x y, p, hat => fun en rm m k r hm h => by
    have ihx := xk_sound hX hG hT hC hV (dd := dd) (rounds := rounds) hrg x (hat.down false fun l hl => by simp [codeAt, hl])
    have ihy := xk_sound hX hG hT hC hV (dd := dd) (rounds := rounds) hrg y (hat.down true fun l hl => by simp [codeAt, hl])
    have h : (xk X T C V rd rg dd rounds x (2 * p) en rm m fun e en rm m => Ex.rec (motive := fun _ => Option R) (xk X T C V rd rg dd rounds y (2 * p + 1) en rm m k) (fun i => k (.exit i) en rm m) (k .ret en rm m) e) = some r := h
    obtain ⟨e, en1, rm1, m1, hm1, h1, h⟩ := ihx _ _ _ _ _ hm h
    cases e with
    | normal =>
      obtain ⟨e, en2, rm2, m2, hm2, h2, h⟩ := ihy _ _ _ _ _ hm1 h
      refine ⟨e, en2, rm2, m2, hm2, fun {rdc n w0 S F ρ a w Q} hI hs hq => wpIn_seq (h1 hI hs fun a' w' F' ρ' hI' hs' hg => ?_), h⟩
      exact h2 hI' hs' fun a'' w'' F'' ρ'' hI'' hs'' hg' => hq a'' w'' F'' ρ'' hI'' hs'' (hg.trans hg')
    | exit i => exact ⟨.exit i, en1, rm1, m1, hm1, fun {rdc n w0 S F ρ a w Q} hI hs hq => wpIn_seq (h1 hI hs fun a' w' F' ρ' hI' hs' hg => hq a' w' F' ρ' hI' hs' hg), h⟩
    | ret => exact ⟨.ret, en1, rm1, m1, hm1, fun {rdc n w0 S F ρ a w Q} hI hs hq => wpIn_seq (h1 hI hs fun a' w' F' ρ' hI' hs' hg => hq a' w' F' ρ' hI' hs' hg), h⟩
  | .cond c x y, p, hat => fun en rm m k r hm h => by
    have ihx := xk_sound hX hG hT hC hV (dd := dd) (rounds := rounds) hrg x (hat.down false fun l hl => by simp [codeAt, hl])
    have ihy := xk_sound hX hG hT hC hV (dd := dd) (rounds := rounds) hrg y (hat.down true fun l hl => by simp [codeAt, hl])
    obtain ⟨t, ht, h⟩ := onBool_some (x := ov X en c) h
    have hev : ∀ {w0 : World} {S : Sc} {F : Addr → Prop} {ρ : List Hd} {a : Act} {w : World} {rdc : Cy}, Inv X w0 S F ρ rm.reverse w → Sim X T.nt (stX en rm rd) rdc F ρ a w → a.eval c = .bool t := by
      intro w0 S F ρ a w rdc hI hs
      have := evv_rep hI hs.env c
      rw [show evv X (stX en rm rd).env c = .bool t from (ov_eq X en c).symm.trans ht] at this
      generalize a.eval c = v at this
      cases this
      rfl
    rw [iff_eq] at h
    cases t with
    | true =>
      obtain ⟨e, en1, rm1, m1, hm1, h1, h⟩ := ihx _ _ _ _ _ hm h
      exact ⟨e, en1, rm1, m1, hm1, fun {rdc n w0 S F ρ a w Q} hI hs hq => wpIn_cond_true (hev hI hs) (h1 hI hs hq), h⟩
    | false =>
      obtain ⟨e, en1, rm1, m1, hm1, h1, h⟩ := ihy _ _ _ _ _ hm h
      exact ⟨e, en1, rm1, m1, hm1, fun {rdc n w0 S F ρ a w Q} hI hs hq => wpIn_cond_false (hev hI hs) (h1 hI hs hq), h⟩
  | .block i x, p, hat => fun en rm m k r hm h => by
    have ihx := xk_sound hX hG hT hC hV (dd := dd) (rounds := rounds) hrg x (hat.down false fun l hl => by simp [codeAt, hl])
    have h : (xk X T C V rd rg dd rounds x (2 * p) en rm m fun e en rm m => Ex.rec (motive := fun _ => Option R) (k .normal en rm m) (fun j => iff (Nat.beq j i) (k .normal en rm m) (k (.exit j) en rm m)) (k .ret en rm m) e) = some r := h
    obtain ⟨e, en1, rm1, m1, hm1, h1, h⟩ := ihx _ _ _ _ _ hm h
    cases e with
    | normal => exact ⟨.normal, en1, rm1, m1, hm1, fun {rdc n w0 S F ρ a w Q} hI hs hq => wpIn_block (h1 hI hs fun a' w' F' ρ' hI' hs' hg => hq a' w' F' ρ' hI' hs' hg), h⟩
    | exit j =>
      have h : iff (Nat.beq j i) (k .normal en1 rm1 m1) (k (.exit j) en1 rm1 m1) = some r := h
      rw [iff_eq] at h
      split at h
      · rename_i hj
        have hj : j = i := Nat.eq_of_beq_eq_true hj
        refine ⟨.normal, en1, rm1, m1, hm1, fun {rdc n w0 S F ρ a w Q} hI hs hq => wpIn_block (h1 hI hs fun a' w' F' ρ' hI' hs' hg => ?_), h⟩
        simp only [Ex.exit', Exit.inBlock, hj, if_true]
        exact hq a' w' F' ρ' hI' hs' hg
      · rename_i hj
        have hj : j ≠ i := fun e => by subst e; simp at hj
        refine ⟨.exit j, en1, rm1, m1, hm1, fun {rdc n w0 S F ρ a w Q} hI hs hq => wpIn_block (h1 hI hs fun a' w' F' ρ' hI' hs' hg => ?_), h⟩
        simp only [Ex.exit', Exit.inBlock, if_neg hj]
        exact hq a' w' F' ρ' hI' hs' hg
    | ret => exact ⟨.ret, en1, rm1, m1, hm1, fun {rdc n w0 S F ρ a w Q} hI hs hq => wpIn_block (h1 hI hs fun a' w' F' ρ' hI' hs' hg => hq a' w' F' ρ' hI' hs' hg), h⟩
  | .loop c, p, hat => fun en rm m k r hm h => by
    have ih := xk_sound hX hG hT hC hV (dd := dd) (rounds := rounds) hrg c (hat.down false fun l hl => by simp [codeAt, hl])
    have h : xrounds (xk X T C V rd rg dd rounds c (2 * p)) m (dd p) rounds en rm m k = some r := h
    obtain ⟨e, en1, rm1, m1, hm1, h, hr⟩ := xrounds_sound hG ih rounds hm h
    refine ⟨e, en1, rm1, m1, hm1, fun {rdc n w0 S F ρ a w Q} hI hs hq => wpIn_loop_rounds rounds (hr hI hs fun a' w' F' ρ' hI' hs' hg => hq a' w' F' ρ' hI' hs' (hg.whole ?_)), h⟩
    have := hI.len
    rw [this, hm]; exact List.length_reverse
  | .rangeFunc g ps x y, p, hat => hrg hat
  | .exit i, p, _ => fun en rm m k r hm h => ⟨.exit i, en, rm, m, hm, fun {rdc n w0 S F ρ a w Q} hI hs hq => wpIn_exit (hq a w F ρ hI hs (Grow.refl _ _ _)), h⟩
  | .scope x, p, hat => fun en rm m k r hm h => by
    have ihx := xk_sound hX hG hT hC hV (dd := dd) (rounds := rounds) hrg x (hat.down false fun l hl => by simp [codeAt, hl])
    obtain ⟨e, en1, rm1, m1, hm1, h1, h⟩ := ihx _ _ _ _ _ hm h
    exact ⟨e, en1, rm1, m1, hm1, fun {rdc n w0 S F ρ a w Q} hI hs hq => wpIn_scope' (h1 hI hs fun a' w' F' ρ' hI' hs' hg => ⟨fun l => by cases e <;> simp [Ex.exit'], hq a' w' F' ρ' hI' hs' hg⟩), h⟩
  | .ret, p, _ => fun en rm m k r hm h => ⟨.ret, en, rm, m, hm, fun {rdc n w0 S F ρ a w Q} hI hs hq => wpIn_ret (hq a w F ρ hI hs (Grow.refl _ _ _)), h⟩
  | .goto l, p, _ => fun en rm m k r hm h => by cases h
  | .refuse l, p, _ => fun en rm m k r hm h => by cases h
end
end
end Go.Eng

namespace Go.Eng
open Go
noncomputable section
variable {X : Cx} {R : Type}
def OutM (P : Program) (fn : Func) (tmps : Array Value) (R : Ending → World → Prop) : List Deferred → World → Prop
  | [], w => ∃ v, (results fn tmps).run P w = .ok v w ∧ R (.returned v) w
  | d :: ds, w => ∃ r w', d.target = .collected r ∧ (Instr.takeDeferred r).run P w = .ok [] w' ∧ OutM P fn tmps R ds w'
theorem outM_steps {P : Program} {F : Fence} {n : Nat} {fn : Func} {tmps : Array Value} {R : Ending → World → Prop} : ∀ (ds : List Deferred) (w : World) (fr : Frame) (cs : List Frame), fr.mode = .returning → fr.defers = ds → fr.tmps = tmps → P.funcs[fr.fn]? = some fn → F.fn fr.fn → F.room (cs.length + 1 + n) → OutM P fn tmps R ds w →
    ∃ v w' fr', R (.returned v) w' ∧ ComesIn (Machine.fenced P F) P (lone fr cs w) (lone fr' cs w') (.returned v) ∧ fr'.kind = fr.kind ∧ fr'.fn = fr.fn ∧ fr'.going P w' (.returned v)
  | [], w, fr, cs, hm, hd, ht, hf, hb, hr, h => by
    obtain ⟨v, h1, h2⟩ := h
    exact ⟨v, w, fr, h2, StepsIn.refl _, rfl, rfl, hm, hd, fn, hf, ht ▸ h1⟩
  | d :: ds, w, fr, cs, hm, hd, ht, hf, hb, hr, h => by
    obtain ⟨r, w', htar, htake, h⟩ := h
    have hrun : fr.mode ≠ .run := by rw [hm]; simp
    have h1 := step_collected (cs := cs) hrun hd htar htake
    have i1 : (lone fr cs w).fenced P F := fenced_out hb hr hrun hd (fun g hg => by rw [htar] at hg; simp [Target.leads] at hg)
    obtain ⟨v, w'', fr', q1, q2, q3, q4, q5⟩ := outM_steps ds w' { fr with defers := [] ++ ds } cs hm rfl ht hf hb hr h
    exact ⟨v, w'', fr', q1, ComesIn.of_steps (.one i1 h1) q2, q3, q4, q5⟩
theorem callsDIn_of_wp_marks {P : Program} {F : Fence} {n : Nat} {f : FuncId} {fn : Func} {c : Code} {args : Array Value} {u : FrameMode} {w : World} {R : Ending → World → Prop}
    (hf : P.funcs[f]? = some fn) (hb : fn.body = some c) (hF : F.fn f)
    (h : c.wpIn F n P (fun e a' w' => (e = .normal ∨ e = .ret) ∧ OutM P fn a'.tmps R a'.defers w') { tmps := args ++ Array.replicate (fn.ntmps - args.size) undef, defers := [] } w) (hro : F.round = none := by rfl) :
    CallsDIn F n P f args u w fun e u' w' => u' = u ∧ R e w' := by
  refine ⟨hF, fun c₀ cs hu hr => ?_⟩
  let b : Frame := { (default : Frame) with fn := f, kind := .deferred, roundOf := none }
  have henter : Frame.enter P f args .deferred =
      b.atR { tmps := args ++ Array.replicate (fn.ntmps - args.size) undef, defers := [] } [.code c] := by
    simp [Frame.enter, Frame.atR, hf, hb, b]
  have hc : ({ c₀ with mode := u } : Frame) = c₀ := by subst hu; rfl
  obtain ⟨e, a', w', ⟨he, hq⟩, harr⟩ := h b [] (c₀ :: cs) hro.symm hF hr
  rw [← henter] at harr
  rcases he with rfl | rfl
  · obtain ⟨v, w'', fr', hR, hs, hk, hfn, hl⟩ := outM_steps a'.defers w' { b.atR a' [] with mode := .returning } (c₀ :: cs) rfl rfl rfl hf hF hr hq
    exact ⟨.returned v, u, w'', fr', ⟨rfl, hR⟩, (by rw [hc]; exact ComesIn.of_steps (StepsIn.trans harr (.one (fenced_calm (fr := b.atR a' []) hF hr rfl) (stepR_end rfl))) hs), hk, hfn, hl⟩
  · obtain ⟨todo, hs₀⟩ := harr.1 rfl
    obtain ⟨v, w'', fr', hR, hs, hk, hfn, hl⟩ := outM_steps a'.defers w' { b.atR a' todo with mode := .returning } (c₀ :: cs) rfl rfl rfl hf hF hr hq
    exact ⟨.returned v, u, w'', fr', ⟨rfl, hR⟩, (by rw [hc]; exact ComesIn.of_steps hs₀ hs), hk, hfn, hl⟩
inductive DRep (X : Cx) (F : Addr → Prop) (ρ : List Hd) (w : World) : List (Nat × List AV) → List Nat → List Deferred → Prop
  | nil : DRep X F ρ w [] [] []
  | mark {D : Nat} {dl : List (Nat × List AV)} {ms : List Nat} {df : List Deferred} (hF : F ⟨D, 0, none⟩) (hh : w.heap[D]? = some (.deferred (some []))) (hD : D ∉ ms) (h : DRep X F ρ w dl ms df) : DRep X F ρ w dl (D :: ms) ({ target := .collected D, args := #[] } :: df)
  | call {g : Nat} {args : List AV} {dl : List (Nat × List AV)} {ms : List Nat} {df : List Deferred} {vf vc : List Value} (hr : RepL X.K ρ F w args (vf ++ vc)) (h : DRep X F ρ w dl ms df) : DRep X F ρ w ((g, args) :: dl) ms ({ target := .fn (.func g) vc.toArray, args := vf.toArray } :: df)
theorem DRep.grow {F F' : Addr → Prop} {ρ ρ' : List Hd} {w w' : World} (g : Grow F F' ρ ρ' w w') {dl : List (Nat × List AV)} {ms : List Nat} {df : List Deferred} (h : DRep X F ρ w dl ms df) : DRep X F' ρ' w' dl ms df := by
  induction h with
  | nil => exact .nil
  | mark hF hh hD _ ih => exact .mark (g.hF _ hF) ((g.hb _ hF).trans hh) hD ih
  | call hr _ ih => exact .call (hr.grow g) ih
theorem DRep.less {F : Addr → Prop} {ρ : List Hd} {w : World} {D : Nat} (hc : ∀ a v, a.block = D → w.cell? a ≠ some v) (o : Obj) {dl : List (Nat × List AV)} {ms : List Nat} {df : List Deferred} (h : DRep X F ρ w dl ms df) (hD : D ∉ ms) : DRep X (less F D) ρ (w.putObj D o) dl ms df := by
  induction h with
  | nil => exact .nil
  | mark hF hh hD' _ ih =>
    rw [List.mem_cons, not_or] at hD
    exact .mark ⟨hF, fun e => hD.1 e.symm⟩ (by rw [World.putObj_heap_other (fun e => hD.1 e.symm)]; exact hh) hD' (ih hD.2)
  | call hr _ ih => exact .call ⟨hr.1, fun j x v hx hv => (hr.2 j x v hx hv).less hc o⟩ (ih hD)
theorem DRep.marks {F : Addr → Prop} {ρ : List Hd} {w : World} {dl : List (Nat × List AV)} {ms : List Nat} {df : List Deferred} (h : DRep X F ρ w dl ms df) : ∀ (ms' : List Nat), ms'.Nodup → (∀ D ∈ ms', D ∉ ms ∧ F ⟨D, 0, none⟩ ∧ w.heap[D]? = some (.deferred (some []))) →
    DRep X F ρ w dl (ms' ++ ms) (ms'.map (fun D => ({ target := .collected D, args := #[] } : Deferred)) ++ df)
  | [], _, _ => h
  | D :: ms', hn, hm => by
    obtain ⟨h1, h2, h3⟩ := hm D (by simp)
    have hn := List.nodup_cons.1 hn
    refine .mark h2 h3 (fun hd => ?_) (h.marks ms' hn.2 fun D' hD' => hm D' (by simp [hD']))
    rcases List.mem_append.1 hd with hd | hd
    · exact hn.1 hd
    · exact h1 hd
def DCalls (X : Cx) (f : FuncId) (args : List AV) (M M' : List Blk) : Prop :=
  (∀ (vs : Array Value) (w : World), (callFunc f vs).run X.P w = .ok (.enter f vs) w) ∧ ∀ {w0 : World} {S : Sc} {F : Addr → Prop} {ρ : List Hd} {w : World} {vs : List Value}, Inv X w0 S F ρ M w → RepL X.K ρ F w args vs →
    CallsDIn Fence.wide 0 X.P f vs.toArray .returning w fun e u' w' => u' = .returning ∧ ∃ v ρ' F', e = .returned v ∧ Inv X w0 S F' ρ' M' w' ∧ Grow F F' ρ ρ' w w'
inductive DDone (X : Cx) : List (Nat × List AV) → List Blk → List Blk → Prop
  | nil (M : List Blk) : DDone X [] M M
  | cons {g : Nat} {args : List AV} {dl : List (Nat × List AV)} {M M1 M2 : List Blk} (h : DCalls X g args M M1) (hs : DDone X dl M1 M2) : DDone X ((g, args) :: dl) M M2
theorem leaves_defs {fn : Func} {tmps : Array Value} {Me : List Blk} {env : List (Nat × AV)} {w0 wb : World} {S : Sc} {F0 : Addr → Prop} {ρ0 : List Hd} {x : AV} (hf0 : ∀ a, S.F0 a → F0 a)
    (hres : ∀ {F : Addr → Prop} {ρ : List Hd} {w : World}, Inv X w0 S F ρ Me w → EnvRep X ρ F w env tmps → ∃ v, (results fn tmps).run X.P w = .ok v w ∧ Rep X.K ρ F w x v) :
    ∀ (df : List Deferred) {dl : List (Nat × List AV)} {M : List Blk} {ms : List Nat} {F : Addr → Prop} {ρ : List Hd} {w : World}, DDone X dl M Me → DRep X F ρ w dl ms df → (∀ D ∈ ms, ∀ a, F0 a → a.block ≠ D) → Inv X w0 S F ρ M w → EnvRep X ρ F w env tmps → Grow F0 F ρ0 ρ wb w →
      LeavesInM Fence.wide 0 X.P fn tmps (fun e w' => ∃ v ρ' F', e = .returned v ∧ Inv X w0 S F' ρ' Me w' ∧ Grow F0 F' ρ0 ρ' wb w' ∧ Rep X.K ρ' F' w' x v) df .returning w
  | [], dl, M, ms, F, ρ, w, hd, hr, _, hI, hE, hg => by
    cases hr
    cases hd
    obtain ⟨v, h1, h2⟩ := hres hI hE
    exact ⟨v, h1, v, ρ, F, rfl, hI, hg, h2⟩
  | d :: df, dl, M, ms, F, ρ, w, hd, hr, ha, hI, hE, hg => by
    cases hr with
    | mark hF hh hD hrest =>
      rename_i D ms
      have hc := cell_ne_of_deferred hh
      have hA := ha D (by simp)
      exact ⟨by simp, .inl ⟨D, _, rfl, run_takeDeferred hh, leaves_defs hf0 hres df hd (hrest.less hc _ hD) (fun D' hD' => ha D' (by simp [hD'])) (hI.write_kept hF hc (fun a h => hA a (hf0 a h)) _) (hE.less hc _) (hg.less hA _)⟩⟩
    | call hargs hrest =>
      rename_i g args dl vf vc
      cases hd with
      | cons hcall hrestd =>
        refine ⟨by simp, .inr ⟨fun h => (by cases h), .func g, vc.toArray, g, (vf ++ vc).toArray, rfl, ?_, fun _ _ => trivial, (hcall.2 hI hargs).mono ?_⟩⟩
        · show (callFunc g (vf.toArray ++ vc.toArray)).run X.P w = _
          rw [List.append_toArray]
          exact hcall.1 _ _
        · rintro e u' w' ⟨rfl, v, ρ', F', rfl, hI', hg'⟩
          exact leaves_defs hf0 hres df hrestd (hrest.grow hg') ha hI' (hE.grow hg') (hg.trans hg')
theorem outM_marks {fn : Func} {tmps : Array Value} {M : List Blk} {env : List (Nat × AV)} {w0 wb : World} {S : Sc} {F0 : Addr → Prop} {ρ ρ' : List Hd} (hf0 : ∀ a, S.F0 a → F0 a)
    (hres : ∀ {F : Addr → Prop} {w : World}, Inv X w0 S F ρ' M w → EnvRep X ρ' F w env tmps → ∃ v, (results fn tmps).run X.P w = .ok v w) :
    ∀ (ms : List Nat) {F : Addr → Prop} {w : World}, Inv X w0 S F ρ' M w → EnvRep X ρ' F w env tmps → ms.Nodup → (∀ D ∈ ms, (∀ a, F0 a → a.block ≠ D) ∧ F ⟨D, 0, none⟩ ∧ w.heap[D]? = some (.deferred (some []))) → Grow F0 F ρ ρ' wb w →
      OutM X.P fn tmps (fun e w' => ∃ v ρ' F', e = .returned v ∧ Inv X w0 S F' ρ' M w' ∧ Grow F0 F' ρ ρ' wb w') (ms.map fun D => ({ target := .collected D, args := #[] } : Deferred)) w
  | [], F, w, hI, hE, _, _, hg => by
    obtain ⟨v, h1⟩ := hres hI hE
    exact ⟨v, h1, v, ρ', F, rfl, hI, hg⟩
  | D :: ms, F, w, hI, hE, hnd, hms, hg => by
    obtain ⟨h1, h2, h3⟩ := hms D (by simp)
    have hc := cell_ne_of_deferred h3
    refine ⟨D, _, rfl, run_takeDeferred h3, outM_marks hf0 hres ms (hI.write_kept h2 hc (fun a ha => h1 a (hf0 a ha)) _) (hE.less hc _) (List.nodup_cons.1 hnd).2 (fun D' hD' => ?_) (hg.less h1 _)⟩
    have hne : D' ≠ D := by rintro rfl; exact (List.nodup_cons.1 hnd).1 hD'
    obtain ⟨k1, k2, k3⟩ := hms D' (by simp [hD'])
    exact ⟨k1, ⟨k2, hne⟩, by rw [World.putObj_heap_other hne]; exact k3⟩
theorem sim_args {nt : Nt} {fn : Func} (hn : fn.ntmps = nt.n) {args : List AV} (hle : args.length ≤ nt.n) {M : List Blk} {F : Addr → Prop} {ρ : List Hd} {w : World} {vs : List Value} (hr : RepL X.K ρ F w args vs) :
    Sim X nt ⟨argEnv 0 args, M, [], .out⟩ ⟨none, F, fun t => (vs.toArray ++ Array.replicate (fn.ntmps - vs.toArray.size) undef).getD t undef, []⟩ F ρ { tmps := vs.toArray ++ Array.replicate (fn.ntmps - vs.toArray.size) undef, defers := [] } w := by
  have hlen := hr.1
  refine ⟨fun t => ?_, ?_, Marks.nil _ _ (fun _ h => h), .inl rfl, fun t _ => rfl⟩
  · rw [look_argEnv, if_pos (Nat.zero_le _)]
    cases hx : args[t - 0]? with
    | none => exact .top _
    | some y =>
      have ht : t < vs.length := by have := (List.getElem?_eq_some_iff.1 hx).1; omega
      have hv : (vs.toArray ++ Array.replicate (fn.ntmps - vs.toArray.size) undef).getD t undef = vs[t] := by
        rw [Array.getD_eq_getD_getElem?, Array.getElem?_append_left (by simpa using ht)]
        simp [ht]
      rw [hv]
      exact hr.2 t y _ (by simpa using hx) (List.getElem?_eq_getElem ht)
  · simp only [Array.size_append, List.size_toArray, Array.size_replicate, hlen, hn]; omega
theorem evfn_coreD (hX : X.Okb) {nt : Nt} {f : FuncId} {fn : Func} {c : Code} (hf : X.P.funcs[f]? = some fn) (hb : fn.body = some c) (hn : fn.ntmps = nt.n)
    (hc : ∀ (vs : Array Value) (w : World), (callFunc f vs).run X.P w = .ok (.enter f vs) w) {rs : List ResultVar} (hrs : fn.results.toList = rs) {args : List AV} {M : List Blk} {k : AV → List Blk → Option R} {r : R}
    (hle : args.length ≤ nt.n) {e : Ex} {st' : St} (he : e = .normal ∨ e = .ret) (hdfs : st'.dfs = []) (hrun : CodeRuns X nt c ⟨argEnv 0 args, M, [], .out⟩ (Ex.exit' e) st') (h : evres X rs st' k = some r) : DCalls X f args M st'.mem := by
  obtain ⟨x, _, hres⟩ := evres_sound hX hrs h
  refine ⟨hc, fun {w0 S F ρ w vs} hI hr => ?_⟩
  refine (callsDIn_of_wp_marks (R := fun e w' => ∃ v ρ' F', e = .returned v ∧ Inv X w0 S F' ρ' st'.mem w' ∧ Grow F F' ρ ρ' w w') hf hb trivial ?_).mono fun e u' w' h => h
  refine hrun hI (sim_args hn hle hr) fun a' w' F' ρ' hI' hs' hg => ?_
  refine ⟨by rcases he with rfl | rfl <;> simp [Ex.exit'], ?_⟩
  have hd : Marks F' w' F [] a'.defers := by have := hs'.defs; rw [hdfs] at this; exact this
  obtain ⟨_, ms, hms1, hms2, hms3⟩ := hd
  rw [hms1, List.append_nil]
  exact outM_marks (env := st'.env) hI.fin (fun {F2 w2} i2 e2 => (hres (rdc := ⟨none, fun _ => False, fun t => a'.tmps.getD t undef, []⟩) (a := { tmps := a'.tmps, defers := [] }) i2 ⟨e2, hs'.size, by rw [hdfs]; exact Marks.nil _ _ (fun _ h => h.elim), .inl rfl, fun t _ => rfl⟩).imp fun v h => h.1) ms hI' hs'.env hms2 hms3 hg
structure DSt (X : Cx) (F0 F : Addr → Prop) (ρ : List Hd) (w : World) (db : Addr → Prop) (dl : List (Nat × List AV)) (ms : List Nat) (df : List Deferred) : Prop where
  rep : DRep X F ρ w dl ms df
  mdb : ∀ D ∈ ms, db ⟨D, 0, none⟩
  f0 : ∀ a, F0 a → db a
  av : ∀ D ∈ ms, ∀ a, F0 a → a.block ≠ D
def DRuns (X : Cx) (nt : Nt) (c : Code) (st : St) (dl : List (Nat × List AV)) (e : Exit) (st' : St) (dl' : List (Nat × List AV)) : Prop :=
  ∀ {n : Nat} {w0 : World} {S : Sc} {F0 F : Addr → Prop} {ρ : List Hd} {a : Act} {w : World} {Q : Exit → Act → World → Prop} {db : Addr → Prop} {tv : Nat → Value} {df : List Deferred} {ms : List Nat}, Inv X w0 S F ρ st.mem w → Sim X nt st ⟨none, db, tv, df⟩ F ρ a w → DSt X F0 F ρ w db dl ms df →
    (∀ a' w' F' ρ' db' df' ms', Inv X w0 S F' ρ' st'.mem w' → Sim X nt st' ⟨none, db', tv, df'⟩ F' ρ' a' w' → DSt X F0 F' ρ' w' db' dl' ms' df' → Grow F F' ρ ρ' w w' → Q e a' w') → c.wpIn (fen none) n X.P Q a w
theorem DRuns.of_code {nt : Nt} {c : Code} {st st' : St} {e : Exit} (h : CodeRuns X nt c st e st') (dl : List (Nat × List AV)) : DRuns X nt c st dl e st' dl :=
  fun {n w0 S F0 F ρ a w Q db tv df ms} hI hs hd hq => h (rdc := ⟨none, db, tv, df⟩) hI hs fun a' w' F' ρ' hI' hs' hg => hq a' w' F' ρ' db df ms hI' hs' ⟨hd.rep.grow hg, hd.mdb, hd.f0, hd.av⟩ hg
theorem DRuns.seq {nt : Nt} {x y : Code} {st st1 st2 : St} {dl dl1 dl2 : List (Nat × List AV)} {e : Exit} (h1 : DRuns X nt x st dl .normal st1 dl1) (h2 : DRuns X nt y st1 dl1 e st2 dl2) : DRuns X nt (.seq x y) st dl e st2 dl2 :=
  fun {n w0 S F0 F ρ a w Q db tv df ms} hI hs hd hq => wpIn_seq (h1 hI hs hd fun a' w' F' ρ' db' df' ms' hI' hs' hd' hg => h2 hI' hs' hd' fun a'' w'' F'' ρ'' db'' df'' ms'' hI'' hs'' hd'' hg' => hq a'' w'' F'' ρ'' db'' df'' ms'' hI'' hs'' hd'' (hg.trans hg'))
theorem DRuns.seq_exit {nt : Nt} {x y : Code} {st st1 : St} {dl dl1 : List (Nat × List AV)} {e : Ex} (he : e ≠ .normal) (h1 : DRuns X nt x st dl (Ex.exit' e) st1 dl1) : DRuns X nt (.seq x y) st dl (Ex.exit' e) st1 dl1 :=
  fun {n w0 S F0 F ρ a w Q db tv df ms} hI hs hd hq => wpIn_seq (h1 hI hs hd fun a' w' F' ρ' db' df' ms' hI' hs' hd' hg => by
    cases e with
    | normal => exact absurd rfl he
    | exit i => exact hq a' w' F' ρ' db' df' ms' hI' hs' hd' hg
    | ret => exact hq a' w' F' ρ' db' df' ms' hI' hs' hd' hg)
theorem defer_runs (hX : X.Okb) {T : Tab R} (hT : T.CallOk X) {id : Nat} {ops : Array Oper} {o d : Oper} {c : Call} {t : Nat} {st : St} (hops : ops.toList = [o, d]) (hd : d.op = .defer c) (hgd : d.guard = none) (hdst : d.dst = none) (hcal : c.callee = .value (.tmp t)) (hargs : c.args.toList = [])
    {k : St → Option R} {r : R} (he : evops X T ops [o] st k = some r) : ∃ st1, k st1 = some r ∧ ∀ g a b, look st1.env t = .clos g a b → st1.dfs = [] → ∀ dl, DRuns X T.nt (.region id ops false) st dl .normal st1 ((g, a ++ b) :: dl) := by
  obtain ⟨st1, h1, he⟩ := evops_step hX hT he
  refine ⟨st1, he, fun g ca cb hclos hdfs dl => ?_⟩
  intro n w0 S F0 F ρ a w Q db tv df ms hI hs hdst0 hq
  have hsz : ops.size = 2 := by rw [← Array.length_toList, hops]; rfl
  have ho0 : ops[0]? = some o := by rw [← Array.getElem?_toList, hops]; rfl
  have ho1 : ops[1]? = some d := by rw [← Array.getElem?_toList, hops]; rfl
  refine wpIn_region ?_
  rw [hsz, show List.range 2 = [0, 1] from rfl]
  refine wpOpsIn_cons' (rdc := ⟨none, db, tv, df⟩) ho0 (h1 (rdc := ⟨none, db, tv, df⟩) hI hs ?_ 0 ho0)
  intro a' w' F' ρ' hI' hs' hg
  refine wpOpsIn_cons' (rdc := ⟨none, db, tv, df⟩) ho1 ?_
  have hw := wanted_none hgd (yielded ops a'.tmps)
  unfold wpOpIn
  simp only [ho1, hw, if_true]
  refine ⟨fun _ _ => trivial, ?_⟩
  have hv := hs'.env t
  rw [hclos] at hv
  generalize hvt : a'.tmps.getD t undef = v at hv
  cases hv with
  | clos _ _ _ vf vc hf hc q1 q2 =>
    have hex : (execOp a'.eval d).run X.P w' = .ok (.defer { target := .fn (.func g) vc.toArray, args := vf.toArray }) w' := by
      have hca : c.args = #[] := Array.toList_inj.1 hargs
      have hev : a'.eval (.tmp t) = .func (.func g) vf.toArray vc.toArray := hvt
      unfold execOp
      rw [hd]
      simp [resolve, hcal, hca, hev, Deferred.ofValue, Sem.run_bind]
    rw [show (fen (Cy.r ⟨none, db, tv, df⟩)).round = none from rfl, Oper.semAt_none, hex, Oper.uponIn_defer]
    show Q .normal _ _
    have hm : Marks F' w' db df a'.defers := by have := hs'.defs; rw [hdfs] at this; exact this
    obtain ⟨m0, ms', m1, m2, m3⟩ := hm
    have hrep : DRep X F' ρ' w' dl (ms' ++ ms) a'.defers := by
      rw [m1]
      refine (hdst0.rep.grow hg).marks ms' m2 fun D hD => ⟨fun hd' => (m3 D hD).1 _ (hdst0.mdb D hd') rfl, (m3 D hD).2⟩
    refine hq _ w' F' ρ' F' ({ target := .fn (.func g) vc.toArray, args := vf.toArray } :: a'.defers) (ms' ++ ms) hI' ?_ ⟨.call ⟨by rw [List.length_append, List.length_append, hf, hc], fun j x v hx hv => ?_⟩ hrep, fun D hD => ?_, fun a h => m0 a (hdst0.f0 a h), fun D hD a h => ?_⟩ hg
    · rw [hdst]
      exact ⟨hs'.env, hs'.size, by rw [hdfs]; exact Marks.nil _ _ fun _ h => h, .inl rfl, hs'.kept⟩
    · by_cases hj : j < ca.length
      · rw [List.getElem?_append_left hj] at hx
        rw [List.getElem?_append_left (by omega)] at hv
        exact q1 j x v hx hv
      · rw [List.getElem?_append_right (by omega)] at hx
        rw [List.getElem?_append_right (by omega), hf] at hv
        exact q2 _ x v hx hv
    · rcases List.mem_append.1 hD with hD | hD
      · exact (m3 D hD).2.1
      · exact m0 _ (hdst0.mdb D hD)
    · rcases List.mem_append.1 hD with hD | hD
      · exact (m3 D hD).1 a (hdst0.f0 a h)
      · exact hdst0.av D hD a h
theorem evfn_defer (hX : X.Okb) {nt : Nt} {f : FuncId} {fn : Func} {c : Code} (hf : X.P.funcs[f]? = some fn) (hb : fn.body = some c) (hn : fn.ntmps = nt.n)
    (hc : ∀ (vs : Array Value) (w : World), (callFunc f vs).run X.P w = .ok (.enter f vs) w) {rs : List ResultVar} (hrs : fn.results.toList = rs) {args : List AV} {M : List Blk} {k : AV → List Blk → Option R} {r : R}
    (hle : args.length ≤ nt.n) {e : Ex} {st' : St} {dl : List (Nat × List AV)} {Me : List Blk} (he : e = .normal ∨ e = .ret) (hdfs : st'.dfs = []) (hrun : DRuns X nt c ⟨argEnv 0 args, M, [], .out⟩ [] (Ex.exit' e) st' dl) (hdone : DDone X dl st'.mem Me)
    (h : evres X rs { st' with mem := Me } k = some r) : ∃ x, ACalls X f args M x Me ∧ k x Me = some r := by
  obtain ⟨x, hk, hres⟩ := evres_sound hX hrs h
  refine ⟨x, ⟨hc, fun {w0 S F ρ w vs} hI hr => ?_⟩, hk⟩
  refine (callsIn_wide (n := 0)).1 (callsIn_of_wp_marks hf hb trivial ?_)
  refine hrun (F0 := F) (ms := []) hI (sim_args hn hle hr) ⟨.nil, fun _ h => by simp at h, fun _ h => h, fun _ h => by simp at h⟩ ?_
  intro a' w' F' ρ' db' df' ms' hI' hs' hd' hg
  have hm : Marks F' w' db' df' a'.defers := by have := hs'.defs; rw [hdfs] at this; exact this
  obtain ⟨m0, ms2, m1, m2, m3⟩ := hm
  have hrep : DRep X F' ρ' w' dl (ms2 ++ ms') a'.defers := by
    rw [m1]
    exact hd'.rep.marks ms2 m2 fun D hD => ⟨fun hx => (m3 D hD).1 _ (hd'.mdb D hx) rfl, (m3 D hD).2⟩
  have hleave := leaves_defs (X := X) (fn := fn) (tmps := a'.tmps) (env := st'.env) (w0 := w0) (wb := w) (S := S) (F0 := F) (ρ0 := ρ) (x := x) hI.fin
    (fun {F2 ρ2 w2} i2 e2 => hres (rdc := ⟨none, fun _ => False, fun t => a'.tmps.getD t undef, []⟩) (a := { tmps := a'.tmps, defers := [] }) i2 ⟨e2, hs'.size, by show DefRep _ _ _ _ st'.dfs _; rw [hdfs]; exact Marks.nil _ _ (fun _ h => h.elim), .inl rfl, fun t _ => rfl⟩)
    a'.defers hdone hrep (fun D hD a h => by
      rcases List.mem_append.1 hD with hD | hD
      · exact (m3 D hD).1 a (hd'.f0 a h)
      · exact hd'.av D hD a h) hI' hs'.env hg
  rcases he with rfl | rfl <;> exact hleave
end
end Go.Eng

namespace Go.Eng
open Go Go.ChangeShapes Go.WideShapes Go.ChangeAt Go.RowKit
noncomputable section
variable {X : Cx} {R : Type}
def lp (x : AV) : Bool := AV.rec (motive_1 := fun _ => Bool) (motive_2 := fun _ => Bool) (motive_3 := fun _ => Bool) false (fun _ _ => true) (fun _ => true) (fun _ => true) (fun _ ih => ih) (fun _ ih => ih) true (fun _ _ _ ih => ih) (fun _ _ _ => false) (fun _ _ ih => ih) (fun _ => false) true
  (fun _ _ _ a b => Bool.rec (motive := fun _ => Bool) false b a) true (fun _ => false) (fun _ => false) true (fun _ _ => false) (fun _ _ _ => false) true (fun _ _ _ => false) true (fun _ _ a b => Bool.rec (motive := fun _ => Bool) false b a) true (fun _ _ a b => Bool.rec (motive := fun _ => Bool) false b a) x
def flatV (x : AV) : Bool := AV.rec (motive_1 := fun _ => Bool) (motive_2 := fun _ => Bool) (motive_3 := fun _ => Bool) false (fun _ _ => true) (fun _ => true) (fun _ => true) (fun _ ih => ih) (fun _ ih => ih) true (fun _ _ _ _ => false) (fun _ _ _ => false) (fun _ _ _ => false) (fun _ => false) true
  (fun _ _ _ _ _ => false) true (fun _ => false) (fun _ => false) true (fun _ _ => false) (fun _ _ _ => false) false (fun _ _ _ => false) true (fun _ _ a b => Bool.rec (motive := fun _ => Bool) false b a) true (fun _ _ a b => Bool.rec (motive := fun _ => Bool) false b a) x
theorem brec {a b : Bool} (h : Bool.rec (motive := fun _ => Bool) false b a = true) : a = true ∧ b = true := by cases a <;> first | exact ⟨rfl, h⟩ | cases h
def lpL (l : List AV) : Bool := AV.rec_1 (motive_1 := fun _ => Bool) (motive_2 := fun _ => Bool) (motive_3 := fun _ => Bool) false (fun _ _ => true) (fun _ => true) (fun _ => true) (fun _ ih => ih) (fun _ ih => ih) true (fun _ _ _ ih => ih) (fun _ _ _ => false) (fun _ _ ih => ih) (fun _ => false) true
  (fun _ _ _ a b => Bool.rec (motive := fun _ => Bool) false b a) true (fun _ => false) (fun _ => false) true (fun _ _ => false) (fun _ _ _ => false) true (fun _ _ _ => false) true (fun _ _ a b => Bool.rec (motive := fun _ => Bool) false b a) true (fun _ _ a b => Bool.rec (motive := fun _ => Bool) false b a) l
theorem lpL_get : ∀ {l : List AV}, lpL l = true → ∀ {j : Nat} {x : AV}, l[j]? = some x → lp x = true
  | [], _, _, _, h => by simp at h
  | y :: l, h, 0, x, hx => by simp only [List.getElem?_cons_zero, Option.some.injEq] at hx; subst hx; exact (brec (a := lp y) (b := lpL l) h).1
  | y :: l, h, j + 1, x, hx => lpL_get (l := l) (brec (a := lp y) (b := lpL l) h).2 (by simpa using hx)
def lpLL (l : List (List AV)) : Bool := AV.rec_2 (motive_1 := fun _ => Bool) (motive_2 := fun _ => Bool) (motive_3 := fun _ => Bool) false (fun _ _ => true) (fun _ => true) (fun _ => true) (fun _ ih => ih) (fun _ ih => ih) true (fun _ _ _ ih => ih) (fun _ _ _ => false) (fun _ _ ih => ih) (fun _ => false) true
  (fun _ _ _ a b => Bool.rec (motive := fun _ => Bool) false b a) true (fun _ => false) (fun _ => false) true (fun _ _ => false) (fun _ _ _ => false) true (fun _ _ _ => false) true (fun _ _ a b => Bool.rec (motive := fun _ => Bool) false b a) true (fun _ _ a b => Bool.rec (motive := fun _ => Bool) false b a) l
theorem lpLL_get : ∀ {l : List (List AV)}, lpLL l = true → ∀ {j : Nat} {x : List AV}, l[j]? = some x → lpL x = true
  | [], _, _, _, h => by simp at h
  | y :: l, h, 0, x, hx => by simp only [List.getElem?_cons_zero, Option.some.injEq] at hx; subst hx; exact (brec (a := lpL y) (b := lpLL l) h).1
  | y :: l, h, j + 1, x, hx => lpLL_get (l := l) (brec (a := lpL y) (b := lpLL l) h).2 (by simpa using hx)
theorem lp_agg {cs : List AV} (h : lp (.agg cs) = true) : lpL cs = true := h
theorem lp_tup {cs : List AV} (h : lp (.tup cs) = true) : lpL cs = true := h
theorem lp_iptr {t : TypeId} {cs : List AV} {off : Nat} (h : lp (.iptr t cs off) = true) : lpL cs = true := h
theorem lp_list {t : TypeId} {xs : List (List AV)} (h : lp (.list t xs) = true) : lpLL xs = true := h
theorem lp_clos {f : FuncId} {a b : List AV} (h : lp (.clos f a b) = true) : lpL a = true ∧ lpL b = true := brec (a := lpL a) (b := lpL b) h
theorem Rep.lp {K : TypeId → List Kind} {ρ ρ' : List Hd} {F : Addr → Prop} {w : World} {x : AV} {v : Value} (h : Rep K ρ F w x v) : Eng.lp x = true → Rep K ρ' F w x v := by
  induction h with
  | top v => intro h; cases h
  | int k n => exact fun _ => .int k n
  | bool b => exact fun _ => .bool b
  | str s => exact fun _ => .str s
  | agg cs vs hl _ ih => exact fun h => .agg cs vs hl fun j x v hx hv => ih j x v hx hv (lpL_get (lp_agg h) hx)
  | tup cs vs hl _ ih => exact fun h => .tup cs vs hl fun j x v hx hv => ih j x v hx hv (lpL_get (lp_tup h) hx)
  | nilp => exact fun _ => .nilp
  | iptr t row off a vs hk hl hc _ ih => exact fun h => .iptr t row off a vs hk hl hc fun j x v hx hv => ih j x v hx hv (lpL_get (lp_iptr h) hx)
  | ptr => intro h; cases h
  | list0 t => exact fun _ => .list0 t
  | list t xs a cap vss hl hcap hmax hk hc _ ih => exact fun h => .list t xs a cap vss hl hcap hmax hk hc fun i row vs hi hv j x v hx hv' => ih i row vs hi hv j x v hx hv' (lpL_get (lpLL_get (lp_list h) hi) hx)
  | own => intro h; cases h
  | nilsl => exact fun _ => .nilsl
  | clos f a b vf vc hf hc _ _ ih1 ih2 => exact fun h => .clos f a b vf vc hf hc (fun j x v hx hv => ih1 j x v hx hv (lpL_get (lp_clos h).1 hx)) (fun j x v hx hv => ih2 j x v hx hv (lpL_get (lp_clos h).2 hx))
  | nilfn => exact fun _ => .nilfn
  | yld => intro h; cases h
  | mp => intro h; cases h
  | nilmp => exact fun _ => .nilmp
  | vsl => intro h; cases h
  | vw => intro h; cases h
  | vwn => intro h; cases h
  | vws => intro h; cases h
  | enl a cap => exact fun _ => .enl a cap
def flL (l : List AV) : Bool := AV.rec_1 (motive_1 := fun _ => Bool) (motive_2 := fun _ => Bool) (motive_3 := fun _ => Bool) false (fun _ _ => true) (fun _ => true) (fun _ => true) (fun _ ih => ih) (fun _ ih => ih) true (fun _ _ _ _ => false) (fun _ _ _ => false) (fun _ _ _ => false) (fun _ => false) true
  (fun _ _ _ _ _ => false) true (fun _ => false) (fun _ => false) true (fun _ _ => false) (fun _ _ _ => false) false (fun _ _ _ => false) true (fun _ _ a b => Bool.rec (motive := fun _ => Bool) false b a) true (fun _ _ a b => Bool.rec (motive := fun _ => Bool) false b a) l
theorem flL_get : ∀ {l : List AV}, flL l = true → ∀ {j : Nat} {x : AV}, l[j]? = some x → flatV x = true
  | [], _, _, _, h => by simp at h
  | y :: l, h, 0, x, hx => by simp only [List.getElem?_cons_zero, Option.some.injEq] at hx; subst hx; exact (brec (a := flatV y) (b := flL l) h).1
  | y :: l, h, j + 1, x, hx => flL_get (l := l) (brec (a := flatV y) (b := flL l) h).2 (by simpa using hx)
theorem Rep.flat {K : TypeId → List Kind} {ρ ρ' : List Hd} {F F' : Addr → Prop} {w w' : World} {x : AV} {v : Value} (h : Rep K ρ F w x v) : flatV x = true → Rep K ρ' F' w' x v := by
  induction h with
  | int k n => exact fun _ => .int k n
  | bool b => exact fun _ => .bool b
  | str s => exact fun _ => .str s
  | agg cs vs hl _ ih => exact fun h => .agg cs vs hl fun j x v hx hv => ih j x v hx hv (flL_get (l := cs) h hx)
  | tup cs vs hl _ ih => exact fun h => .tup cs vs hl fun j x v hx hv => ih j x v hx hv (flL_get (l := cs) h hx)
  | nilp => exact fun _ => .nilp
  | nilsl => exact fun _ => .nilsl
  | nilfn => exact fun _ => .nilfn
  | nilmp => exact fun _ => .nilmp
  | _ => intro h; cases h
def mapC {α β : Type} (f : α → (β → Option R) → Option R) (l : List α) (k : List β → Option R) : Option R := List.rec (motive := fun _ => (List β → Option R) → Option R) (fun k => k []) (fun x _ ih k => f x fun y => ih fun ys => k (y :: ys)) l k
theorem mapC_some {α β : Type} {f : α → (β → Option R) → Option R} {P : α → β → Prop} {r : R} (hf : ∀ (x : α) (k : β → Option R), f x k = some r → ∃ y, k y = some r ∧ P x y) : ∀ {l : List α} {k : List β → Option R}, mapC f l k = some r → ∃ ys, k ys = some r ∧ ys.length = l.length ∧ ∀ (j : Nat) x y, l[j]? = some x → ys[j]? = some y → P x y
  | [], k, h => ⟨[], h, rfl, fun j x y hx => by simp at hx⟩
  | x :: l, k, h => by
    obtain ⟨y, h, hp⟩ := hf x _ h
    obtain ⟨ys, h, hl, hps⟩ := mapC_some hf (l := l) h
    refine ⟨y :: ys, h, by simp [hl], fun j a b ha hb => ?_⟩
    cases j with
    | zero =>
      simp only [List.getElem?_cons_zero, Option.some.injEq] at ha hb
      subst ha; subst hb; exact hp
    | succ j => exact hps j a b (by simpa using ha) (by simpa using hb)
def splC {α : Type} (n : Nat) (l : List α) (k : List α → List α → Option R) : Option R :=
  Nat.rec (motive := fun _ => List α → (List α → List α → Option R) → Option R) (fun l k => k [] l) (fun _ ih l k => List.rec (motive := fun _ => Option R) (k [] []) (fun a tl _ => ih tl fun x y => k (a :: x) y) l) n l k
theorem splC_eq {α : Type} : ∀ (n : Nat) (l : List α) (k : List α → List α → Option R), splC n l k = k (l.take n) (l.drop n)
  | 0, l, k => rfl
  | n + 1, [], k => rfl
  | n + 1, a :: l, k => splC_eq n l fun x y => k (a :: x) y
def chS {α : Type} : Nat → List α → List (List α)
  | 0, _ => []
  | n + 1, l => l.take 32 :: chS n (l.drop 32)
def chK {α : Type} (n : Nat) (l : List α) (k : List (List α) → Option R) : Option R :=
  Nat.rec (motive := fun _ => List α → (List (List α) → Option R) → Option R) (fun _ k => k []) (fun _ ih l k => splC 32 l fun a r => ih r fun cs => k (a :: cs)) n l k
theorem chK_eq {α : Type} : ∀ (n : Nat) (l : List α) (k : List (List α) → Option R), chK n l k = k (chS n l)
  | 0, _, _ => rfl
  | n + 1, l, k => by
    show (splC 32 l fun a r => chK n r fun cs => k (a :: cs)) = _
    rw [splC_eq, chK_eq n]; rfl
theorem chS_get {α : Type} : ∀ (n : Nat) (l : List α) (i : Nat) (c : List α), (chS n l)[i]? = some c → c = (l.drop (i * 32)).take 32
  | 0, _, _, _, h => by simp [chS] at h
  | n + 1, l, 0, c, h => by simp only [chS, List.getElem?_cons_zero, Option.some.injEq] at h; subst h; simp
  | n + 1, l, i + 1, c, h => by
    simp only [chS, List.getElem?_cons_succ] at h
    rw [chS_get n _ i c h, List.drop_drop]
    congr 2
    omega
def getC (cs : List (List Blk)) (id : Nat) (k : Blk → Option R) : Option R := nth cs (Nat.div id 32) fun c => nth c (Nat.mod id 32) k
theorem getC_some {n : Nat} {l : List Blk} {id : Nat} {k : Blk → Option R} {r : R} (h : getC (chS n l) id k = some r) : ∃ b, l[id]? = some b ∧ k b = some r := by
  obtain ⟨c, hc, h⟩ := nth_some h
  obtain ⟨b, hb, h⟩ := nth_some h
  refine ⟨b, ?_, h⟩
  rw [chS_get _ _ _ _ hc] at hb
  have hb : ((l.drop (id / 32 * 32)).take 32)[id % 32]? = some b := hb
  rw [List.getElem?_take, if_pos (Nat.mod_lt _ (by decide)), List.getElem?_drop] at hb
  rw [← hb]
  congr 1
  have := Nat.div_add_mod id 32
  omega
def lendXV (X : Cx) (get : Nat → (Blk → Option R) → Option R) (n : Nat) : AV → (AV → Option R) → Option R :=
  Nat.rec (motive := fun _ => AV → (AV → Option R) → Option R) (fun x k => iff (lp x) (k x) none)
    (fun _ ih x k => iff (lp x) (k x) (lend1 ih x k)) n
where lend1 (ih : AV → (AV → Option R) → Option R) (x : AV) (k : AV → Option R) : Option R :=
  match x with
  | .agg cs => mapC ih cs fun ys => k (.agg ys)
  | .own id => get id fun b => onBlk b (fun _ _ => none) (fun t xs => mapC (mapC ih) xs fun ys => iff (allB (koksF (X.K t)) ys) (k (.list t ys)) none) none
  | .vw id lo n => iff (Nat.ble 1 n) (get id fun b => onBlk b (fun _ _ => none) (fun t xs => takeK n (dropK lo xs) fun zs => mapC (mapC ih) zs fun ys => iff (allB (koksF (X.K t)) ys) (k (.list t ys)) none) none) none
  | _ => none
section
variable {w0 w : World} {S : Sc} {F : Addr → Prop} {ρ : List Hd} {rm : List Blk} {m : Nat}
def lent (M : List Blk) (ρ : List Hd) (F : Addr → Prop) (a : Addr) : Prop := F a ∨ ∃ (id : Nat) (b : Blk) (hd : Hd), M[id]? = some b ∧ b.isDead = false ∧ ρ[id]? = some hd ∧ hd.blk? = some a.block
theorem Rep.relist {K : TypeId → List Kind} {F : Addr → Prop} {ρ ρ' : List Hd} {t : TypeId} {xs ys : List Row} {v : Value} (h : Rep K ρ F w (.list t xs) v) (hl : ys.length = xs.length)
    (hrow : ∀ (i : Nat) row row', xs[i]? = some row → ys[i]? = some row' → row'.length = row.length ∧ ∀ (j : Nat) x y u, row[j]? = some x → row'[j]? = some y → Rep K ρ F w x u → Rep K ρ' F w y u)
    (hk : ∀ (i : Nat) row, ys[i]? = some row → koks (K t) row = true) : Rep K ρ' F w (.list t ys) v := by
  cases h with
  | list0 => have : ys = [] := List.eq_nil_of_length_eq_zero (by simpa using hl); subst this; exact .list0 t
  | list _ _ a cap vss hl' hcap hmax hk' hc hr =>
    rw [← hl]
    refine .list t ys a cap vss (by rw [hl', hl]) (by rw [hl]; exact hcap) hmax hk hc fun i row' vs hi hv j y u hy hu => ?_
    have hi' : i < xs.length := by rw [← hl]; exact (List.getElem?_eq_some_iff.1 hi).1
    obtain ⟨h1, h2⟩ := hrow i xs[i] row' (List.getElem?_eq_getElem hi') hi
    have hj : j < (xs[i]).length := by rw [← h1]; exact (List.getElem?_eq_some_iff.1 hy).1
    exact h2 j _ y u (List.getElem?_eq_getElem hj) hy (hr i _ vs (List.getElem?_eq_getElem hi') hv j _ u (List.getElem?_eq_getElem hj) hu)
theorem sub_get2 {α : Type} {l : List α} {lo m i : Nat} {x : α} (h : ((l.drop lo).take m)[i]? = some x) : i < m ∧ l[lo + i]? = some x := by
  rw [List.getElem?_take] at h
  split at h
  · rename_i him; rw [List.getElem?_drop] at h; exact ⟨him, h⟩
  · cases h
theorem Rep.view {K : TypeId → List Kind} {ρ : List Hd} {F : Addr → Prop} {t : TypeId} {xs : List Row} {g o n c lo m cap sz : Nat} (h : Rep K ρ F w (.list t xs) (.slice (some ⟨g, o, none⟩) n c)) (hsz : sz = (K t).length) (hm : lo + m ≤ n) (hc : m ≤ cap ∧ cap ≤ maxLen) :
    Rep K ρ F w (.list t ((xs.drop lo).take m)) (.slice (some ⟨g, o + lo * sz, none⟩) m cap) := by
  cases h with
  | list _ _ a cap' vss hl hcap hmax hk hcell hr =>
    have hlen : ((xs.drop lo).take m).length = m := by rw [List.length_take, List.length_drop]; omega
    have := Rep.list (K := K) (ρ := ρ) (F := F) (w := w) t ((xs.drop lo).take m) ⟨g, o + lo * sz, none⟩ cap ((vss.drop lo).take m) (by rw [hlen, List.length_take, List.length_drop]; omega) (by rw [hlen]; exact hc.1) hc.2
      (fun i row hi => hk _ row (sub_get2 hi).2)
      (fun i vs hi => by
        obtain ⟨h1, h2⟩ := hcell _ vs (sub_get2 hi).2
        refine ⟨h1, fun j v hv => ?_⟩
        have h3 := h2 j v hv
        rw [Addr.add_lit] at h3 ⊢
        rw [hsz]
        rw [show o + lo * (K t).length + (i * (K t).length + j) = o + ((lo + i) * (K t).length + j) by rw [Nat.add_mul]; omega]
        exact h3)
      (fun i row vs hi hv j x v hx hv' => hr _ row vs (sub_get2 hi).2 (sub_get2 hv).2 j x v hx hv')
    rw [hlen] at this
    exact this
theorem lend_ok {r : R} {get : Nat → (Blk → Option R) → Option R} (hm : m = rm.length) (hget : ∀ {id : Nat} {k : Blk → Option R}, get id k = some r → ∃ b, rm.reverse[id]? = some b ∧ k b = some r ∧ id < m) : ∀ (n : Nat) (x : AV) (k : AV → Option R), lendXV X get n x k = some r → ∃ y, k y = some r ∧ ∀ {M0 : List Blk}, (∀ id, id < m → M0[id]? = rm.reverse[id]?) → ∀ {w0 w : World} {S : Sc} {F : Addr → Prop} {ρ : List Hd} {v : Value}, Inv X w0 S F ρ M0 w → Rep X.K ρ (lent M0 ρ F) w x v → Rep X.K [] (lent M0 ρ F) w y v
  | 0, x, k, h => by
    obtain ⟨h1, h2⟩ := iff_none (show iff (lp x) (k x) none = some r from h)
    exact ⟨x, h2, fun _ _ _ _ _ _ _ _ hr => hr.lp h1⟩
  | n + 1, x, k, h => by
    have h : iff (lp x) (k x) (lendXV.lend1 X get (lendXV X get n) x k) = some r := h
    rw [iff_eq] at h
    split at h
    · rename_i hp
      exact ⟨x, h, fun _ _ _ _ _ _ _ _ hr => hr.lp hp⟩
    · cases x with
      | agg cs =>
        obtain ⟨ys, h, hl, hp⟩ := mapC_some (lend_ok hm hget n) (l := cs) (k := fun ys => k (.agg ys)) h
        refine ⟨_, h, fun {M0} hM {w0 w S F ρ v} hI hr => ?_⟩
        cases hr with
        | agg _ vs hvl hc =>
          refine .agg ys vs (by rw [hvl, hl]) fun j y v hy hv => ?_
          have hj : j < cs.length := by rw [← hl]; exact (List.getElem?_eq_some_iff.1 hy).1
          exact hp j _ y (List.getElem?_eq_getElem hj) hy hM hI (hc j _ v (List.getElem?_eq_getElem hj) hv)
      | own id =>
        obtain ⟨b, hb, h, hid⟩ := hget h
        rcases onBlk_some h with ⟨ks, cs, _, h⟩ | ⟨t, xs, hbe, h⟩ | h
        · cases h
        · subst hbe
          obtain ⟨ys, h, hl, hp⟩ := mapC_some (P := fun (row row' : Row) => row'.length = row.length ∧ ∀ (j : Nat) x y, row[j]? = some x → row'[j]? = some y → ∀ {M0 : List Blk}, (∀ id, id < m → M0[id]? = rm.reverse[id]?) → ∀ {w0 w : World} {S : Sc} {F : Addr → Prop} {ρ : List Hd} {v : Value}, Inv X w0 S F ρ M0 w → Rep X.K ρ (lent M0 ρ F) w x v → Rep X.K [] (lent M0 ρ F) w y v)
            (fun row k h => by obtain ⟨ys, h1, h2, h3⟩ := mapC_some (lend_ok hm hget n) h; exact ⟨ys, h1, h2, h3⟩) h
          obtain ⟨hk, h⟩ := iff_none h
          refine ⟨_, h, fun {M0} hM {w0 w S F ρ v} hI hr => ?_⟩
          cases hr with
          | own _ hd hhd =>
            have hlist : Rep X.K ρ (lent M0 ρ F) w (.list t xs) hd.v := by
              rcases rep_list_of_row hI ((hM id hid).trans hb) hhd with ⟨_, h2, h3⟩ | ⟨g, hg, h2⟩
              · subst h2; rw [h3]; exact .list0 t
              · exact h2 _ (fun a ha => .inl ha) fun a ha => .inr ⟨id, _, hd, (hM id hid).trans hb, rfl, hhd, by rw [ha]; exact hg⟩
            refine hlist.relist hl (fun i row row' hi hi' => ?_) (fun i row hi => ?_)
            · obtain ⟨h1, h2⟩ := hp i row row' hi hi'
              exact ⟨h1, fun j x y u hx hy hu => h2 j x y hx hy hM hI hu⟩
            · have := allB_mem hk row (List.mem_of_getElem? hi)
              rwa [koksF_eq] at this
        · cases h
      | vw id lo l =>
        obtain ⟨hl1, h⟩ := iff_none (show iff (Nat.ble 1 l) _ none = some r from h)
        have hl1 : 1 ≤ l := Nat.le_of_ble_eq_true hl1
        obtain ⟨b, hb, h, hid⟩ := hget h
        rcases onBlk_some h with ⟨ks, cs, _, h⟩ | ⟨t, xs, hbe, h⟩ | h
        · cases h
        · subst hbe
          obtain ⟨h, hln⟩ := takeK_some h
          rw [dropK_eq] at h hln
          obtain ⟨ys, h, hl, hp⟩ := mapC_some (P := fun (row row' : Row) => row'.length = row.length ∧ ∀ (j : Nat) x y, row[j]? = some x → row'[j]? = some y → ∀ {M0 : List Blk}, (∀ id, id < m → M0[id]? = rm.reverse[id]?) → ∀ {w0 w : World} {S : Sc} {F : Addr → Prop} {ρ : List Hd} {v : Value}, Inv X w0 S F ρ M0 w → Rep X.K ρ (lent M0 ρ F) w x v → Rep X.K [] (lent M0 ρ F) w y v)
            (fun row k h => by obtain ⟨ys, h1, h2, h3⟩ := mapC_some (lend_ok hm hget n) h; exact ⟨ys, h1, h2, h3⟩) h
          obtain ⟨hk, h⟩ := iff_none h
          refine ⟨_, h, fun {M0} hM {w0 w S F ρ v} hI hr => ?_⟩
          have done : ∀ {v : Value}, Rep X.K ρ (lent M0 ρ F) w (.list t ((xs.drop lo).take l)) v → Rep X.K [] (lent M0 ρ F) w (.list t ys) v := by
            intro v hlist
            refine hlist.relist hl (fun i row row' hi hi' => ?_) (fun i row hi => ?_)
            · obtain ⟨h1, h2⟩ := hp i row row' hi hi'
              exact ⟨h1, fun j x y u hx hy hu => h2 j x y hx hy hM hI hu⟩
            · have := allB_mem hk row (List.mem_of_getElem? hi)
              rwa [koksF_eq] at this
          cases hr with
          | vw _ _ _ hd g o n' c cap hhd hv hc hbd =>
            have hlist : Rep X.K ρ (lent M0 ρ F) w (.list t xs) hd.v := by
              rcases rep_list_of_row hI ((hM id hid).trans hb) hhd with ⟨_, h2, h3⟩ | ⟨g, hg, h2⟩
              · subst h2; rw [h3]; exact .list0 t
              · exact h2 _ (fun a ha => .inl ha) fun a ha => .inr ⟨id, _, hd, (hM id hid).trans hb, rfl, hhd, by rw [ha]; exact hg⟩
            rw [hv] at hlist
            exact done (hlist.view (hI.rep _ _ hd ((hM id hid).trans hb) hhd).1 hbd hc)
          | vwn => omega
          | vws => omega
        · cases h
      | _ => cases h
def lendA (X : Cx) (rm : List Blk) (m : Nat) (args : List AV) : Option (List AV) := iff (lpL args) (some args) (chK (Nat.succ (Nat.div m 32)) (revF rm []) fun cs => mapC (lendXV X (getC cs) 16) args fun ys => some ys)
theorem lendA_ok (hm : m = rm.length) {args ys : List AV} (h : lendA X rm m args = some ys) {M0 : List Blk} (hM : ∀ id, id < m → M0[id]? = rm.reverse[id]?) {vs : List Value} (hI : Inv X w0 S F ρ M0 w) (hr : RepL X.K ρ F w args vs) : RepL X.K [] (lent M0 ρ F) w ys vs := by
  unfold lendA at h
  rw [iff_eq] at h
  split at h
  · rename_i hlp
    injection h with h
    subst h
    exact ⟨hr.1, fun j y v hy hv => ((hr.2 j y v hy hv).mono (F' := lent M0 ρ F) (fun _ _ h => h) (fun _ h => .inl h) (fun _ _ _ h => h)).lp (lpL_get hlp hy)⟩
  rw [chK_eq, revF_eq, List.append_nil] at h
  obtain ⟨zs, h1, hl, hp⟩ := mapC_some (lend_ok (X := X) hm (fun {id k} hg => by
    obtain ⟨b, h1, h2⟩ := getC_some hg
    exact ⟨b, h1, h2, by have := (List.getElem?_eq_some_iff.1 h1).1; rw [List.length_reverse] at this; omega⟩) 16) h
  injection h1 with h1
  subst h1
  refine ⟨by rw [hr.1, hl], fun j y v hy hv => ?_⟩
  have hj : j < args.length := by rw [← hl]; exact (List.getElem?_eq_some_iff.1 hy).1
  exact hp j _ y (List.getElem?_eq_getElem hj) hy hM hI ((hr.2 j _ v (List.getElem?_eq_getElem hj) hv).mono (fun _ _ h => h) (fun _ h => .inl h) (fun _ _ _ h => h))
theorem ACalls.lend (hG : GlobFree X) {f : FuncId} {args ys : List AV} {x : AV} {M' : List Blk} (hm : m = rm.length) (h : ACalls X f ys [] x M') (ha : lendA X rm m args = some ys) (hx : flatV x = true) {M0 : List Blk} (hM : ∀ id, id < m → M0[id]? = rm.reverse[id]?) : ACalls X f args M0 x M0 := by
  refine ⟨h.1, fun {w0 S F ρ w vs} hI hr => ?_⟩
  have hfz : ∀ a, lent M0 ρ F a → a.block < w.heap.size := by
    rintro a (ha | ⟨id, b, hd, h1, h2, h3, h4⟩)
    · exact hI.fz a ha
    · exact (hI.sep id b hd _ h1 h2 h3 h4).1
  have hi : Inv X w ⟨fun _ => False, lent M0 ρ F⟩ (lent M0 ρ F) [] [] w := {
    os := rfl, tape := rfl, output := rfl, size := Nat.le_refl _, frame := fun _ _ _ => rfl, len := rfl
    rep := fun id b hd hb _ => by simp at hb
    sep := fun id b hd g hb _ _ _ => by simp at hb
    disj := fun id id' b b' hd hd' g _ hb _ _ _ _ _ _ => by simp at hb
    fz := hfz, glob := fun g => (hG g (hI.glob g)).mono (fun _ _ h => h) (fun _ h => .inl h) (fun _ _ _ h => h)
    one := fun id hd hh => by simp at hh
    old := fun a ha => .inl ha, fin := fun a ha => ha, nst := .none (by simp) }
  refine (h.2 hi (lendA_ok hm ha hM hI hr)).mono ?_
  rintro e w' ⟨v, ρ', F', rfl, hI', hg, hv⟩
  have hfr : ∀ g, g < w.heap.size → w'.heap[g]? = w.heap[g]? := fun g hlt => hI'.frame g hlt (fun h => h)
  have hgr : Grow F F ρ ρ w w' := ⟨fun _ h => h, fun _ _ h => h, fun a ha => hfr _ (hI.fz a ha)⟩
  refine ⟨v, ρ, F, rfl, ?_, hgr, hv.flat hx⟩
  exact {
    os := hI'.os.trans hI.os, tape := hI'.tape.trans hI.tape, output := hI'.output.trans hI.output, size := Nat.le_trans hI.size hI'.size
    frame := fun g hlt hn => (hfr g (Nat.lt_of_lt_of_le hlt hI.size)).trans (hI.frame g hlt hn)
    len := hI.len
    rep := fun id b hd h1 h2 => by
      cases hd' : b.isDead with
      | true => exact (hI.rep id b hd h1 h2).mono_dead (fun _ _ h => h) hgr.hF hgr.hw hd'
      | false => exact (hI.rep id b hd h1 h2).mono (fun _ _ h => h) hgr.hF hgr.hw (fun g hgb => hfr g (hI.sep id b hd g h1 hd' h2 hgb).1)
    sep := fun id b hd g h1 h2 h3 h4 => by
      obtain ⟨s1, s2, s3⟩ := hI.sep id b hd g h1 h2 h3 h4
      exact ⟨Nat.lt_of_lt_of_le s1 hI'.size, s2, s3⟩
    disj := hI.disj
    fz := fun a ha => Nat.lt_of_lt_of_le (hI.fz a ha) hI'.size
    glob := fun g => (hI.glob g).mono (fun _ _ h => h) hgr.hF hgr.hw
    one := hI.one
    old := hI.old
    fin := hI.fin
    nst := hI.nst.stay hI.len (fun _ _ h _ => h) (fun _ _ h => h) hgr.hF hgr.hw fun g h1 h2 h3 h4 => ⟨Nat.lt_of_lt_of_le h1 hI'.size, h2, hfr g h1, h3, h4⟩ }
end
structure XE where
  I : List (Nat × FI)
  Ss : List SI
  ks : List (Nat × List Nat)
  dd : List (Nat × List (Nat × Nat))
  pl : List Nat
  rounds : Nat
  kc : List KC
  df : List Nat
  nop : List Nat
def pickD (kc : List KC) (g : Nat) (ys : List AV) : Option AV := List.rec (motive := fun _ => Option AV) none (fun e _ ih => Bool.rec (motive := fun _ => Option AV) ih (some e.x) (andF (Nat.beq g e.f) (sameDL e.args ys))) kc
def KcOk2 (X : Cx) (e : KC) : Prop := (∃ M', ACalls X e.f e.args [] e.x M') ∧ flatV e.x = true
theorem pickD_ok : ∀ {kc : List KC}, AllE (KcOk2 X) kc → ∀ {g : Nat} {ys : List AV} {x : AV}, pickD kc g ys = some x → (∃ M', ACalls X g ys [] x M') ∧ flatV x = true
  | [], _, _, _, _, h => by cases h
  | e :: kc, hk, g, ys, x, h => by
    have h : Bool.rec (motive := fun _ => Option AV) (pickD kc g ys) (some e.x) (andF (Nat.beq g e.f) (sameDL e.args ys)) = some x := h
    cases hb : andF (Nat.beq g e.f) (sameDL e.args ys) with
    | false => rw [hb] at h; exact pickD_ok hk.2 h
    | true =>
      rw [hb] at h
      injection h with h
      rw [andF_eq, Bool.and_eq_true] at hb
      have h1 := Nat.eq_of_beq_eq_true hb.1
      have h2 : AV.agg e.args = AV.agg ys := sameD_eq (.agg e.args) (.agg ys) hb.2
      injection h2 with h2
      rw [h1, ← h2, ← h]
      exact hk.1
def keepOf (ks : List (Nat × List Nat)) (s : Nat) : List Nat := match ks with | [] => [] | e :: es => (match Nat.beq s e.1 with | true => e.2 | false => keepOf es s)
def isPl (pl : List Nat) (g : Nat) : Bool := match pl with | [] => false | e :: es => (match Nat.beq g e with | true => true | false => isPl es g)
structure XD (R : Type) where
  C : CallT R
  V : LendT
  Y : Nat → List AV → List Blk → (AV → List Blk → Option R) → Option R
def xT (E : XE) (D : XD R) (f : Nat) : Tab R :=
  ⟨ntF E.I f, fun _ _ M => some (List.range M.length), fun g args M k => revK M fun rm m => D.C g args rm m fun x rm' m' => tst (Nat.ble m m') (k x (revF rm' [])), D.Y⟩
def xrg (X : Cx) (E : XE) (D : XD R) (rd : Rd) (f p : Nat) : XK R :=
  fun en rm _ k => match siteAt E.Ss f p, codeOf (codeF E.I f) p with
  | some s, some (.rangeFunc g _ _ _) => evrange X (xT E D f) s (keepOf E.ks s) g ⟨en.l, revF rm [], [], rd⟩ fun e st => backX rd st fun en rm m => k e en rm m
  | _, _ => none
def xrun (X : Cx) (E : XE) (D : XD R) (rd : Rd) (f : Nat) (c : Code) (p : Nat) : XK R := xk X (xT E D f) D.C D.V rd (xrg X E D rd f) (deadOf E.dd f) E.rounds c p
def argK (args : List AV) (k : En → Option R) : Option R :=
  List.rec (motive := fun _ => Nat → (En → Option R) → Option R) (fun _ k => k .nil) (fun a _ ih i k => fN (Nat.succ i) fun j => ih j fun en => k (.c i a en)) args 0 k
def enA (i : Nat) : List AV → En
  | [] => .nil
  | a :: q => .c i a (enA (i + 1) q)
theorem enA_l : ∀ (l : List AV) (i : Nat), (enA i l).l = argEnv i l
  | [], _ => rfl
  | a :: l, i => by show (i, a) :: (enA (i + 1) l).l = _; rw [enA_l l]; rfl
theorem argK_aux : ∀ (l : List AV) (i : Nat) (k : En → Option R), (List.rec (motive := fun _ => Nat → (En → Option R) → Option R) (fun _ k => k .nil) (fun a _ ih i k => fN (Nat.succ i) fun j => ih j fun en => k (.c i a en)) l i k : Option R) = k (enA i l)
  | [], i, k => rfl
  | a :: l, i, k => by
    show fN (Nat.succ i) (fun j => (List.rec (motive := fun _ => Nat → (En → Option R) → Option R) (fun _ k => k .nil) (fun a _ ih i k => fN (Nat.succ i) fun j => ih j fun en => k (.c i a en)) l j (fun en => k (.c i a en)) : Option R)) = _
    rw [fN_eq, argK_aux l]; rfl
theorem argK_eq (l : List AV) (k : En → Option R) : argK l k = k (enA 0 l) := argK_aux l 0 k
def xres1 (X : Cx) (rv : ResultVar) (en : En) (rm : List Blk) (k : AV → Option R) : Option R := ResultVar.rec (motive := fun _ => Option R) (fun t => fV (lk en t) k) (fun a t => evLoad X t (lk en a) (revF rm []) fun x => fz2 x k) rv
theorem xres1_eq (rv : ResultVar) (en : En) (rm : List Blk) (rd : Rd) (k : AV → Option R) : xres1 X rv en rm k = evres1 X rv (stX en rm rd) k := by
  cases rv with
  | tmp t => show fV (lk en t) k = k (look en.l t); rw [fV_eq, lk_eq]
  | cell a t =>
    show evLoad X t (lk en a) (revF rm []) (fun x => fz2 x k) = evLoad X t (look en.l a) rm.reverse k
    rw [lk_eq, revF_eq, List.append_nil]
    congr 1
    funext x
    exact fz2_eq x k
def xres (X : Cx) (rs : List ResultVar) (en : En) (rm : List Blk) (k : AV → Option R) : Option R :=
  match rs with
  | [] => k (.tup [])
  | [a] => xres1 X a en rm k
  | [a, b] => xres1 X a en rm fun x => xres1 X b en rm fun y => k (.tup [x, y])
  | [a, b, c] => xres1 X a en rm fun x => xres1 X b en rm fun y => xres1 X c en rm fun z => k (.tup [x, y, z])
  | _ => none
theorem xres_eq (rs : List ResultVar) (en : En) (rm : List Blk) (rd : Rd) (k : AV → Option R) : xres X rs en rm k = evres X rs (stX en rm rd) fun x _ => k x := by
  match rs with
  | [] => rfl
  | [a] => exact xres1_eq a en rm rd k
  | [a, b] =>
    show xres1 X a en rm (fun x => xres1 X b en rm fun y => k (.tup [x, y])) = evres1 X a (stX en rm rd) (fun x => evres1 X b (stX en rm rd) fun y => k (.tup [x, y]))
    rw [xres1_eq a en rm rd]
    congr 1
    funext x
    exact xres1_eq b en rm rd _
  | [a, b, c] =>
    show xres1 X a en rm (fun x => xres1 X b en rm fun y => xres1 X c en rm fun z => k (.tup [x, y, z])) = evres1 X a (stX en rm rd) (fun x => evres1 X b (stX en rm rd) fun y => evres1 X c (stX en rm rd) fun z => k (.tup [x, y, z]))
    rw [xres1_eq a en rm rd]
    congr 1
    funext x
    rw [xres1_eq b en rm rd]
    congr 1
    funext y
    exact xres1_eq c en rm rd _
  | _ :: _ :: _ :: _ :: _ => rfl
def xfin (X : Cx) (rs : List ResultVar) (e : Ex) (en : En) (rm : List Blk) (k : AV → Option R) : Option R := Ex.rec (motive := fun _ => Option R) (xres X rs en rm k) (fun _ => none) (xres X rs en rm k) e
theorem xfin_eq (rs : List ResultVar) (e : Ex) (en : En) (rm : List Blk) (rd : Rd) (k : AV → Option R) : xfin X rs e en rm k = evfin X rs (fun x _ => k x) e (stX en rm rd) := by
  cases e with
  | normal => exact xres_eq rs en rm rd k
  | exit i => rfl
  | ret => exact xres_eq rs en rm rd k
def cutX (n : Nat) (x : AV) (rm : List Blk) (m : Nat) (k : AV → List Blk → Nat → Option R) : Option R :=
  Bool.rec (motive := fun _ => Option R)
    (Bool.rec (motive := fun _ => Option R) (k x rm m) (dropC (Nat.sub m n) rm fun rm1 => Bool.rec (motive := fun _ => Option R) (k x rm m) (k x rm1 n) (Nat.ble (hiR rm1) n)) (andF (Nat.ble n m) (Nat.ble (hiV x) n)))
    (k x rm m) (Nat.beq n m)
theorem cutX_some (hG : GlobFree X) {f : FuncId} {args : List AV} {rm0 rm : List Blk} {n m : Nat} (hn : n = rm0.length) (hm : m = rm.length) {x : AV} (h : ACalls X f args rm0.reverse x rm.reverse) {k : AV → List Blk → Nat → Option R} {r : R} (hk : cutX n x rm m k = some r) :
    ∃ rm' m', ACalls X f args rm0.reverse x rm'.reverse ∧ m' = rm'.length ∧ k x rm' m' = some r := by
  unfold cutX at hk
  cases hb : Nat.beq n m with
  | true => rw [hb] at hk; exact ⟨rm, m, h, hm, hk⟩
  | false =>
    rw [hb] at hk
    cases hc : andF (Nat.ble n m) (Nat.ble (hiV x) n) with
    | false => rw [hc] at hk; exact ⟨rm, m, h, hm, hk⟩
    | true =>
      rw [hc] at hk
      rw [andF_eq, Bool.and_eq_true] at hc
      have hle : n ≤ m := Nat.le_of_ble_eq_true hc.1
      replace hk := dropC_some hk
      cases hd : Nat.ble (hiR (rm.drop (Nat.sub m n))) n with
      | false => rw [hd] at hk; exact ⟨rm, m, h, hm, hk⟩
      | true =>
        rw [hd] at hk
        have hrev : (rm.drop (m - n)).reverse = rm.reverse.take n := drop_rev hm hle
        have hnl : rm0.reverse.length = n := by rw [List.length_reverse, hn]
        have h2 := h.cut2 hG (by rw [hnl]; exact Nat.le_of_ble_eq_true hc.2) (by
          rw [hnl, ← hrev]
          exact fun b hb => hiR_mem (Nat.le_of_ble_eq_true hd) b (List.mem_reverse.1 hb))
        rw [hnl] at h2
        refine ⟨rm.drop (m - n), n, by rw [hrev]; exact h2, by rw [List.length_drop]; omega, hk⟩
def xfn (X : Cx) (E : XE) (D : XD R) (g : Nat) (fi : FI) (args : List AV) (rm : List Blk) (m : Nat) (k : AV → List Blk → Nat → Option R) : Option R :=
  iff (Nat.ble (lenF args) fi.nt.n) (argK args fun en => xrun X E D .out g fi.c 1 en rm m fun e en rm m' => xfin X fi.rs e en rm fun x => k x rm m') none
def hasDf (ops : Array Oper) : Bool := match ops.toList with | [_, d] => (match d.op with | .defer _ => true | _ => false) | _ => false
def xdefer (X : Cx) (E : XE) (D : XD R) (g : Nat) (ops : Array Oper) (en : En) (rm : List Blk) (dl : List (Nat × List AV)) (k : En → List Blk → Nat → List (Nat × List AV) → Option R) : Option R :=
  match ops.toList with
  | [o, d] => match d.op, d.guard, d.dst with
    | .defer c, none, none => match c.callee, c.args.toList with
      | .value (.tmp t), [] => evops X (xT E D g) ops [o] ⟨en.l, revF rm [], [], .out⟩ fun st => match look st.env t with
        | .clos h a b => backX .out st fun en rm m => k en rm m ((h, a ++ b) :: dl)
        | _ => none
      | _, _ => none
    | _, _, _ => none
  | _ => none
def xkD (X : Cx) (E : XE) (D : XD R) (g : Nat) : Code → Nat → En → List Blk → Nat → List (Nat × List AV) → (Ex → En → List Blk → Nat → List (Nat × List AV) → Option R) → Option R
  | .seq a b, p, en, rm, m, dl, k => xkD X E D g a (2 * p) en rm m dl fun e en rm m dl => match e with | .normal => xkD X E D g b (2 * p + 1) en rm m dl k | .exit i => k (.exit i) en rm m dl | .ret => k .ret en rm m dl
  | .region id ops draw, p, en, rm, m, dl, k => match draw, hasDf ops with
    | false, true => xdefer X E D g ops en rm dl fun en rm m dl => k .normal en rm m dl
    | _, _ => xrun X E D .out g (.region id ops draw) p en rm m fun e en rm m => k e en rm m dl
  | c, p, en, rm, m, dl, k => xrun X E D .out g c p en rm m fun e en rm m => k e en rm m dl
def xdc (X : Cx) (E : XE) (D : XD R) (h : Nat) (args : List AV) (rm : List Blk) (m : Nat) (k : List Blk → Nat → Option R) : Option R :=
  match isPl E.nop h with
  | true => k rm m
  | false => match pickF E.I h with
    | none => none
    | some fi => iff (Nat.ble (lenF args) fi.nt.n) (argK args fun en => xrun X E D .out h fi.c 1 en rm m fun e en rm m => xfin X fi.rs e en rm fun _ => k rm m) none
def xleave (X : Cx) (E : XE) (D : XD R) : List (Nat × List AV) → List Blk → Nat → (List Blk → Nat → Option R) → Option R
  | [], rm, m, k => k rm m
  | e :: dl, rm, m, k => xdc X E D e.1 e.2 rm m fun rm m => xleave X E D dl rm m k
def xfnD (X : Cx) (E : XE) (D : XD R) (g : Nat) (fi : FI) (args : List AV) (rm : List Blk) (m : Nat) (k : AV → List Blk → Nat → Option R) : Option R :=
  iff (Nat.ble (lenF args) fi.nt.n) (argK args fun en => xkD X E D g fi.c 1 en rm m [] fun e en rm m dl => xleave X E D dl rm m fun rm m => xfin X fi.rs e en rm fun x => k x rm m) none
def xfnS (X : Cx) (E : XE) (D : XD R) (g : Nat) (fi : FI) (args : List AV) (rm : List Blk) (m : Nat) (k : AV → List Blk → Nat → Option R) : Option R :=
  Bool.rec (motive := fun _ => Option R) (xfn X E D g fi args rm m k) (xfnD X E D g fi args rm m k) (isPl E.df g)
def kFlat (x : AV) (_ : List Blk) (_ : Nat) : Option AV := iff (flatV x) (some x) none
def xcall (X : Cx) (E : XE) (D : XD R) (DA : XD AV) : CallT R := fun g args rm m k =>
  Option.rec (motive := fun _ => Option R) none
    (fun fi => Bool.rec (motive := fun _ => Option R) (xfnS X E D g fi args rm m fun x rm m' => cutX m x rm m' k)
      (Option.rec (motive := fun _ => Option R) (xfnS X E D g fi args rm m fun x rm m' => cutX m x rm m' k)
        (fun ys => Option.rec (motive := fun _ => Option R) (Option.rec (motive := fun _ => Option R) none (fun x => fz2 x fun x => k x rm m) (xfnS X E DA g fi ys [] 0 kFlat)) (fun x => fz2 x fun x => k x rm m) (pickD E.kc g ys))
        (lendA X rm m args))
      (isPl E.pl g))
    (pickF E.I g)
def xV (X : Cx) (E : XE) (DA : XD AV) : LendT := fun g args M =>
  Bool.rec (motive := fun _ => Option AV) none (revK M fun rm m => Option.rec (motive := fun _ => Option AV) none
    (fun fi => Option.rec (motive := fun _ => Option AV) none (fun ys => Option.rec (motive := fun _ => Option AV) (Option.rec (motive := fun _ => Option AV) none (fun x => fz2 x some) (xfnS X E DA g fi ys [] 0 kFlat)) some (pickD E.kc g ys)) (lendA X rm m args))
    (pickF E.I g)) (isPl E.pl g)
def xyield (X : Cx) (E : XE) (D : XD R) (f s p : Nat) (id : Nat) (args : List AV) (M : List Blk) (k : AV → List Blk → Option R) : Option R :=
  match gm M id with
  | some (.loop s' env false none) =>
    tst (Nat.beq s' s && Nat.beq (X.site s).nt (ntF E.I f).n && (X.site s).params.toList.all fun t => Nat.blt t (ntF E.I f).n)
      (match putA (X.site s).params.toList args env with
       | none => none
       | some env' => revK (M.set id .dead) fun rm m =>
         xrun X E D .unk f (X.site s).assign (2 * p) (enOf env') rm m fun e en rm m =>
           match e with
           | .normal => xrun X E D .unk f (X.site s).body (2 * p + 1) en rm m fun e _ rm _ =>
               match gm (revF rm []) id with
               | some .dead => k (.bool (goesOn e)) ((revF rm []).set id (.loop s env false (endOf e)))
               | _ => none
           | _ => none)
  | _ => none
def xY (X : Cx) (E : XE) (D : XD R) : Nat → List AV → List Blk → (AV → List Blk → Option R) → Option R := fun id args M k =>
  match gm M id with
  | some (.loop s _ _ _) => (match siteBy E.Ss s with | some (f', p) => xyield X E D f' s p id args M k | none => none)
  | _ => none
def XL (X : Cx) (E : XE) (n : Nat) : (R : Type) → XD R :=
  Nat.rec (motive := fun _ => (R : Type) → XD R) (fun _ => ⟨fun _ _ _ _ _ => none, fun _ _ _ => none, fun _ _ _ _ => none⟩) (fun _ ih R => ⟨xcall X E (ih R) (ih AV), xV X E (ih AV), xY X E (ih R)⟩) n
structure XDOk (X : Cx) (D : XD R) : Prop where
  C : CallsOk X D.C
  V : LendOk X D.V
  Y : ∀ {id args M k r}, D.Y id args M k = some r → ∃ x M', AYields X id args M x M' ∧ k x M' = some r
section
variable {E : XE} {D : XD R}
theorem xT_ok (hD : XDOk X D) (f : Nat) : (xT E D f).CallOk X := by
  refine ⟨fun {g args M k r} h => ?_, fun {id args M k r} h => hD.Y h⟩
  simp only [xT, revK_eq] at h
  obtain ⟨x, rm', m', hA, hm', h⟩ := hD.C (by rw [List.length_reverse]) h
  replace h := tst_some h
  obtain ⟨hle, h⟩ := h
  rw [revF_eq, List.append_nil] at h
  rw [List.reverse_reverse] at hA
  refine ⟨x, _, hA, h, fun ids hi => ?_⟩
  injection hi with hi
  subst hi
  exact ⟨by rw [List.length_reverse, ← hm']; exact Nat.le_of_ble_eq_true hle, fun i hi hn => absurd (List.mem_range.2 hi) hn⟩
theorem xrg_ok (hX : X.Okb) (hS : AllE (SiOk X E.I) E.Ss) (hD : XDOk X D) {rd : Rd} {f p : Nat} {g : Operand} {ps : Array Tmp} {x y : Code} (hat : At (codeF E.I f) p (.rangeFunc g ps x y)) : XSays X (xT E D f).nt rd (.rangeFunc g ps x y) (xrg X E D rd f p) := by
  intro en rm m k r hm h
  unfold xrg at h
  split at h
  · rename_i s g' ps' x' y' hs hc
    have hcc := codeOf_at hc hat
    injection hcc with e1 e2 e3 e4
    subst e1; subst e2; subst e3; subst e4
    obtain ⟨g2, hat2, hnt⟩ := siteAt_ok hS hs
    obtain ⟨l, hl1, hl2⟩ := hat2
    have := hat.det l hl1
    rw [hl2] at this
    injection this with this
    injection this with e1 e2 e3 e4
    have hsite : X.site s = ⟨(xT E D f).nt.n, ps', x', y'⟩ := by
      show X.site s = ⟨(ntF E.I f).n, ps', x', y'⟩
      rw [← hnt, ← e2, ← e3, ← e4]
    obtain ⟨e, st', h1, h2⟩ := evrange_sound hX (xT_ok hD f) hsite h
    obtain ⟨en1, rm1, m1, rfl, hm1, h2⟩ := backX_some h2
    rw [revF_eq, List.append_nil] at h1
    exact ⟨e, en1, rm1, m1, hm1, h1, h2⟩
  · cases h
theorem xrun_ok (hX : X.Okb) (hG : GlobFree X) (hS : AllE (SiOk X E.I) E.Ss) (hD : XDOk X D) {rd : Rd} {f : Nat} {c : Code} {p : Nat} (hat : At (codeF E.I f) p c) : XSays X (ntF E.I f) rd c (xrun X E D rd f c p) :=
  xk_sound (T := xT E D f) hX hG (xT_ok hD f) hD.C hD.V (fun hat => xrg_ok hX hS hD hat) c hat
theorem evres1_det {rv : ResultVar} {st : St} {k : AV → Option R} {r : R} (h : evres1 X rv st k = some r) : ∃ y, k y = some r ∧ ∀ (R' : Type) (k' : AV → Option R'), evres1 X rv st k' = k' y := by
  cases rv with
  | tmp t => exact ⟨_, h, fun _ _ => rfl⟩
  | cell a t =>
    obtain ⟨y, h1, h2⟩ := mem_load h
    exact ⟨y, h1, fun R' k' => h2 st.mem (fun _ _ => rfl) R' k'⟩
theorem evres_det {rs : List ResultVar} {st : St} {q : AV → Option R} {r : R} (h : evres X rs st (fun x _ => q x) = some r) : ∃ x, q x = some r ∧ ∀ (R' : Type) (k' : AV → List Blk → Option R'), evres X rs st k' = k' x st.mem := by
  match rs with
  | [] => exact ⟨_, h, fun _ _ => rfl⟩
  | [a] =>
    have h : evres1 X a st q = some r := h
    obtain ⟨x, h, hd⟩ := evres1_det h
    exact ⟨x, h, fun R' k' => by show (evres1 X a st fun x => k' x st.mem) = _; rw [hd]⟩
  | [a, b] =>
    have h : (evres1 X a st fun x => evres1 X b st fun y => q (.tup [x, y])) = some r := h
    obtain ⟨x, h, hd⟩ := evres1_det h
    obtain ⟨y, h, hd2⟩ := evres1_det h
    exact ⟨_, h, fun R' k' => by show (evres1 X a st fun x => evres1 X b st fun y => k' (.tup [x, y]) st.mem) = _; rw [hd, hd2]⟩
  | [a, b, c] =>
    have h : (evres1 X a st fun x => evres1 X b st fun y => evres1 X c st fun z => q (.tup [x, y, z])) = some r := h
    obtain ⟨x, h, hd⟩ := evres1_det h
    obtain ⟨y, h, hd2⟩ := evres1_det h
    obtain ⟨z, h, hd3⟩ := evres1_det h
    exact ⟨_, h, fun R' k' => by show (evres1 X a st fun x => evres1 X b st fun y => evres1 X c st fun z => k' (.tup [x, y, z]) st.mem) = _; rw [hd, hd2, hd3]⟩
  | _ :: _ :: _ :: _ :: _ => cases h
theorem xfn_ok (hX : X.Okb) (hG : GlobFree X) (hI : AllE (fun e => FiOk X e.1 e.2) E.I) (hS : AllE (SiOk X E.I) E.Ss) (hD : XDOk X D) {g : Nat} {fi : FI} (hf : pickF E.I g = some fi) {args : List AV} {rm : List Blk} {m : Nat} (hm : m = rm.length) {k : AV → List Blk → Nat → Option R} {r : R}
    (h : xfn X E D g fi args rm m k = some r) : ∃ x rm' m', ACalls X g args rm.reverse x rm'.reverse ∧ m' = rm'.length ∧ k x rm' m' = some r := by
  obtain ⟨fn, h1, h2, h3, h4, h5⟩ := pickF_ok hI hf
  have hc : codeF E.I g = fi.c := by unfold codeF; rw [hf]
  have hn : ntF E.I g = fi.nt := by unfold ntF; rw [hf]
  obtain ⟨hle, h⟩ := iff_none h
  have hle : args.length ≤ fi.nt.n := by have := Nat.le_of_ble_eq_true hle; rwa [lenF_eq] at this
  rw [argK_eq] at h
  have hat : At (codeF E.I g) 1 fi.c := by rw [hc]; exact At.root _
  obtain ⟨e, en', rm', m', hm', hrun, h⟩ := xrun_ok hX hG hS hD (rd := .out) hat _ _ _ _ _ hm h
  rw [xfin_eq fi.rs e en' rm' .out] at h
  have hrun' : CodeRuns X fi.nt fi.c ⟨argEnv 0 args, rm.reverse, [], .out⟩ (Ex.exit' e) (stX en' rm' .out) := by
    have : XRuns X (ntF E.I g) .out fi.c (enA 0 args) rm e en' rm' := hrun
    unfold XRuns at this
    rw [hn] at this
    have e0 : stX (enA 0 args) rm .out = ⟨argEnv 0 args, rm.reverse, [], .out⟩ := by simp only [stX, enA_l]
    rw [e0] at this
    exact @this
  have hfin : evfin X fi.rs (fun x M => k x rm' m' >>= fun r => some (r, M)) e (stX en' rm' .out) = some (r, rm'.reverse) := by
    have key : ∀ (q : AV → Option R), evres X fi.rs (stX en' rm' .out) (fun x _ => q x) = some r → evres X fi.rs (stX en' rm' .out) (fun x M => q x >>= fun r => some (r, M)) = some (r, rm'.reverse) := by
      intro q hq
      obtain ⟨x, hx⟩ := evres_det (X := X) hq
      rw [hx.2]
      show (q x >>= fun r => some (r, rm'.reverse)) = _
      rw [hx.1]; rfl
    cases e with
    | normal => exact key (fun x => k x rm' m') h
    | exit i => cases h
    | ret => exact key (fun x => k x rm' m') h
  obtain ⟨x, M', hA, hk⟩ := evfn_core hX h1 h2 h3 h5 h4 hle hrun' hfin
  cases hq : k x rm' m' with
  | none => rw [hq] at hk; cases hk
  | some r' =>
    rw [hq] at hk
    injection hk with hk
    injection hk with e1 e2
    subst e1; subst e2
    exact ⟨x, rm', m', hA, hm', hq⟩
def DNop (X : Cx) (f : Nat) : Prop := (∀ (vs : Array Value) (w : World), (callFunc f vs).run X.P w = .ok (.enter f vs) w) ∧ ∀ (vs : Array Value) (w : World), CallsDIn Fence.wide 0 X.P f vs .returning w fun e u' w' => u' = .returning ∧ (∃ v, e = .returned v) ∧ w' = w
theorem isPl_ok {P : Nat → Prop} : ∀ {l : List Nat}, AllE P l → ∀ {g : Nat}, isPl l g = true → P g
  | [], _, _, h => by cases h
  | e :: l, hp, g, h => by
    unfold isPl at h
    cases hb : Nat.beq g e with
    | true => rw [Nat.eq_of_beq_eq_true hb]; exact hp.1
    | false => rw [hb] at h; exact isPl_ok hp.2 h
theorem xdefer_ok (hX : X.Okb) (hD : XDOk X D) {g : Nat} {id : Nat} {ops : Array Oper} {en : En} {rm : List Blk} {dl : List (Nat × List AV)} {k : En → List Blk → Nat → List (Nat × List AV) → Option R} {r : R} (h : xdefer X E D g ops en rm dl k = some r) :
    ∃ en' rm' m' dl', m' = rm'.length ∧ DRuns X (ntF E.I g) (.region id ops false) (stX en rm .out) dl .normal (stX en' rm' .out) dl' ∧ k en' rm' m' dl' = some r := by
  unfold xdefer at h
  split at h
  · rename_i o d hops
    split at h
    · rename_i c hd hgd hdst
      split at h
      · rename_i t hcal hargs
        obtain ⟨st1, h, hr⟩ := defer_runs hX (xT_ok hD g) (id := id) hops hd hgd hdst hcal hargs h
        split at h
        · rename_i f a b hl
          obtain ⟨en1, rm1, m1, rfl, hm1, h⟩ := backX_some h
          refine ⟨en1, rm1, m1, _, hm1, ?_, h⟩
          have := @hr f a b hl rfl dl
          rw [revF_eq, List.append_nil] at this
          exact @this
        · cases h
      · cases h
    · cases h
  · cases h
theorem xkD_ok (hX : X.Okb) (hG : GlobFree X) (hS : AllE (SiOk X E.I) E.Ss) (hD : XDOk X D) {g : Nat} : ∀ (c : Code) {p : Nat}, At (codeF E.I g) p c → ∀ {en : En} {rm : List Blk} {m : Nat} {dl : List (Nat × List AV)} {k : Ex → En → List Blk → Nat → List (Nat × List AV) → Option R} {r : R}, m = rm.length → xkD X E D g c p en rm m dl k = some r →
    ∃ e en' rm' m' dl', m' = rm'.length ∧ DRuns X (ntF E.I g) c (stX en rm .out) dl (Ex.exit' e) (stX en' rm' .out) dl' ∧ k e en' rm' m' dl' = some r := by
  have plain : ∀ (c : Code) {p : Nat}, At (codeF E.I g) p c → ∀ {en : En} {rm : List Blk} {m : Nat} {dl : List (Nat × List AV)} {k : Ex → En → List Blk → Nat → List (Nat × List AV) → Option R} {r : R}, m = rm.length → (xrun X E D .out g c p en rm m fun e en rm m => k e en rm m dl) = some r →
      ∃ e en' rm' m' dl', m' = rm'.length ∧ DRuns X (ntF E.I g) c (stX en rm .out) dl (Ex.exit' e) (stX en' rm' .out) dl' ∧ k e en' rm' m' dl' = some r := by
    intro c p hat en rm m dl k r hm h
    obtain ⟨e, en', rm', m', hm', hrun, h⟩ := xrun_ok hX hG hS hD (rd := .out) hat _ _ _ _ _ hm h
    exact ⟨e, en', rm', m', dl, hm', DRuns.of_code hrun dl, h⟩
  intro c
  induction c with
  | seq a b iha ihb =>
    intro p hat en rm m dl k r hm h
    have h : (xkD X E D g a (2 * p) en rm m dl fun e en rm m dl => match e with | .normal => xkD X E D g b (2 * p + 1) en rm m dl k | .exit i => k (.exit i) en rm m dl | .ret => k .ret en rm m dl) = some r := h
    obtain ⟨e, en1, rm1, m1, dl1, hm1, h1, h⟩ := iha (hat.down false fun l hl => by simp [codeAt, hl]) hm h
    cases e with
    | normal =>
      obtain ⟨e, en2, rm2, m2, dl2, hm2, h2, h⟩ := ihb (hat.down true fun l hl => by simp [codeAt, hl]) hm1 h
      exact ⟨e, en2, rm2, m2, dl2, hm2, DRuns.seq h1 h2, h⟩
    | exit i => exact ⟨.exit i, en1, rm1, m1, dl1, hm1, DRuns.seq_exit (by simp) h1, h⟩
    | ret => exact ⟨.ret, en1, rm1, m1, dl1, hm1, DRuns.seq_exit (by simp) h1, h⟩
  | region id ops draw =>
    intro p hat en rm m dl k r hm h
    unfold xkD at h
    split at h
    · obtain ⟨en', rm', m', dl', hm', hr, h⟩ := xdefer_ok hX hD (id := id) h
      exact ⟨.normal, en', rm', m', dl', hm', hr, h⟩
    · exact plain _ hat hm h
  | _ => intro p hat en rm m dl k r hm h; exact plain _ hat hm h
theorem fin_ok {fi : FI} {e : Ex} {en : En} {rm : List Blk} {k : AV → Option R} {r : R} (h : xfin X fi.rs e en rm k = some r) : (e = .normal ∨ e = .ret) ∧ evres X fi.rs (stX en rm .out) (fun x _ => k x) = some r := by
  rw [xfin_eq fi.rs e en rm .out] at h
  cases e with
  | normal => exact ⟨.inl rfl, h⟩
  | exit i => cases h
  | ret => exact ⟨.inr rfl, h⟩
theorem xdc_ok (hX : X.Okb) (hG : GlobFree X) (hI : AllE (fun e => FiOk X e.1 e.2) E.I) (hS : AllE (SiOk X E.I) E.Ss) (hN : AllE (DNop X) E.nop) (hD : XDOk X D) {g : Nat} {args : List AV} {rm : List Blk} {m : Nat} (hm : m = rm.length) {k : List Blk → Nat → Option R} {r : R}
    (h : xdc X E D g args rm m k = some r) : ∃ rm' m', m' = rm'.length ∧ DCalls X g args rm.reverse rm'.reverse ∧ k rm' m' = some r := by
  unfold xdc at h
  split at h
  · rename_i hp
    have := isPl_ok hN hp
    refine ⟨rm, m, hm, ⟨this.1, fun {w0 S F ρ w vs} hI hr => (this.2 vs.toArray w).mono ?_⟩, h⟩
    rintro e u' w' ⟨rfl, ⟨v, rfl⟩, rfl⟩
    exact ⟨rfl, v, ρ, F, rfl, hI, Grow.refl _ _ _⟩
  · split at h
    · cases h
    · rename_i fi hf
      obtain ⟨fn, h1, h2, h3, h4, h5⟩ := pickF_ok hI hf
      have hc : codeF E.I g = fi.c := by unfold codeF; rw [hf]
      have hn : ntF E.I g = fi.nt := by unfold ntF; rw [hf]
      obtain ⟨hle, h⟩ := iff_none h
      have hle : args.length ≤ fi.nt.n := by have := Nat.le_of_ble_eq_true hle; rwa [lenF_eq] at this
      rw [argK_eq] at h
      have hat : At (codeF E.I g) 1 fi.c := by rw [hc]; exact At.root _
      obtain ⟨e, en', rm', m', hm', hrun, h⟩ := xrun_ok hX hG hS hD (rd := .out) hat _ _ _ _ _ hm h
      obtain ⟨he, h⟩ := fin_ok h
      have hrun' : CodeRuns X fi.nt fi.c ⟨argEnv 0 args, rm.reverse, [], .out⟩ (Ex.exit' e) (stX en' rm' .out) := by
        have : XRuns X (ntF E.I g) .out fi.c (enA 0 args) rm e en' rm' := hrun
        unfold XRuns at this
        rw [hn] at this
        have e0 : stX (enA 0 args) rm .out = ⟨argEnv 0 args, rm.reverse, [], .out⟩ := by simp only [stX, enA_l]
        rw [e0] at this
        exact @this
      refine ⟨rm', m', hm', evfn_coreD hX h1 h2 h3 h5 h4 hle he rfl hrun' h, ?_⟩
      obtain ⟨x, hx, _⟩ := evres_det (X := X) (q := fun _ => k rm' m') h
      exact hx
theorem xleave_ok (hX : X.Okb) (hG : GlobFree X) (hI : AllE (fun e => FiOk X e.1 e.2) E.I) (hS : AllE (SiOk X E.I) E.Ss) (hN : AllE (DNop X) E.nop) (hD : XDOk X D) : ∀ (dl : List (Nat × List AV)) {rm : List Blk} {m : Nat} {k : List Blk → Nat → Option R} {r : R}, m = rm.length → xleave X E D dl rm m k = some r →
    ∃ rm' m', m' = rm'.length ∧ DDone X dl rm.reverse rm'.reverse ∧ k rm' m' = some r
  | [], rm, m, k, r, hm, h => ⟨rm, m, hm, .nil _, h⟩
  | (g, args) :: dl, rm, m, k, r, hm, h => by
    obtain ⟨rm1, m1, hm1, h1, h⟩ := xdc_ok hX hG hI hS hN hD hm (k := fun rm m => xleave X E D dl rm m k) h
    obtain ⟨rm2, m2, hm2, h2, h⟩ := xleave_ok hX hG hI hS hN hD dl hm1 h
    exact ⟨rm2, m2, hm2, .cons h1 h2, h⟩
theorem xfnD_ok (hX : X.Okb) (hG : GlobFree X) (hI : AllE (fun e => FiOk X e.1 e.2) E.I) (hS : AllE (SiOk X E.I) E.Ss) (hN : AllE (DNop X) E.nop) (hD : XDOk X D) {g : Nat} {fi : FI} (hf : pickF E.I g = some fi) {args : List AV} {rm : List Blk} {m : Nat} (hm : m = rm.length) {k : AV → List Blk → Nat → Option R} {r : R}
    (h : xfnD X E D g fi args rm m k = some r) : ∃ x rm' m', ACalls X g args rm.reverse x rm'.reverse ∧ m' = rm'.length ∧ k x rm' m' = some r := by
  obtain ⟨fn, h1, h2, h3, h4, h5⟩ := pickF_ok hI hf
  have hc : codeF E.I g = fi.c := by unfold codeF; rw [hf]
  have hn : ntF E.I g = fi.nt := by unfold ntF; rw [hf]
  obtain ⟨hle, h⟩ := iff_none h
  have hle : args.length ≤ fi.nt.n := by have := Nat.le_of_ble_eq_true hle; rwa [lenF_eq] at this
  rw [argK_eq] at h
  have hat : At (codeF E.I g) 1 fi.c := by rw [hc]; exact At.root _
  obtain ⟨e, en', rm', m', dl, hm', hrun, h⟩ := xkD_ok hX hG hS hD fi.c hat hm h
  obtain ⟨rm2, m2, hm2, hdone, h⟩ := xleave_ok hX hG hI hS hN hD dl hm' h
  obtain ⟨he, h⟩ := fin_ok h
  have hrun' : DRuns X fi.nt fi.c ⟨argEnv 0 args, rm.reverse, [], .out⟩ [] (Ex.exit' e) (stX en' rm' .out) dl := by
    rw [hn] at hrun
    have e0 : stX (enA 0 args) rm .out = ⟨argEnv 0 args, rm.reverse, [], .out⟩ := by simp only [stX, enA_l]
    rw [e0] at hrun
    exact @hrun
  obtain ⟨x, hx, hdet⟩ := evres_det (X := X) (q := fun x => k x rm2 m2) h
  obtain ⟨y, hA, hk⟩ := evfn_defer hX h1 h2 h3 h5 h4 hle he rfl hrun' hdone (k := fun x _ => k x rm2 m2) (r := r) h
  exact ⟨y, rm2, m2, hA, hm2, hk⟩
theorem xfnS_ok (hX : X.Okb) (hG : GlobFree X) (hI : AllE (fun e => FiOk X e.1 e.2) E.I) (hS : AllE (SiOk X E.I) E.Ss) (hN : AllE (DNop X) E.nop) (hD : XDOk X D) {g : Nat} {fi : FI} (hf : pickF E.I g = some fi) {args : List AV} {rm : List Blk} {m : Nat} (hm : m = rm.length) {k : AV → List Blk → Nat → Option R} {r : R}
    (h : xfnS X E D g fi args rm m k = some r) : ∃ x rm' m', ACalls X g args rm.reverse x rm'.reverse ∧ m' = rm'.length ∧ k x rm' m' = some r := by
  unfold xfnS at h
  cases hp : isPl E.df g with
  | false => rw [hp] at h; exact xfn_ok hX hG hI hS hD hf hm h
  | true => rw [hp] at h; exact xfnD_ok hX hG hI hS hN hD hf hm h
theorem xcall_ok (hX : X.Okb) (hG : GlobFree X) (hI : AllE (fun e => FiOk X e.1 e.2) E.I) (hS : AllE (SiOk X E.I) E.Ss) (hK : AllE (KcOk2 X) E.kc) (hN : AllE (DNop X) E.nop) (hD : XDOk X D) {DA : XD AV} (hDA : XDOk X DA) : CallsOk X (xcall X E D DA) := by
  intro g args rm m k r hm h
  unfold xcall at h
  cases hf : pickF E.I g with
  | none => rw [hf] at h; cases h
  | some fi =>
    rw [hf] at h
    have plain : (xfnS X E D g fi args rm m fun x rm m' => cutX m x rm m' k) = some r → ∃ x rm' m', ACalls X g args rm.reverse x rm'.reverse ∧ m' = rm'.length ∧ k x rm' m' = some r := by
      intro h
      obtain ⟨x, rm1, m1, hA, hm1, h⟩ := xfnS_ok hX hG hI hS hN hD hf hm h
      exact ⟨x, cutX_some hG hm hm1 hA h⟩
    cases hp : isPl E.pl g with
    | false => rw [hp] at h; exact plain h
    | true =>
      rw [hp] at h
      cases hl : lendA X rm m args with
      | none => rw [hl] at h; exact plain h
      | some ys =>
        rw [hl] at h
        have h : Option.rec (motive := fun _ => Option R) (Option.rec (motive := fun _ => Option R) none (fun x => fz2 x fun x => k x rm m) (xfnS X E DA g fi ys [] 0 kFlat)) (fun x => fz2 x fun x => k x rm m) (pickD E.kc g ys) = some r := h
        cases hpd : pickD E.kc g ys with
        | some x =>
          rw [hpd] at h
          have h : (fz2 x fun x => k x rm m) = some r := h
          rw [fz2_eq] at h
          obtain ⟨⟨M', hA⟩, hfl⟩ := pickD_ok hK hpd
          exact ⟨x, rm, m, hA.lend hG hm hl hfl (fun _ _ => rfl), hm, h⟩
        | none =>
        rw [hpd] at h
        have h : Option.rec (motive := fun _ => Option R) none (fun x => fz2 x fun x => k x rm m) (xfnS X E DA g fi ys [] 0 kFlat) = some r := h
        cases hx : xfnS X E DA g fi ys [] 0 kFlat with
        | none => rw [hx] at h; cases h
        | some x =>
          rw [hx] at h
          have h : (fz2 x fun x => k x rm m) = some r := h
          rw [fz2_eq] at h
          obtain ⟨y, rm1, m1, hA, hm1, hk⟩ := xfnS_ok hX hG hI hS hN hDA hf rfl hx
          obtain ⟨hfl, hk⟩ := iff_none hk
          injection hk with hk
          subst hk
          exact ⟨y, rm, m, hA.lend hG hm hl hfl (fun _ _ => rfl), hm, h⟩
theorem xV_ok (hX : X.Okb) (hG : GlobFree X) (hI : AllE (fun e => FiOk X e.1 e.2) E.I) (hS : AllE (SiOk X E.I) E.Ss) (hK : AllE (KcOk2 X) E.kc) (hN : AllE (DNop X) E.nop) {DA : XD AV} (hDA : XDOk X DA) : LendOk X (xV X E DA) := by
  intro g args M x h M0 hM
  unfold xV at h
  cases hp : isPl E.pl g with
  | false => rw [hp] at h; cases h
  | true =>
    rw [hp] at h
    have h : (revK M fun rm m => Option.rec (motive := fun _ => Option AV) none
      (fun fi => Option.rec (motive := fun _ => Option AV) none (fun ys => Option.rec (motive := fun _ => Option AV) (Option.rec (motive := fun _ => Option AV) none (fun x => fz2 x some) (xfnS X E DA g fi ys [] 0 kFlat)) some (pickD E.kc g ys)) (lendA X rm m args))
      (pickF E.I g)) = some x := h
    rw [revK_eq] at h
    cases hf : pickF E.I g with
    | none => rw [hf] at h; cases h
    | some fi =>
      rw [hf] at h
      cases hl : lendA X M.reverse M.length args with
      | none => rw [hl] at h; cases h
      | some ys =>
        rw [hl] at h
        have h : Option.rec (motive := fun _ => Option AV) (Option.rec (motive := fun _ => Option AV) none (fun x => fz2 x some) (xfnS X E DA g fi ys [] 0 kFlat)) some (pickD E.kc g ys) = some x := h
        have hag : ∀ id, id < M.length → M0[id]? = M.reverse.reverse[id]? := fun id hid => by rw [List.reverse_reverse]; exact hM id hid
        cases hpd : pickD E.kc g ys with
        | some y =>
          rw [hpd] at h
          injection h with h
          subst h
          obtain ⟨⟨M', hA⟩, hfl⟩ := pickD_ok hK hpd
          exact hA.lend hG (by rw [List.length_reverse]) hl hfl hag
        | none =>
          rw [hpd] at h
          have h : Option.rec (motive := fun _ => Option AV) none (fun x => fz2 x some) (xfnS X E DA g fi ys [] 0 kFlat) = some x := h
          cases hx : xfnS X E DA g fi ys [] 0 kFlat with
          | none => rw [hx] at h; cases h
          | some y =>
            rw [hx] at h
            have h : fz2 y some = some x := h
            rw [fz2_eq] at h
            injection h with h
            subst h
            obtain ⟨z, rm1, m1, hA, hm1, hk⟩ := xfnS_ok hX hG hI hS hN hDA hf rfl hx
            obtain ⟨hfl, hk⟩ := iff_none hk
            injection hk with hk
            subst hk
            exact hA.lend hG (by rw [List.length_reverse]) hl hfl hag
theorem xyield_ok (hX : X.Okb) (hG : GlobFree X) (hS : AllE (SiOk X E.I) E.Ss) (hD : XDOk X D) {f s p : Nat} {g : Operand} {ps : Array Tmp} (hat : At (codeF E.I f) p (.rangeFunc g ps (X.site s).assign (X.site s).body)) {id : Nat} {args : List AV} {M : List Blk} {k : AV → List Blk → Option R} {r : R}
    (h : xyield X E D f s p id args M k = some r) : ∃ x M', AYields X id args M x M' ∧ k x M' = some r := by
  unfold xyield at h
  simp only [gm_eq] at h
  split at h
  case h_2 => cases h
  rename_i s' env hb
  replace h := tst_some h
  obtain ⟨hc, h⟩ := h
  rw [Bool.and_eq_true, Bool.and_eq_true] at hc
  obtain ⟨⟨hs', hnt⟩, hps⟩ := hc
  have hs' : s' = s := Nat.eq_of_beq_eq_true hs'
  subst hs'
  have hnt : (X.site s').nt = (ntF E.I f).n := Nat.eq_of_beq_eq_true hnt
  have hps : ∀ t ∈ (X.site s').params.toList, t < (ntF E.I f).n := fun t ht => by have := List.all_eq_true.1 hps t ht; simpa using this
  split at h
  case h_1 => cases h
  rename_i env' hput
  rw [revK_eq] at h
  obtain ⟨e1, en1, rm1, m1, hm1, hrun1, h⟩ := xrun_ok hX hG hS hD (hat.down false fun l hl => by simp [codeAt, hl]) _ _ _ _ _ (by rw [List.length_reverse]) h
  split at h
  case h_2 => cases h
  obtain ⟨e2, en2, rm2, m2, hm2, hrun2, h⟩ := xrun_ok hX hG hS hD (hat.down true fun l hl => by simp [codeAt, hl]) _ _ _ _ _ hm1 h
  split at h
  case h_2 => cases h
  rename_i hdead
  rw [revF_eq, List.append_nil] at hdead h
  refine ⟨_, _, evyield_core (nt := ntF E.I f) (st1 := stX en1 rm1 .unk) (st2 := stX en2 rm2 .unk) hb hnt hps hput (e1 := .normal) rfl ?_ rfl hrun2 hdead, h⟩
  have e0 : stX (enOf env') (M.set id .dead).reverse .unk = ⟨env', M.set id .dead, [], .unk⟩ := by simp only [stX, enOf_l, List.reverse_reverse]
  have h1 : CodeRuns X (ntF E.I f) (X.site s').assign (stX (enOf env') (M.set id .dead).reverse .unk) (Ex.exit' .normal) (stX en1 rm1 .unk) := hrun1
  rw [e0] at h1
  exact @h1
theorem xY_ok (hX : X.Okb) (hG : GlobFree X) (hS : AllE (SiOk X E.I) E.Ss) (hD : XDOk X D) {id : Nat} {args : List AV} {M : List Blk} {k : AV → List Blk → Option R} {r : R} (h : xY X E D id args M k = some r) : ∃ x M', AYields X id args M x M' ∧ k x M' = some r := by
  unfold xY at h
  split at h
  · split at h
    · rename_i f' p hsb
      obtain ⟨g, hat, hnt⟩ := siteBy_ok hS hsb
      exact xyield_ok hX hG hS hD hat h
    · cases h
  · cases h
theorem XL_ok (hX : X.Okb) (hG : GlobFree X) (hI : AllE (fun e => FiOk X e.1 e.2) E.I) (hS : AllE (SiOk X E.I) E.Ss) (hK : AllE (KcOk2 X) E.kc) (hN : AllE (DNop X) E.nop) : ∀ (n : Nat) (R : Type), XDOk X (XL X E n R)
  | 0, R => ⟨(by intro g args rm m k r hm h; cases h), (by intro g args M x h; cases h), (by intro id args M k r h; cases h)⟩
  | n + 1, R => ⟨xcall_ok hX hG hI hS hK hN (XL_ok hX hG hI hS hK hN n R) (XL_ok hX hG hI hS hK hN n AV), xV_ok hX hG hI hS hK hN (XL_ok hX hG hI hS hK hN n AV), fun h => xY_ok hX hG hS (XL_ok hX hG hI hS hK hN n R) h⟩
def kB2 (x : AV) (_ : List Blk) (_ : Nat) : Option Bool := onBool x (fun b => some b) none
def xAll (X : Cx) (E : XE) (n f : Nat) : Bool := Option.rec (motive := fun _ => Bool) false (fun fi => asB (xfnS X E (XL X E n Bool) f fi [] [] 0 kB2)) (pickF E.I f)
theorem closed_run2 (hX : X.Okb) (hG : GlobFree X) (hI : AllE (fun e => FiOk X e.1 e.2) E.I) (hS : AllE (SiOk X E.I) E.Ss) (hK : AllE (KcOk2 X) E.kc) (hN : AllE (DNop X) E.nop) {n f : Nat} (h : xAll X E n f = true) : ACalls X f [] [] (.bool true) [] := by
  unfold xAll at h
  cases hf : pickF E.I f with
  | none => rw [hf] at h; cases h
  | some fi =>
    rw [hf] at h
    have h : asB (xfnS X E (XL X E n Bool) f fi [] [] 0 kB2) = true := h
    unfold asB at h
    split at h
    · rename_i b hb
      subst h
      obtain ⟨x, rm1, m1, hA, hm1, hk⟩ := xfnS_ok hX hG hI hS hN (XL_ok hX hG hI hS hK hN n Bool) hf rfl hb
      obtain ⟨b, rfl, hk⟩ := onBool_some hk
      injection hk with hk
      subst hk
      have := hA.cut hG (x := .bool true) rfl (by rw [List.reverse_nil, List.length_nil, List.take_zero]; rfl)
      rw [List.reverse_nil, List.length_nil, List.take_zero] at this
      exact this
    · cases h
def xKc (X : Cx) (E : XE) (n g : Nat) (ys : List AV) (x : AV) : Bool := Option.rec (motive := fun _ => Bool) false (fun fi => Option.rec (motive := fun _ => Bool) false (fun y => sameD x y) (xfnS X E (XL X E n AV) g fi ys [] 0 kFlat)) (pickF E.I g)
theorem kc_of (hX : X.Okb) (hG : GlobFree X) (hI : AllE (fun e => FiOk X e.1 e.2) E.I) (hS : AllE (SiOk X E.I) E.Ss) (hK : AllE (KcOk2 X) E.kc) (hN : AllE (DNop X) E.nop) {n g : Nat} {ys : List AV} {x : AV} (h : xKc X E n g ys x = true) : KcOk2 X ⟨g, ys, x⟩ := by
  unfold xKc at h
  cases hf : pickF E.I g with
  | none => rw [hf] at h; cases h
  | some fi =>
    rw [hf] at h
    have h : Option.rec (motive := fun _ => Bool) false (fun y => sameD x y) (xfnS X E (XL X E n AV) g fi ys [] 0 kFlat) = true := h
    cases hx : xfnS X E (XL X E n AV) g fi ys [] 0 kFlat with
    | none => rw [hx] at h; cases h
    | some y =>
      rw [hx] at h
      have h := sameD_eq x y h
      subst h
      obtain ⟨y, rm1, m1, hA, hm1, hk⟩ := xfnS_ok hX hG hI hS hN (XL_ok hX hG hI hS hK hN n AV) hf rfl hx
      obtain ⟨hfl, hk⟩ := iff_none hk
      injection hk with hk
      subst hk
      exact ⟨⟨_, hA⟩, hfl⟩
end
end
end Go.Eng

namespace Go.Proofs.YtjiegemglmjfeaaGreatDoor.Cl
open Go Go.Eng
set_option maxRecDepth 100000
noncomputable def c10 : Code := (Tryz.f10.body).getD .skip
noncomputable def o10 (p : List Bool) : Array Oper := match codeAt c10 p with | some (.region _ o _) => o | _ => #[]
noncomputable def r10 : Code := (codeAt c10 [true, true, false, true]).getD .skip
noncomputable def p0 : Option Oper := (o10 [false])[0]?
noncomputable def p3 : Option Oper := (o10 [false, false, true])[0]?
noncomputable def p4 : Option Oper := (o10 [false, true, false, true])[0]?
theorem c10_eq : c10 = .seq (.region 0 (o10 [false]) false) (.block 0 (.seq (.region 3 (o10 [false, false, true]) false) (.cond (.tmp 8) (.region 4 (o10 [false, true, false, true]) false) r10))) := by kernel_rfl
theorem some_p0 : ∃ o, p0 = some o ∧ o.guard = none ∧ o.dst = some 6 ∧ ∀ (ρ : Operand → Value) (w : World), (execOp ρ o).run Tryz.prog w = .ok .recover w := ⟨p0.getD default, by kernel_rfl, by kernel_rfl, by kernel_rfl, fun ρ w => by kernel_rfl⟩
theorem some_p3 : ∃ o t u, p3 = some o ∧ o.guard = none ∧ o.dst = some 8 ∧ o.op = .binOp .eql t (.tmp 6) (.const .nilIface) u ∧ ∀ (w : World), (do eqGuard .eql t (.tmp 6) (.const .nilIface) .nilIface .nilIface; binOp .eql t .nilIface .nilIface : Sem Value).run Tryz.prog w = .ok (.bool true) w :=
  ⟨p3.getD default, 20, 20, by kernel_rfl, by kernel_rfl, by kernel_rfl, by kernel_rfl, fun w => by kernel_rfl⟩
theorem some_p4 : ∃ o, p4 = some o ∧ o.guard = none ∧ o.dst = some 3 ∧ o.op = .assign (.tmp 6) := ⟨p4.getD default, by kernel_rfl, by kernel_rfl, by kernel_rfl, by kernel_rfl⟩
theorem dnop10 (vs : Array Value) (w : World) : CallsDIn Fence.wide 0 Tryz.prog 10 vs .returning w (fun e u' w' => u' = .returning ∧ (∃ v, e = .returned v) ∧ w' = w) := by
  obtain ⟨o0, h0, g0, d0, x0⟩ := some_p0
  obtain ⟨o3, t3, u3, h3, g3, d3, e3, x3⟩ := some_p3
  obtain ⟨o4, h4, g4, d4, e4⟩ := some_p4
  refine callsDIn_of_wpSIn (fn := Tryz.f10) (c := c10) Tryz.func10 (by kernel_rfl) trivial fun c₀ cs hu => ?_
  rw [c10_eq]
  refine wpSIn_seq (wpSIn_region ?_)
  rw [show (o10 [false]).size = 1 by kernel_rfl, show List.range 1 = [0] from rfl]
  have hrec : recoverD (c₀ :: cs) = none := by simp [recoverD, hu]
  unfold wpOpsSIn
  rw [show (o10 [false])[0]? = some o0 from h0]
  refine ⟨fun _ _ => trivial, ?_⟩
  rw [if_pos (wanted_none g0 _), x0]
  simp only [hrec]
  unfold wpOpsSIn
  show Code.wpSIn _ _ _ _ _ _ _ _
  refine wpSIn_of_wpIn rfl (wpIn_block (wpIn_seq (wpIn_region ?_)))
  rw [show (o10 [false, false, true]).size = 1 by kernel_rfl, show List.range 1 = [0] from rfl, wpOpsIn_cons]
  unfold wpOpIn
  rw [show (o10 [false, false, true])[0]? = some o3 from h3]
  simp only
  rw [if_pos (wanted_none g3 _)]
  have hsz : 13 ≤ (vs ++ Array.replicate (Tryz.f10.ntmps - vs.size) undef).size := by
    rw [Array.size_append, Array.size_replicate, show Tryz.f10.ntmps = 13 by kernel_rfl]; omega
  refine ⟨fun _ _ => trivial, ?_⟩
  have hev : ∀ (v : Value), (({ tmps := vs ++ Array.replicate (Tryz.f10.ntmps - vs.size) undef, defers := [] } : Act).put (some 6) v).eval (.tmp 6) = v := fun v => by
    simp only [Act.put, Act.eval]
    rw [Array.getD_eq_getD_getElem?, Array.getElem?_setIfInBounds_self_of_lt (by omega)]; rfl
  have hx : (execOp (({ tmps := vs ++ Array.replicate (Tryz.f10.ntmps - vs.size) undef, defers := [] } : Act).put o0.dst .nilIface).eval o3).run Tryz.prog w = .ok (.value (.bool true)) w := by
    rw [d0]
    unfold execOp
    rw [e3]
    simp only [hev]
    show (do pure (.value (← (do eqGuard .eql t3 (.tmp 6) (.const .nilIface) .nilIface .nilIface; binOp .eql t3 .nilIface .nilIface : Sem Value))) : Sem Next).run Tryz.prog w = _
    rw [Sem.run_bind, x3]; rfl
  show Oper.uponIn _ _ _ _ _ _ _ ((execOp _ o3).run Tryz.prog w)
  rw [hx, Oper.uponIn_value]
  unfold wpOpsIn
  refine wpIn_cond_true (by
    rw [d3, d0]
    simp only [Act.put, Act.eval]
    rw [Array.getD_eq_getD_getElem?, Array.getElem?_setIfInBounds_self_of_lt (by rw [Array.size_setIfInBounds]; omega)]; rfl) ?_
  refine wpIn_region ?_
  rw [show (o10 [false, true, false, true]).size = 1 by kernel_rfl, show List.range 1 = [0] from rfl, wpOpsIn_cons]
  unfold wpOpIn
  rw [show (o10 [false, true, false, true])[0]? = some o4 from h4]
  simp only
  rw [if_pos (wanted_none g4 _)]
  refine ⟨fun _ _ => trivial, ?_⟩
  show Oper.uponIn _ _ _ _ _ _ _ ((execOp _ o4).run Tryz.prog w)
  rw [show ∀ ρ : Operand → Value, (execOp ρ o4).run Tryz.prog w = .ok (.value (ρ (.tmp 6))) w from fun ρ => by unfold execOp; rw [e4]; rfl, Oper.uponIn_value]
  unfold wpOpsIn
  have hc : ({ c₀ with mode := .returning } : Frame) = c₀ := by cases c₀; simp only at hu; subst hu; rfl
  exact ⟨by rw [d4, d3, d0]; rfl, .returning, by rw [hc], .tuple #[], by kernel_rfl, rfl, ⟨_, rfl⟩, rfl⟩
end Go.Proofs.YtjiegemglmjfeaaGreatDoor.Cl
