/-
  The engine, part Ai: closed runs, quicker: calls, what is lent to a call, the whole run.
  Functions run closed: what was read off the program. Printed by closed.py.
  Values that calls are given.
-/
import Derived.Test.YtffabbjfdgmbjaaGreatPk4
import Derived.Test.YtffabbjfdgmbjaaGreatChecked
import Derived.KernelRfl
set_option linter.all false
set_option linter.deprecated false
namespace Go.Eng
open Go Go.ChangeShapes Go.WideShapes Go.ChangeAt Go.RowKit
noncomputable section

variable {X : Cx} {R : Type}

/-! ### What is lent: lists that nobody writes while the call lasts -/

/-- Names no block, however deep. -/
def lp (x : AV) : Bool := AV.rec (motive_1 := fun _ => Bool) (motive_2 := fun _ => Bool) (motive_3 := fun _ => Bool) false (fun _ _ => true) (fun _ => true) (fun _ => true) (fun _ ih => ih) (fun _ ih => ih) true (fun _ _ _ ih => ih) (fun _ _ _ => false) (fun _ _ ih => ih) (fun _ => false) true
  (fun _ _ _ a b => Bool.rec (motive := fun _ => Bool) false b a) true (fun _ => false) (fun _ => false) true (fun _ _ => false) (fun _ _ _ => false) true true (fun _ _ a b => Bool.rec (motive := fun _ => Bool) false b a) true (fun _ _ a b => Bool.rec (motive := fun _ => Bool) false b a) x
/-- Names no memory. -/
def flatV (x : AV) : Bool := AV.rec (motive_1 := fun _ => Bool) (motive_2 := fun _ => Bool) (motive_3 := fun _ => Bool) false (fun _ _ => true) (fun _ => true) (fun _ => true) (fun _ ih => ih) (fun _ ih => ih) true (fun _ _ _ _ => false) (fun _ _ _ => false) (fun _ _ _ => false) (fun _ => false) true
  (fun _ _ _ _ _ => false) true (fun _ => false) (fun _ => false) true (fun _ _ => false) (fun _ _ _ => false) false true (fun _ _ a b => Bool.rec (motive := fun _ => Bool) false b a) true (fun _ _ a b => Bool.rec (motive := fun _ => Bool) false b a) x
theorem brec {a b : Bool} (h : Bool.rec (motive := fun _ => Bool) false b a = true) : a = true ∧ b = true := by cases a <;> first | exact ⟨rfl, h⟩ | cases h
def lpL (l : List AV) : Bool := AV.rec_1 (motive_1 := fun _ => Bool) (motive_2 := fun _ => Bool) (motive_3 := fun _ => Bool) false (fun _ _ => true) (fun _ => true) (fun _ => true) (fun _ ih => ih) (fun _ ih => ih) true (fun _ _ _ ih => ih) (fun _ _ _ => false) (fun _ _ ih => ih) (fun _ => false) true
  (fun _ _ _ a b => Bool.rec (motive := fun _ => Bool) false b a) true (fun _ => false) (fun _ => false) true (fun _ _ => false) (fun _ _ _ => false) true true (fun _ _ a b => Bool.rec (motive := fun _ => Bool) false b a) true (fun _ _ a b => Bool.rec (motive := fun _ => Bool) false b a) l
theorem lpL_get : ∀ {l : List AV}, lpL l = true → ∀ {j : Nat} {x : AV}, l[j]? = some x → lp x = true
  | [], _, _, _, h => by simp at h
  | y :: l, h, 0, x, hx => by simp only [List.getElem?_cons_zero, Option.some.injEq] at hx; subst hx; exact (brec (a := lp y) (b := lpL l) h).1
  | y :: l, h, j + 1, x, hx => lpL_get (l := l) (brec (a := lp y) (b := lpL l) h).2 (by simpa using hx)
def lpLL (l : List (List AV)) : Bool := AV.rec_2 (motive_1 := fun _ => Bool) (motive_2 := fun _ => Bool) (motive_3 := fun _ => Bool) false (fun _ _ => true) (fun _ => true) (fun _ => true) (fun _ ih => ih) (fun _ ih => ih) true (fun _ _ _ ih => ih) (fun _ _ _ => false) (fun _ _ ih => ih) (fun _ => false) true
  (fun _ _ _ a b => Bool.rec (motive := fun _ => Bool) false b a) true (fun _ => false) (fun _ => false) true (fun _ _ => false) (fun _ _ _ => false) true true (fun _ _ a b => Bool.rec (motive := fun _ => Bool) false b a) true (fun _ _ a b => Bool.rec (motive := fun _ => Bool) false b a) l
theorem lpLL_get : ∀ {l : List (List AV)}, lpLL l = true → ∀ {j : Nat} {x : List AV}, l[j]? = some x → lpL x = true
  | [], _, _, _, h => by simp at h
  | y :: l, h, 0, x, hx => by simp only [List.getElem?_cons_zero, Option.some.injEq] at hx; subst hx; exact (brec (a := lpL y) (b := lpLL l) h).1
  | y :: l, h, j + 1, x, hx => lpLL_get (l := l) (brec (a := lpL y) (b := lpLL l) h).2 (by simpa using hx)
theorem lp_agg {cs : List AV} (h : lp (.agg cs) = true) : lpL cs = true := h
theorem lp_tup {cs : List AV} (h : lp (.tup cs) = true) : lpL cs = true := h
theorem lp_iptr {t : TypeId} {cs : List AV} {off : Nat} (h : lp (.iptr t cs off) = true) : lpL cs = true := h
theorem lp_list {t : TypeId} {xs : List (List AV)} (h : lp (.list t xs) = true) : lpLL xs = true := h
theorem lp_clos {f : FuncId} {a b : List AV} (h : lp (.clos f a b) = true) : lpL a = true ∧ lpL b = true := brec (a := lpL a) (b := lpL b) h
theorem Rep.lp {K : TypeId → List Kind} {ρ ρ' : List Hd} {F : Addr → Prop} {w : World} {x : AV} {v : Value} (h : Rep K ρ F w x v) : Eng.lp x = true → Rep K ρ' F w x v := by
  induction h with
  | top v => intro h; cases h
  | int k n => exact fun _ => .int k n
  | bool b => exact fun _ => .bool b
  | str s => exact fun _ => .str s
  | agg cs vs hl _ ih => exact fun h => .agg cs vs hl fun j x v hx hv => ih j x v hx hv (lpL_get (lp_agg h) hx)
  | tup cs vs hl _ ih => exact fun h => .tup cs vs hl fun j x v hx hv => ih j x v hx hv (lpL_get (lp_tup h) hx)
  | nilp => exact fun _ => .nilp
  | iptr t row off a vs hk hl hc _ ih => exact fun h => .iptr t row off a vs hk hl hc fun j x v hx hv => ih j x v hx hv (lpL_get (lp_iptr h) hx)
  | ptr => intro h; cases h
  | list0 t => exact fun _ => .list0 t
  | list t xs a cap vss hl hcap hmax hk hc _ ih => exact fun h => .list t xs a cap vss hl hcap hmax hk hc fun i row vs hi hv j x v hx hv' => ih i row vs hi hv j x v hx hv' (lpL_get (lpLL_get (lp_list h) hi) hx)
  | own => intro h; cases h
  | nilsl => exact fun _ => .nilsl
  | clos f a b vf vc hf hc _ _ ih1 ih2 => exact fun h => .clos f a b vf vc hf hc (fun j x v hx hv => ih1 j x v hx hv (lpL_get (lp_clos h).1 hx)) (fun j x v hx hv => ih2 j x v hx hv (lpL_get (lp_clos h).2 hx))
  | nilfn => exact fun _ => .nilfn
  | yld => intro h; cases h
  | mp => intro h; cases h
  | nilmp => exact fun _ => .nilmp
  | vsl => intro h; cases h
  | vw => intro h; cases h
  | vwn => intro h; cases h
  | vws => intro h; cases h
  | enl a cap => exact fun _ => .enl a cap
def flL (l : List AV) : Bool := AV.rec_1 (motive_1 := fun _ => Bool) (motive_2 := fun _ => Bool) (motive_3 := fun _ => Bool) false (fun _ _ => true) (fun _ => true) (fun _ => true) (fun _ ih => ih) (fun _ ih => ih) true (fun _ _ _ _ => false) (fun _ _ _ => false) (fun _ _ _ => false) (fun _ => false) true
  (fun _ _ _ _ _ => false) true (fun _ => false) (fun _ => false) true (fun _ _ => false) (fun _ _ _ => false) false true (fun _ _ a b => Bool.rec (motive := fun _ => Bool) false b a) true (fun _ _ a b => Bool.rec (motive := fun _ => Bool) false b a) l
theorem flL_get : ∀ {l : List AV}, flL l = true → ∀ {j : Nat} {x : AV}, l[j]? = some x → flatV x = true
  | [], _, _, _, h => by simp at h
  | y :: l, h, 0, x, hx => by simp only [List.getElem?_cons_zero, Option.some.injEq] at hx; subst hx; exact (brec (a := flatV y) (b := flL l) h).1
  | y :: l, h, j + 1, x, hx => flL_get (l := l) (brec (a := flatV y) (b := flL l) h).2 (by simpa using hx)
theorem Rep.flat {K : TypeId → List Kind} {ρ ρ' : List Hd} {F F' : Addr → Prop} {w w' : World} {x : AV} {v : Value} (h : Rep K ρ F w x v) : flatV x = true → Rep K ρ' F' w' x v := by
  induction h with
  | int k n => exact fun _ => .int k n
  | bool b => exact fun _ => .bool b
  | str s => exact fun _ => .str s
  | agg cs vs hl _ ih => exact fun h => .agg cs vs hl fun j x v hx hv => ih j x v hx hv (flL_get (l := cs) h hx)
  | tup cs vs hl _ ih => exact fun h => .tup cs vs hl fun j x v hx hv => ih j x v hx hv (flL_get (l := cs) h hx)
  | nilp => exact fun _ => .nilp
  | nilsl => exact fun _ => .nilsl
  | nilfn => exact fun _ => .nilfn
  | nilmp => exact fun _ => .nilmp
  | _ => intro h; cases h

def mapC {α β : Type} (f : α → (β → Option R) → Option R) (l : List α) (k : List β → Option R) : Option R := List.rec (motive := fun _ => (List β → Option R) → Option R) (fun k => k []) (fun x _ ih k => f x fun y => ih fun ys => k (y :: ys)) l k
theorem mapC_some {α β : Type} {f : α → (β → Option R) → Option R} {P : α → β → Prop} {r : R} (hf : ∀ (x : α) (k : β → Option R), f x k = some r → ∃ y, k y = some r ∧ P x y) : ∀ {l : List α} {k : List β → Option R}, mapC f l k = some r → ∃ ys, k ys = some r ∧ ys.length = l.length ∧ ∀ (j : Nat) x y, l[j]? = some x → ys[j]? = some y → P x y
  | [], k, h => ⟨[], h, rfl, fun j x y hx => by simp at hx⟩
  | x :: l, k, h => by
    obtain ⟨y, h, hp⟩ := hf x _ h
    obtain ⟨ys, h, hl, hps⟩ := mapC_some hf (l := l) h
    refine ⟨y :: ys, h, by simp [hl], fun j a b ha hb => ?_⟩
    cases j with
    | zero =>
      simp only [List.getElem?_cons_zero, Option.some.injEq] at ha hb
      subst ha; subst hb; exact hp
    | succ j => exact hps j a b (by simpa using ha) (by simpa using hb)
/-! The memory in chunks. -/
def splC {α : Type} (n : Nat) (l : List α) (k : List α → List α → Option R) : Option R :=
  Nat.rec (motive := fun _ => List α → (List α → List α → Option R) → Option R) (fun l k => k [] l) (fun _ ih l k => List.rec (motive := fun _ => Option R) (k [] []) (fun a tl _ => ih tl fun x y => k (a :: x) y) l) n l k
theorem splC_eq {α : Type} : ∀ (n : Nat) (l : List α) (k : List α → List α → Option R), splC n l k = k (l.take n) (l.drop n)
  | 0, l, k => rfl
  | n + 1, [], k => rfl
  | n + 1, a :: l, k => splC_eq n l fun x y => k (a :: x) y
def chS {α : Type} : Nat → List α → List (List α)
  | 0, _ => []
  | n + 1, l => l.take 32 :: chS n (l.drop 32)
def chK {α : Type} (n : Nat) (l : List α) (k : List (List α) → Option R) : Option R :=
  Nat.rec (motive := fun _ => List α → (List (List α) → Option R) → Option R) (fun _ k => k []) (fun _ ih l k => splC 32 l fun a r => ih r fun cs => k (a :: cs)) n l k
theorem chK_eq {α : Type} : ∀ (n : Nat) (l : List α) (k : List (List α) → Option R), chK n l k = k (chS n l)
  | 0, _, _ => rfl
  | n + 1, l, k => by
    show (splC 32 l fun a r => chK n r fun cs => k (a :: cs)) = _
    rw [splC_eq, chK_eq n]; rfl
theorem chS_get {α : Type} : ∀ (n : Nat) (l : List α) (i : Nat) (c : List α), (chS n l)[i]? = some c → c = (l.drop (i * 32)).take 32
  | 0, _, _, _, h => by simp [chS] at h
  | n + 1, l, 0, c, h => by simp only [chS, List.getElem?_cons_zero, Option.some.injEq] at h; subst h; simp
  | n + 1, l, i + 1, c, h => by
    simp only [chS, List.getElem?_cons_succ] at h
    rw [chS_get n _ i c h, List.drop_drop]
    congr 2
    omega
def getC (cs : List (List Blk)) (id : Nat) (k : Blk → Option R) : Option R := nth cs (Nat.div id 32) fun c => nth c (Nat.mod id 32) k
theorem getC_some {n : Nat} {l : List Blk} {id : Nat} {k : Blk → Option R} {r : R} (h : getC (chS n l) id k = some r) : ∃ b, l[id]? = some b ∧ k b = some r := by
  obtain ⟨c, hc, h⟩ := nth_some h
  obtain ⟨b, hb, h⟩ := nth_some h
  refine ⟨b, ?_, h⟩
  rw [chS_get _ _ _ _ hc] at hb
  have hb : ((l.drop (id / 32 * 32)).take 32)[id % 32]? = some b := hb
  rw [List.getElem?_take, if_pos (Nat.mod_lt _ (by decide)), List.getElem?_drop] at hb
  rw [← hb]
  congr 1
  have := Nat.div_add_mod id 32
  omega
/-- What stands for a value while it is lent. -/
def lendV (X : Cx) (get : Nat → (Blk → Option R) → Option R) (n : Nat) : AV → (AV → Option R) → Option R :=
  Nat.rec (motive := fun _ => AV → (AV → Option R) → Option R) (fun x k => iff (lp x) (k x) none)
    (fun _ ih x k => iff (lp x) (k x) (lend1 ih x k)) n
where lend1 (ih : AV → (AV → Option R) → Option R) (x : AV) (k : AV → Option R) : Option R :=
  match x with
  | .agg cs => mapC ih cs fun ys => k (.agg ys)
  | .own id => get id fun b => onBlk b (fun _ _ => none) (fun t xs => mapC (mapC ih) xs fun ys => iff (allB (koksF (X.K t)) ys) (k (.list t ys)) none) none
  | .vw id lo n => iff (Nat.ble 1 n) (get id fun b => onBlk b (fun _ _ => none) (fun t xs => takeK n (dropK lo xs) fun zs => mapC (mapC ih) zs fun ys => iff (allB (koksF (X.K t)) ys) (k (.list t ys)) none) none) none
  | _ => none

section
variable {w0 w : World} {S : Sc} {F : Addr → Prop} {ρ : List Hd} {rm : List Blk} {m : Nat}
/-- The cells of the living blocks, too. -/
def lent (M : List Blk) (ρ : List Hd) (F : Addr → Prop) (a : Addr) : Prop := F a ∨ ∃ (id : Nat) (b : Blk) (hd : Hd), M[id]? = some b ∧ b.isDead = false ∧ ρ[id]? = some hd ∧ hd.blk? = some a.block
theorem Rep.relist {K : TypeId → List Kind} {F : Addr → Prop} {ρ ρ' : List Hd} {t : TypeId} {xs ys : List Row} {v : Value} (h : Rep K ρ F w (.list t xs) v) (hl : ys.length = xs.length)
    (hrow : ∀ (i : Nat) row row', xs[i]? = some row → ys[i]? = some row' → row'.length = row.length ∧ ∀ (j : Nat) x y u, row[j]? = some x → row'[j]? = some y → Rep K ρ F w x u → Rep K ρ' F w y u)
    (hk : ∀ (i : Nat) row, ys[i]? = some row → koks (K t) row = true) : Rep K ρ' F w (.list t ys) v := by
  cases h with
  | list0 => have : ys = [] := List.eq_nil_of_length_eq_zero (by simpa using hl); subst this; exact .list0 t
  | list _ _ a cap vss hl' hcap hmax hk' hc hr =>
    rw [← hl]
    refine .list t ys a cap vss (by rw [hl', hl]) (by rw [hl]; exact hcap) hmax hk hc fun i row' vs hi hv j y u hy hu => ?_
    have hi' : i < xs.length := by rw [← hl]; exact (List.getElem?_eq_some_iff.1 hi).1
    obtain ⟨h1, h2⟩ := hrow i xs[i] row' (List.getElem?_eq_getElem hi') hi
    have hj : j < (xs[i]).length := by rw [← h1]; exact (List.getElem?_eq_some_iff.1 hy).1
    exact h2 j _ y u (List.getElem?_eq_getElem hj) hy (hr i _ vs (List.getElem?_eq_getElem hi') hv j _ u (List.getElem?_eq_getElem hj) hu)
theorem sub_get2 {α : Type} {l : List α} {lo m i : Nat} {x : α} (h : ((l.drop lo).take m)[i]? = some x) : i < m ∧ l[lo + i]? = some x := by
  rw [List.getElem?_take] at h
  split at h
  · rename_i him; rw [List.getElem?_drop] at h; exact ⟨him, h⟩
  · cases h
theorem Rep.view {K : TypeId → List Kind} {ρ : List Hd} {F : Addr → Prop} {t : TypeId} {xs : List Row} {g o n c lo m cap sz : Nat} (h : Rep K ρ F w (.list t xs) (.slice (some ⟨g, o, none⟩) n c)) (hsz : sz = (K t).length) (hm : lo + m ≤ n) (hc : m ≤ cap ∧ cap ≤ maxLen) :
    Rep K ρ F w (.list t ((xs.drop lo).take m)) (.slice (some ⟨g, o + lo * sz, none⟩) m cap) := by
  cases h with
  | list _ _ a cap' vss hl hcap hmax hk hcell hr =>
    have hlen : ((xs.drop lo).take m).length = m := by rw [List.length_take, List.length_drop]; omega
    have := Rep.list (K := K) (ρ := ρ) (F := F) (w := w) t ((xs.drop lo).take m) ⟨g, o + lo * sz, none⟩ cap ((vss.drop lo).take m) (by rw [hlen, List.length_take, List.length_drop]; omega) (by rw [hlen]; exact hc.1) hc.2
      (fun i row hi => hk _ row (sub_get2 hi).2)
      (fun i vs hi => by
        obtain ⟨h1, h2⟩ := hcell _ vs (sub_get2 hi).2
        refine ⟨h1, fun j v hv => ?_⟩
        have h3 := h2 j v hv
        rw [Addr.add_lit] at h3 ⊢
        rw [hsz]
        rw [show o + lo * (K t).length + (i * (K t).length + j) = o + ((lo + i) * (K t).length + j) by rw [Nat.add_mul]; omega]
        exact h3)
      (fun i row vs hi hv j x v hx hv' => hr _ row vs (sub_get2 hi).2 (sub_get2 hv).2 j x v hx hv')
    rw [hlen] at this
    exact this
theorem lend_ok {r : R} {get : Nat → (Blk → Option R) → Option R} (hm : m = rm.length) (hget : ∀ {id : Nat} {k : Blk → Option R}, get id k = some r → ∃ b, rm.reverse[id]? = some b ∧ k b = some r ∧ id < m) : ∀ (n : Nat) (x : AV) (k : AV → Option R), lendV X get n x k = some r → ∃ y, k y = some r ∧ ∀ {M0 : List Blk}, (∀ id, id < m → M0[id]? = rm.reverse[id]?) → ∀ {w0 w : World} {S : Sc} {F : Addr → Prop} {ρ : List Hd} {v : Value}, Inv X w0 S F ρ M0 w → Rep X.K ρ (lent M0 ρ F) w x v → Rep X.K [] (lent M0 ρ F) w y v
  | 0, x, k, h => by
    obtain ⟨h1, h2⟩ := iff_none (show iff (lp x) (k x) none = some r from h)
    exact ⟨x, h2, fun _ _ _ _ _ _ _ _ hr => hr.lp h1⟩
  | n + 1, x, k, h => by
    have h : iff (lp x) (k x) (lendV.lend1 X get (lendV X get n) x k) = some r := h
    rw [iff_eq] at h
    split at h
    · rename_i hp
      exact ⟨x, h, fun _ _ _ _ _ _ _ _ hr => hr.lp hp⟩
    · cases x with
      | agg cs =>
        obtain ⟨ys, h, hl, hp⟩ := mapC_some (lend_ok hm hget n) (l := cs) (k := fun ys => k (.agg ys)) h
        refine ⟨_, h, fun {M0} hM {w0 w S F ρ v} hI hr => ?_⟩
        cases hr with
        | agg _ vs hvl hc =>
          refine .agg ys vs (by rw [hvl, hl]) fun j y v hy hv => ?_
          have hj : j < cs.length := by rw [← hl]; exact (List.getElem?_eq_some_iff.1 hy).1
          exact hp j _ y (List.getElem?_eq_getElem hj) hy hM hI (hc j _ v (List.getElem?_eq_getElem hj) hv)
      | own id =>
        obtain ⟨b, hb, h, hid⟩ := hget h
        rcases onBlk_some h with ⟨ks, cs, _, h⟩ | ⟨t, xs, hbe, h⟩ | h
        · cases h
        · subst hbe
          obtain ⟨ys, h, hl, hp⟩ := mapC_some (P := fun (row row' : Row) => row'.length = row.length ∧ ∀ (j : Nat) x y, row[j]? = some x → row'[j]? = some y → ∀ {M0 : List Blk}, (∀ id, id < m → M0[id]? = rm.reverse[id]?) → ∀ {w0 w : World} {S : Sc} {F : Addr → Prop} {ρ : List Hd} {v : Value}, Inv X w0 S F ρ M0 w → Rep X.K ρ (lent M0 ρ F) w x v → Rep X.K [] (lent M0 ρ F) w y v)
            (fun row k h => by obtain ⟨ys, h1, h2, h3⟩ := mapC_some (lend_ok hm hget n) h; exact ⟨ys, h1, h2, h3⟩) h
          obtain ⟨hk, h⟩ := iff_none h
          refine ⟨_, h, fun {M0} hM {w0 w S F ρ v} hI hr => ?_⟩
          cases hr with
          | own _ hd hhd =>
            have hlist : Rep X.K ρ (lent M0 ρ F) w (.list t xs) hd.v := by
              rcases rep_list_of_row hI ((hM id hid).trans hb) hhd with ⟨_, h2, h3⟩ | ⟨g, hg, h2⟩
              · subst h2; rw [h3]; exact .list0 t
              · exact h2 _ (fun a ha => .inl ha) fun a ha => .inr ⟨id, _, hd, (hM id hid).trans hb, rfl, hhd, by rw [ha]; exact hg⟩
            refine hlist.relist hl (fun i row row' hi hi' => ?_) (fun i row hi => ?_)
            · obtain ⟨h1, h2⟩ := hp i row row' hi hi'
              exact ⟨h1, fun j x y u hx hy hu => h2 j x y hx hy hM hI hu⟩
            · have := allB_mem hk row (List.mem_of_getElem? hi)
              rwa [koksF_eq] at this
        · cases h
      | vw id lo l =>
        obtain ⟨hl1, h⟩ := iff_none (show iff (Nat.ble 1 l) _ none = some r from h)
        have hl1 : 1 ≤ l := Nat.le_of_ble_eq_true hl1
        obtain ⟨b, hb, h, hid⟩ := hget h
        rcases onBlk_some h with ⟨ks, cs, _, h⟩ | ⟨t, xs, hbe, h⟩ | h
        · cases h
        · subst hbe
          obtain ⟨h, hln⟩ := takeK_some h
          rw [dropK_eq] at h hln
          obtain ⟨ys, h, hl, hp⟩ := mapC_some (P := fun (row row' : Row) => row'.length = row.length ∧ ∀ (j : Nat) x y, row[j]? = some x → row'[j]? = some y → ∀ {M0 : List Blk}, (∀ id, id < m → M0[id]? = rm.reverse[id]?) → ∀ {w0 w : World} {S : Sc} {F : Addr → Prop} {ρ : List Hd} {v : Value}, Inv X w0 S F ρ M0 w → Rep X.K ρ (lent M0 ρ F) w x v → Rep X.K [] (lent M0 ρ F) w y v)
            (fun row k h => by obtain ⟨ys, h1, h2, h3⟩ := mapC_some (lend_ok hm hget n) h; exact ⟨ys, h1, h2, h3⟩) h
          obtain ⟨hk, h⟩ := iff_none h
          refine ⟨_, h, fun {M0} hM {w0 w S F ρ v} hI hr => ?_⟩
          have done : ∀ {v : Value}, Rep X.K ρ (lent M0 ρ F) w (.list t ((xs.drop lo).take l)) v → Rep X.K [] (lent M0 ρ F) w (.list t ys) v := by
            intro v hlist
            refine hlist.relist hl (fun i row row' hi hi' => ?_) (fun i row hi => ?_)
            · obtain ⟨h1, h2⟩ := hp i row row' hi hi'
              exact ⟨h1, fun j x y u hx hy hu => h2 j x y hx hy hM hI hu⟩
            · have := allB_mem hk row (List.mem_of_getElem? hi)
              rwa [koksF_eq] at this
          cases hr with
          | vw _ _ _ hd g o n' c cap hhd hv hc hbd =>
            have hlist : Rep X.K ρ (lent M0 ρ F) w (.list t xs) hd.v := by
              rcases rep_list_of_row hI ((hM id hid).trans hb) hhd with ⟨_, h2, h3⟩ | ⟨g, hg, h2⟩
              · subst h2; rw [h3]; exact .list0 t
              · exact h2 _ (fun a ha => .inl ha) fun a ha => .inr ⟨id, _, hd, (hM id hid).trans hb, rfl, hhd, by rw [ha]; exact hg⟩
            rw [hv] at hlist
            exact done (hlist.view (hI.rep _ _ hd ((hM id hid).trans hb) hhd).1 hbd hc)
          | vwn => omega
          | vws => omega
        · cases h
      | _ => cases h
def lendA (X : Cx) (rm : List Blk) (m : Nat) (args : List AV) : Option (List AV) := iff (lpL args) (some args) (chK (Nat.succ (Nat.div m 32)) (revF rm []) fun cs => mapC (lendV X (getC cs) 16) args fun ys => some ys)
theorem lendA_ok (hm : m = rm.length) {args ys : List AV} (h : lendA X rm m args = some ys) {M0 : List Blk} (hM : ∀ id, id < m → M0[id]? = rm.reverse[id]?) {vs : List Value} (hI : Inv X w0 S F ρ M0 w) (hr : RepL X.K ρ F w args vs) : RepL X.K [] (lent M0 ρ F) w ys vs := by
  unfold lendA at h
  rw [iff_eq] at h
  split at h
  · rename_i hlp
    injection h with h
    subst h
    exact ⟨hr.1, fun j y v hy hv => ((hr.2 j y v hy hv).mono (F' := lent M0 ρ F) (fun _ _ h => h) (fun _ h => .inl h) (fun _ _ _ h => h)).lp (lpL_get hlp hy)⟩
  rw [chK_eq, revF_eq, List.append_nil] at h
  obtain ⟨zs, h1, hl, hp⟩ := mapC_some (lend_ok (X := X) hm (fun {id k} hg => by
    obtain ⟨b, h1, h2⟩ := getC_some hg
    exact ⟨b, h1, h2, by have := (List.getElem?_eq_some_iff.1 h1).1; rw [List.length_reverse] at this; omega⟩) 16) h
  injection h1 with h1
  subst h1
  refine ⟨by rw [hr.1, hl], fun j y v hy hv => ?_⟩
  have hj : j < args.length := by rw [← hl]; exact (List.getElem?_eq_some_iff.1 hy).1
  exact hp j _ y (List.getElem?_eq_getElem hj) hy hM hI ((hr.2 j _ v (List.getElem?_eq_getElem hj) hv).mono (fun _ _ h => h) (fun _ h => .inl h) (fun _ _ _ h => h))
/-- A call on what is lent leaves everything as it is. -/
theorem ACalls.lend (hG : GlobFree X) {f : FuncId} {args ys : List AV} {x : AV} {M' : List Blk} (hm : m = rm.length) (h : ACalls X f ys [] x M') (ha : lendA X rm m args = some ys) (hx : flatV x = true) {M0 : List Blk} (hM : ∀ id, id < m → M0[id]? = rm.reverse[id]?) : ACalls X f args M0 x M0 := by
  refine ⟨h.1, fun {w0 S F ρ w vs} hI hr => ?_⟩
  have hfz : ∀ a, lent M0 ρ F a → a.block < w.heap.size := by
    rintro a (ha | ⟨id, b, hd, h1, h2, h3, h4⟩)
    · exact hI.fz a ha
    · exact (hI.sep id b hd _ h1 h2 h3 h4).1
  have hi : Inv X w ⟨fun _ => False, lent M0 ρ F⟩ (lent M0 ρ F) [] [] w := {
    os := rfl, tape := rfl, output := rfl, size := Nat.le_refl _, frame := fun _ _ _ => rfl, len := rfl
    rep := fun id b hd hb _ => by simp at hb
    sep := fun id b hd g hb _ _ _ => by simp at hb
    disj := fun id id' b b' hd hd' g _ hb _ _ _ _ _ _ => by simp at hb
    fz := hfz, glob := fun g => (hG g (hI.glob g)).mono (fun _ _ h => h) (fun _ h => .inl h) (fun _ _ _ h => h)
    one := fun id hd hh => by simp at hh
    old := fun a ha => .inl ha, fin := fun a ha => ha }
  refine (h.2 hi (lendA_ok hm ha hM hI hr)).mono ?_
  rintro e w' ⟨v, ρ', F', rfl, hI', hg, hv⟩
  have hfr : ∀ g, g < w.heap.size → w'.heap[g]? = w.heap[g]? := fun g hlt => hI'.frame g hlt (fun h => h)
  have hgr : Grow F F ρ ρ w w' := ⟨fun _ h => h, fun _ _ h => h, fun a ha => hfr _ (hI.fz a ha)⟩
  refine ⟨v, ρ, F, rfl, ?_, hgr, hv.flat hx⟩
  exact {
    os := hI'.os.trans hI.os, tape := hI'.tape.trans hI.tape, output := hI'.output.trans hI.output, size := Nat.le_trans hI.size hI'.size
    frame := fun g hlt hn => (hfr g (Nat.lt_of_lt_of_le hlt hI.size)).trans (hI.frame g hlt hn)
    len := hI.len
    rep := fun id b hd h1 h2 => by
      cases hd' : b.isDead with
      | true => exact (hI.rep id b hd h1 h2).mono_dead (fun _ _ h => h) hgr.hF hgr.hw hd'
      | false => exact (hI.rep id b hd h1 h2).mono (fun _ _ h => h) hgr.hF hgr.hw (fun g hgb => hfr g (hI.sep id b hd g h1 hd' h2 hgb).1)
    sep := fun id b hd g h1 h2 h3 h4 => by
      obtain ⟨s1, s2, s3⟩ := hI.sep id b hd g h1 h2 h3 h4
      exact ⟨Nat.lt_of_lt_of_le s1 hI'.size, s2, s3⟩
    disj := hI.disj
    fz := fun a ha => Nat.lt_of_lt_of_le (hI.fz a ha) hI'.size
    glob := fun g => (hI.glob g).mono (fun _ _ h => h) hgr.hF hgr.hw
    one := hI.one
    old := hI.old
    fin := hI.fin }
end

/-! ### Functions -/

/-- Tables of a closed run. -/
structure XE where
  I : List (Nat × FI)
  Ss : List SI
  ks : List (Nat × List Nat)
  dd : List (Nat × List (Nat × Nat))
  pl : List Nat
  rounds : Nat
  kc : List KC
/-- Calls on what is lent whose outcome is known. -/
def pickD (kc : List KC) (g : Nat) (ys : List AV) : Option AV := List.rec (motive := fun _ => Option AV) none (fun e _ ih => Bool.rec (motive := fun _ => Option AV) ih (some e.x) (andF (Nat.beq g e.f) (sameDL e.args ys))) kc
def KcOk2 (X : Cx) (e : KC) : Prop := (∃ M', ACalls X e.f e.args [] e.x M') ∧ flatV e.x = true
theorem pickD_ok : ∀ {kc : List KC}, AllE (KcOk2 X) kc → ∀ {g : Nat} {ys : List AV} {x : AV}, pickD kc g ys = some x → (∃ M', ACalls X g ys [] x M') ∧ flatV x = true
  | [], _, _, _, _, h => by cases h
  | e :: kc, hk, g, ys, x, h => by
    have h : Bool.rec (motive := fun _ => Option AV) (pickD kc g ys) (some e.x) (andF (Nat.beq g e.f) (sameDL e.args ys)) = some x := h
    cases hb : andF (Nat.beq g e.f) (sameDL e.args ys) with
    | false => rw [hb] at h; exact pickD_ok hk.2 h
    | true =>
      rw [hb] at h
      injection h with h
      rw [andF_eq, Bool.and_eq_true] at hb
      have h1 := Nat.eq_of_beq_eq_true hb.1
      have h2 : AV.agg e.args = AV.agg ys := sameD_eq (.agg e.args) (.agg ys) hb.2
      injection h2 with h2
      rw [h1, ← h2, ← h]
      exact hk.1
def keepOf (ks : List (Nat × List Nat)) (s : Nat) : List Nat := match ks with | [] => [] | e :: es => (match Nat.beq s e.1 with | true => e.2 | false => keepOf es s)
def isPl (pl : List Nat) (g : Nat) : Bool := match pl with | [] => false | e :: es => (match Nat.beq g e with | true => true | false => isPl es g)
structure XD (R : Type) where
  C : CallT R
  V : LendT
  Y : Nat → List AV → List Blk → (AV → List Blk → Option R) → Option R
def xT (E : XE) (D : XD R) (f : Nat) : Tab R :=
  ⟨ntF E.I f, fun _ _ M => some (List.range M.length), fun g args M k => revK M fun rm m => D.C g args rm m fun x rm' m' => tst (Nat.ble m m') (k x (revF rm' [])), D.Y⟩
def xrg (X : Cx) (E : XE) (D : XD R) (rd : Rd) (f p : Nat) : XK R :=
  fun en rm _ k => match siteAt E.Ss f p, codeOf (codeF E.I f) p with
  | some s, some (.rangeFunc g _ _ _) => evrange X (xT E D f) s (keepOf E.ks s) g ⟨en.l, revF rm [], [], rd⟩ fun e st => backX rd st fun en rm m => k e en rm m
  | _, _ => none
def xrun (X : Cx) (E : XE) (D : XD R) (rd : Rd) (f : Nat) (c : Code) (p : Nat) : XK R := xk X (xT E D f) D.C D.V rd (xrg X E D rd f) (deadOf E.dd f) E.rounds c p
def argK (args : List AV) (k : En → Option R) : Option R :=
  List.rec (motive := fun _ => Nat → (En → Option R) → Option R) (fun _ k => k .nil) (fun a _ ih i k => fN (Nat.succ i) fun j => ih j fun en => k (.c i a en)) args 0 k
def enA (i : Nat) : List AV → En
  | [] => .nil
  | a :: q => .c i a (enA (i + 1) q)
theorem enA_l : ∀ (l : List AV) (i : Nat), (enA i l).l = argEnv i l
  | [], _ => rfl
  | a :: l, i => by show (i, a) :: (enA (i + 1) l).l = _; rw [enA_l l]; rfl
theorem argK_aux : ∀ (l : List AV) (i : Nat) (k : En → Option R), (List.rec (motive := fun _ => Nat → (En → Option R) → Option R) (fun _ k => k .nil) (fun a _ ih i k => fN (Nat.succ i) fun j => ih j fun en => k (.c i a en)) l i k : Option R) = k (enA i l)
  | [], i, k => rfl
  | a :: l, i, k => by
    show fN (Nat.succ i) (fun j => (List.rec (motive := fun _ => Nat → (En → Option R) → Option R) (fun _ k => k .nil) (fun a _ ih i k => fN (Nat.succ i) fun j => ih j fun en => k (.c i a en)) l j (fun en => k (.c i a en)) : Option R)) = _
    rw [fN_eq, argK_aux l]; rfl
theorem argK_eq (l : List AV) (k : En → Option R) : argK l k = k (enA 0 l) := argK_aux l 0 k
def xres1 (X : Cx) (rv : ResultVar) (en : En) (rm : List Blk) (k : AV → Option R) : Option R := ResultVar.rec (motive := fun _ => Option R) (fun t => fV (lk en t) k) (fun a t => evLoad X t (lk en a) (revF rm []) fun x => fz2 x k) rv
theorem xres1_eq (rv : ResultVar) (en : En) (rm : List Blk) (rd : Rd) (k : AV → Option R) : xres1 X rv en rm k = evres1 X rv (stX en rm rd) k := by
  cases rv with
  | tmp t => show fV (lk en t) k = k (look en.l t); rw [fV_eq, lk_eq]
  | cell a t =>
    show evLoad X t (lk en a) (revF rm []) (fun x => fz2 x k) = evLoad X t (look en.l a) rm.reverse k
    rw [lk_eq, revF_eq, List.append_nil]
    congr 1
    funext x
    exact fz2_eq x k
def xres (X : Cx) (rs : List ResultVar) (en : En) (rm : List Blk) (k : AV → Option R) : Option R :=
  match rs with
  | [] => k (.tup [])
  | [a] => xres1 X a en rm k
  | [a, b] => xres1 X a en rm fun x => xres1 X b en rm fun y => k (.tup [x, y])
  | [a, b, c] => xres1 X a en rm fun x => xres1 X b en rm fun y => xres1 X c en rm fun z => k (.tup [x, y, z])
  | _ => none
theorem xres_eq (rs : List ResultVar) (en : En) (rm : List Blk) (rd : Rd) (k : AV → Option R) : xres X rs en rm k = evres X rs (stX en rm rd) fun x _ => k x := by
  match rs with
  | [] => rfl
  | [a] => exact xres1_eq a en rm rd k
  | [a, b] =>
    show xres1 X a en rm (fun x => xres1 X b en rm fun y => k (.tup [x, y])) = evres1 X a (stX en rm rd) (fun x => evres1 X b (stX en rm rd) fun y => k (.tup [x, y]))
    rw [xres1_eq a en rm rd]
    congr 1
    funext x
    exact xres1_eq b en rm rd _
  | [a, b, c] =>
    show xres1 X a en rm (fun x => xres1 X b en rm fun y => xres1 X c en rm fun z => k (.tup [x, y, z])) = evres1 X a (stX en rm rd) (fun x => evres1 X b (stX en rm rd) fun y => evres1 X c (stX en rm rd) fun z => k (.tup [x, y, z]))
    rw [xres1_eq a en rm rd]
    congr 1
    funext x
    rw [xres1_eq b en rm rd]
    congr 1
    funext y
    exact xres1_eq c en rm rd _
  | _ :: _ :: _ :: _ :: _ => rfl
def xfin (X : Cx) (rs : List ResultVar) (e : Ex) (en : En) (rm : List Blk) (k : AV → Option R) : Option R := Ex.rec (motive := fun _ => Option R) (xres X rs en rm k) (fun _ => none) (xres X rs en rm k) e
theorem xfin_eq (rs : List ResultVar) (e : Ex) (en : En) (rm : List Blk) (rd : Rd) (k : AV → Option R) : xfin X rs e en rm k = evfin X rs (fun x _ => k x) e (stX en rm rd) := by
  cases e with
  | normal => exact xres_eq rs en rm rd k
  | exit i => rfl
  | ret => exact xres_eq rs en rm rd k
/-- Behind a call: what is new and named by nothing is left out. -/
def cutX (n : Nat) (x : AV) (rm : List Blk) (m : Nat) (k : AV → List Blk → Nat → Option R) : Option R :=
  Bool.rec (motive := fun _ => Option R)
    (Bool.rec (motive := fun _ => Option R) (k x rm m) (dropC (Nat.sub m n) rm fun rm1 => Bool.rec (motive := fun _ => Option R) (k x rm m) (k x rm1 n) (Nat.ble (hiR rm1) n)) (andF (Nat.ble n m) (Nat.ble (hiV x) n)))
    (k x rm m) (Nat.beq n m)
theorem cutX_some (hG : GlobFree X) {f : FuncId} {args : List AV} {rm0 rm : List Blk} {n m : Nat} (hn : n = rm0.length) (hm : m = rm.length) {x : AV} (h : ACalls X f args rm0.reverse x rm.reverse) {k : AV → List Blk → Nat → Option R} {r : R} (hk : cutX n x rm m k = some r) :
    ∃ rm' m', ACalls X f args rm0.reverse x rm'.reverse ∧ m' = rm'.length ∧ k x rm' m' = some r := by
  unfold cutX at hk
  cases hb : Nat.beq n m with
  | true => rw [hb] at hk; exact ⟨rm, m, h, hm, hk⟩
  | false =>
    rw [hb] at hk
    cases hc : andF (Nat.ble n m) (Nat.ble (hiV x) n) with
    | false => rw [hc] at hk; exact ⟨rm, m, h, hm, hk⟩
    | true =>
      rw [hc] at hk
      rw [andF_eq, Bool.and_eq_true] at hc
      have hle : n ≤ m := Nat.le_of_ble_eq_true hc.1
      replace hk := dropC_some hk
      cases hd : Nat.ble (hiR (rm.drop (Nat.sub m n))) n with
      | false => rw [hd] at hk; exact ⟨rm, m, h, hm, hk⟩
      | true =>
        rw [hd] at hk
        have hrev : (rm.drop (m - n)).reverse = rm.reverse.take n := drop_rev hm hle
        have hnl : rm0.reverse.length = n := by rw [List.length_reverse, hn]
        have h2 := h.cut2 hG (by rw [hnl]; exact Nat.le_of_ble_eq_true hc.2) (by
          rw [hnl, ← hrev]
          exact fun b hb => hiR_mem (Nat.le_of_ble_eq_true hd) b (List.mem_reverse.1 hb))
        rw [hnl] at h2
        refine ⟨rm.drop (m - n), n, by rw [hrev]; exact h2, by rw [List.length_drop]; omega, hk⟩
/-- A function, run in its frame. -/
def xfn (X : Cx) (E : XE) (D : XD R) (g : Nat) (fi : FI) (args : List AV) (rm : List Blk) (m : Nat) (k : AV → List Blk → Nat → Option R) : Option R :=
  iff (Nat.ble (lenF args) fi.nt.n) (argK args fun en => xrun X E D .out g fi.c 1 en rm m fun e en rm m' => xfin X fi.rs e en rm fun x => k x rm m') none
def kFlat (x : AV) (_ : List Blk) (_ : Nat) : Option AV := iff (flatV x) (some x) none
def xcall (X : Cx) (E : XE) (D : XD R) (DA : XD AV) : CallT R := fun g args rm m k =>
  Option.rec (motive := fun _ => Option R) none
    (fun fi => Bool.rec (motive := fun _ => Option R) (xfn X E D g fi args rm m fun x rm m' => cutX m x rm m' k)
      (Option.rec (motive := fun _ => Option R) (xfn X E D g fi args rm m fun x rm m' => cutX m x rm m' k)
        (fun ys => Option.rec (motive := fun _ => Option R) (Option.rec (motive := fun _ => Option R) none (fun x => fz2 x fun x => k x rm m) (xfn X E DA g fi ys [] 0 kFlat)) (fun x => fz2 x fun x => k x rm m) (pickD E.kc g ys))
        (lendA X rm m args))
      (isPl E.pl g))
    (pickF E.I g)
def xV (X : Cx) (E : XE) (DA : XD AV) : LendT := fun g args M =>
  Bool.rec (motive := fun _ => Option AV) none (revK M fun rm m => Option.rec (motive := fun _ => Option AV) none
    (fun fi => Option.rec (motive := fun _ => Option AV) none (fun ys => Option.rec (motive := fun _ => Option AV) (Option.rec (motive := fun _ => Option AV) none (fun x => fz2 x some) (xfn X E DA g fi ys [] 0 kFlat)) some (pickD E.kc g ys)) (lendA X rm m args))
    (pickF E.I g)) (isPl E.pl g)
def xyield (X : Cx) (E : XE) (D : XD R) (f s p : Nat) (id : Nat) (args : List AV) (M : List Blk) (k : AV → List Blk → Option R) : Option R :=
  match gm M id with
  | some (.loop s' env false none) =>
    tst (Nat.beq s' s && Nat.beq (X.site s).nt (ntF E.I f).n && (X.site s).params.toList.all fun t => Nat.blt t (ntF E.I f).n)
      (match putA (X.site s).params.toList args env with
       | none => none
       | some env' => revK (M.set id .dead) fun rm m =>
         xrun X E D .unk f (X.site s).assign (2 * p) (enOf env') rm m fun e en rm m =>
           match e with
           | .normal => xrun X E D .unk f (X.site s).body (2 * p + 1) en rm m fun e _ rm _ =>
               match gm (revF rm []) id with
               | some .dead => k (.bool (goesOn e)) ((revF rm []).set id (.loop s env false (endOf e)))
               | _ => none
           | _ => none)
  | _ => none
def xY (X : Cx) (E : XE) (D : XD R) : Nat → List AV → List Blk → (AV → List Blk → Option R) → Option R := fun id args M k =>
  match gm M id with
  | some (.loop s _ _ _) => (match siteBy E.Ss s with | some (f', p) => xyield X E D f' s p id args M k | none => none)
  | _ => none
/-- Down to a depth of calls. -/
def XL (X : Cx) (E : XE) (n : Nat) : (R : Type) → XD R :=
  Nat.rec (motive := fun _ => (R : Type) → XD R) (fun _ => ⟨fun _ _ _ _ _ => none, fun _ _ _ => none, fun _ _ _ _ => none⟩) (fun _ ih R => ⟨xcall X E (ih R) (ih AV), xV X E (ih AV), xY X E (ih R)⟩) n

structure XDOk (X : Cx) (D : XD R) : Prop where
  C : CallsOk X D.C
  V : LendOk X D.V
  Y : ∀ {id args M k r}, D.Y id args M k = some r → ∃ x M', AYields X id args M x M' ∧ k x M' = some r

section
variable {E : XE} {D : XD R}
theorem xT_ok (hD : XDOk X D) (f : Nat) : (xT E D f).CallOk X := by
  refine ⟨fun {g args M k r} h => ?_, fun {id args M k r} h => hD.Y h⟩
  simp only [xT, revK_eq] at h
  obtain ⟨x, rm', m', hA, hm', h⟩ := hD.C (by rw [List.length_reverse]) h
  replace h := tst_some h
  obtain ⟨hle, h⟩ := h
  rw [revF_eq, List.append_nil] at h
  rw [List.reverse_reverse] at hA
  refine ⟨x, _, hA, h, fun ids hi => ?_⟩
  injection hi with hi
  subst hi
  exact ⟨by rw [List.length_reverse, ← hm']; exact Nat.le_of_ble_eq_true hle, fun i hi hn => absurd (List.mem_range.2 hi) hn⟩
theorem xrg_ok (hX : X.Okb) (hS : AllE (SiOk X E.I) E.Ss) (hD : XDOk X D) {rd : Rd} {f p : Nat} {g : Operand} {ps : Array Tmp} {x y : Code} (hat : At (codeF E.I f) p (.rangeFunc g ps x y)) : XSays X (xT E D f).nt rd (.rangeFunc g ps x y) (xrg X E D rd f p) := by
  intro en rm m k r hm h
  unfold xrg at h
  split at h
  · rename_i s g' ps' x' y' hs hc
    have hcc := codeOf_at hc hat
    injection hcc with e1 e2 e3 e4
    subst e1; subst e2; subst e3; subst e4
    obtain ⟨g2, hat2, hnt⟩ := siteAt_ok hS hs
    obtain ⟨l, hl1, hl2⟩ := hat2
    have := hat.det l hl1
    rw [hl2] at this
    injection this with this
    injection this with e1 e2 e3 e4
    have hsite : X.site s = ⟨(xT E D f).nt.n, ps', x', y'⟩ := by
      show X.site s = ⟨(ntF E.I f).n, ps', x', y'⟩
      rw [← hnt, ← e2, ← e3, ← e4]
    obtain ⟨e, st', h1, h2⟩ := evrange_sound hX (xT_ok hD f) hsite h
    obtain ⟨en1, rm1, m1, rfl, hm1, h2⟩ := backX_some h2
    rw [revF_eq, List.append_nil] at h1
    exact ⟨e, en1, rm1, m1, hm1, h1, h2⟩
  · cases h
theorem xrun_ok (hX : X.Okb) (hG : GlobFree X) (hS : AllE (SiOk X E.I) E.Ss) (hD : XDOk X D) {rd : Rd} {f : Nat} {c : Code} {p : Nat} (hat : At (codeF E.I f) p c) : XSays X (ntF E.I f) rd c (xrun X E D rd f c p) :=
  xk_sound (T := xT E D f) hX hG (xT_ok hD f) hD.C hD.V (fun hat => xrg_ok hX hS hD hat) c hat
theorem evres1_det {rv : ResultVar} {st : St} {k : AV → Option R} {r : R} (h : evres1 X rv st k = some r) : ∃ y, k y = some r ∧ ∀ (R' : Type) (k' : AV → Option R'), evres1 X rv st k' = k' y := by
  cases rv with
  | tmp t => exact ⟨_, h, fun _ _ => rfl⟩
  | cell a t =>
    obtain ⟨y, h1, h2⟩ := mem_load h
    exact ⟨y, h1, fun R' k' => h2 st.mem (fun _ _ => rfl) R' k'⟩
theorem evres_det {rs : List ResultVar} {st : St} {q : AV → Option R} {r : R} (h : evres X rs st (fun x _ => q x) = some r) : ∃ x, q x = some r ∧ ∀ (R' : Type) (k' : AV → List Blk → Option R'), evres X rs st k' = k' x st.mem := by
  match rs with
  | [] => exact ⟨_, h, fun _ _ => rfl⟩
  | [a] =>
    have h : evres1 X a st q = some r := h
    obtain ⟨x, h, hd⟩ := evres1_det h
    exact ⟨x, h, fun R' k' => by show (evres1 X a st fun x => k' x st.mem) = _; rw [hd]⟩
  | [a, b] =>
    have h : (evres1 X a st fun x => evres1 X b st fun y => q (.tup [x, y])) = some r := h
    obtain ⟨x, h, hd⟩ := evres1_det h
    obtain ⟨y, h, hd2⟩ := evres1_det h
    exact ⟨_, h, fun R' k' => by show (evres1 X a st fun x => evres1 X b st fun y => k' (.tup [x, y]) st.mem) = _; rw [hd, hd2]⟩
  | [a, b, c] =>
    have h : (evres1 X a st fun x => evres1 X b st fun y => evres1 X c st fun z => q (.tup [x, y, z])) = some r := h
    obtain ⟨x, h, hd⟩ := evres1_det h
    obtain ⟨y, h, hd2⟩ := evres1_det h
    obtain ⟨z, h, hd3⟩ := evres1_det h
    exact ⟨_, h, fun R' k' => by show (evres1 X a st fun x => evres1 X b st fun y => evres1 X c st fun z => k' (.tup [x, y, z]) st.mem) = _; rw [hd, hd2, hd3]⟩
  | _ :: _ :: _ :: _ :: _ => cases h
theorem xfn_ok (hX : X.Okb) (hG : GlobFree X) (hI : AllE (fun e => FiOk X e.1 e.2) E.I) (hS : AllE (SiOk X E.I) E.Ss) (hD : XDOk X D) {g : Nat} {fi : FI} (hf : pickF E.I g = some fi) {args : List AV} {rm : List Blk} {m : Nat} (hm : m = rm.length) {k : AV → List Blk → Nat → Option R} {r : R}
    (h : xfn X E D g fi args rm m k = some r) : ∃ x rm' m', ACalls X g args rm.reverse x rm'.reverse ∧ m' = rm'.length ∧ k x rm' m' = some r := by
  obtain ⟨fn, h1, h2, h3, h4, h5⟩ := pickF_ok hI hf
  have hc : codeF E.I g = fi.c := by unfold codeF; rw [hf]
  have hn : ntF E.I g = fi.nt := by unfold ntF; rw [hf]
  obtain ⟨hle, h⟩ := iff_none h
  have hle : args.length ≤ fi.nt.n := by have := Nat.le_of_ble_eq_true hle; rwa [lenF_eq] at this
  rw [argK_eq] at h
  have hat : At (codeF E.I g) 1 fi.c := by rw [hc]; exact At.root _
  obtain ⟨e, en', rm', m', hm', hrun, h⟩ := xrun_ok hX hG hS hD (rd := .out) hat _ _ _ _ _ hm h
  rw [xfin_eq fi.rs e en' rm' .out] at h
  have hrun' : CodeRuns X fi.nt fi.c ⟨argEnv 0 args, rm.reverse, [], .out⟩ (Ex.exit' e) (stX en' rm' .out) := by
    have : XRuns X (ntF E.I g) .out fi.c (enA 0 args) rm e en' rm' := hrun
    unfold XRuns at this
    rw [hn] at this
    have e0 : stX (enA 0 args) rm .out = ⟨argEnv 0 args, rm.reverse, [], .out⟩ := by simp only [stX, enA_l]
    rw [e0] at this
    exact @this
  have hfin : evfin X fi.rs (fun x M => k x rm' m' >>= fun r => some (r, M)) e (stX en' rm' .out) = some (r, rm'.reverse) := by
    have key : ∀ (q : AV → Option R), evres X fi.rs (stX en' rm' .out) (fun x _ => q x) = some r → evres X fi.rs (stX en' rm' .out) (fun x M => q x >>= fun r => some (r, M)) = some (r, rm'.reverse) := by
      intro q hq
      obtain ⟨x, hx⟩ := evres_det (X := X) hq
      rw [hx.2]
      show (q x >>= fun r => some (r, rm'.reverse)) = _
      rw [hx.1]; rfl
    cases e with
    | normal => exact key (fun x => k x rm' m') h
    | exit i => cases h
    | ret => exact key (fun x => k x rm' m') h
  obtain ⟨x, M', hA, hk⟩ := evfn_core hX h1 h2 h3 h5 h4 hle hrun' hfin
  cases hq : k x rm' m' with
  | none => rw [hq] at hk; cases hk
  | some r' =>
    rw [hq] at hk
    injection hk with hk
    injection hk with e1 e2
    subst e1; subst e2
    exact ⟨x, rm', m', hA, hm', hq⟩
theorem xcall_ok (hX : X.Okb) (hG : GlobFree X) (hI : AllE (fun e => FiOk X e.1 e.2) E.I) (hS : AllE (SiOk X E.I) E.Ss) (hK : AllE (KcOk2 X) E.kc) (hD : XDOk X D) {DA : XD AV} (hDA : XDOk X DA) : CallsOk X (xcall X E D DA) := by
  intro g args rm m k r hm h
  unfold xcall at h
  cases hf : pickF E.I g with
  | none => rw [hf] at h; cases h
  | some fi =>
    rw [hf] at h
    have plain : (xfn X E D g fi args rm m fun x rm m' => cutX m x rm m' k) = some r → ∃ x rm' m', ACalls X g args rm.reverse x rm'.reverse ∧ m' = rm'.length ∧ k x rm' m' = some r := by
      intro h
      obtain ⟨x, rm1, m1, hA, hm1, h⟩ := xfn_ok hX hG hI hS hD hf hm h
      exact ⟨x, cutX_some hG hm hm1 hA h⟩
    cases hp : isPl E.pl g with
    | false => rw [hp] at h; exact plain h
    | true =>
      rw [hp] at h
      cases hl : lendA X rm m args with
      | none => rw [hl] at h; exact plain h
      | some ys =>
        rw [hl] at h
        have h : Option.rec (motive := fun _ => Option R) (Option.rec (motive := fun _ => Option R) none (fun x => fz2 x fun x => k x rm m) (xfn X E DA g fi ys [] 0 kFlat)) (fun x => fz2 x fun x => k x rm m) (pickD E.kc g ys) = some r := h
        cases hpd : pickD E.kc g ys with
        | some x =>
          rw [hpd] at h
          have h : (fz2 x fun x => k x rm m) = some r := h
          rw [fz2_eq] at h
          obtain ⟨⟨M', hA⟩, hfl⟩ := pickD_ok hK hpd
          exact ⟨x, rm, m, hA.lend hG hm hl hfl (fun _ _ => rfl), hm, h⟩
        | none =>
        rw [hpd] at h
        have h : Option.rec (motive := fun _ => Option R) none (fun x => fz2 x fun x => k x rm m) (xfn X E DA g fi ys [] 0 kFlat) = some r := h
        cases hx : xfn X E DA g fi ys [] 0 kFlat with
        | none => rw [hx] at h; cases h
        | some x =>
          rw [hx] at h
          have h : (fz2 x fun x => k x rm m) = some r := h
          rw [fz2_eq] at h
          obtain ⟨y, rm1, m1, hA, hm1, hk⟩ := xfn_ok hX hG hI hS hDA hf rfl hx
          obtain ⟨hfl, hk⟩ := iff_none hk
          injection hk with hk
          subst hk
          exact ⟨y, rm, m, hA.lend hG hm hl hfl (fun _ _ => rfl), hm, h⟩
theorem xV_ok (hX : X.Okb) (hG : GlobFree X) (hI : AllE (fun e => FiOk X e.1 e.2) E.I) (hS : AllE (SiOk X E.I) E.Ss) (hK : AllE (KcOk2 X) E.kc) {DA : XD AV} (hDA : XDOk X DA) : LendOk X (xV X E DA) := by
  intro g args M x h M0 hM
  unfold xV at h
  cases hp : isPl E.pl g with
  | false => rw [hp] at h; cases h
  | true =>
    rw [hp] at h
    have h : (revK M fun rm m => Option.rec (motive := fun _ => Option AV) none
      (fun fi => Option.rec (motive := fun _ => Option AV) none (fun ys => Option.rec (motive := fun _ => Option AV) (Option.rec (motive := fun _ => Option AV) none (fun x => fz2 x some) (xfn X E DA g fi ys [] 0 kFlat)) some (pickD E.kc g ys)) (lendA X rm m args))
      (pickF E.I g)) = some x := h
    rw [revK_eq] at h
    cases hf : pickF E.I g with
    | none => rw [hf] at h; cases h
    | some fi =>
      rw [hf] at h
      cases hl : lendA X M.reverse M.length args with
      | none => rw [hl] at h; cases h
      | some ys =>
        rw [hl] at h
        have h : Option.rec (motive := fun _ => Option AV) (Option.rec (motive := fun _ => Option AV) none (fun x => fz2 x some) (xfn X E DA g fi ys [] 0 kFlat)) some (pickD E.kc g ys) = some x := h
        have hag : ∀ id, id < M.length → M0[id]? = M.reverse.reverse[id]? := fun id hid => by rw [List.reverse_reverse]; exact hM id hid
        cases hpd : pickD E.kc g ys with
        | some y =>
          rw [hpd] at h
          injection h with h
          subst h
          obtain ⟨⟨M', hA⟩, hfl⟩ := pickD_ok hK hpd
          exact hA.lend hG (by rw [List.length_reverse]) hl hfl hag
        | none =>
          rw [hpd] at h
          have h : Option.rec (motive := fun _ => Option AV) none (fun x => fz2 x some) (xfn X E DA g fi ys [] 0 kFlat) = some x := h
          cases hx : xfn X E DA g fi ys [] 0 kFlat with
          | none => rw [hx] at h; cases h
          | some y =>
            rw [hx] at h
            have h : fz2 y some = some x := h
            rw [fz2_eq] at h
            injection h with h
            subst h
            obtain ⟨z, rm1, m1, hA, hm1, hk⟩ := xfn_ok hX hG hI hS hDA hf rfl hx
            obtain ⟨hfl, hk⟩ := iff_none hk
            injection hk with hk
            subst hk
            exact hA.lend hG (by rw [List.length_reverse]) hl hfl hag
theorem xyield_ok (hX : X.Okb) (hG : GlobFree X) (hS : AllE (SiOk X E.I) E.Ss) (hD : XDOk X D) {f s p : Nat} {g : Operand} {ps : Array Tmp} (hat : At (codeF E.I f) p (.rangeFunc g ps (X.site s).assign (X.site s).body)) {id : Nat} {args : List AV} {M : List Blk} {k : AV → List Blk → Option R} {r : R}
    (h : xyield X E D f s p id args M k = some r) : ∃ x M', AYields X id args M x M' ∧ k x M' = some r := by
  unfold xyield at h
  simp only [gm_eq] at h
  split at h
  case h_2 => cases h
  rename_i s' env hb
  replace h := tst_some h
  obtain ⟨hc, h⟩ := h
  rw [Bool.and_eq_true, Bool.and_eq_true] at hc
  obtain ⟨⟨hs', hnt⟩, hps⟩ := hc
  have hs' : s' = s := Nat.eq_of_beq_eq_true hs'
  subst hs'
  have hnt : (X.site s').nt = (ntF E.I f).n := Nat.eq_of_beq_eq_true hnt
  have hps : ∀ t ∈ (X.site s').params.toList, t < (ntF E.I f).n := fun t ht => by have := List.all_eq_true.1 hps t ht; simpa using this
  split at h
  case h_1 => cases h
  rename_i env' hput
  rw [revK_eq] at h
  obtain ⟨e1, en1, rm1, m1, hm1, hrun1, h⟩ := xrun_ok hX hG hS hD (hat.down false fun l hl => by simp [codeAt, hl]) _ _ _ _ _ (by rw [List.length_reverse]) h
  split at h
  case h_2 => cases h
  obtain ⟨e2, en2, rm2, m2, hm2, hrun2, h⟩ := xrun_ok hX hG hS hD (hat.down true fun l hl => by simp [codeAt, hl]) _ _ _ _ _ hm1 h
  split at h
  case h_2 => cases h
  rename_i hdead
  rw [revF_eq, List.append_nil] at hdead h
  refine ⟨_, _, evyield_core (nt := ntF E.I f) (st1 := stX en1 rm1 .unk) (st2 := stX en2 rm2 .unk) hb hnt hps hput (e1 := .normal) rfl ?_ rfl hrun2 hdead, h⟩
  have e0 : stX (enOf env') (M.set id .dead).reverse .unk = ⟨env', M.set id .dead, [], .unk⟩ := by simp only [stX, enOf_l, List.reverse_reverse]
  have h1 : CodeRuns X (ntF E.I f) (X.site s').assign (stX (enOf env') (M.set id .dead).reverse .unk) (Ex.exit' .normal) (stX en1 rm1 .unk) := hrun1
  rw [e0] at h1
  exact @h1
theorem xY_ok (hX : X.Okb) (hG : GlobFree X) (hS : AllE (SiOk X E.I) E.Ss) (hD : XDOk X D) {id : Nat} {args : List AV} {M : List Blk} {k : AV → List Blk → Option R} {r : R} (h : xY X E D id args M k = some r) : ∃ x M', AYields X id args M x M' ∧ k x M' = some r := by
  unfold xY at h
  split at h
  · split at h
    · rename_i f' p hsb
      obtain ⟨g, hat, hnt⟩ := siteBy_ok hS hsb
      exact xyield_ok hX hG hS hD hat h
    · cases h
  · cases h
theorem XL_ok (hX : X.Okb) (hG : GlobFree X) (hI : AllE (fun e => FiOk X e.1 e.2) E.I) (hS : AllE (SiOk X E.I) E.Ss) (hK : AllE (KcOk2 X) E.kc) : ∀ (n : Nat) (R : Type), XDOk X (XL X E n R)
  | 0, R => ⟨(by intro g args rm m k r hm h; cases h), (by intro g args M x h; cases h), (by intro id args M k r h; cases h)⟩
  | n + 1, R => ⟨xcall_ok hX hG hI hS hK (XL_ok hX hG hI hS hK n R) (XL_ok hX hG hI hS hK n AV), xV_ok hX hG hI hS hK (XL_ok hX hG hI hS hK n AV), fun h => xY_ok hX hG hS (XL_ok hX hG hI hS hK n R) h⟩
def kB2 (x : AV) (_ : List Blk) (_ : Nat) : Option Bool := onBool x (fun b => some b) none
def xAll (X : Cx) (E : XE) (n f : Nat) : Bool := Option.rec (motive := fun _ => Bool) false (fun fi => asB (xfn X E (XL X E n Bool) f fi [] [] 0 kB2)) (pickF E.I f)
/-- A closed run. -/
theorem closed_run2 (hX : X.Okb) (hG : GlobFree X) (hI : AllE (fun e => FiOk X e.1 e.2) E.I) (hS : AllE (SiOk X E.I) E.Ss) (hK : AllE (KcOk2 X) E.kc) {n f : Nat} (h : xAll X E n f = true) : ACalls X f [] [] (.bool true) [] := by
  unfold xAll at h
  cases hf : pickF E.I f with
  | none => rw [hf] at h; cases h
  | some fi =>
    rw [hf] at h
    have h : asB (xfn X E (XL X E n Bool) f fi [] [] 0 kB2) = true := h
    unfold asB at h
    split at h
    · rename_i b hb
      subst h
      obtain ⟨x, rm1, m1, hA, hm1, hk⟩ := xfn_ok hX hG hI hS (XL_ok hX hG hI hS hK n Bool) hf rfl hb
      obtain ⟨b, rfl, hk⟩ := onBool_some hk
      injection hk with hk
      subst hk
      have := hA.cut hG (x := .bool true) rfl (by rw [List.reverse_nil, List.length_nil, List.take_zero]; rfl)
      rw [List.reverse_nil, List.length_nil, List.take_zero] at this
      exact this
    · cases h
/-- One call on given arguments. -/
def xKc (X : Cx) (E : XE) (n g : Nat) (ys : List AV) (x : AV) : Bool := Option.rec (motive := fun _ => Bool) false (fun fi => Option.rec (motive := fun _ => Bool) false (fun y => sameD x y) (xfn X E (XL X E n AV) g fi ys [] 0 kFlat)) (pickF E.I g)
theorem kc_of (hX : X.Okb) (hG : GlobFree X) (hI : AllE (fun e => FiOk X e.1 e.2) E.I) (hS : AllE (SiOk X E.I) E.Ss) (hK : AllE (KcOk2 X) E.kc) {n g : Nat} {ys : List AV} {x : AV} (h : xKc X E n g ys x = true) : KcOk2 X ⟨g, ys, x⟩ := by
  unfold xKc at h
  cases hf : pickF E.I g with
  | none => rw [hf] at h; cases h
  | some fi =>
    rw [hf] at h
    have h : Option.rec (motive := fun _ => Bool) false (fun y => sameD x y) (xfn X E (XL X E n AV) g fi ys [] 0 kFlat) = true := h
    cases hx : xfn X E (XL X E n AV) g fi ys [] 0 kFlat with
    | none => rw [hx] at h; cases h
    | some y =>
      rw [hx] at h
      have h := sameD_eq x y h
      subst h
      obtain ⟨y, rm1, m1, hA, hm1, hk⟩ := xfn_ok hX hG hI hS (XL_ok hX hG hI hS hK n AV) hf rfl hx
      obtain ⟨hfl, hk⟩ := iff_none hk
      injection hk with hk
      subst hk
      exact ⟨⟨_, hA⟩, hfl⟩
end
end
end Go.Eng

namespace Go.Proofs.YtffabbjfdgmbjaaGreat.Cl
open Go Go.Eng
set_option maxRecDepth 100000
noncomputable def code6 : Code := (Tryz.f6.body).getD .skip
noncomputable def code15 : Code := (Tryz.f15.body).getD .skip
noncomputable def code29 : Code := (Tryz.f29.body).getD .skip
noncomputable def code19 : Code := (Tryz.f19.body).getD .skip
noncomputable def code21 : Code := (Tryz.f21.body).getD .skip
noncomputable def code24 : Code := (Tryz.f24.body).getD .skip
noncomputable def code17 : Code := (Tryz.f17.body).getD .skip
noncomputable def code49 : Code := (Tryz.f49.body).getD .skip
noncomputable def code8 : Code := (Tryz.f8.body).getD .skip
noncomputable def code48 : Code := (Tryz.f48.body).getD .skip
noncomputable def code59 : Code := (Tryz.f59.body).getD .skip
noncomputable def code83 : Code := (Tryz.f83.body).getD .skip
noncomputable def code127 : Code := (Tryz.f127.body).getD .skip
noncomputable def code129 : Code := (Tryz.f129.body).getD .skip
noncomputable def code128 : Code := (Tryz.f128.body).getD .skip
noncomputable def code161 : Code := (Tryz.f161.body).getD .skip
noncomputable def code84 : Code := (Tryz.f84.body).getD .skip
noncomputable def code130 : Code := (Tryz.f130.body).getD .skip
noncomputable def code162 : Code := (Tryz.f162.body).getD .skip
noncomputable def code193 : Code := (Tryz.f193.body).getD .skip
noncomputable def code194 : Code := (Tryz.f194.body).getD .skip
noncomputable def code131 : Code := (Tryz.f131.body).getD .skip
noncomputable def code85 : Code := (Tryz.f85.body).getD .skip
noncomputable def code132 : Code := (Tryz.f132.body).getD .skip
noncomputable def code133 : Code := (Tryz.f133.body).getD .skip
noncomputable def code163 : Code := (Tryz.f163.body).getD .skip
noncomputable def code195 : Code := (Tryz.f195.body).getD .skip
noncomputable def code196 : Code := (Tryz.f196.body).getD .skip
noncomputable def code197 : Code := (Tryz.f197.body).getD .skip
noncomputable def code198 : Code := (Tryz.f198.body).getD .skip
noncomputable def code199 : Code := (Tryz.f199.body).getD .skip
noncomputable def code200 : Code := (Tryz.f200.body).getD .skip
noncomputable def code201 : Code := (Tryz.f201.body).getD .skip
noncomputable def code164 : Code := (Tryz.f164.body).getD .skip
noncomputable def code165 : Code := (Tryz.f165.body).getD .skip
noncomputable def code166 : Code := (Tryz.f166.body).getD .skip
noncomputable def code167 : Code := (Tryz.f167.body).getD .skip
noncomputable def code86 : Code := (Tryz.f86.body).getD .skip
noncomputable def code168 : Code := (Tryz.f168.body).getD .skip
noncomputable def code169 : Code := (Tryz.f169.body).getD .skip
noncomputable def code170 : Code := (Tryz.f170.body).getD .skip
noncomputable def code202 : Code := (Tryz.f202.body).getD .skip
noncomputable def code225 : Code := (Tryz.f225.body).getD .skip
noncomputable def code237 : Code := (Tryz.f237.body).getD .skip
noncomputable def code238 : Code := (Tryz.f238.body).getD .skip
noncomputable def code224 : Code := (Tryz.f224.body).getD .skip
noncomputable def code228 : Code := (Tryz.f228.body).getD .skip
noncomputable def code234 : Code := (Tryz.f234.body).getD .skip
noncomputable def code246 : Code := (Tryz.f246.body).getD .skip
noncomputable def code229 : Code := (Tryz.f229.body).getD .skip
noncomputable def code241 : Code := (Tryz.f241.body).getD .skip
noncomputable def code230 : Code := (Tryz.f230.body).getD .skip
noncomputable def code242 : Code := (Tryz.f242.body).getD .skip
noncomputable def code243 : Code := (Tryz.f243.body).getD .skip
noncomputable def code231 : Code := (Tryz.f231.body).getD .skip
noncomputable def code244 : Code := (Tryz.f244.body).getD .skip
noncomputable def code245 : Code := (Tryz.f245.body).getD .skip
noncomputable def code247 : Code := (Tryz.f247.body).getD .skip
noncomputable def code232 : Code := (Tryz.f232.body).getD .skip
noncomputable def code233 : Code := (Tryz.f233.body).getD .skip
noncomputable def code235 : Code := (Tryz.f235.body).getD .skip
noncomputable def code236 : Code := (Tryz.f236.body).getD .skip
noncomputable def code203 : Code := (Tryz.f203.body).getD .skip
noncomputable def code171 : Code := (Tryz.f171.body).getD .skip
noncomputable def code87 : Code := (Tryz.f87.body).getD .skip
noncomputable def code103 : Code := (Tryz.f103.body).getD .skip
noncomputable def code150 : Code := (Tryz.f150.body).getD .skip
noncomputable def code134 : Code := (Tryz.f134.body).getD .skip
noncomputable def code92 : Code := (Tryz.f92.body).getD .skip
noncomputable def code147 : Code := (Tryz.f147.body).getD .skip
noncomputable def code88 : Code := (Tryz.f88.body).getD .skip
noncomputable def code135 : Code := (Tryz.f135.body).getD .skip
noncomputable def code172 : Code := (Tryz.f172.body).getD .skip
noncomputable def code205 : Code := (Tryz.f205.body).getD .skip
noncomputable def code204 : Code := (Tryz.f204.body).getD .skip
noncomputable def code206 : Code := (Tryz.f206.body).getD .skip
noncomputable def code208 : Code := (Tryz.f208.body).getD .skip
noncomputable def code207 : Code := (Tryz.f207.body).getD .skip
noncomputable def code209 : Code := (Tryz.f209.body).getD .skip
noncomputable def code210 : Code := (Tryz.f210.body).getD .skip
noncomputable def code211 : Code := (Tryz.f211.body).getD .skip
noncomputable def code212 : Code := (Tryz.f212.body).getD .skip
noncomputable def code213 : Code := (Tryz.f213.body).getD .skip
noncomputable def code214 : Code := (Tryz.f214.body).getD .skip
noncomputable def code215 : Code := (Tryz.f215.body).getD .skip
noncomputable def code136 : Code := (Tryz.f136.body).getD .skip
noncomputable def code173 : Code := (Tryz.f173.body).getD .skip
noncomputable def code137 : Code := (Tryz.f137.body).getD .skip
noncomputable def code174 : Code := (Tryz.f174.body).getD .skip
noncomputable def code216 : Code := (Tryz.f216.body).getD .skip
noncomputable def code226 : Code := (Tryz.f226.body).getD .skip
noncomputable def code177 : Code := (Tryz.f177.body).getD .skip
noncomputable def code239 : Code := (Tryz.f239.body).getD .skip
noncomputable def code217 : Code := (Tryz.f217.body).getD .skip
noncomputable def code175 : Code := (Tryz.f175.body).getD .skip
noncomputable def code218 : Code := (Tryz.f218.body).getD .skip
noncomputable def code219 : Code := (Tryz.f219.body).getD .skip
noncomputable def code227 : Code := (Tryz.f227.body).getD .skip
noncomputable def code240 : Code := (Tryz.f240.body).getD .skip
noncomputable def code176 : Code := (Tryz.f176.body).getD .skip
noncomputable def code178 : Code := (Tryz.f178.body).getD .skip
noncomputable def code179 : Code := (Tryz.f179.body).getD .skip
noncomputable def code180 : Code := (Tryz.f180.body).getD .skip
noncomputable def code181 : Code := (Tryz.f181.body).getD .skip
noncomputable def code182 : Code := (Tryz.f182.body).getD .skip
noncomputable def code187 : Code := (Tryz.f187.body).getD .skip
noncomputable def code183 : Code := (Tryz.f183.body).getD .skip
noncomputable def code220 : Code := (Tryz.f220.body).getD .skip
noncomputable def code221 : Code := (Tryz.f221.body).getD .skip
noncomputable def code184 : Code := (Tryz.f184.body).getD .skip
noncomputable def code185 : Code := (Tryz.f185.body).getD .skip
noncomputable def code222 : Code := (Tryz.f222.body).getD .skip
noncomputable def code223 : Code := (Tryz.f223.body).getD .skip
noncomputable def code138 : Code := (Tryz.f138.body).getD .skip
noncomputable def code186 : Code := (Tryz.f186.body).getD .skip
noncomputable def code139 : Code := (Tryz.f139.body).getD .skip
noncomputable def code140 : Code := (Tryz.f140.body).getD .skip
noncomputable def code142 : Code := (Tryz.f142.body).getD .skip
noncomputable def code188 : Code := (Tryz.f188.body).getD .skip
noncomputable def code141 : Code := (Tryz.f141.body).getD .skip
noncomputable def code144 : Code := (Tryz.f144.body).getD .skip
noncomputable def code143 : Code := (Tryz.f143.body).getD .skip
noncomputable def code189 : Code := (Tryz.f189.body).getD .skip
noncomputable def code60 : Code := (Tryz.f60.body).getD .skip
noncomputable def code89 : Code := (Tryz.f89.body).getD .skip
noncomputable def code145 : Code := (Tryz.f145.body).getD .skip
noncomputable def code69 : Code := (Tryz.f69.body).getD .skip
noncomputable def code105 : Code := (Tryz.f105.body).getD .skip
noncomputable def code151 : Code := (Tryz.f151.body).getD .skip
noncomputable def code61 : Code := (Tryz.f61.body).getD .skip
noncomputable def code91 : Code := (Tryz.f91.body).getD .skip
noncomputable def code62 : Code := (Tryz.f62.body).getD .skip
noncomputable def code93 : Code := (Tryz.f93.body).getD .skip
noncomputable def code90 : Code := (Tryz.f90.body).getD .skip
noncomputable def code146 : Code := (Tryz.f146.body).getD .skip
noncomputable def code63 : Code := (Tryz.f63.body).getD .skip
noncomputable def code94 : Code := (Tryz.f94.body).getD .skip
noncomputable def code64 : Code := (Tryz.f64.body).getD .skip
noncomputable def code95 : Code := (Tryz.f95.body).getD .skip
noncomputable def code65 : Code := (Tryz.f65.body).getD .skip
noncomputable def code96 : Code := (Tryz.f96.body).getD .skip
noncomputable def code66 : Code := (Tryz.f66.body).getD .skip
noncomputable def code98 : Code := (Tryz.f98.body).getD .skip
noncomputable def code100 : Code := (Tryz.f100.body).getD .skip
noncomputable def code99 : Code := (Tryz.f99.body).getD .skip
noncomputable def code148 : Code := (Tryz.f148.body).getD .skip
noncomputable def code97 : Code := (Tryz.f97.body).getD .skip
noncomputable def code102 : Code := (Tryz.f102.body).getD .skip
noncomputable def code101 : Code := (Tryz.f101.body).getD .skip
noncomputable def code149 : Code := (Tryz.f149.body).getD .skip
noncomputable def code67 : Code := (Tryz.f67.body).getD .skip
noncomputable def code68 : Code := (Tryz.f68.body).getD .skip
noncomputable def code104 : Code := (Tryz.f104.body).getD .skip
noncomputable def code11 : Code := (Tryz.f11.body).getD .skip
noncomputable def code44 : Code := (Tryz.f44.body).getD .skip
noncomputable def code33 : Code := (Tryz.f33.body).getD .skip
noncomputable def code45 : Code := (Tryz.f45.body).getD .skip
noncomputable def code46 : Code := (Tryz.f46.body).getD .skip
noncomputable def code47 : Code := (Tryz.f47.body).getD .skip
noncomputable def code42 : Code := (Tryz.f42.body).getD .skip
noncomputable def code5 : Code := (Tryz.f5.body).getD .skip
noncomputable def code14 : Code := (Tryz.f14.body).getD .skip
noncomputable def code16 : Code := (Tryz.f16.body).getD .skip
noncomputable def code18 : Code := (Tryz.f18.body).getD .skip
noncomputable def code20 : Code := (Tryz.f20.body).getD .skip
noncomputable def code22 : Code := (Tryz.f22.body).getD .skip
noncomputable def code23 : Code := (Tryz.f23.body).getD .skip
noncomputable def code25 : Code := (Tryz.f25.body).getD .skip
noncomputable def code26 : Code := (Tryz.f26.body).getD .skip
noncomputable def code27 : Code := (Tryz.f27.body).getD .skip
noncomputable def code28 : Code := (Tryz.f28.body).getD .skip
noncomputable def code30 : Code := (Tryz.f30.body).getD .skip
noncomputable def code31 : Code := (Tryz.f31.body).getD .skip
noncomputable def code32 : Code := (Tryz.f32.body).getD .skip
noncomputable def code34 : Code := (Tryz.f34.body).getD .skip
noncomputable def code35 : Code := (Tryz.f35.body).getD .skip
noncomputable def code36 : Code := (Tryz.f36.body).getD .skip
noncomputable def code37 : Code := (Tryz.f37.body).getD .skip
noncomputable def code38 : Code := (Tryz.f38.body).getD .skip
noncomputable def code39 : Code := (Tryz.f39.body).getD .skip
noncomputable def code40 : Code := (Tryz.f40.body).getD .skip
noncomputable def code41 : Code := (Tryz.f41.body).getD .skip
noncomputable def code52 : Code := (Tryz.f52.body).getD .skip
noncomputable def code70 : Code := (Tryz.f70.body).getD .skip
noncomputable def code71 : Code := (Tryz.f71.body).getD .skip
noncomputable def code53 : Code := (Tryz.f53.body).getD .skip
noncomputable def code72 : Code := (Tryz.f72.body).getD .skip
noncomputable def code75 : Code := (Tryz.f75.body).getD .skip
noncomputable def code54 : Code := (Tryz.f54.body).getD .skip
noncomputable def code73 : Code := (Tryz.f73.body).getD .skip
noncomputable def code74 : Code := (Tryz.f74.body).getD .skip
noncomputable def code106 : Code := (Tryz.f106.body).getD .skip
noncomputable def code107 : Code := (Tryz.f107.body).getD .skip
noncomputable def code108 : Code := (Tryz.f108.body).getD .skip
noncomputable def code55 : Code := (Tryz.f55.body).getD .skip
noncomputable def code109 : Code := (Tryz.f109.body).getD .skip
noncomputable def code110 : Code := (Tryz.f110.body).getD .skip
noncomputable def code111 : Code := (Tryz.f111.body).getD .skip
noncomputable def code56 : Code := (Tryz.f56.body).getD .skip
noncomputable def code57 : Code := (Tryz.f57.body).getD .skip
noncomputable def code76 : Code := (Tryz.f76.body).getD .skip
noncomputable def code77 : Code := (Tryz.f77.body).getD .skip
noncomputable def code112 : Code := (Tryz.f112.body).getD .skip
noncomputable def code78 : Code := (Tryz.f78.body).getD .skip
noncomputable def code113 : Code := (Tryz.f113.body).getD .skip
noncomputable def code152 : Code := (Tryz.f152.body).getD .skip
noncomputable def code190 : Code := (Tryz.f190.body).getD .skip
noncomputable def code191 : Code := (Tryz.f191.body).getD .skip
noncomputable def code115 : Code := (Tryz.f115.body).getD .skip
noncomputable def code153 : Code := (Tryz.f153.body).getD .skip
noncomputable def code117 : Code := (Tryz.f117.body).getD .skip
noncomputable def code154 : Code := (Tryz.f154.body).getD .skip
noncomputable def code192 : Code := (Tryz.f192.body).getD .skip
noncomputable def code114 : Code := (Tryz.f114.body).getD .skip
noncomputable def code116 : Code := (Tryz.f116.body).getD .skip
noncomputable def code118 : Code := (Tryz.f118.body).getD .skip
noncomputable def code119 : Code := (Tryz.f119.body).getD .skip
noncomputable def code120 : Code := (Tryz.f120.body).getD .skip
noncomputable def code125 : Code := (Tryz.f125.body).getD .skip
noncomputable def code156 : Code := (Tryz.f156.body).getD .skip
noncomputable def code160 : Code := (Tryz.f160.body).getD .skip
noncomputable def code157 : Code := (Tryz.f157.body).getD .skip
noncomputable def code158 : Code := (Tryz.f158.body).getD .skip
noncomputable def code159 : Code := (Tryz.f159.body).getD .skip
noncomputable def code121 : Code := (Tryz.f121.body).getD .skip
noncomputable def code155 : Code := (Tryz.f155.body).getD .skip
noncomputable def code122 : Code := (Tryz.f122.body).getD .skip
noncomputable def code123 : Code := (Tryz.f123.body).getD .skip
noncomputable def code79 : Code := (Tryz.f79.body).getD .skip
noncomputable def code124 : Code := (Tryz.f124.body).getD .skip
noncomputable def code80 : Code := (Tryz.f80.body).getD .skip
noncomputable def code126 : Code := (Tryz.f126.body).getD .skip
noncomputable def code81 : Code := (Tryz.f81.body).getD .skip
noncomputable def code82 : Code := (Tryz.f82.body).getD .skip
noncomputable def code58 : Code := (Tryz.f58.body).getD .skip
noncomputable def code51 : Code := (Tryz.f51.body).getD .skip
noncomputable def code43 : Code := (Tryz.f43.body).getD .skip
noncomputable def nd0 : Operand × Array Tmp × Code × Code := match codeAt code69 [false, true, false, true, true] with | some (.rangeFunc g ps a b) => (g, ps, a, b) | _ => (.func 0, #[], .skip, .skip)
noncomputable def siteL : List (Nat × Site) := [(0, ⟨13, nd0.2.1, nd0.2.2.1, nd0.2.2.2⟩)]
def tiL : List (Nat × TI) := [
  (0, ⟨true, .other, 1, 0, [.top], [.raw]⟩),
  (1, ⟨true, .other, 1, 8, [.nilfn], [.raw]⟩),
  (2, ⟨true, .int .i64, 1, 8, [.int .i64 0], [.int .i64]⟩),
  (3, ⟨true, .int .i64, 1, 8, [.int .i64 0], [.int .i64]⟩),
  (4, ⟨true, .bool, 1, 1, [.bool false], [.bool]⟩),
  (5, ⟨true, .int .u8, 1, 1, [.int .u8 0], [.int .u8]⟩),
  (9, ⟨true, .str, 1, 16, [.str ByteArray.empty], [.str]⟩),
  (20, ⟨true, .other, 1, 16, [.top], [.raw]⟩),
  (23, ⟨true, .slice 3, 1, 24, [.nilsl], [.slice 3]⟩),
  (24, ⟨true, .other, 1, 8, [.nilfn], [.raw]⟩),
  (29, ⟨true, .slice 41, 1, 24, [.nilsl], [.slice 41]⟩),
  (30, ⟨true, .int .i64, 1, 8, [.int .i64 0], [.int .i64]⟩),
  (31, ⟨true, .other, 1, 0, [.top], [.raw]⟩),
  (33, ⟨true, .slice 84, 1, 24, [.nilsl], [.slice 84]⟩),
  (34, ⟨true, .slice 63, 1, 24, [.nilsl], [.slice 63]⟩),
  (35, ⟨true, .slice 104, 1, 24, [.nilsl], [.slice 104]⟩),
  (37, ⟨true, .struct [(0, 33), (1, 3), (2, 34), (3, 35)], 4, 80, [.nilsl, .int .i64 0, .nilsl, .nilsl], [.slice 84, .int .i64, .slice 63, .slice 104]⟩),
  (39, ⟨true, .slice 43, 1, 24, [.nilsl], [.slice 43]⟩),
  (41, ⟨true, .struct [(0, 3), (1, 3), (2, 2), (3, 2), (4, 2), (5, 2), (6, 39)], 7, 72, [.int .i64 0, .int .i64 0, .int .i64 0, .int .i64 0, .int .i64 0, .int .i64 0, .nilsl], [.int .i64, .int .i64, .int .i64, .int .i64, .int .i64, .int .i64, .slice 43]⟩),
  (43, ⟨true, .struct [(0, 3), (1, 2)], 2, 16, [.int .i64 0, .int .i64 0], [.int .i64, .int .i64]⟩),
  (46, ⟨true, .slice 65, 1, 24, [.nilsl], [.slice 65]⟩),
  (47, ⟨true, .other, 1, 0, [.top], [.raw]⟩),
  (49, ⟨true, .slice 61, 1, 24, [.nilsl], [.slice 61]⟩),
  (52, ⟨true, .slice 140, 1, 24, [.nilsl], [.slice 140]⟩),
  (53, ⟨true, .int .u8, 1, 1, [.int .u8 0], [.int .u8]⟩),
  (54, ⟨true, .int .u8, 1, 1, [.int .u8 0], [.int .u8]⟩),
  (55, ⟨true, .slice 74, 1, 24, [.nilsl], [.slice 74]⟩),
  (56, ⟨true, .slice 110, 1, 24, [.nilsl], [.slice 110]⟩),
  (57, ⟨true, .slice 81, 1, 24, [.nilsl], [.slice 81]⟩),
  (58, ⟨true, .slice 78, 1, 24, [.nilsl], [.slice 78]⟩),
  (59, ⟨true, .slice 134, 1, 24, [.nilsl], [.slice 134]⟩),
  (61, ⟨true, .struct [(0, 53), (1, 3), (2, 3), (3, 3), (4, 3), (5, 3), (6, 4), (7, 4), (8, 4), (9, 4), (10, 4), (11, 54), (12, 55), (13, 55), (14, 56), (15, 56), (16, 23), (17, 49), (18, 57), (19, 58), (20, 59)], 21, 272, [.int .u8 0, .int .i64 0, .int .i64 0, .int .i64 0, .int .i64 0, .int .i64 0, .bool false, .bool false, .bool false, .bool false, .bool false, .int .u8 0, .nilsl, .nilsl, .nilsl, .nilsl, .nilsl, .nilsl, .nilsl, .nilsl, .nilsl], [.int .u8, .int .i64, .int .i64, .int .i64, .int .i64, .int .i64, .bool, .bool, .bool, .bool, .bool, .int .u8, .slice 74, .slice 74, .slice 110, .slice 110, .slice 3, .slice 61, .slice 81, .slice 78, .slice 134]⟩),
  (63, ⟨true, .struct [(0, 3), (1, 52), (2, 61), (23, 2)], 24, 312, [.int .i64 0, .nilsl, .int .u8 0, .int .i64 0, .int .i64 0, .int .i64 0, .int .i64 0, .int .i64 0, .bool false, .bool false, .bool false, .bool false, .bool false, .int .u8 0, .nilsl, .nilsl, .nilsl, .nilsl, .nilsl, .nilsl, .nilsl, .nilsl, .nilsl, .int .i64 0], [.int .i64, .slice 140, .int .u8, .int .i64, .int .i64, .int .i64, .int .i64, .int .i64, .bool, .bool, .bool, .bool, .bool, .int .u8, .slice 74, .slice 74, .slice 110, .slice 110, .slice 3, .slice 61, .slice 81, .slice 78, .slice 134, .int .i64]⟩),
  (65, ⟨true, .struct [(0, 3), (1, 3), (2, 23)], 3, 40, [.int .i64 0, .int .i64 0, .nilsl], [.int .i64, .int .i64, .slice 3]⟩),
  (66, ⟨true, .other, 1, 8, [.nilfn], [.raw]⟩),
  (68, ⟨true, .ptr 37, 1, 8, [.nilp], [.raw]⟩),
  (69, ⟨true, .other, 1, 8, [.nilfn], [.raw]⟩),
  (71, ⟨true, .int .u8, 1, 1, [.int .u8 0], [.int .u8]⟩),
  (72, ⟨true, .int .u8, 1, 1, [.int .u8 0], [.int .u8]⟩),
  (74, ⟨true, .struct [(0, 71), (1, 72), (2, 2), (3, 3), (4, 3), (5, 3), (6, 2), (7, 2), (8, 55)], 9, 80, [.int .u8 0, .int .u8 0, .int .i64 0, .int .i64 0, .int .i64 0, .int .i64 0, .int .i64 0, .int .i64 0, .nilsl], [.int .u8, .int .u8, .int .i64, .int .i64, .int .i64, .int .i64, .int .i64, .int .i64, .slice 74]⟩),
  (78, ⟨true, .struct [(0, 23), (1, 61)], 22, 296, [.nilsl, .int .u8 0, .int .i64 0, .int .i64 0, .int .i64 0, .int .i64 0, .int .i64 0, .bool false, .bool false, .bool false, .bool false, .bool false, .int .u8 0, .nilsl, .nilsl, .nilsl, .nilsl, .nilsl, .nilsl, .nilsl, .nilsl, .nilsl], [.slice 3, .int .u8, .int .i64, .int .i64, .int .i64, .int .i64, .int .i64, .bool, .bool, .bool, .bool, .bool, .int .u8, .slice 74, .slice 74, .slice 110, .slice 110, .slice 3, .slice 61, .slice 81, .slice 78, .slice 134]⟩),
  (81, ⟨true, .struct [(0, 61), (21, 61)], 42, 544, [.int .u8 0, .int .i64 0, .int .i64 0, .int .i64 0, .int .i64 0, .int .i64 0, .bool false, .bool false, .bool false, .bool false, .bool false, .int .u8 0, .nilsl, .nilsl, .nilsl, .nilsl, .nilsl, .nilsl, .nilsl, .nilsl, .nilsl, .int .u8 0, .int .i64 0, .int .i64 0, .int .i64 0, .int .i64 0, .int .i64 0, .bool false, .bool false, .bool false, .bool false, .bool false, .int .u8 0, .nilsl, .nilsl, .nilsl, .nilsl, .nilsl, .nilsl, .nilsl, .nilsl, .nilsl], [.int .u8, .int .i64, .int .i64, .int .i64, .int .i64, .int .i64, .bool, .bool, .bool, .bool, .bool, .int .u8, .slice 74, .slice 74, .slice 110, .slice 110, .slice 3, .slice 61, .slice 81, .slice 78, .slice 134, .int .u8, .int .i64, .int .i64, .int .i64, .int .i64, .int .i64, .bool, .bool, .bool, .bool, .bool, .int .u8, .slice 74, .slice 74, .slice 110, .slice 110, .slice 3, .slice 61, .slice 81, .slice 78, .slice 134]⟩),
  (84, ⟨true, .struct [(0, 3), (1, 2), (2, 2), (3, 4), (4, 23)], 5, 56, [.int .i64 0, .int .i64 0, .int .i64 0, .bool false, .nilsl], [.int .i64, .int .i64, .int .i64, .bool, .slice 3]⟩),
  (86, ⟨true, .other, 1, 8, [.nilfn], [.raw]⟩),
  (87, ⟨true, .slice 37, 1, 24, [.nilsl], [.slice 37]⟩),
  (91, ⟨true, .slice 94, 1, 24, [.nilsl], [.slice 94]⟩),
  (92, ⟨true, .other, 1, 0, [.top], [.raw]⟩),
  (94, ⟨true, .ptr 102, 1, 8, [.nilp], [.raw]⟩),
  (96, ⟨true, .struct [(0, 61), (21, 3)], 22, 280, [.int .u8 0, .int .i64 0, .int .i64 0, .int .i64 0, .int .i64 0, .int .i64 0, .bool false, .bool false, .bool false, .bool false, .bool false, .int .u8 0, .nilsl, .nilsl, .nilsl, .nilsl, .nilsl, .nilsl, .nilsl, .nilsl, .nilsl, .int .i64 0], [.int .u8, .int .i64, .int .i64, .int .i64, .int .i64, .int .i64, .bool, .bool, .bool, .bool, .bool, .int .u8, .slice 74, .slice 74, .slice 110, .slice 110, .slice 3, .slice 61, .slice 81, .slice 78, .slice 134, .int .i64]⟩),
  (97, ⟨true, .slice 96, 1, 24, [.nilsl], [.slice 96]⟩),
  (99, ⟨true, .struct [(0, 96), (22, 97), (23, 4), (24, 4)], 25, 312, [.int .u8 0, .int .i64 0, .int .i64 0, .int .i64 0, .int .i64 0, .int .i64 0, .bool false, .bool false, .bool false, .bool false, .bool false, .int .u8 0, .nilsl, .nilsl, .nilsl, .nilsl, .nilsl, .nilsl, .nilsl, .nilsl, .nilsl, .int .i64 0, .nilsl, .bool false, .bool false], [.int .u8, .int .i64, .int .i64, .int .i64, .int .i64, .int .i64, .bool, .bool, .bool, .bool, .bool, .int .u8, .slice 74, .slice 74, .slice 110, .slice 110, .slice 3, .slice 61, .slice 81, .slice 78, .slice 134, .int .i64, .slice 96, .bool, .bool]⟩),
  (100, ⟨true, .slice 23, 1, 24, [.nilsl], [.slice 23]⟩),
  (102, ⟨true, .struct [(0, 37), (4, 3), (5, 3), (6, 99), (31, 96), (53, 97), (54, 3), (55, 41), (62, 100)], 63, 816, [.nilsl, .int .i64 0, .nilsl, .nilsl, .int .i64 0, .int .i64 0, .int .u8 0, .int .i64 0, .int .i64 0, .int .i64 0, .int .i64 0, .int .i64 0, .bool false, .bool false, .bool false, .bool false, .bool false, .int .u8 0, .nilsl, .nilsl, .nilsl, .nilsl, .nilsl, .nilsl, .nilsl, .nilsl, .nilsl, .int .i64 0, .nilsl, .bool false, .bool false, .int .u8 0, .int .i64 0, .int .i64 0, .int .i64 0, .int .i64 0, .int .i64 0, .bool false, .bool false, .bool false, .bool false, .bool false, .int .u8 0, .nilsl, .nilsl, .nilsl, .nilsl, .nilsl, .nilsl, .nilsl, .nilsl, .nilsl, .int .i64 0, .nilsl, .int .i64 0, .int .i64 0, .int .i64 0, .int .i64 0, .int .i64 0, .int .i64 0, .int .i64 0, .nilsl, .nilsl], [.slice 84, .int .i64, .slice 63, .slice 104, .int .i64, .int .i64, .int .u8, .int .i64, .int .i64, .int .i64, .int .i64, .int .i64, .bool, .bool, .bool, .bool, .bool, .int .u8, .slice 74, .slice 74, .slice 110, .slice 110, .slice 3, .slice 61, .slice 81, .slice 78, .slice 134, .int .i64, .slice 96, .bool, .bool, .int .u8, .int .i64, .int .i64, .int .i64, .int .i64, .int .i64, .bool, .bool, .bool, .bool, .bool, .int .u8, .slice 74, .slice 74, .slice 110, .slice 110, .slice 3, .slice 61, .slice 81, .slice 78, .slice 134, .int .i64, .slice 96, .int .i64, .int .i64, .int .i64, .int .i64, .int .i64, .int .i64, .int .i64, .slice 43, .slice 23]⟩),
  (104, ⟨true, .struct [(0, 3), (1, 23), (2, 55)], 3, 56, [.int .i64 0, .nilsl, .nilsl], [.int .i64, .slice 3, .slice 74]⟩),
  (108, ⟨true, .int .u8, 1, 1, [.int .u8 0], [.int .u8]⟩),
  (110, ⟨true, .struct [(0, 108), (1, 3), (2, 3), (3, 3), (4, 55)], 5, 56, [.int .u8 0, .int .i64 0, .int .i64 0, .int .i64 0, .nilsl], [.int .u8, .int .i64, .int .i64, .int .i64, .slice 74]⟩),
  (112, ⟨true, .slice 137, 1, 24, [.nilsl], [.slice 137]⟩),
  (113, ⟨true, .other, 1, 0, [.top], [.raw]⟩),
  (116, ⟨true, .struct [(0, 4), (1, 4), (2, 23), (3, 2), (4, 2)], 5, 48, [.bool false, .bool false, .nilsl, .int .i64 0, .int .i64 0], [.bool, .bool, .slice 3, .int .i64, .int .i64]⟩),
  (117, ⟨true, .other, 1, 0, [.top], [.raw]⟩),
  (119, ⟨true, .slice 116, 1, 24, [.nilsl], [.slice 116]⟩),
  (121, ⟨true, .struct [(0, 33), (1, 119), (2, 3)], 3, 56, [.nilsl, .nilsl, .int .i64 0], [.slice 84, .slice 116, .int .i64]⟩),
  (126, ⟨true, .struct [(0, 37), (4, 112), (5, 3), (6, 23), (7, 23), (8, 23), (9, 23), (10, 23), (11, 4), (12, 4), (13, 4), (14, 3), (15, 3)], 16, 256, [.nilsl, .int .i64 0, .nilsl, .nilsl, .nilsl, .int .i64 0, .nilsl, .nilsl, .nilsl, .nilsl, .nilsl, .bool false, .bool false, .bool false, .int .i64 0, .int .i64 0], [.slice 84, .int .i64, .slice 63, .slice 104, .slice 137, .int .i64, .slice 3, .slice 3, .slice 3, .slice 3, .slice 3, .bool, .bool, .bool, .int .i64, .int .i64]⟩),
  (131, ⟨true, .array 5 24, 5, 40, [.nilfn, .nilfn, .nilfn, .nilfn, .nilfn], [.raw, .raw, .raw, .raw, .raw]⟩),
  (132, ⟨true, .int .u8, 1, 1, [.int .u8 0], [.int .u8]⟩),
  (134, ⟨true, .struct [(0, 132), (1, 74), (10, 3), (11, 55), (12, 61), (33, 61)], 54, 664, [.int .u8 0, .int .u8 0, .int .u8 0, .int .i64 0, .int .i64 0, .int .i64 0, .int .i64 0, .int .i64 0, .int .i64 0, .nilsl, .int .i64 0, .nilsl, .int .u8 0, .int .i64 0, .int .i64 0, .int .i64 0, .int .i64 0, .int .i64 0, .bool false, .bool false, .bool false, .bool false, .bool false, .int .u8 0, .nilsl, .nilsl, .nilsl, .nilsl, .nilsl, .nilsl, .nilsl, .nilsl, .nilsl, .int .u8 0, .int .i64 0, .int .i64 0, .int .i64 0, .int .i64 0, .int .i64 0, .bool false, .bool false, .bool false, .bool false, .bool false, .int .u8 0, .nilsl, .nilsl, .nilsl, .nilsl, .nilsl, .nilsl, .nilsl, .nilsl, .nilsl], [.int .u8, .int .u8, .int .u8, .int .i64, .int .i64, .int .i64, .int .i64, .int .i64, .int .i64, .slice 74, .int .i64, .slice 74, .int .u8, .int .i64, .int .i64, .int .i64, .int .i64, .int .i64, .bool, .bool, .bool, .bool, .bool, .int .u8, .slice 74, .slice 74, .slice 110, .slice 110, .slice 3, .slice 61, .slice 81, .slice 78, .slice 134, .int .u8, .int .i64, .int .i64, .int .i64, .int .i64, .int .i64, .bool, .bool, .bool, .bool, .bool, .int .u8, .slice 74, .slice 74, .slice 110, .slice 110, .slice 3, .slice 61, .slice 81, .slice 78, .slice 134]⟩),
  (137, ⟨true, .struct [(0, 3), (1, 3), (2, 3)], 3, 24, [.int .i64 0, .int .i64 0, .int .i64 0], [.int .i64, .int .i64, .int .i64]⟩),
  (140, ⟨true, .struct [(0, 23), (1, 23)], 2, 48, [.nilsl, .nilsl], [.slice 3, .slice 3]⟩),
  (143, ⟨true, .other, 1, 8, [.nilfn], [.raw]⟩),
  (145, ⟨true, .slice 190, 1, 24, [.nilsl], [.slice 190]⟩),
  (146, ⟨true, .other, 1, 0, [.top], [.raw]⟩),
  (148, ⟨true, .ptr 153, 1, 8, [.nilp], [.raw]⟩),
  (150, ⟨true, .struct [(0, 33), (1, 3)], 2, 32, [.nilsl, .int .i64 0], [.slice 84, .int .i64]⟩),
  (151, ⟨true, .map 3 3, 1, 8, [.nilmp], [.raw]⟩),
  (153, ⟨true, .struct [(0, 150), (2, 37), (6, 145), (7, 3), (8, 151)], 9, 152, [.nilsl, .int .i64 0, .nilsl, .int .i64 0, .nilsl, .nilsl, .nilsl, .int .i64 0, .nilmp], [.slice 84, .int .i64, .slice 84, .int .i64, .slice 63, .slice 104, .slice 190, .int .i64, .raw]⟩),
  (155, ⟨true, .struct [(0, 4), (1, 4), (2, 23), (3, 2), (4, 2)], 5, 48, [.bool false, .bool false, .nilsl, .int .i64 0, .int .i64 0], [.bool, .bool, .slice 3, .int .i64, .int .i64]⟩),
  (156, ⟨true, .other, 1, 0, [.top], [.raw]⟩),
  (159, ⟨true, .struct [(0, 148), (1, 3), (2, 23), (3, 23), (4, 23), (5, 23), (6, 23), (7, 4), (8, 4), (9, 4), (10, 3), (11, 3)], 12, 160, [.nilp, .int .i64 0, .nilsl, .nilsl, .nilsl, .nilsl, .nilsl, .bool false, .bool false, .bool false, .int .i64 0, .int .i64 0], [.raw, .int .i64, .slice 3, .slice 3, .slice 3, .slice 3, .slice 3, .bool, .bool, .bool, .int .i64, .int .i64]⟩),
  (162, ⟨true, .other, 1, 8, [.nilfn], [.raw]⟩),
  (164, ⟨true, .other, 1, 8, [.nilfn], [.raw]⟩),
  (165, ⟨true, .other, 1, 8, [.nilfn], [.raw]⟩),
  (168, ⟨true, .other, 1, 8, [.nilfn], [.raw]⟩),
  (169, ⟨true, .other, 1, 8, [.nilfn], [.raw]⟩),
  (171, ⟨true, .other, 1, 8, [.nilfn], [.raw]⟩),
  (172, ⟨true, .other, 1, 8, [.nilfn], [.raw]⟩),
  (173, ⟨true, .other, 1, 8, [.nilfn], [.raw]⟩),
  (180, ⟨true, .other, 1, 8, [.nilfn], [.raw]⟩),
  (182, ⟨true, .other, 1, 8, [.nilfn], [.raw]⟩),
  (185, ⟨true, .other, 1, 8, [.nilfn], [.raw]⟩),
  (190, ⟨true, .struct [(0, 3), (1, 3), (2, 3)], 3, 24, [.int .i64 0, .int .i64 0, .int .i64 0], [.int .i64, .int .i64, .int .i64]⟩),
  (192, ⟨true, .ptr 3, 1, 8, [.nilp], [.raw]⟩),
  (202, ⟨true, .other, 1, 0, [.top], [.raw]⟩),
  (211, ⟨true, .other, 1, 8, [.nilfn], [.raw]⟩),
  (213, ⟨true, .int .u64, 1, 8, [.int .u64 0], [.int .u64]⟩),
  (214, ⟨true, .other, 1, 0, [.top], [.raw]⟩),
  (216, ⟨true, .map 3 4, 1, 8, [.nilmp], [.raw]⟩),
  (217, ⟨true, .slice 155, 1, 24, [.nilsl], [.slice 155]⟩),
  (218, ⟨true, .other, 1, 0, [.top], [.raw]⟩),
  (226, ⟨true, .map 9 4, 1, 8, [.nilmp], [.raw]⟩),
  (229, ⟨true, .map 132 3, 1, 8, [.nilmp], [.raw]⟩),
  (233, ⟨true, .int .u32, 1, 4, [.int .u32 0], [.int .u32]⟩),
  (234, ⟨true, .other, 1, 0, [.top], [.raw]⟩),
  (236, ⟨true, .int .u64, 1, 8, [.int .u64 0], [.int .u64]⟩),
  (237, ⟨true, .other, 1, 0, [.top], [.raw]⟩),
  (239, ⟨true, .slice 1, 1, 24, [.nilsl], [.slice 1]⟩),
  (240, ⟨true, .other, 1, 8, [.nilfn], [.raw]⟩),
  (244, ⟨true, .other, 1, 8, [.nilfn], [.raw]⟩),
  (246, ⟨true, .other, 1, 8, [.nilfn], [.raw]⟩),
  (247, ⟨true, .other, 1, 8, [.nilfn], [.raw]⟩),
  (248, ⟨true, .other, 1, 8, [.nilfn], [.raw]⟩),
  (256, ⟨true, .int .i64, 1, 8, [.int .i64 0], [.int .i64]⟩),
  (257, ⟨true, .other, 1, 0, [.top], [.raw]⟩),
  (260, ⟨true, .other, 1, 0, [.top], [.raw]⟩),
  (264, ⟨true, .int .u64, 1, 8, [.int .u64 0], [.int .u64]⟩),
  (269, ⟨true, .ptr 264, 1, 8, [.nilp], [.raw]⟩),
  (270, ⟨true, .other, 1, 0, [.top], [.raw]⟩)]
noncomputable def X : Cx := ⟨Tryz.prog, fun t => vTI (lookTI tiL t), lookS siteL, fun _ => .top, lookE [43, 190], false, fun d t => lookVw [(28, 23), (41, 145), (44, 145), (56, 23), (105, 97), (123, 97), (133, 97)] d t, none⟩
theorem hX : X.Okb := cx_okv (l := tiL) (el := [43, 190]) (fun u h => by cases h) (fun _ => .inl rfl) (by kernel_rfl) ⟨⟨by kernel_rfl, rfl⟩, ⟨by kernel_rfl, rfl⟩, ⟨by kernel_rfl, rfl⟩, ⟨by kernel_rfl, rfl⟩, ⟨by kernel_rfl, rfl⟩, ⟨by kernel_rfl, rfl⟩, ⟨by kernel_rfl, rfl⟩, ⟨by kernel_rfl, rfl⟩, ⟨by kernel_rfl, rfl⟩, ⟨by kernel_rfl, rfl⟩, ⟨by kernel_rfl, rfl⟩, ⟨by kernel_rfl, rfl⟩, ⟨by kernel_rfl, rfl⟩, ⟨by kernel_rfl, rfl⟩, ⟨by kernel_rfl, rfl⟩, ⟨by kernel_rfl, rfl⟩, ⟨by kernel_rfl, rfl⟩, ⟨by kernel_rfl, rfl⟩, ⟨by kernel_rfl, rfl⟩, ⟨by kernel_rfl, rfl⟩, ⟨by kernel_rfl, rfl⟩, ⟨by kernel_rfl, rfl⟩, ⟨by kernel_rfl, rfl⟩, ⟨by kernel_rfl, rfl⟩, ⟨by kernel_rfl, rfl⟩, ⟨by kernel_rfl, rfl⟩, ⟨by kernel_rfl, rfl⟩, ⟨by kernel_rfl, rfl⟩, ⟨by kernel_rfl, rfl⟩, ⟨by kernel_rfl, rfl⟩, ⟨by kernel_rfl, rfl⟩, ⟨by kernel_rfl, rfl⟩, ⟨by kernel_rfl, rfl⟩, ⟨by kernel_rfl, rfl⟩, ⟨by kernel_rfl, rfl⟩, ⟨by kernel_rfl, rfl⟩, ⟨by kernel_rfl, rfl⟩, ⟨by kernel_rfl, rfl⟩, ⟨by kernel_rfl, rfl⟩, ⟨by kernel_rfl, rfl⟩, ⟨by kernel_rfl, rfl⟩, ⟨by kernel_rfl, rfl⟩, ⟨by kernel_rfl, rfl⟩, ⟨by kernel_rfl, rfl⟩, ⟨by kernel_rfl, rfl⟩, ⟨by kernel_rfl, rfl⟩, ⟨by kernel_rfl, rfl⟩, ⟨by kernel_rfl, rfl⟩, ⟨by kernel_rfl, rfl⟩, ⟨by kernel_rfl, rfl⟩, ⟨by kernel_rfl, rfl⟩, ⟨by kernel_rfl, rfl⟩, ⟨by kernel_rfl, rfl⟩, ⟨by kernel_rfl, rfl⟩, ⟨by kernel_rfl, rfl⟩, ⟨by kernel_rfl, rfl⟩, ⟨by kernel_rfl, rfl⟩, ⟨by kernel_rfl, rfl⟩, ⟨by kernel_rfl, rfl⟩, ⟨by kernel_rfl, rfl⟩, ⟨by kernel_rfl, rfl⟩, ⟨by kernel_rfl, rfl⟩, ⟨by kernel_rfl, rfl⟩, ⟨by kernel_rfl, rfl⟩, ⟨by kernel_rfl, rfl⟩, ⟨by kernel_rfl, rfl⟩, ⟨by kernel_rfl, rfl⟩, ⟨by kernel_rfl, rfl⟩, ⟨by kernel_rfl, rfl⟩, ⟨by kernel_rfl, rfl⟩, ⟨by kernel_rfl, rfl⟩, ⟨by kernel_rfl, rfl⟩, ⟨by kernel_rfl, rfl⟩, ⟨by kernel_rfl, rfl⟩, ⟨by kernel_rfl, rfl⟩, ⟨by kernel_rfl, rfl⟩, ⟨by kernel_rfl, rfl⟩, ⟨by kernel_rfl, rfl⟩, ⟨by kernel_rfl, rfl⟩, ⟨by kernel_rfl, rfl⟩, ⟨by kernel_rfl, rfl⟩, ⟨by kernel_rfl, rfl⟩, ⟨by kernel_rfl, rfl⟩, ⟨by kernel_rfl, rfl⟩, ⟨by kernel_rfl, rfl⟩, ⟨by kernel_rfl, rfl⟩, ⟨by kernel_rfl, rfl⟩, ⟨by kernel_rfl, rfl⟩, ⟨by kernel_rfl, rfl⟩, ⟨by kernel_rfl, rfl⟩, ⟨by kernel_rfl, rfl⟩, ⟨by kernel_rfl, rfl⟩, ⟨by kernel_rfl, rfl⟩, ⟨by kernel_rfl, rfl⟩, ⟨by kernel_rfl, rfl⟩, ⟨by kernel_rfl, rfl⟩, ⟨by kernel_rfl, rfl⟩, ⟨by kernel_rfl, rfl⟩, ⟨by kernel_rfl, rfl⟩, ⟨by kernel_rfl, rfl⟩, ⟨by kernel_rfl, rfl⟩, ⟨by kernel_rfl, rfl⟩, ⟨by kernel_rfl, rfl⟩, ⟨by kernel_rfl, rfl⟩, ⟨by kernel_rfl, rfl⟩, ⟨by kernel_rfl, rfl⟩, ⟨by kernel_rfl, rfl⟩, ⟨by kernel_rfl, rfl⟩, ⟨by kernel_rfl, rfl⟩, ⟨by kernel_rfl, rfl⟩, ⟨by kernel_rfl, rfl⟩, ⟨by kernel_rfl, rfl⟩, ⟨by kernel_rfl, rfl⟩, ⟨by kernel_rfl, rfl⟩, ⟨by kernel_rfl, rfl⟩, ⟨by kernel_rfl, rfl⟩, trivial⟩ ⟨(by show eqOk Tryz.prog _ = true; kernel_rfl), (by show eqOk Tryz.prog _ = true; kernel_rfl), trivial⟩
theorem hG : GlobFree X := fun g {ρ ρ' F w v} _ => .top v
theorem hb6 : Tryz.f6.body = some code6 := by kernel_rfl
theorem hb15 : Tryz.f15.body = some code15 := by kernel_rfl
theorem hb29 : Tryz.f29.body = some code29 := by kernel_rfl
theorem hb19 : Tryz.f19.body = some code19 := by kernel_rfl
theorem hb21 : Tryz.f21.body = some code21 := by kernel_rfl
theorem hb24 : Tryz.f24.body = some code24 := by kernel_rfl
theorem hb17 : Tryz.f17.body = some code17 := by kernel_rfl
theorem hb49 : Tryz.f49.body = some code49 := by kernel_rfl
theorem hb8 : Tryz.f8.body = some code8 := by kernel_rfl
theorem hb48 : Tryz.f48.body = some code48 := by kernel_rfl
theorem hb59 : Tryz.f59.body = some code59 := by kernel_rfl
theorem hb83 : Tryz.f83.body = some code83 := by kernel_rfl
theorem hb127 : Tryz.f127.body = some code127 := by kernel_rfl
theorem hb129 : Tryz.f129.body = some code129 := by kernel_rfl
theorem hb128 : Tryz.f128.body = some code128 := by kernel_rfl
theorem hb161 : Tryz.f161.body = some code161 := by kernel_rfl
theorem hb84 : Tryz.f84.body = some code84 := by kernel_rfl
theorem hb130 : Tryz.f130.body = some code130 := by kernel_rfl
theorem hb162 : Tryz.f162.body = some code162 := by kernel_rfl
theorem hb193 : Tryz.f193.body = some code193 := by kernel_rfl
theorem hb194 : Tryz.f194.body = some code194 := by kernel_rfl
theorem hb131 : Tryz.f131.body = some code131 := by kernel_rfl
theorem hb85 : Tryz.f85.body = some code85 := by kernel_rfl
theorem hb132 : Tryz.f132.body = some code132 := by kernel_rfl
theorem hb133 : Tryz.f133.body = some code133 := by kernel_rfl
theorem hb163 : Tryz.f163.body = some code163 := by kernel_rfl
theorem hb195 : Tryz.f195.body = some code195 := by kernel_rfl
theorem hb196 : Tryz.f196.body = some code196 := by kernel_rfl
theorem hb197 : Tryz.f197.body = some code197 := by kernel_rfl
theorem hb198 : Tryz.f198.body = some code198 := by kernel_rfl
theorem hb199 : Tryz.f199.body = some code199 := by kernel_rfl
theorem hb200 : Tryz.f200.body = some code200 := by kernel_rfl
theorem hb201 : Tryz.f201.body = some code201 := by kernel_rfl
theorem hb164 : Tryz.f164.body = some code164 := by kernel_rfl
theorem hb165 : Tryz.f165.body = some code165 := by kernel_rfl
theorem hb166 : Tryz.f166.body = some code166 := by kernel_rfl
theorem hb167 : Tryz.f167.body = some code167 := by kernel_rfl
theorem hb86 : Tryz.f86.body = some code86 := by kernel_rfl
theorem hb168 : Tryz.f168.body = some code168 := by kernel_rfl
theorem hb169 : Tryz.f169.body = some code169 := by kernel_rfl
theorem hb170 : Tryz.f170.body = some code170 := by kernel_rfl
theorem hb202 : Tryz.f202.body = some code202 := by kernel_rfl
theorem hb225 : Tryz.f225.body = some code225 := by kernel_rfl
theorem hb237 : Tryz.f237.body = some code237 := by kernel_rfl
theorem hb238 : Tryz.f238.body = some code238 := by kernel_rfl
theorem hb224 : Tryz.f224.body = some code224 := by kernel_rfl
theorem hb228 : Tryz.f228.body = some code228 := by kernel_rfl
theorem hb234 : Tryz.f234.body = some code234 := by kernel_rfl
theorem hb246 : Tryz.f246.body = some code246 := by kernel_rfl
theorem hb229 : Tryz.f229.body = some code229 := by kernel_rfl
theorem hb241 : Tryz.f241.body = some code241 := by kernel_rfl
theorem hb230 : Tryz.f230.body = some code230 := by kernel_rfl
theorem hb242 : Tryz.f242.body = some code242 := by kernel_rfl
theorem hb243 : Tryz.f243.body = some code243 := by kernel_rfl
theorem hb231 : Tryz.f231.body = some code231 := by kernel_rfl
theorem hb244 : Tryz.f244.body = some code244 := by kernel_rfl
theorem hb245 : Tryz.f245.body = some code245 := by kernel_rfl
theorem hb247 : Tryz.f247.body = some code247 := by kernel_rfl
theorem hb232 : Tryz.f232.body = some code232 := by kernel_rfl
theorem hb233 : Tryz.f233.body = some code233 := by kernel_rfl
theorem hb235 : Tryz.f235.body = some code235 := by kernel_rfl
theorem hb236 : Tryz.f236.body = some code236 := by kernel_rfl
theorem hb203 : Tryz.f203.body = some code203 := by kernel_rfl
theorem hb171 : Tryz.f171.body = some code171 := by kernel_rfl
theorem hb87 : Tryz.f87.body = some code87 := by kernel_rfl
theorem hb103 : Tryz.f103.body = some code103 := by kernel_rfl
theorem hb150 : Tryz.f150.body = some code150 := by kernel_rfl
theorem hb134 : Tryz.f134.body = some code134 := by kernel_rfl
theorem hb92 : Tryz.f92.body = some code92 := by kernel_rfl
theorem hb147 : Tryz.f147.body = some code147 := by kernel_rfl
theorem hb88 : Tryz.f88.body = some code88 := by kernel_rfl
theorem hb135 : Tryz.f135.body = some code135 := by kernel_rfl
theorem hb172 : Tryz.f172.body = some code172 := by kernel_rfl
theorem hb205 : Tryz.f205.body = some code205 := by kernel_rfl
theorem hb204 : Tryz.f204.body = some code204 := by kernel_rfl
theorem hb206 : Tryz.f206.body = some code206 := by kernel_rfl
theorem hb208 : Tryz.f208.body = some code208 := by kernel_rfl
theorem hb207 : Tryz.f207.body = some code207 := by kernel_rfl
theorem hb209 : Tryz.f209.body = some code209 := by kernel_rfl
theorem hb210 : Tryz.f210.body = some code210 := by kernel_rfl
theorem hb211 : Tryz.f211.body = some code211 := by kernel_rfl
theorem hb212 : Tryz.f212.body = some code212 := by kernel_rfl
theorem hb213 : Tryz.f213.body = some code213 := by kernel_rfl
theorem hb214 : Tryz.f214.body = some code214 := by kernel_rfl
theorem hb215 : Tryz.f215.body = some code215 := by kernel_rfl
theorem hb136 : Tryz.f136.body = some code136 := by kernel_rfl
theorem hb173 : Tryz.f173.body = some code173 := by kernel_rfl
theorem hb137 : Tryz.f137.body = some code137 := by kernel_rfl
theorem hb174 : Tryz.f174.body = some code174 := by kernel_rfl
theorem hb216 : Tryz.f216.body = some code216 := by kernel_rfl
theorem hb226 : Tryz.f226.body = some code226 := by kernel_rfl
theorem hb177 : Tryz.f177.body = some code177 := by kernel_rfl
theorem hb239 : Tryz.f239.body = some code239 := by kernel_rfl
theorem hb217 : Tryz.f217.body = some code217 := by kernel_rfl
theorem hb175 : Tryz.f175.body = some code175 := by kernel_rfl
theorem hb218 : Tryz.f218.body = some code218 := by kernel_rfl
theorem hb219 : Tryz.f219.body = some code219 := by kernel_rfl
theorem hb227 : Tryz.f227.body = some code227 := by kernel_rfl
theorem hb240 : Tryz.f240.body = some code240 := by kernel_rfl
theorem hb176 : Tryz.f176.body = some code176 := by kernel_rfl
theorem hb178 : Tryz.f178.body = some code178 := by kernel_rfl
theorem hb179 : Tryz.f179.body = some code179 := by kernel_rfl
theorem hb180 : Tryz.f180.body = some code180 := by kernel_rfl
theorem hb181 : Tryz.f181.body = some code181 := by kernel_rfl
theorem hb182 : Tryz.f182.body = some code182 := by kernel_rfl
theorem hb187 : Tryz.f187.body = some code187 := by kernel_rfl
theorem hb183 : Tryz.f183.body = some code183 := by kernel_rfl
theorem hb220 : Tryz.f220.body = some code220 := by kernel_rfl
theorem hb221 : Tryz.f221.body = some code221 := by kernel_rfl
theorem hb184 : Tryz.f184.body = some code184 := by kernel_rfl
theorem hb185 : Tryz.f185.body = some code185 := by kernel_rfl
theorem hb222 : Tryz.f222.body = some code222 := by kernel_rfl
theorem hb223 : Tryz.f223.body = some code223 := by kernel_rfl
theorem hb138 : Tryz.f138.body = some code138 := by kernel_rfl
theorem hb186 : Tryz.f186.body = some code186 := by kernel_rfl
theorem hb139 : Tryz.f139.body = some code139 := by kernel_rfl
theorem hb140 : Tryz.f140.body = some code140 := by kernel_rfl
theorem hb142 : Tryz.f142.body = some code142 := by kernel_rfl
theorem hb188 : Tryz.f188.body = some code188 := by kernel_rfl
theorem hb141 : Tryz.f141.body = some code141 := by kernel_rfl
theorem hb144 : Tryz.f144.body = some code144 := by kernel_rfl
theorem hb143 : Tryz.f143.body = some code143 := by kernel_rfl
theorem hb189 : Tryz.f189.body = some code189 := by kernel_rfl
theorem hb60 : Tryz.f60.body = some code60 := by kernel_rfl
theorem hb89 : Tryz.f89.body = some code89 := by kernel_rfl
theorem hb145 : Tryz.f145.body = some code145 := by kernel_rfl
theorem hb69 : Tryz.f69.body = some code69 := by kernel_rfl
theorem hb105 : Tryz.f105.body = some code105 := by kernel_rfl
theorem hb151 : Tryz.f151.body = some code151 := by kernel_rfl
theorem hb61 : Tryz.f61.body = some code61 := by kernel_rfl
theorem hb91 : Tryz.f91.body = some code91 := by kernel_rfl
theorem hb62 : Tryz.f62.body = some code62 := by kernel_rfl
theorem hb93 : Tryz.f93.body = some code93 := by kernel_rfl
theorem hb90 : Tryz.f90.body = some code90 := by kernel_rfl
theorem hb146 : Tryz.f146.body = some code146 := by kernel_rfl
theorem hb63 : Tryz.f63.body = some code63 := by kernel_rfl
theorem hb94 : Tryz.f94.body = some code94 := by kernel_rfl
theorem hb64 : Tryz.f64.body = some code64 := by kernel_rfl
theorem hb95 : Tryz.f95.body = some code95 := by kernel_rfl
theorem hb65 : Tryz.f65.body = some code65 := by kernel_rfl
theorem hb96 : Tryz.f96.body = some code96 := by kernel_rfl
theorem hb66 : Tryz.f66.body = some code66 := by kernel_rfl
theorem hb98 : Tryz.f98.body = some code98 := by kernel_rfl
theorem hb100 : Tryz.f100.body = some code100 := by kernel_rfl
theorem hb99 : Tryz.f99.body = some code99 := by kernel_rfl
theorem hb148 : Tryz.f148.body = some code148 := by kernel_rfl
theorem hb97 : Tryz.f97.body = some code97 := by kernel_rfl
theorem hb102 : Tryz.f102.body = some code102 := by kernel_rfl
theorem hb101 : Tryz.f101.body = some code101 := by kernel_rfl
theorem hb149 : Tryz.f149.body = some code149 := by kernel_rfl
theorem hb67 : Tryz.f67.body = some code67 := by kernel_rfl
theorem hb68 : Tryz.f68.body = some code68 := by kernel_rfl
theorem hb104 : Tryz.f104.body = some code104 := by kernel_rfl
theorem hb11 : Tryz.f11.body = some code11 := by kernel_rfl
theorem hb44 : Tryz.f44.body = some code44 := by kernel_rfl
theorem hb33 : Tryz.f33.body = some code33 := by kernel_rfl
theorem hb45 : Tryz.f45.body = some code45 := by kernel_rfl
theorem hb46 : Tryz.f46.body = some code46 := by kernel_rfl
theorem hb47 : Tryz.f47.body = some code47 := by kernel_rfl
theorem hb42 : Tryz.f42.body = some code42 := by kernel_rfl
theorem hb5 : Tryz.f5.body = some code5 := by kernel_rfl
theorem hb14 : Tryz.f14.body = some code14 := by kernel_rfl
theorem hb16 : Tryz.f16.body = some code16 := by kernel_rfl
theorem hb18 : Tryz.f18.body = some code18 := by kernel_rfl
theorem hb20 : Tryz.f20.body = some code20 := by kernel_rfl
theorem hb22 : Tryz.f22.body = some code22 := by kernel_rfl
theorem hb23 : Tryz.f23.body = some code23 := by kernel_rfl
theorem hb25 : Tryz.f25.body = some code25 := by kernel_rfl
theorem hb26 : Tryz.f26.body = some code26 := by kernel_rfl
theorem hb27 : Tryz.f27.body = some code27 := by kernel_rfl
theorem hb28 : Tryz.f28.body = some code28 := by kernel_rfl
theorem hb30 : Tryz.f30.body = some code30 := by kernel_rfl
theorem hb31 : Tryz.f31.body = some code31 := by kernel_rfl
theorem hb32 : Tryz.f32.body = some code32 := by kernel_rfl
theorem hb34 : Tryz.f34.body = some code34 := by kernel_rfl
theorem hb35 : Tryz.f35.body = some code35 := by kernel_rfl
theorem hb36 : Tryz.f36.body = some code36 := by kernel_rfl
theorem hb37 : Tryz.f37.body = some code37 := by kernel_rfl
theorem hb38 : Tryz.f38.body = some code38 := by kernel_rfl
theorem hb39 : Tryz.f39.body = some code39 := by kernel_rfl
theorem hb40 : Tryz.f40.body = some code40 := by kernel_rfl
theorem hb41 : Tryz.f41.body = some code41 := by kernel_rfl
theorem hb52 : Tryz.f52.body = some code52 := by kernel_rfl
theorem hb70 : Tryz.f70.body = some code70 := by kernel_rfl
theorem hb71 : Tryz.f71.body = some code71 := by kernel_rfl
theorem hb53 : Tryz.f53.body = some code53 := by kernel_rfl
theorem hb72 : Tryz.f72.body = some code72 := by kernel_rfl
theorem hb75 : Tryz.f75.body = some code75 := by kernel_rfl
theorem hb54 : Tryz.f54.body = some code54 := by kernel_rfl
theorem hb73 : Tryz.f73.body = some code73 := by kernel_rfl
theorem hb74 : Tryz.f74.body = some code74 := by kernel_rfl
theorem hb106 : Tryz.f106.body = some code106 := by kernel_rfl
theorem hb107 : Tryz.f107.body = some code107 := by kernel_rfl
theorem hb108 : Tryz.f108.body = some code108 := by kernel_rfl
theorem hb55 : Tryz.f55.body = some code55 := by kernel_rfl
theorem hb109 : Tryz.f109.body = some code109 := by kernel_rfl
theorem hb110 : Tryz.f110.body = some code110 := by kernel_rfl
theorem hb111 : Tryz.f111.body = some code111 := by kernel_rfl
theorem hb56 : Tryz.f56.body = some code56 := by kernel_rfl
theorem hb57 : Tryz.f57.body = some code57 := by kernel_rfl
theorem hb76 : Tryz.f76.body = some code76 := by kernel_rfl
theorem hb77 : Tryz.f77.body = some code77 := by kernel_rfl
theorem hb112 : Tryz.f112.body = some code112 := by kernel_rfl
theorem hb78 : Tryz.f78.body = some code78 := by kernel_rfl
theorem hb113 : Tryz.f113.body = some code113 := by kernel_rfl
theorem hb152 : Tryz.f152.body = some code152 := by kernel_rfl
theorem hb190 : Tryz.f190.body = some code190 := by kernel_rfl
theorem hb191 : Tryz.f191.body = some code191 := by kernel_rfl
theorem hb115 : Tryz.f115.body = some code115 := by kernel_rfl
theorem hb153 : Tryz.f153.body = some code153 := by kernel_rfl
theorem hb117 : Tryz.f117.body = some code117 := by kernel_rfl
theorem hb154 : Tryz.f154.body = some code154 := by kernel_rfl
theorem hb192 : Tryz.f192.body = some code192 := by kernel_rfl
theorem hb114 : Tryz.f114.body = some code114 := by kernel_rfl
theorem hb116 : Tryz.f116.body = some code116 := by kernel_rfl
theorem hb118 : Tryz.f118.body = some code118 := by kernel_rfl
theorem hb119 : Tryz.f119.body = some code119 := by kernel_rfl
theorem hb120 : Tryz.f120.body = some code120 := by kernel_rfl
theorem hb125 : Tryz.f125.body = some code125 := by kernel_rfl
theorem hb156 : Tryz.f156.body = some code156 := by kernel_rfl
theorem hb160 : Tryz.f160.body = some code160 := by kernel_rfl
theorem hb157 : Tryz.f157.body = some code157 := by kernel_rfl
theorem hb158 : Tryz.f158.body = some code158 := by kernel_rfl
theorem hb159 : Tryz.f159.body = some code159 := by kernel_rfl
theorem hb121 : Tryz.f121.body = some code121 := by kernel_rfl
theorem hb155 : Tryz.f155.body = some code155 := by kernel_rfl
theorem hb122 : Tryz.f122.body = some code122 := by kernel_rfl
theorem hb123 : Tryz.f123.body = some code123 := by kernel_rfl
theorem hb79 : Tryz.f79.body = some code79 := by kernel_rfl
theorem hb124 : Tryz.f124.body = some code124 := by kernel_rfl
theorem hb80 : Tryz.f80.body = some code80 := by kernel_rfl
theorem hb126 : Tryz.f126.body = some code126 := by kernel_rfl
theorem hb81 : Tryz.f81.body = some code81 := by kernel_rfl
theorem hb82 : Tryz.f82.body = some code82 := by kernel_rfl
theorem hb58 : Tryz.f58.body = some code58 := by kernel_rfl
theorem hb51 : Tryz.f51.body = some code51 := by kernel_rfl
theorem hb43 : Tryz.f43.body = some code43 := by kernel_rfl
noncomputable def I : List (Nat × FI) := [(6, ⟨code6, ⟨84, 19342813113834066795298815⟩, Tryz.f6.results.toList⟩), (15, ⟨code15, ⟨45, 35184372088831⟩, Tryz.f15.results.toList⟩), (29, ⟨code29, ⟨5, 31⟩, Tryz.f29.results.toList⟩), (19, ⟨code19, ⟨5, 31⟩, Tryz.f19.results.toList⟩), (21, ⟨code21, ⟨11, 2047⟩, Tryz.f21.results.toList⟩), (24, ⟨code24, ⟨5, 31⟩, Tryz.f24.results.toList⟩), (17, ⟨code17, ⟨2, 3⟩, Tryz.f17.results.toList⟩), (49, ⟨code49, ⟨21, 2097151⟩, Tryz.f49.results.toList⟩), (8, ⟨code8, ⟨30, 1073741823⟩, Tryz.f8.results.toList⟩), (48, ⟨code48, ⟨91, 2475880078570760549798248447⟩, Tryz.f48.results.toList⟩), (59, ⟨code59, ⟨196, 100433627766186892221372630771322662657637687111424552206335⟩, Tryz.f59.results.toList⟩), (83, ⟨code83, ⟨85, 38685626227668133590597631⟩, Tryz.f83.results.toList⟩), (127, ⟨code127, ⟨38, 274877906943⟩, Tryz.f127.results.toList⟩), (129, ⟨code129, ⟨17, 131071⟩, Tryz.f129.results.toList⟩), (128, ⟨code128, ⟨9, 511⟩, Tryz.f128.results.toList⟩), (161, ⟨code161, ⟨19, 524287⟩, Tryz.f161.results.toList⟩), (84, ⟨code84, ⟨165, 46768052394588893382517914646921056628989841375231⟩, Tryz.f84.results.toList⟩), (130, ⟨code130, ⟨48, 281474976710655⟩, Tryz.f130.results.toList⟩), (162, ⟨code162, ⟨30, 1073741823⟩, Tryz.f162.results.toList⟩), (193, ⟨code193, ⟨17, 131071⟩, Tryz.f193.results.toList⟩), (194, ⟨code194, ⟨51, 2251799813685247⟩, Tryz.f194.results.toList⟩), (131, ⟨code131, ⟨33, 8589934591⟩, Tryz.f131.results.toList⟩), (85, ⟨code85, ⟨16, 65535⟩, Tryz.f85.results.toList⟩), (132, ⟨code132, ⟨36, 68719476735⟩, Tryz.f132.results.toList⟩), (133, ⟨code133, ⟨380, 2462625387274654950767440006258975862817483704404090416746768337765357610718575663213391640930307227550414249394175⟩, Tryz.f133.results.toList⟩), (163, ⟨code163, ⟨102, 5070602400912917605986812821503⟩, Tryz.f163.results.toList⟩), (195, ⟨code195, ⟨20, 1048575⟩, Tryz.f195.results.toList⟩), (196, ⟨code196, ⟨5, 31⟩, Tryz.f196.results.toList⟩), (197, ⟨code197, ⟨5, 31⟩, Tryz.f197.results.toList⟩), (198, ⟨code198, ⟨5, 31⟩, Tryz.f198.results.toList⟩), (199, ⟨code199, ⟨5, 31⟩, Tryz.f199.results.toList⟩), (200, ⟨code200, ⟨5, 31⟩, Tryz.f200.results.toList⟩), (201, ⟨code201, ⟨8, 255⟩, Tryz.f201.results.toList⟩), (164, ⟨code164, ⟨8, 255⟩, Tryz.f164.results.toList⟩), (165, ⟨code165, ⟨30, 1073741823⟩, Tryz.f165.results.toList⟩), (166, ⟨code166, ⟨57, 144115188075855871⟩, Tryz.f166.results.toList⟩), (167, ⟨code167, ⟨2, 3⟩, Tryz.f167.results.toList⟩), (86, ⟨code86, ⟨16, 65535⟩, Tryz.f86.results.toList⟩), (168, ⟨code168, ⟨2, 3⟩, Tryz.f168.results.toList⟩), (169, ⟨code169, ⟨75, 37778931862957161709567⟩, Tryz.f169.results.toList⟩), (170, ⟨code170, ⟨63, 9223372036854775807⟩, Tryz.f170.results.toList⟩), (202, ⟨code202, ⟨11, 2047⟩, Tryz.f202.results.toList⟩), (225, ⟨code225, ⟨8, 255⟩, Tryz.f225.results.toList⟩), (237, ⟨code237, ⟨19, 524287⟩, Tryz.f237.results.toList⟩), (238, ⟨code238, ⟨25, 33554431⟩, Tryz.f238.results.toList⟩), (224, ⟨code224, ⟨134, 21778071482940061661655974875633165533183⟩, Tryz.f224.results.toList⟩), (228, ⟨code228, ⟨49, 562949953421311⟩, Tryz.f228.results.toList⟩), (234, ⟨code234, ⟨17, 131071⟩, Tryz.f234.results.toList⟩), (246, ⟨code246, ⟨6, 63⟩, Tryz.f246.results.toList⟩), (229, ⟨code229, ⟨56, 72057594037927935⟩, Tryz.f229.results.toList⟩), (241, ⟨code241, ⟨76, 75557863725914323419135⟩, Tryz.f241.results.toList⟩), (230, ⟨code230, ⟨65, 36893488147419103231⟩, Tryz.f230.results.toList⟩), (242, ⟨code242, ⟨7, 127⟩, Tryz.f242.results.toList⟩), (243, ⟨code243, ⟨33, 8589934591⟩, Tryz.f243.results.toList⟩), (231, ⟨code231, ⟨57, 144115188075855871⟩, Tryz.f231.results.toList⟩), (244, ⟨code244, ⟨15, 32767⟩, Tryz.f244.results.toList⟩), (245, ⟨code245, ⟨36, 68719476735⟩, Tryz.f245.results.toList⟩), (247, ⟨code247, ⟨28, 268435455⟩, Tryz.f247.results.toList⟩), (232, ⟨code232, ⟨32, 4294967295⟩, Tryz.f232.results.toList⟩), (233, ⟨code233, ⟨133, 10889035741470030830827987437816582766591⟩, Tryz.f233.results.toList⟩), (235, ⟨code235, ⟨84, 19342813113834066795298815⟩, Tryz.f235.results.toList⟩), (236, ⟨code236, ⟨168, 374144419156711147060143317175368453031918731001855⟩, Tryz.f236.results.toList⟩), (203, ⟨code203, ⟨61, 2305843009213693951⟩, Tryz.f203.results.toList⟩), (171, ⟨code171, ⟨53, 9007199254740991⟩, Tryz.f171.results.toList⟩), (87, ⟨code87, ⟨53, 9007199254740991⟩, Tryz.f87.results.toList⟩), (103, ⟨code103, ⟨9, 511⟩, Tryz.f103.results.toList⟩), (150, ⟨code150, ⟨19, 524287⟩, Tryz.f150.results.toList⟩), (134, ⟨code134, ⟨10, 1023⟩, Tryz.f134.results.toList⟩), (92, ⟨code92, ⟨9, 511⟩, Tryz.f92.results.toList⟩), (147, ⟨code147, ⟨19, 524287⟩, Tryz.f147.results.toList⟩), (88, ⟨code88, ⟨150, 1427247692705959881058285969449495136382746623⟩, Tryz.f88.results.toList⟩), (135, ⟨code135, ⟨214, 26328072917139296674479506920917608079723773850137277813577744383⟩, Tryz.f135.results.toList⟩), (172, ⟨code172, ⟨158, 365375409332725729550921208179070754913983135743⟩, Tryz.f172.results.toList⟩), (205, ⟨code205, ⟨65, 36893488147419103231⟩, Tryz.f205.results.toList⟩), (204, ⟨code204, ⟨32, 4294967295⟩, Tryz.f204.results.toList⟩), (206, ⟨code206, ⟨26, 67108863⟩, Tryz.f206.results.toList⟩), (208, ⟨code208, ⟨38, 274877906943⟩, Tryz.f208.results.toList⟩), (207, ⟨code207, ⟨32, 4294967295⟩, Tryz.f207.results.toList⟩), (209, ⟨code209, ⟨32, 4294967295⟩, Tryz.f209.results.toList⟩), (210, ⟨code210, ⟨17, 131071⟩, Tryz.f210.results.toList⟩), (211, ⟨code211, ⟨17, 131071⟩, Tryz.f211.results.toList⟩), (212, ⟨code212, ⟨45, 35184372088831⟩, Tryz.f212.results.toList⟩), (213, ⟨code213, ⟨32, 4294967295⟩, Tryz.f213.results.toList⟩), (214, ⟨code214, ⟨32, 4294967295⟩, Tryz.f214.results.toList⟩), (215, ⟨code215, ⟨32, 4294967295⟩, Tryz.f215.results.toList⟩), (136, ⟨code136, ⟨38, 274877906943⟩, Tryz.f136.results.toList⟩), (173, ⟨code173, ⟨21, 2097151⟩, Tryz.f173.results.toList⟩), (137, ⟨code137, ⟨346, 143343663499379469475676305956380433799785311823017570233599302461682679755530300504376159569382855409663⟩, Tryz.f137.results.toList⟩), (174, ⟨code174, ⟨145, 44601490397061246283071436545296723011960831⟩, Tryz.f174.results.toList⟩), (216, ⟨code216, ⟨25, 33554431⟩, Tryz.f216.results.toList⟩), (226, ⟨code226, ⟨33, 8589934591⟩, Tryz.f226.results.toList⟩), (177, ⟨code177, ⟨39, 549755813887⟩, Tryz.f177.results.toList⟩), (239, ⟨code239, ⟨8, 255⟩, Tryz.f239.results.toList⟩), (217, ⟨code217, ⟨8, 255⟩, Tryz.f217.results.toList⟩), (175, ⟨code175, ⟨22, 4194303⟩, Tryz.f175.results.toList⟩), (218, ⟨code218, ⟨17, 131071⟩, Tryz.f218.results.toList⟩), (219, ⟨code219, ⟨37, 137438953471⟩, Tryz.f219.results.toList⟩), (227, ⟨code227, ⟨9, 511⟩, Tryz.f227.results.toList⟩), (240, ⟨code240, ⟨8, 255⟩, Tryz.f240.results.toList⟩), (176, ⟨code176, ⟨18, 262143⟩, Tryz.f176.results.toList⟩), (178, ⟨code178, ⟨19, 524287⟩, Tryz.f178.results.toList⟩), (179, ⟨code179, ⟨34, 17179869183⟩, Tryz.f179.results.toList⟩), (180, ⟨code180, ⟨39, 549755813887⟩, Tryz.f180.results.toList⟩), (181, ⟨code181, ⟨39, 549755813887⟩, Tryz.f181.results.toList⟩), (182, ⟨code182, ⟨52, 4503599627370495⟩, Tryz.f182.results.toList⟩), (187, ⟨code187, ⟨6, 63⟩, Tryz.f187.results.toList⟩), (183, ⟨code183, ⟨98, 316912650057057350374175801343⟩, Tryz.f183.results.toList⟩), (220, ⟨code220, ⟨30, 1073741823⟩, Tryz.f220.results.toList⟩), (221, ⟨code221, ⟨36, 68719476735⟩, Tryz.f221.results.toList⟩), (184, ⟨code184, ⟨17, 131071⟩, Tryz.f184.results.toList⟩), (185, ⟨code185, ⟨87, 154742504910672534362390527⟩, Tryz.f185.results.toList⟩), (222, ⟨code222, ⟨46, 70368744177663⟩, Tryz.f222.results.toList⟩), (223, ⟨code223, ⟨32, 4294967295⟩, Tryz.f223.results.toList⟩), (138, ⟨code138, ⟨146, 89202980794122492566142873090593446023921663⟩, Tryz.f138.results.toList⟩), (186, ⟨code186, ⟨7, 127⟩, Tryz.f186.results.toList⟩), (139, ⟨code139, ⟨161, 2923003274661805836407369665432566039311865085951⟩, Tryz.f139.results.toList⟩), (140, ⟨code140, ⟨15, 32767⟩, Tryz.f140.results.toList⟩), (142, ⟨code142, ⟨10, 1023⟩, Tryz.f142.results.toList⟩), (188, ⟨code188, ⟨8, 255⟩, Tryz.f188.results.toList⟩), (141, ⟨code141, ⟨13, 8191⟩, Tryz.f141.results.toList⟩), (144, ⟨code144, ⟨8, 255⟩, Tryz.f144.results.toList⟩), (143, ⟨code143, ⟨9, 511⟩, Tryz.f143.results.toList⟩), (189, ⟨code189, ⟨19, 524287⟩, Tryz.f189.results.toList⟩), (60, ⟨code60, ⟨115, 41538374868278621028243970633760767⟩, Tryz.f60.results.toList⟩), (89, ⟨code89, ⟨77, 151115727451828646838271⟩, Tryz.f89.results.toList⟩), (145, ⟨code145, ⟨14, 16383⟩, Tryz.f145.results.toList⟩), (69, ⟨code69, ⟨13, 8191⟩, Tryz.f69.results.toList⟩), (105, ⟨code105, ⟨4, 15⟩, Tryz.f105.results.toList⟩), (151, ⟨code151, ⟨76, 75557863725914323419135⟩, Tryz.f151.results.toList⟩), (61, ⟨code61, ⟨9, 511⟩, Tryz.f61.results.toList⟩), (91, ⟨code91, ⟨8, 255⟩, Tryz.f91.results.toList⟩), (62, ⟨code62, ⟨37, 137438953471⟩, Tryz.f62.results.toList⟩), (93, ⟨code93, ⟨6, 63⟩, Tryz.f93.results.toList⟩), (90, ⟨code90, ⟨9, 511⟩, Tryz.f90.results.toList⟩), (146, ⟨code146, ⟨19, 524287⟩, Tryz.f146.results.toList⟩), (63, ⟨code63, ⟨168, 374144419156711147060143317175368453031918731001855⟩, Tryz.f63.results.toList⟩), (94, ⟨code94, ⟨22, 4194303⟩, Tryz.f94.results.toList⟩), (64, ⟨code64, ⟨96, 79228162514264337593543950335⟩, Tryz.f64.results.toList⟩), (95, ⟨code95, ⟨28, 268435455⟩, Tryz.f95.results.toList⟩), (65, ⟨code65, ⟨59, 576460752303423487⟩, Tryz.f65.results.toList⟩), (96, ⟨code96, ⟨26, 67108863⟩, Tryz.f96.results.toList⟩), (66, ⟨code66, ⟨34, 17179869183⟩, Tryz.f66.results.toList⟩), (98, ⟨code98, ⟨52, 4503599627370495⟩, Tryz.f98.results.toList⟩), (100, ⟨code100, ⟨17, 131071⟩, Tryz.f100.results.toList⟩), (99, ⟨code99, ⟨9, 511⟩, Tryz.f99.results.toList⟩), (148, ⟨code148, ⟨19, 524287⟩, Tryz.f148.results.toList⟩), (97, ⟨code97, ⟨20, 1048575⟩, Tryz.f97.results.toList⟩), (102, ⟨code102, ⟨11, 2047⟩, Tryz.f102.results.toList⟩), (101, ⟨code101, ⟨9, 511⟩, Tryz.f101.results.toList⟩), (149, ⟨code149, ⟨19, 524287⟩, Tryz.f149.results.toList⟩), (67, ⟨code67, ⟨58, 288230376151711743⟩, Tryz.f67.results.toList⟩), (68, ⟨code68, ⟨64, 18446744073709551615⟩, Tryz.f68.results.toList⟩), (104, ⟨code104, ⟨44, 17592186044415⟩, Tryz.f104.results.toList⟩), (11, ⟨code11, ⟨60, 1152921504606846975⟩, Tryz.f11.results.toList⟩), (44, ⟨code44, ⟨8, 255⟩, Tryz.f44.results.toList⟩), (33, ⟨code33, ⟨34, 17179869183⟩, Tryz.f33.results.toList⟩), (45, ⟨code45, ⟨9, 511⟩, Tryz.f45.results.toList⟩), (46, ⟨code46, ⟨95, 39614081257132168796771975167⟩, Tryz.f46.results.toList⟩), (47, ⟨code47, ⟨84, 19342813113834066795298815⟩, Tryz.f47.results.toList⟩), (42, ⟨code42, ⟨35, 34359738367⟩, Tryz.f42.results.toList⟩), (5, ⟨code5, ⟨67, 147573952589676412927⟩, Tryz.f5.results.toList⟩), (14, ⟨code14, ⟨8, 255⟩, Tryz.f14.results.toList⟩), (16, ⟨code16, ⟨17, 131071⟩, Tryz.f16.results.toList⟩), (18, ⟨code18, ⟨14, 16383⟩, Tryz.f18.results.toList⟩), (20, ⟨code20, ⟨15, 32767⟩, Tryz.f20.results.toList⟩), (22, ⟨code22, ⟨12, 4095⟩, Tryz.f22.results.toList⟩), (23, ⟨code23, ⟨13, 8191⟩, Tryz.f23.results.toList⟩), (25, ⟨code25, ⟨9, 511⟩, Tryz.f25.results.toList⟩), (26, ⟨code26, ⟨21, 2097151⟩, Tryz.f26.results.toList⟩), (27, ⟨code27, ⟨19, 524287⟩, Tryz.f27.results.toList⟩), (28, ⟨code28, ⟨14, 16383⟩, Tryz.f28.results.toList⟩), (30, ⟨code30, ⟨17, 131071⟩, Tryz.f30.results.toList⟩), (31, ⟨code31, ⟨13, 8191⟩, Tryz.f31.results.toList⟩), (32, ⟨code32, ⟨14, 16383⟩, Tryz.f32.results.toList⟩), (34, ⟨code34, ⟨5, 31⟩, Tryz.f34.results.toList⟩), (35, ⟨code35, ⟨5, 31⟩, Tryz.f35.results.toList⟩), (36, ⟨code36, ⟨9, 511⟩, Tryz.f36.results.toList⟩), (37, ⟨code37, ⟨7, 127⟩, Tryz.f37.results.toList⟩), (38, ⟨code38, ⟨13, 8191⟩, Tryz.f38.results.toList⟩), (39, ⟨code39, ⟨11, 2047⟩, Tryz.f39.results.toList⟩), (40, ⟨code40, ⟨12, 4095⟩, Tryz.f40.results.toList⟩), (41, ⟨code41, ⟨227, 215679573337205118357336120696157045389097155380324579848828881993727⟩, Tryz.f41.results.toList⟩), (52, ⟨code52, ⟨35, 34359738367⟩, Tryz.f52.results.toList⟩), (70, ⟨code70, ⟨88, 309485009821345068724781055⟩, Tryz.f70.results.toList⟩), (71, ⟨code71, ⟨44, 17592186044415⟩, Tryz.f71.results.toList⟩), (53, ⟨code53, ⟨249, 904625697166532776746648320380374280103671755200316906558262375061821325311⟩, Tryz.f53.results.toList⟩), (72, ⟨code72, ⟨38, 274877906943⟩, Tryz.f72.results.toList⟩), (75, ⟨code75, ⟨18, 262143⟩, Tryz.f75.results.toList⟩), (54, ⟨code54, ⟨15, 32767⟩, Tryz.f54.results.toList⟩), (73, ⟨code73, ⟨40, 1099511627775⟩, Tryz.f73.results.toList⟩), (74, ⟨code74, ⟨337, 279968092772225526319680285071055534765205687154331191862498637620473983897520118172609686658950889471⟩, Tryz.f74.results.toList⟩), (106, ⟨code106, ⟨121, 2658455991569831745807614120560689151⟩, Tryz.f106.results.toList⟩), (107, ⟨code107, ⟨28, 268435455⟩, Tryz.f107.results.toList⟩), (108, ⟨code108, ⟨53, 9007199254740991⟩, Tryz.f108.results.toList⟩), (55, ⟨code55, ⟨16, 65535⟩, Tryz.f55.results.toList⟩), (109, ⟨code109, ⟨67, 147573952589676412927⟩, Tryz.f109.results.toList⟩), (110, ⟨code110, ⟨93, 9903520314283042199192993791⟩, Tryz.f110.results.toList⟩), (111, ⟨code111, ⟨55, 36028797018963967⟩, Tryz.f111.results.toList⟩), (56, ⟨code56, ⟨61, 2305843009213693951⟩, Tryz.f56.results.toList⟩), (57, ⟨code57, ⟨154, 22835963083295358096932575511191922182123945983⟩, Tryz.f57.results.toList⟩), (76, ⟨code76, ⟨272, 7588550360256754183279148073529370729071901715047420004889892225542594864082845695⟩, Tryz.f76.results.toList⟩), (77, ⟨code77, ⟨52, 4503599627370495⟩, Tryz.f77.results.toList⟩), (112, ⟨code112, ⟨24, 16777215⟩, Tryz.f112.results.toList⟩), (78, ⟨code78, ⟨347, 286687326998758938951352611912760867599570623646035140467198604923365359511060601008752319138765710819327⟩, Tryz.f78.results.toList⟩), (113, ⟨code113, ⟨48, 281474976710655⟩, Tryz.f113.results.toList⟩), (152, ⟨code152, ⟨63, 9223372036854775807⟩, Tryz.f152.results.toList⟩), (190, ⟨code190, ⟨119, 664613997892457936451903530140172287⟩, Tryz.f190.results.toList⟩), (191, ⟨code191, ⟨59, 576460752303423487⟩, Tryz.f191.results.toList⟩), (115, ⟨code115, ⟨36, 68719476735⟩, Tryz.f115.results.toList⟩), (153, ⟨code153, ⟨24, 16777215⟩, Tryz.f153.results.toList⟩), (117, ⟨code117, ⟨26, 67108863⟩, Tryz.f117.results.toList⟩), (154, ⟨code154, ⟨37, 137438953471⟩, Tryz.f154.results.toList⟩), (192, ⟨code192, ⟨19, 524287⟩, Tryz.f192.results.toList⟩), (114, ⟨code114, ⟨18, 262143⟩, Tryz.f114.results.toList⟩), (116, ⟨code116, ⟨19, 524287⟩, Tryz.f116.results.toList⟩), (118, ⟨code118, ⟨31, 2147483647⟩, Tryz.f118.results.toList⟩), (119, ⟨code119, ⟨33, 8589934591⟩, Tryz.f119.results.toList⟩), (120, ⟨code120, ⟨65, 36893488147419103231⟩, Tryz.f120.results.toList⟩), (125, ⟨code125, ⟨298, 509258994083621521567111422102344540262867098416484062659035112338595324940834176545849343⟩, Tryz.f125.results.toList⟩), (156, ⟨code156, ⟨27, 134217727⟩, Tryz.f156.results.toList⟩), (160, ⟨code160, ⟨66, 73786976294838206463⟩, Tryz.f160.results.toList⟩), (157, ⟨code157, ⟨81, 2417851639229258349412351⟩, Tryz.f157.results.toList⟩), (158, ⟨code158, ⟨26, 67108863⟩, Tryz.f158.results.toList⟩), (159, ⟨code159, ⟨27, 134217727⟩, Tryz.f159.results.toList⟩), (121, ⟨code121, ⟨119, 664613997892457936451903530140172287⟩, Tryz.f121.results.toList⟩), (155, ⟨code155, ⟨36, 68719476735⟩, Tryz.f155.results.toList⟩), (122, ⟨code122, ⟨17, 131071⟩, Tryz.f122.results.toList⟩), (123, ⟨code123, ⟨148, 356811923176489970264571492362373784095686655⟩, Tryz.f123.results.toList⟩), (79, ⟨code79, ⟨151, 2854495385411919762116571938898990272765493247⟩, Tryz.f79.results.toList⟩), (124, ⟨code124, ⟨7, 127⟩, Tryz.f124.results.toList⟩), (80, ⟨code80, ⟨116, 83076749736557242056487941267521535⟩, Tryz.f80.results.toList⟩), (126, ⟨code126, ⟨75, 37778931862957161709567⟩, Tryz.f126.results.toList⟩), (81, ⟨code81, ⟨19, 524287⟩, Tryz.f81.results.toList⟩), (82, ⟨code82, ⟨17, 131071⟩, Tryz.f82.results.toList⟩), (58, ⟨code58, ⟨41, 2199023255551⟩, Tryz.f58.results.toList⟩), (51, ⟨code51, ⟨72, 4722366482869645213695⟩, Tryz.f51.results.toList⟩), (43, ⟨code43, ⟨5, 31⟩, Tryz.f43.results.toList⟩)]
theorem hI : AllE (fun e => FiOk X e.1 e.2) I := ⟨⟨Tryz.f6, Tryz.func6, hb6, by kernel_rfl, rfl, enters Tryz.func6 hb6 (by kernel_rfl)⟩, ⟨Tryz.f15, Tryz.func15, hb15, by kernel_rfl, rfl, enters Tryz.func15 hb15 (by kernel_rfl)⟩, ⟨Tryz.f29, Tryz.func29, hb29, by kernel_rfl, rfl, enters Tryz.func29 hb29 (by kernel_rfl)⟩, ⟨Tryz.f19, Tryz.func19, hb19, by kernel_rfl, rfl, enters Tryz.func19 hb19 (by kernel_rfl)⟩, ⟨Tryz.f21, Tryz.func21, hb21, by kernel_rfl, rfl, enters Tryz.func21 hb21 (by kernel_rfl)⟩, ⟨Tryz.f24, Tryz.func24, hb24, by kernel_rfl, rfl, enters Tryz.func24 hb24 (by kernel_rfl)⟩, ⟨Tryz.f17, Tryz.func17, hb17, by kernel_rfl, rfl, enters Tryz.func17 hb17 (by kernel_rfl)⟩, ⟨Tryz.f49, Tryz.func49, hb49, by kernel_rfl, rfl, enters Tryz.func49 hb49 (by kernel_rfl)⟩, ⟨Tryz.f8, Tryz.func8, hb8, by kernel_rfl, rfl, enters Tryz.func8 hb8 (by kernel_rfl)⟩, ⟨Tryz.f48, Tryz.func48, hb48, by kernel_rfl, rfl, enters Tryz.func48 hb48 (by kernel_rfl)⟩, ⟨Tryz.f59, Tryz.func59, hb59, by kernel_rfl, rfl, enters Tryz.func59 hb59 (by kernel_rfl)⟩, ⟨Tryz.f83, Tryz.func83, hb83, by kernel_rfl, rfl, enters Tryz.func83 hb83 (by kernel_rfl)⟩, ⟨Tryz.f127, Tryz.func127, hb127, by kernel_rfl, rfl, enters Tryz.func127 hb127 (by kernel_rfl)⟩, ⟨Tryz.f129, Tryz.func129, hb129, by kernel_rfl, rfl, enters Tryz.func129 hb129 (by kernel_rfl)⟩, ⟨Tryz.f128, Tryz.func128, hb128, by kernel_rfl, rfl, enters Tryz.func128 hb128 (by kernel_rfl)⟩, ⟨Tryz.f161, Tryz.func161, hb161, by kernel_rfl, rfl, enters Tryz.func161 hb161 (by kernel_rfl)⟩, ⟨Tryz.f84, Tryz.func84, hb84, by kernel_rfl, rfl, enters Tryz.func84 hb84 (by kernel_rfl)⟩, ⟨Tryz.f130, Tryz.func130, hb130, by kernel_rfl, rfl, enters Tryz.func130 hb130 (by kernel_rfl)⟩, ⟨Tryz.f162, Tryz.func162, hb162, by kernel_rfl, rfl, enters Tryz.func162 hb162 (by kernel_rfl)⟩, ⟨Tryz.f193, Tryz.func193, hb193, by kernel_rfl, rfl, enters Tryz.func193 hb193 (by kernel_rfl)⟩, ⟨Tryz.f194, Tryz.func194, hb194, by kernel_rfl, rfl, enters Tryz.func194 hb194 (by kernel_rfl)⟩, ⟨Tryz.f131, Tryz.func131, hb131, by kernel_rfl, rfl, enters Tryz.func131 hb131 (by kernel_rfl)⟩, ⟨Tryz.f85, Tryz.func85, hb85, by kernel_rfl, rfl, enters Tryz.func85 hb85 (by kernel_rfl)⟩, ⟨Tryz.f132, Tryz.func132, hb132, by kernel_rfl, rfl, enters Tryz.func132 hb132 (by kernel_rfl)⟩, ⟨Tryz.f133, Tryz.func133, hb133, by kernel_rfl, rfl, enters Tryz.func133 hb133 (by kernel_rfl)⟩, ⟨Tryz.f163, Tryz.func163, hb163, by kernel_rfl, rfl, enters Tryz.func163 hb163 (by kernel_rfl)⟩, ⟨Tryz.f195, Tryz.func195, hb195, by kernel_rfl, rfl, enters Tryz.func195 hb195 (by kernel_rfl)⟩, ⟨Tryz.f196, Tryz.func196, hb196, by kernel_rfl, rfl, enters Tryz.func196 hb196 (by kernel_rfl)⟩, ⟨Tryz.f197, Tryz.func197, hb197, by kernel_rfl, rfl, enters Tryz.func197 hb197 (by kernel_rfl)⟩, ⟨Tryz.f198, Tryz.func198, hb198, by kernel_rfl, rfl, enters Tryz.func198 hb198 (by kernel_rfl)⟩, ⟨Tryz.f199, Tryz.func199, hb199, by kernel_rfl, rfl, enters Tryz.func199 hb199 (by kernel_rfl)⟩, ⟨Tryz.f200, Tryz.func200, hb200, by kernel_rfl, rfl, enters Tryz.func200 hb200 (by kernel_rfl)⟩, ⟨Tryz.f201, Tryz.func201, hb201, by kernel_rfl, rfl, enters Tryz.func201 hb201 (by kernel_rfl)⟩, ⟨Tryz.f164, Tryz.func164, hb164, by kernel_rfl, rfl, enters Tryz.func164 hb164 (by kernel_rfl)⟩, ⟨Tryz.f165, Tryz.func165, hb165, by kernel_rfl, rfl, enters Tryz.func165 hb165 (by kernel_rfl)⟩, ⟨Tryz.f166, Tryz.func166, hb166, by kernel_rfl, rfl, enters Tryz.func166 hb166 (by kernel_rfl)⟩, ⟨Tryz.f167, Tryz.func167, hb167, by kernel_rfl, rfl, enters Tryz.func167 hb167 (by kernel_rfl)⟩, ⟨Tryz.f86, Tryz.func86, hb86, by kernel_rfl, rfl, enters Tryz.func86 hb86 (by kernel_rfl)⟩, ⟨Tryz.f168, Tryz.func168, hb168, by kernel_rfl, rfl, enters Tryz.func168 hb168 (by kernel_rfl)⟩, ⟨Tryz.f169, Tryz.func169, hb169, by kernel_rfl, rfl, enters Tryz.func169 hb169 (by kernel_rfl)⟩, ⟨Tryz.f170, Tryz.func170, hb170, by kernel_rfl, rfl, enters Tryz.func170 hb170 (by kernel_rfl)⟩, ⟨Tryz.f202, Tryz.func202, hb202, by kernel_rfl, rfl, enters Tryz.func202 hb202 (by kernel_rfl)⟩, ⟨Tryz.f225, Tryz.func225, hb225, by kernel_rfl, rfl, enters Tryz.func225 hb225 (by kernel_rfl)⟩, ⟨Tryz.f237, Tryz.func237, hb237, by kernel_rfl, rfl, enters Tryz.func237 hb237 (by kernel_rfl)⟩, ⟨Tryz.f238, Tryz.func238, hb238, by kernel_rfl, rfl, enters Tryz.func238 hb238 (by kernel_rfl)⟩, ⟨Tryz.f224, Tryz.func224, hb224, by kernel_rfl, rfl, enters Tryz.func224 hb224 (by kernel_rfl)⟩, ⟨Tryz.f228, Tryz.func228, hb228, by kernel_rfl, rfl, enters Tryz.func228 hb228 (by kernel_rfl)⟩, ⟨Tryz.f234, Tryz.func234, hb234, by kernel_rfl, rfl, enters Tryz.func234 hb234 (by kernel_rfl)⟩, ⟨Tryz.f246, Tryz.func246, hb246, by kernel_rfl, rfl, enters Tryz.func246 hb246 (by kernel_rfl)⟩, ⟨Tryz.f229, Tryz.func229, hb229, by kernel_rfl, rfl, enters Tryz.func229 hb229 (by kernel_rfl)⟩, ⟨Tryz.f241, Tryz.func241, hb241, by kernel_rfl, rfl, enters Tryz.func241 hb241 (by kernel_rfl)⟩, ⟨Tryz.f230, Tryz.func230, hb230, by kernel_rfl, rfl, enters Tryz.func230 hb230 (by kernel_rfl)⟩, ⟨Tryz.f242, Tryz.func242, hb242, by kernel_rfl, rfl, enters Tryz.func242 hb242 (by kernel_rfl)⟩, ⟨Tryz.f243, Tryz.func243, hb243, by kernel_rfl, rfl, enters Tryz.func243 hb243 (by kernel_rfl)⟩, ⟨Tryz.f231, Tryz.func231, hb231, by kernel_rfl, rfl, enters Tryz.func231 hb231 (by kernel_rfl)⟩, ⟨Tryz.f244, Tryz.func244, hb244, by kernel_rfl, rfl, enters Tryz.func244 hb244 (by kernel_rfl)⟩, ⟨Tryz.f245, Tryz.func245, hb245, by kernel_rfl, rfl, enters Tryz.func245 hb245 (by kernel_rfl)⟩, ⟨Tryz.f247, Tryz.func247, hb247, by kernel_rfl, rfl, enters Tryz.func247 hb247 (by kernel_rfl)⟩, ⟨Tryz.f232, Tryz.func232, hb232, by kernel_rfl, rfl, enters Tryz.func232 hb232 (by kernel_rfl)⟩, ⟨Tryz.f233, Tryz.func233, hb233, by kernel_rfl, rfl, enters Tryz.func233 hb233 (by kernel_rfl)⟩, ⟨Tryz.f235, Tryz.func235, hb235, by kernel_rfl, rfl, enters Tryz.func235 hb235 (by kernel_rfl)⟩, ⟨Tryz.f236, Tryz.func236, hb236, by kernel_rfl, rfl, enters Tryz.func236 hb236 (by kernel_rfl)⟩, ⟨Tryz.f203, Tryz.func203, hb203, by kernel_rfl, rfl, enters Tryz.func203 hb203 (by kernel_rfl)⟩, ⟨Tryz.f171, Tryz.func171, hb171, by kernel_rfl, rfl, enters Tryz.func171 hb171 (by kernel_rfl)⟩, ⟨Tryz.f87, Tryz.func87, hb87, by kernel_rfl, rfl, enters Tryz.func87 hb87 (by kernel_rfl)⟩, ⟨Tryz.f103, Tryz.func103, hb103, by kernel_rfl, rfl, enters Tryz.func103 hb103 (by kernel_rfl)⟩, ⟨Tryz.f150, Tryz.func150, hb150, by kernel_rfl, rfl, enters Tryz.func150 hb150 (by kernel_rfl)⟩, ⟨Tryz.f134, Tryz.func134, hb134, by kernel_rfl, rfl, enters Tryz.func134 hb134 (by kernel_rfl)⟩, ⟨Tryz.f92, Tryz.func92, hb92, by kernel_rfl, rfl, enters Tryz.func92 hb92 (by kernel_rfl)⟩, ⟨Tryz.f147, Tryz.func147, hb147, by kernel_rfl, rfl, enters Tryz.func147 hb147 (by kernel_rfl)⟩, ⟨Tryz.f88, Tryz.func88, hb88, by kernel_rfl, rfl, enters Tryz.func88 hb88 (by kernel_rfl)⟩, ⟨Tryz.f135, Tryz.func135, hb135, by kernel_rfl, rfl, enters Tryz.func135 hb135 (by kernel_rfl)⟩, ⟨Tryz.f172, Tryz.func172, hb172, by kernel_rfl, rfl, enters Tryz.func172 hb172 (by kernel_rfl)⟩, ⟨Tryz.f205, Tryz.func205, hb205, by kernel_rfl, rfl, enters Tryz.func205 hb205 (by kernel_rfl)⟩, ⟨Tryz.f204, Tryz.func204, hb204, by kernel_rfl, rfl, enters Tryz.func204 hb204 (by kernel_rfl)⟩, ⟨Tryz.f206, Tryz.func206, hb206, by kernel_rfl, rfl, enters Tryz.func206 hb206 (by kernel_rfl)⟩, ⟨Tryz.f208, Tryz.func208, hb208, by kernel_rfl, rfl, enters Tryz.func208 hb208 (by kernel_rfl)⟩, ⟨Tryz.f207, Tryz.func207, hb207, by kernel_rfl, rfl, enters Tryz.func207 hb207 (by kernel_rfl)⟩, ⟨Tryz.f209, Tryz.func209, hb209, by kernel_rfl, rfl, enters Tryz.func209 hb209 (by kernel_rfl)⟩, ⟨Tryz.f210, Tryz.func210, hb210, by kernel_rfl, rfl, enters Tryz.func210 hb210 (by kernel_rfl)⟩, ⟨Tryz.f211, Tryz.func211, hb211, by kernel_rfl, rfl, enters Tryz.func211 hb211 (by kernel_rfl)⟩, ⟨Tryz.f212, Tryz.func212, hb212, by kernel_rfl, rfl, enters Tryz.func212 hb212 (by kernel_rfl)⟩, ⟨Tryz.f213, Tryz.func213, hb213, by kernel_rfl, rfl, enters Tryz.func213 hb213 (by kernel_rfl)⟩, ⟨Tryz.f214, Tryz.func214, hb214, by kernel_rfl, rfl, enters Tryz.func214 hb214 (by kernel_rfl)⟩, ⟨Tryz.f215, Tryz.func215, hb215, by kernel_rfl, rfl, enters Tryz.func215 hb215 (by kernel_rfl)⟩, ⟨Tryz.f136, Tryz.func136, hb136, by kernel_rfl, rfl, enters Tryz.func136 hb136 (by kernel_rfl)⟩, ⟨Tryz.f173, Tryz.func173, hb173, by kernel_rfl, rfl, enters Tryz.func173 hb173 (by kernel_rfl)⟩, ⟨Tryz.f137, Tryz.func137, hb137, by kernel_rfl, rfl, enters Tryz.func137 hb137 (by kernel_rfl)⟩, ⟨Tryz.f174, Tryz.func174, hb174, by kernel_rfl, rfl, enters Tryz.func174 hb174 (by kernel_rfl)⟩, ⟨Tryz.f216, Tryz.func216, hb216, by kernel_rfl, rfl, enters Tryz.func216 hb216 (by kernel_rfl)⟩, ⟨Tryz.f226, Tryz.func226, hb226, by kernel_rfl, rfl, enters Tryz.func226 hb226 (by kernel_rfl)⟩, ⟨Tryz.f177, Tryz.func177, hb177, by kernel_rfl, rfl, enters Tryz.func177 hb177 (by kernel_rfl)⟩, ⟨Tryz.f239, Tryz.func239, hb239, by kernel_rfl, rfl, enters Tryz.func239 hb239 (by kernel_rfl)⟩, ⟨Tryz.f217, Tryz.func217, hb217, by kernel_rfl, rfl, enters Tryz.func217 hb217 (by kernel_rfl)⟩, ⟨Tryz.f175, Tryz.func175, hb175, by kernel_rfl, rfl, enters Tryz.func175 hb175 (by kernel_rfl)⟩, ⟨Tryz.f218, Tryz.func218, hb218, by kernel_rfl, rfl, enters Tryz.func218 hb218 (by kernel_rfl)⟩, ⟨Tryz.f219, Tryz.func219, hb219, by kernel_rfl, rfl, enters Tryz.func219 hb219 (by kernel_rfl)⟩, ⟨Tryz.f227, Tryz.func227, hb227, by kernel_rfl, rfl, enters Tryz.func227 hb227 (by kernel_rfl)⟩, ⟨Tryz.f240, Tryz.func240, hb240, by kernel_rfl, rfl, enters Tryz.func240 hb240 (by kernel_rfl)⟩, ⟨Tryz.f176, Tryz.func176, hb176, by kernel_rfl, rfl, enters Tryz.func176 hb176 (by kernel_rfl)⟩, ⟨Tryz.f178, Tryz.func178, hb178, by kernel_rfl, rfl, enters Tryz.func178 hb178 (by kernel_rfl)⟩, ⟨Tryz.f179, Tryz.func179, hb179, by kernel_rfl, rfl, enters Tryz.func179 hb179 (by kernel_rfl)⟩, ⟨Tryz.f180, Tryz.func180, hb180, by kernel_rfl, rfl, enters Tryz.func180 hb180 (by kernel_rfl)⟩, ⟨Tryz.f181, Tryz.func181, hb181, by kernel_rfl, rfl, enters Tryz.func181 hb181 (by kernel_rfl)⟩, ⟨Tryz.f182, Tryz.func182, hb182, by kernel_rfl, rfl, enters Tryz.func182 hb182 (by kernel_rfl)⟩, ⟨Tryz.f187, Tryz.func187, hb187, by kernel_rfl, rfl, enters Tryz.func187 hb187 (by kernel_rfl)⟩, ⟨Tryz.f183, Tryz.func183, hb183, by kernel_rfl, rfl, enters Tryz.func183 hb183 (by kernel_rfl)⟩, ⟨Tryz.f220, Tryz.func220, hb220, by kernel_rfl, rfl, enters Tryz.func220 hb220 (by kernel_rfl)⟩, ⟨Tryz.f221, Tryz.func221, hb221, by kernel_rfl, rfl, enters Tryz.func221 hb221 (by kernel_rfl)⟩, ⟨Tryz.f184, Tryz.func184, hb184, by kernel_rfl, rfl, enters Tryz.func184 hb184 (by kernel_rfl)⟩, ⟨Tryz.f185, Tryz.func185, hb185, by kernel_rfl, rfl, enters Tryz.func185 hb185 (by kernel_rfl)⟩, ⟨Tryz.f222, Tryz.func222, hb222, by kernel_rfl, rfl, enters Tryz.func222 hb222 (by kernel_rfl)⟩, ⟨Tryz.f223, Tryz.func223, hb223, by kernel_rfl, rfl, enters Tryz.func223 hb223 (by kernel_rfl)⟩, ⟨Tryz.f138, Tryz.func138, hb138, by kernel_rfl, rfl, enters Tryz.func138 hb138 (by kernel_rfl)⟩, ⟨Tryz.f186, Tryz.func186, hb186, by kernel_rfl, rfl, enters Tryz.func186 hb186 (by kernel_rfl)⟩, ⟨Tryz.f139, Tryz.func139, hb139, by kernel_rfl, rfl, enters Tryz.func139 hb139 (by kernel_rfl)⟩, ⟨Tryz.f140, Tryz.func140, hb140, by kernel_rfl, rfl, enters Tryz.func140 hb140 (by kernel_rfl)⟩, ⟨Tryz.f142, Tryz.func142, hb142, by kernel_rfl, rfl, enters Tryz.func142 hb142 (by kernel_rfl)⟩, ⟨Tryz.f188, Tryz.func188, hb188, by kernel_rfl, rfl, enters Tryz.func188 hb188 (by kernel_rfl)⟩, ⟨Tryz.f141, Tryz.func141, hb141, by kernel_rfl, rfl, enters Tryz.func141 hb141 (by kernel_rfl)⟩, ⟨Tryz.f144, Tryz.func144, hb144, by kernel_rfl, rfl, enters Tryz.func144 hb144 (by kernel_rfl)⟩, ⟨Tryz.f143, Tryz.func143, hb143, by kernel_rfl, rfl, enters Tryz.func143 hb143 (by kernel_rfl)⟩, ⟨Tryz.f189, Tryz.func189, hb189, by kernel_rfl, rfl, enters Tryz.func189 hb189 (by kernel_rfl)⟩, ⟨Tryz.f60, Tryz.func60, hb60, by kernel_rfl, rfl, enters Tryz.func60 hb60 (by kernel_rfl)⟩, ⟨Tryz.f89, Tryz.func89, hb89, by kernel_rfl, rfl, enters Tryz.func89 hb89 (by kernel_rfl)⟩, ⟨Tryz.f145, Tryz.func145, hb145, by kernel_rfl, rfl, enters Tryz.func145 hb145 (by kernel_rfl)⟩, ⟨Tryz.f69, Tryz.func69, hb69, by kernel_rfl, rfl, enters Tryz.func69 hb69 (by kernel_rfl)⟩, ⟨Tryz.f105, Tryz.func105, hb105, by kernel_rfl, rfl, enters Tryz.func105 hb105 (by kernel_rfl)⟩, ⟨Tryz.f151, Tryz.func151, hb151, by kernel_rfl, rfl, enters Tryz.func151 hb151 (by kernel_rfl)⟩, ⟨Tryz.f61, Tryz.func61, hb61, by kernel_rfl, rfl, enters Tryz.func61 hb61 (by kernel_rfl)⟩, ⟨Tryz.f91, Tryz.func91, hb91, by kernel_rfl, rfl, enters Tryz.func91 hb91 (by kernel_rfl)⟩, ⟨Tryz.f62, Tryz.func62, hb62, by kernel_rfl, rfl, enters Tryz.func62 hb62 (by kernel_rfl)⟩, ⟨Tryz.f93, Tryz.func93, hb93, by kernel_rfl, rfl, enters Tryz.func93 hb93 (by kernel_rfl)⟩, ⟨Tryz.f90, Tryz.func90, hb90, by kernel_rfl, rfl, enters Tryz.func90 hb90 (by kernel_rfl)⟩, ⟨Tryz.f146, Tryz.func146, hb146, by kernel_rfl, rfl, enters Tryz.func146 hb146 (by kernel_rfl)⟩, ⟨Tryz.f63, Tryz.func63, hb63, by kernel_rfl, rfl, enters Tryz.func63 hb63 (by kernel_rfl)⟩, ⟨Tryz.f94, Tryz.func94, hb94, by kernel_rfl, rfl, enters Tryz.func94 hb94 (by kernel_rfl)⟩, ⟨Tryz.f64, Tryz.func64, hb64, by kernel_rfl, rfl, enters Tryz.func64 hb64 (by kernel_rfl)⟩, ⟨Tryz.f95, Tryz.func95, hb95, by kernel_rfl, rfl, enters Tryz.func95 hb95 (by kernel_rfl)⟩, ⟨Tryz.f65, Tryz.func65, hb65, by kernel_rfl, rfl, enters Tryz.func65 hb65 (by kernel_rfl)⟩, ⟨Tryz.f96, Tryz.func96, hb96, by kernel_rfl, rfl, enters Tryz.func96 hb96 (by kernel_rfl)⟩, ⟨Tryz.f66, Tryz.func66, hb66, by kernel_rfl, rfl, enters Tryz.func66 hb66 (by kernel_rfl)⟩, ⟨Tryz.f98, Tryz.func98, hb98, by kernel_rfl, rfl, enters Tryz.func98 hb98 (by kernel_rfl)⟩, ⟨Tryz.f100, Tryz.func100, hb100, by kernel_rfl, rfl, enters Tryz.func100 hb100 (by kernel_rfl)⟩, ⟨Tryz.f99, Tryz.func99, hb99, by kernel_rfl, rfl, enters Tryz.func99 hb99 (by kernel_rfl)⟩, ⟨Tryz.f148, Tryz.func148, hb148, by kernel_rfl, rfl, enters Tryz.func148 hb148 (by kernel_rfl)⟩, ⟨Tryz.f97, Tryz.func97, hb97, by kernel_rfl, rfl, enters Tryz.func97 hb97 (by kernel_rfl)⟩, ⟨Tryz.f102, Tryz.func102, hb102, by kernel_rfl, rfl, enters Tryz.func102 hb102 (by kernel_rfl)⟩, ⟨Tryz.f101, Tryz.func101, hb101, by kernel_rfl, rfl, enters Tryz.func101 hb101 (by kernel_rfl)⟩, ⟨Tryz.f149, Tryz.func149, hb149, by kernel_rfl, rfl, enters Tryz.func149 hb149 (by kernel_rfl)⟩, ⟨Tryz.f67, Tryz.func67, hb67, by kernel_rfl, rfl, enters Tryz.func67 hb67 (by kernel_rfl)⟩, ⟨Tryz.f68, Tryz.func68, hb68, by kernel_rfl, rfl, enters Tryz.func68 hb68 (by kernel_rfl)⟩, ⟨Tryz.f104, Tryz.func104, hb104, by kernel_rfl, rfl, enters Tryz.func104 hb104 (by kernel_rfl)⟩, ⟨Tryz.f11, Tryz.func11, hb11, by kernel_rfl, rfl, enters Tryz.func11 hb11 (by kernel_rfl)⟩, ⟨Tryz.f44, Tryz.func44, hb44, by kernel_rfl, rfl, enters Tryz.func44 hb44 (by kernel_rfl)⟩, ⟨Tryz.f33, Tryz.func33, hb33, by kernel_rfl, rfl, enters Tryz.func33 hb33 (by kernel_rfl)⟩, ⟨Tryz.f45, Tryz.func45, hb45, by kernel_rfl, rfl, enters Tryz.func45 hb45 (by kernel_rfl)⟩, ⟨Tryz.f46, Tryz.func46, hb46, by kernel_rfl, rfl, enters Tryz.func46 hb46 (by kernel_rfl)⟩, ⟨Tryz.f47, Tryz.func47, hb47, by kernel_rfl, rfl, enters Tryz.func47 hb47 (by kernel_rfl)⟩, ⟨Tryz.f42, Tryz.func42, hb42, by kernel_rfl, rfl, enters Tryz.func42 hb42 (by kernel_rfl)⟩, ⟨Tryz.f5, Tryz.func5, hb5, by kernel_rfl, rfl, enters Tryz.func5 hb5 (by kernel_rfl)⟩, ⟨Tryz.f14, Tryz.func14, hb14, by kernel_rfl, rfl, enters Tryz.func14 hb14 (by kernel_rfl)⟩, ⟨Tryz.f16, Tryz.func16, hb16, by kernel_rfl, rfl, enters Tryz.func16 hb16 (by kernel_rfl)⟩, ⟨Tryz.f18, Tryz.func18, hb18, by kernel_rfl, rfl, enters Tryz.func18 hb18 (by kernel_rfl)⟩, ⟨Tryz.f20, Tryz.func20, hb20, by kernel_rfl, rfl, enters Tryz.func20 hb20 (by kernel_rfl)⟩, ⟨Tryz.f22, Tryz.func22, hb22, by kernel_rfl, rfl, enters Tryz.func22 hb22 (by kernel_rfl)⟩, ⟨Tryz.f23, Tryz.func23, hb23, by kernel_rfl, rfl, enters Tryz.func23 hb23 (by kernel_rfl)⟩, ⟨Tryz.f25, Tryz.func25, hb25, by kernel_rfl, rfl, enters Tryz.func25 hb25 (by kernel_rfl)⟩, ⟨Tryz.f26, Tryz.func26, hb26, by kernel_rfl, rfl, enters Tryz.func26 hb26 (by kernel_rfl)⟩, ⟨Tryz.f27, Tryz.func27, hb27, by kernel_rfl, rfl, enters Tryz.func27 hb27 (by kernel_rfl)⟩, ⟨Tryz.f28, Tryz.func28, hb28, by kernel_rfl, rfl, enters Tryz.func28 hb28 (by kernel_rfl)⟩, ⟨Tryz.f30, Tryz.func30, hb30, by kernel_rfl, rfl, enters Tryz.func30 hb30 (by kernel_rfl)⟩, ⟨Tryz.f31, Tryz.func31, hb31, by kernel_rfl, rfl, enters Tryz.func31 hb31 (by kernel_rfl)⟩, ⟨Tryz.f32, Tryz.func32, hb32, by kernel_rfl, rfl, enters Tryz.func32 hb32 (by kernel_rfl)⟩, ⟨Tryz.f34, Tryz.func34, hb34, by kernel_rfl, rfl, enters Tryz.func34 hb34 (by kernel_rfl)⟩, ⟨Tryz.f35, Tryz.func35, hb35, by kernel_rfl, rfl, enters Tryz.func35 hb35 (by kernel_rfl)⟩, ⟨Tryz.f36, Tryz.func36, hb36, by kernel_rfl, rfl, enters Tryz.func36 hb36 (by kernel_rfl)⟩, ⟨Tryz.f37, Tryz.func37, hb37, by kernel_rfl, rfl, enters Tryz.func37 hb37 (by kernel_rfl)⟩, ⟨Tryz.f38, Tryz.func38, hb38, by kernel_rfl, rfl, enters Tryz.func38 hb38 (by kernel_rfl)⟩, ⟨Tryz.f39, Tryz.func39, hb39, by kernel_rfl, rfl, enters Tryz.func39 hb39 (by kernel_rfl)⟩, ⟨Tryz.f40, Tryz.func40, hb40, by kernel_rfl, rfl, enters Tryz.func40 hb40 (by kernel_rfl)⟩, ⟨Tryz.f41, Tryz.func41, hb41, by kernel_rfl, rfl, enters Tryz.func41 hb41 (by kernel_rfl)⟩, ⟨Tryz.f52, Tryz.func52, hb52, by kernel_rfl, rfl, enters Tryz.func52 hb52 (by kernel_rfl)⟩, ⟨Tryz.f70, Tryz.func70, hb70, by kernel_rfl, rfl, enters Tryz.func70 hb70 (by kernel_rfl)⟩, ⟨Tryz.f71, Tryz.func71, hb71, by kernel_rfl, rfl, enters Tryz.func71 hb71 (by kernel_rfl)⟩, ⟨Tryz.f53, Tryz.func53, hb53, by kernel_rfl, rfl, enters Tryz.func53 hb53 (by kernel_rfl)⟩, ⟨Tryz.f72, Tryz.func72, hb72, by kernel_rfl, rfl, enters Tryz.func72 hb72 (by kernel_rfl)⟩, ⟨Tryz.f75, Tryz.func75, hb75, by kernel_rfl, rfl, enters Tryz.func75 hb75 (by kernel_rfl)⟩, ⟨Tryz.f54, Tryz.func54, hb54, by kernel_rfl, rfl, enters Tryz.func54 hb54 (by kernel_rfl)⟩, ⟨Tryz.f73, Tryz.func73, hb73, by kernel_rfl, rfl, enters Tryz.func73 hb73 (by kernel_rfl)⟩, ⟨Tryz.f74, Tryz.func74, hb74, by kernel_rfl, rfl, enters Tryz.func74 hb74 (by kernel_rfl)⟩, ⟨Tryz.f106, Tryz.func106, hb106, by kernel_rfl, rfl, enters Tryz.func106 hb106 (by kernel_rfl)⟩, ⟨Tryz.f107, Tryz.func107, hb107, by kernel_rfl, rfl, enters Tryz.func107 hb107 (by kernel_rfl)⟩, ⟨Tryz.f108, Tryz.func108, hb108, by kernel_rfl, rfl, enters Tryz.func108 hb108 (by kernel_rfl)⟩, ⟨Tryz.f55, Tryz.func55, hb55, by kernel_rfl, rfl, enters Tryz.func55 hb55 (by kernel_rfl)⟩, ⟨Tryz.f109, Tryz.func109, hb109, by kernel_rfl, rfl, enters Tryz.func109 hb109 (by kernel_rfl)⟩, ⟨Tryz.f110, Tryz.func110, hb110, by kernel_rfl, rfl, enters Tryz.func110 hb110 (by kernel_rfl)⟩, ⟨Tryz.f111, Tryz.func111, hb111, by kernel_rfl, rfl, enters Tryz.func111 hb111 (by kernel_rfl)⟩, ⟨Tryz.f56, Tryz.func56, hb56, by kernel_rfl, rfl, enters Tryz.func56 hb56 (by kernel_rfl)⟩, ⟨Tryz.f57, Tryz.func57, hb57, by kernel_rfl, rfl, enters Tryz.func57 hb57 (by kernel_rfl)⟩, ⟨Tryz.f76, Tryz.func76, hb76, by kernel_rfl, rfl, enters Tryz.func76 hb76 (by kernel_rfl)⟩, ⟨Tryz.f77, Tryz.func77, hb77, by kernel_rfl, rfl, enters Tryz.func77 hb77 (by kernel_rfl)⟩, ⟨Tryz.f112, Tryz.func112, hb112, by kernel_rfl, rfl, enters Tryz.func112 hb112 (by kernel_rfl)⟩, ⟨Tryz.f78, Tryz.func78, hb78, by kernel_rfl, rfl, enters Tryz.func78 hb78 (by kernel_rfl)⟩, ⟨Tryz.f113, Tryz.func113, hb113, by kernel_rfl, rfl, enters Tryz.func113 hb113 (by kernel_rfl)⟩, ⟨Tryz.f152, Tryz.func152, hb152, by kernel_rfl, rfl, enters Tryz.func152 hb152 (by kernel_rfl)⟩, ⟨Tryz.f190, Tryz.func190, hb190, by kernel_rfl, rfl, enters Tryz.func190 hb190 (by kernel_rfl)⟩, ⟨Tryz.f191, Tryz.func191, hb191, by kernel_rfl, rfl, enters Tryz.func191 hb191 (by kernel_rfl)⟩, ⟨Tryz.f115, Tryz.func115, hb115, by kernel_rfl, rfl, enters Tryz.func115 hb115 (by kernel_rfl)⟩, ⟨Tryz.f153, Tryz.func153, hb153, by kernel_rfl, rfl, enters Tryz.func153 hb153 (by kernel_rfl)⟩, ⟨Tryz.f117, Tryz.func117, hb117, by kernel_rfl, rfl, enters Tryz.func117 hb117 (by kernel_rfl)⟩, ⟨Tryz.f154, Tryz.func154, hb154, by kernel_rfl, rfl, enters Tryz.func154 hb154 (by kernel_rfl)⟩, ⟨Tryz.f192, Tryz.func192, hb192, by kernel_rfl, rfl, enters Tryz.func192 hb192 (by kernel_rfl)⟩, ⟨Tryz.f114, Tryz.func114, hb114, by kernel_rfl, rfl, enters Tryz.func114 hb114 (by kernel_rfl)⟩, ⟨Tryz.f116, Tryz.func116, hb116, by kernel_rfl, rfl, enters Tryz.func116 hb116 (by kernel_rfl)⟩, ⟨Tryz.f118, Tryz.func118, hb118, by kernel_rfl, rfl, enters Tryz.func118 hb118 (by kernel_rfl)⟩, ⟨Tryz.f119, Tryz.func119, hb119, by kernel_rfl, rfl, enters Tryz.func119 hb119 (by kernel_rfl)⟩, ⟨Tryz.f120, Tryz.func120, hb120, by kernel_rfl, rfl, enters Tryz.func120 hb120 (by kernel_rfl)⟩, ⟨Tryz.f125, Tryz.func125, hb125, by kernel_rfl, rfl, enters Tryz.func125 hb125 (by kernel_rfl)⟩, ⟨Tryz.f156, Tryz.func156, hb156, by kernel_rfl, rfl, enters Tryz.func156 hb156 (by kernel_rfl)⟩, ⟨Tryz.f160, Tryz.func160, hb160, by kernel_rfl, rfl, enters Tryz.func160 hb160 (by kernel_rfl)⟩, ⟨Tryz.f157, Tryz.func157, hb157, by kernel_rfl, rfl, enters Tryz.func157 hb157 (by kernel_rfl)⟩, ⟨Tryz.f158, Tryz.func158, hb158, by kernel_rfl, rfl, enters Tryz.func158 hb158 (by kernel_rfl)⟩, ⟨Tryz.f159, Tryz.func159, hb159, by kernel_rfl, rfl, enters Tryz.func159 hb159 (by kernel_rfl)⟩, ⟨Tryz.f121, Tryz.func121, hb121, by kernel_rfl, rfl, enters Tryz.func121 hb121 (by kernel_rfl)⟩, ⟨Tryz.f155, Tryz.func155, hb155, by kernel_rfl, rfl, enters Tryz.func155 hb155 (by kernel_rfl)⟩, ⟨Tryz.f122, Tryz.func122, hb122, by kernel_rfl, rfl, enters Tryz.func122 hb122 (by kernel_rfl)⟩, ⟨Tryz.f123, Tryz.func123, hb123, by kernel_rfl, rfl, enters Tryz.func123 hb123 (by kernel_rfl)⟩, ⟨Tryz.f79, Tryz.func79, hb79, by kernel_rfl, rfl, enters Tryz.func79 hb79 (by kernel_rfl)⟩, ⟨Tryz.f124, Tryz.func124, hb124, by kernel_rfl, rfl, enters Tryz.func124 hb124 (by kernel_rfl)⟩, ⟨Tryz.f80, Tryz.func80, hb80, by kernel_rfl, rfl, enters Tryz.func80 hb80 (by kernel_rfl)⟩, ⟨Tryz.f126, Tryz.func126, hb126, by kernel_rfl, rfl, enters Tryz.func126 hb126 (by kernel_rfl)⟩, ⟨Tryz.f81, Tryz.func81, hb81, by kernel_rfl, rfl, enters Tryz.func81 hb81 (by kernel_rfl)⟩, ⟨Tryz.f82, Tryz.func82, hb82, by kernel_rfl, rfl, enters Tryz.func82 hb82 (by kernel_rfl)⟩, ⟨Tryz.f58, Tryz.func58, hb58, by kernel_rfl, rfl, enters Tryz.func58 hb58 (by kernel_rfl)⟩, ⟨Tryz.f51, Tryz.func51, hb51, by kernel_rfl, rfl, enters Tryz.func51 hb51 (by kernel_rfl)⟩, ⟨Tryz.f43, Tryz.func43, hb43, by kernel_rfl, rfl, enters Tryz.func43 hb43 (by kernel_rfl)⟩, trivial⟩
def Ss : List SI := [⟨0, 69, 58⟩]
theorem hS : AllE (SiOk X I) Ss := ⟨⟨nd0.1, ⟨[false, true, false, true, true], by kernel_rfl, by kernel_rfl⟩, by kernel_rfl⟩, trivial⟩
def Dd : List (Nat × List (Nat × Nat)) := [(49, [(28, 2080567)]), (15, [(62, 35184372088828), (14, 35184372088824)]), (127, [(3378, 206158426552), (26, 274877903288)]), (129, [(6, 131063)]), (161, [(423, 523884), (26, 523884)]), (83, [(250684, 38534510500216304943644625), (1002728, 38685626191639336571518961), (31332, 38685626227668133456265169), (122, 38685626227668133590482929), (14, 38685626227668133590597617)]), (193, [(14, 131023)]), (194, [(4094, 2251799813685196), (510, 2251799813678348), (62, 2251799813684236)]), (162, [(14, 1073741007), (24, 1073741583)]), (130, [(4066, 281474976710255), (508, 281474976710255), (62, 281474976710510), (14, 281474976710542)]), (131, [(14948, 8053048633), (58, 8589920057)]), (84, [(1025639, 46757983608131756806169511270120955893769891217379), (32820428, 46757983608131756806169511270120955893769891217379), (64102, 46757983608131756806169511270120955893769891217379), (250, 46767974341980698525336919271907102359724570443747), (2102815988940, 46768052383699857605553531543639463933591034852833), (4107062478, 46768052394588893347023562374467451371407617816033), (2053531236, 46768052394588893379982477980401415810321901139425), (8021606, 46768052394588893382517779180857874613315307566561), (4010802, 46768052394588893382517779180857874613315307566561), (31334, 46768052394588893382517914580549671451782874660321), (122, 46768052394588893382517914646662802211957907652577), (3827507, 46768052394588893382517914646921056382695478656961), (30620052, 46768052394588893382517914646921056382695478656961), (29902, 46768052394588893382517914646921056382695478656961), (14948, 46768052394588893382517914646921056620189990256513), (58, 46768052394588893382517914646921056628986083278817), (28, 46768052394588893382517914646921056628986083278817)]), (132, [(1959, 68660756409), (62668, 68660756409), (122, 68660756409), (28, 68717379505)]), (195, [(26, 1044890)]), (163, [(1022, 5070602400912917605986812821491), (16340, 5070602400912917605986812821475), (261500, 5070602400912917605986812821475), (1046012, 5070602400912917605986812821475), (4184060, 5070602400912917605986812821475), (16736252, 5070602400912917605986812821475), (1071120380, 5070602400912917605986812821475), (4284481532, 5070602400912917605986812821475), (16736254, 5070602391468184640247521869633), (66945007, 5070602400876024117839393193793), (16342, 5070602400912917605985738554433), (32678, 5070602400912917605986811247617), (30, 5070602400912917605986812821377)]), (165, [(6, 1073741759)]), (166, [(6, 144115188075855615)]), (86, [(6, 65531)]), (169, [(30, 37778931862957161709375), (924, 37778931862957161709375), (3710, 37777778941452554862351), (230, 37778931862957094600206), (6, 37778931862957161709070)]), (237, [(30, 524283), (116, 524282)]), (238, [(62, 33554427), (244, 33554426), (116, 33554426)]), (234, [(6, 131055)]), (228, [(6436, 562949953421112), (3216, 562948879679288), (402, 562949953421112), (6, 562949953421240)]), (241, [(798, 75557863725914323418354), (796, 75557859222314696047858), (396, 75557863725845603941618), (6, 75557863725914323418866)]), (229, [(4040, 72057594037926718), (126, 72057594037926718), (122, 72057594037926974)]), (243, [(62, 8589934587), (14, 8589934586)]), (230, [(15251, 36893488147419102268), (7624, 36893488147419101244), (238, 36893488147419102268), (58, 36893488147419102780)]), (247, [(14, 268434687), (52, 268434681)]), (245, [(62, 68719475711), (14, 68719475688)]), (231, [(2044, 141300438308747071), (32586, 144115188075847998), (126, 144115188075847742), (30, 144115188075853884)]), (232, [(228, 4294967102), (14, 4294967102)]), (233, [(15286089, 10889035741470030830827987437816582765112), (30572176, 10888952664720294273585930949875315243576), (477690, 10889035741470030830827987437816582765112), (15285577, 10889035741470030830827987437816582765624), (30571152, 10889035741470030528596532534159289089080), (477674, 10889035741470030830827987437816582765624), (14926, 10889035741470030830827987437816582766136), (29824, 10889035741470030830827987437812287798840), (3728, 10889035741470030830827987437816582766136), (58, 10889035741470030830827987437816582766136)]), (235, [(3854, 19342813113834066795297020), (15392, 19342812537373314491873532), (1924, 19342813113834066795297020), (7680, 19342813113825270702274812), (960, 19342813113834066795297020), (60, 19342813113834066795297020), (6, 19342813113834066795298552)]), (236, [(4094, 374144419156711147060143317175368453031918730999039), (261902, 374144419156711147060143317175368453031918730998012), (1047584, 374144419156030582326301440248441703817055194575100), (130948, 374144419156711147060143317175368453031918730998012), (523776, 374144419156711141867846458640540824501422401777916), (65472, 374144419156711147060143317175368453031918730998012), (4092, 374144419156711147060143317175368453031918730998012), (254, 374144419156711147060143317175368453031918730998012), (1012, 374144419156711147060143317175368453031918730999039), (992, 374144419156711147060143317175367300110414124151036), (124, 374144419156711147060143317175368453031918730998012), (480, 374144419156711147060143317175368453023122637975804), (60, 374144419156711147060143317175368453031918730998012), (6, 374144419156711147060143317175368453031918731001080)]), (224, [(3735546, 21778071482940061661655974875633165516016), (3735550, 21778071482940061661655974875633165516016), (233470, 21778071482940061661655974875633165057264), (29182, 21778071482940061661655974875633165482224), (29180, 21778071482939906919151064203098803138800), (58356, 21778071482940061656933608392763520315632), (58346, 21778071482940061661655974875633165529328), (1822, 21778071482940061661655974875633165525232), (7285, 21778071482940061661655974875633165531376), (908, 21778071482940061661655974875632628660464), (14, 21778071482940061661655974875633165532400)]), (203, [(477523, 2305843009213693890), (1910088, 2305825417027649474), (59690, 2305843009213693890), (1864, 2305843009180139506), (58, 2305843009213693938)]), (170, [(62670, 9223372021822390159), (31332, 9223354429636345487), (122, 9223372021822390159), (52, 9223372036854775759), (12, 9223372036854710211)]), (171, [(31335, 9007199247400843), (15666, 9007199247400203), (122, 9007199247400843), (12, 9007199254609859)]), (133, [(254, 2462625387274654950767440006258975862817483704404090416746768337765357610718575663213391640930307227550414249393983), (4052, 2462625387274654950767440006258975862817483704404090416746768337765357610718575663213391640930307227550414249393959), (64886, 2462625387274654950767440006258975862817483704404090416746768337765357610718575663213391640930307227550414249393959), (32440, 2462625387274654950767440006258975862817483704404090416746768337765357521515594869090899074787434136956968225472295), (129786, 2462625387274654950767440006258975862817483704404090416746768337765357610718575663213391640930307227550414249393959), (129784, 2462625387274654950767440006258975862817483704404090416746767571517587177774146484039878065775715418180853157592871), (519162, 2462625387274654950767440006258975862817483704404090416746768337765357610718575663213391640930307227550414249393959), (519160, 2462625387274654950767440006258975862817483704404090415139830293506367335176613570872229038408104233767621414091559), (1038332, 2462625387274654950767440006258975862817483704404090416746768337765357610718575663213391640930307227550414249393959), (4153340, 2462625387274654950767440006258975862817483704404090416746768337765357610718575663213391640930307227550414249393959), (16613372, 2462625387274654950767440006258975862817483704404090416746768337765357610718575663213391640930307227550414248999719), (66453500, 2462625387274654950767440006258975862817483704404090416746768337765357610718575663213391640930307227550414249393959), (265814012, 2462625387274654950767440006258975862817483704404090416746768337765357610718575663213391640930307227550414249392935), (2126512122, 2462625387274654950767440006258975862817483704404090416746768337765357610718575663213391640930307227550414248869671), (8506048484, 2462625387274654950767440006258975862817483704404090416746768337765357610718575663213391640930307227550414249393959), (4253024252, 2462625387274654950767440006258975862817483704404090416746768337765357610718575663213391640930307227550414249393959), (17012097020, 2462625387274654950767440006258975862817483704404090416746768337765357610718575663213391640930307227550414249393959), (265814014, 2462625387274654950767309635956490455707962523880032216544461043788162990798534285610635068069185922097688371788579), (259582, 2462625387274654950767440006258975862817483704397350430079980677816690856946820090930984462366735632526608206658339), (4007, 2462625387274654950767440006258975862817483704404090416746768337765357610718575663213391624005345752945605803506467), (128206, 2462625387274654950767440006258975862817483704404090416746768337765357610718575663213391624005345752945605803457315), (128204, 2462625387274654950767440006258975862817483704404090416746768337765357610718575663213352009924088620776809031519011), (250, 2462625387274654950767440006258975862817483704404090416746768337765357610718575663213391624005345752945605803506467), (28, 2462625387274654950767440006258975862817483704404090416746768337765357610718575663213391640628075772646756955717411), (6, 2462625387274654950767440006258975862817483704404090416746768337765357610718575663213391640930307227550414249393187)]), (85, [(30, 65487), (116, 65487)]), (150, [(423, 523884), (26, 523884)]), (147, [(423, 523884), (26, 523884)]), (87, [(30, 9007199254740927), (234, 9007199254740743), (942, 9007199254740743), (15102, 9007199254740743), (470, 9007199254707463), (3742, 9007199254739207)]), (204, [(7474, 4294737081), (58, 4294737849)]), (205, [(14, 36893488147419103215)]), (206, [(7474, 50319340), (58, 67096556)]), (208, [(6, 274877906927)]), (207, [(7474, 4294737081), (58, 4294737849)]), (209, [(7474, 4294737081), (58, 4294737849)]), (210, [(6, 131055)]), (211, [(6, 131055)]), (212, [(6, 35184372088815)]), (213, [(7474, 4294737081), (58, 4294737849)]), (214, [(7474, 4294737081), (58, 4294737849)]), (215, [(7474, 4294737081), (58, 4294737849)]), (172, [(126, 365375409332725729550921208179070754913983135727), (1662, 365375409332715344957204138523813693921324695523), (414, 365375409332725729549683268139785374639084011491), (102, 365375409332725729550921208178998697319945207779), (24, 365375409332725729550921208179070754913983135459)]), (135, [(1022, 26328072917139296674479506920917608079723773850137277813577744379), (1020, 26328072917139109602269928565344078008065186165910761854212243193), (1043454, 26328072917139296674479506920917608079723773850137277813577743873), (534249469, 26328072917139296674479506920917608079723773850137277813577743873), (34191966204, 26328072917139296674479506920917608079723773850137277813577743873), (547071459324, 26328072917139296674479506920917608079723773850137277813577743873), (1094142918654, 26328072917139296674479506920917608079723773850137277813577743873), (280100587175934, 26328072917139296674479506920917608079723773850137277813577743873), (2188285837310, 26328072917139296674479506920907223486006704194880216820902526465), (4273995772, 26328072917139296674479506920917608079723773840913905776706190849), (2086910, 26328072917139296674479506920917608079723773850137277538683059713), (508, 26328072917139296674479506920917608079723773850137277813560966657), (14, 26328072917139296674479506920917608079723773850137277813577744369)]), (173, [(14, 2097147), (214, 2064377), (6782, 2097097)]), (136, [(30, 274877906927), (468, 274877906915), (28, 274877890531), (52, 274877906927)]), (177, [(30, 549755813871), (6, 549755813835)]), (226, [(14, 8589934575), (212, 8589918179), (860, 8455716835)]), (216, [(6, 33554179)]), (174, [(2046, 44601490397061246283071436545296723011960783), (65448, 44601490396898987006242223181905145001671619), (261816, 44514378111129486036424812645794190349827011), (130911, 44601490397061246283071436545296723011959755), (32726, 44601490394465097853804022731031474847349443), (4074, 44601490397061246283071436545296723011960003), (124, 44601490397061246283071431933610704584572739), (1966, 44601490397061246283071436545296723011960579), (60, 44601490397061246283071436545296723011927811)]), (219, [(14, 137438953455), (52, 137438953455)]), (218, [(6, 131055)]), (175, [(6, 4193843)]), (176, [(6, 262031)]), (178, [(6, 524175)]), (179, [(14, 17179869167)]), (180, [(6, 549755813823)]), (181, [(6, 549755813823)]), (182, [(30, 4503599627370479), (3770, 4503595332403139), (470, 4503599627366083)]), (221, [(14, 68719476719), (52, 68719476719)]), (220, [(6, 1073741791)]), (183, [(64818, 316911592246965187573647930059), (506, 316911592246965187573647933387), (32050, 316912631165573806262532964291), (250, 316912650055039737741113819075), (60, 316912650056985292780137873347), (14, 316912650057057350374175801283), (12, 316912650057057350374142246883)]), (184, [(6, 131055)]), (222, [(6, 70368744177631)]), (223, [(14950, 3220996025), (58, 4294737849)]), (185, [(126, 154742504910672534362390511), (14, 154742504910672534362390411), (12, 154742504910672525772455907)]), (137, [(14, 143343663499379469475676305956380433799785311823017570233599302461682679755530300504376159569382855409647), (212, 143343663499379469475676305956380433799785311823017570233599302461682679755530300504376159569382855409539), (860, 143343663499379469475676305956380433799785311823017570233599302461682679755530300504376159569382855409647), (3452, 143343663499379469475676305956380433799785311823017570233599302461682679755530300504376159569382855409647), (27642, 143343663499379469475676305956380433799785311823017570233599302461682679755530300504376159569382855409647), (27640, 143343663499379469475676305956380433799785311823017570233599302461682679755371844179347630894195767508963), (55292, 143343663499379469475676305956380433799785311823017570233599302461682679755530300504376159569382855409647), (884732, 143343663499379469475676305956380433799785311823017570233599302461682679755530300504376159569382855409647), (3538940, 143343663499379469475676305956380433799785311823017570233599302461682679755530300504376159569382855409647), (113246202, 143343663499379469475676305956380433799785311823017570233599302461682679755530300504376159569382855409647), (452984804, 143343663499379469475676305956380433799785311823017570233599302461682679755530300504376159569382855409647), (226492412, 143343663499379469475676305956380433799785311823017570233599302461682679755530300504376159569382855409647), (905969660, 143343663499379469475676305956380433799785311823017570233599302461682679755530300504376159569382855409647), (3623878652, 143343663499379469475676305956380433799785311823017570233599302461682679755530300504376159569382855409647), (14495514620, 143343663499379469475676305956380433799785311823017570233599302461682679755530300504376159569382855409647), (231928233980, 143343663499379469475676305956380433799785311823017570233599302461682679755530300504376159569382855409647), (3623878654, 143343663499379469475674408818790369611239492035999187890917034486253917900529078031319773920666834697955), (7077884, 143343663499379469475676305956380433799785311810463366762825940934011100909114967672171448680454786383587), (3454, 143343663499379469475676305956380433799785311823017570233599302461682679755530300504376159499014111231715)]), (138, [(268343719, 89200598817553491399761029617978268838778851), (16771482, 89200598817553491399761029617978268838778851), (4192868, 89202895723530207734389407396578433274206179), (16378, 89202980794121937969005273240230291216267235), (1022, 89202980794122492566142873090593446023921635), (64818, 89202980794122492556470950024842348758826595), (506, 89202980794122492566142356581759382156476003), (62, 89202980794122492566142873090593446023921251), (3737, 89202980794122492566142873090470300721610723), (58, 89202980794122492566142873090470300721610723), (12, 89202980794122492566142873090589047977410531)]), (140, [(14, 32747)]), (139, [(2046, 2923003274661805836407369665432566039311865085935), (4090, 2923003274661805836407369665432566039311865084879), (2074238, 2923000487068656020079476973467781835121374527427), (33187752, 2923003274661805836407369663071382674731740167235), (132751032, 2923003274661805831336767264519648310179749952579), (265502076, 2923003274619270540542252357499644090237591747651), (66375518, 2923003274661805826266164863606730704192937131075), (129638, 2923003274661805836407369665432565916166562774595), (506, 2923003274661805836407369665432565916166562774979), (62, 2923003274661805836407369665432566039311865085891), (12, 2923003274661805836407369665432566039303275151331)]), (141, [(30, 8175)]), (189, [(423, 523884), (26, 523884)]), (88, [(126, 1427247692705959881058285969449495136382746607), (2004, 1427247692705959881058285969449495136382746595), (128502, 1427247692705959881058285969449495136382746595), (128508, 1427247692705959881058285969449495136382746595), (2056182, 1427247692705959881058285969449495136382746595), (4112382, 1427247692705959881058285969449495136382746595), (8224766, 1427073468134096360564992721650490071058481123), (2006, 1427247692705959881058285969431199262896553955), (28, 1427247692705959881058285969449490738336235491), (6, 1427247692705959881058285969449495136382746595)]), (59, [(523570, 75320623338017571499454398037410546065677409116201863348091), (4090, 100429030279564294554797555730241211730086830894058001399675), (261426, 100433531903371496412788419955227115131201861839497193324409), (2042, 100433627684342800530842067351916312025525838010692329799545), (133484134, 100433627765456141401516190460090066716910962605062361185657), (66742066, 100433627766186892220181641919191909133269104114890327442809), (521422, 100433627766186892220181641919191909133269104114890327457145), (260708, 100433627766186892221330094907550076447457993414972545170809), (1018, 100433627766186892221372630203415193755390915240901516197753), (126, 100433627766186892221372630771322662657637687111424552206201), (7474, 100433627766186892221372630771322353172623830541089703460857), (58, 100433627766186892221372630771322662657633651886158428241913), (12, 100433627766186892221372630771322662657637542996236476350457)]), (151, [(7986, 56667388988119211573246), (62, 75556854919597792428030), (935, 75557863602769021108220), (58, 75557863602769021108220), (26, 75557863725884258648060), (1330, 75557863725913786519548), (10, 75557863725914323390460)]), (145, [(7, 16383)]), (89, [(130355, 151099586550764150980587), (1018, 151099586550764150980587), (506, 151115725481503809863657), (250, 151115727451347610501097), (15667, 151115727451828643168233), (122, 151115727451828643168233), (60, 151115727451828643168233)]), (60, [(928679, 41538374868278620996718773242167053), (7429426, 41538374868278620996718773242166797), (58042, 41538374868278620996718773242167053), (29020, 41538374868278620996718773242167053), (3626, 41538374868278621028243970633760653), (1812, 41538374868278621028243970633760653), (7261, 41538374868278621028243970633760717), (1814, 41538374829592994800575837043163021), (14, 41538374868278621028243970633760717)]), (62, [(14, 137438953455), (212, 137438953449), (214, 137438822249), (6782, 137438953065)]), (146, [(423, 523884), (26, 523884)]), (94, [(6, 4194287)]), (63, [(8190, 374144419156711147060143317175368453031918731001851), (4094, 374144419156711147060143317175368453031918731001786), (1022, 374144419156711147060143317175368453031918731001818), (1020, 374144419156626076468413082559502609380060788948954), (1018, 374144419156711147060143317175368453031918731001818), (124, 374144419156711147060142698205348810341781281439722), (14, 374144419156711147060143317175368453031918731001842), (6, 374144419156711147060143317175368453031918731001842)]), (95, [(6, 268435439)]), (64, [(30, 79228162514264337593543950331), (935, 79228162514264337593543921650), (478462, 79228162219116432414191095538), (119614, 79228162514264337593543921266), (119612, 79228162514264333195497410482), (14950, 79228162514264337593543921586), (58, 79228162514264337593543921650)]), (96, [(29, 67108863), (6, 67092465)]), (65, [(62, 576460752303423483), (250682, 576460744787116001), (31334, 576460752169090977), (122, 576460752303308769), (60, 576460752303308769)]), (100, [(6, 131055)]), (148, [(423, 523884), (26, 523884)]), (98, [(14, 3940649673949179), (6, 4503599627370465)]), (97, [(30, 1041405)]), (149, [(423, 523884), (26, 523884)]), (66, [(30, 17179869179), (935, 17179862001), (58, 17179862001)]), (67, [(62, 288230376151711739), (122, 288230376151711738), (14, 288230376151711730), (6, 288230376151711730)]), (104, [(29, 17592186044415), (28, 17592186044387)]), (68, [(4007, 18446744069951455209), (128204, 18446744069951454953), (250, 18446744069951455209), (122, 18446744073705881569), (14, 18446744073709551585)]), (48, [(130355, 2475880078570698977147092881), (266966439, 2475879783422793797794265233), (16685402, 2475879783422793797794265233), (2085674, 2475880078570698977147091089), (1042836, 2475880078570698977147092113), (1018, 2475880078570698977147092881), (60, 2475880078570758350774992881), (14, 2475880078570760549798248417)]), (8, [(7833, 1073627027), (122, 1073627027), (60, 1073627027)]), (11, [(4010905, 1152917656315690643), (62670, 1152917656315690643), (15666, 1152921504606387859), (122, 1152921504606388115), (60, 1152921504606388115)]), (33, [(14, 17179869131), (6, 17179869129)]), (46, [(477640, 19807040628566084398385987084), (14926, 39614081257132168796771974668), (7460, 39614005699268442882448555788), (1864, 39614081257132168796771974924), (58, 39614081257132168796771975116)]), (47, [(238792, 9671406556917033397649292), (7462, 19342813113834066795298700), (3728, 19342813041776472757370828), (58, 19342813113834066795298764)]), (42, [(30, 34359738351), (14, 34359737869)]), (6, [(1022, 19342813113834066795298814), (510, 19342813113834066795296798), (62, 19342813113834066795298560), (14, 19342813113834066795298784)]), (16, [(3, 131071)]), (18, [(1, 16383)]), (20, [(1, 32767)]), (23, [(1, 8191)]), (26, [(1, 2097151)]), (27, [(1, 524287)]), (28, [(1, 16383)]), (30, [(1, 131071)]), (31, [(1, 8191)]), (32, [(1, 16383)]), (38, [(14, 8187)]), (40, [(14, 4091)]), (71, [(840, 8796093022008), (26, 17592186044216)]), (70, [(8008, 154742504910672534362390470), (250, 309485009821345068724780998), (60, 309485009244884316421357542), (116, 309485009821345068724781039), (28, 309485009821345068724715494)]), (52, [(3913, 34359738338), (31300, 34359738338), (122, 34359738338), (60, 34359738338)]), (75, [(211, 262092), (26, 262092)]), (72, [(840, 137438953272), (26, 274877906744)]), (53, [(2073746, 678469272874899582559986240285280710077753816400237679918696781296365797345), (1036872, 904625697166532776746648320380374280103671755200316906558262375061820866529), (32402, 904625697166532776746648320380374280103671755200316906558262375061821128673), (506, 904625697166532776746648320380374280103671755200316906558262375061821259745), (2099551823, 904625697166532776746648320380374280103671755200316906558262375061821311457), (2099551820, 904625697166532676313020554193482058731040983877654248920575263637269088737), (524887954, 904625697166532776746648320380374280103671755200316906558262375061821262305), (8201374, 904625697166532776746648320380374280103671755200316906558262375061821311457), (2050340, 904625697166532776746648320380374192991385823440070259934362872529159188961), (512584, 904625697166532776746648320380374280103671755200316906558262375061821321697), (16018, 904625697166532776746648320380374280103671755200316906558262375061821323745), (250, 904625697166532776746648320380374280103671755200316906558262375061821324769), (1001875, 904625697166532776746648320380374280103671755200316906558262375061821325089), (500936, 904625697166532776746648320380374280103671755200316906558262375061821324833), (15654, 904625697166532776746648320380374280103671755200316906558262375061821325089), (7824, 904625697166532776746648320380374280103671755200316906558262093586844614561), (122, 904625697166532776746648320380374280103671755200316906558262375061821325217), (467, 904625697166532776746648320380374280103671755200316906558262375061821325249), (58, 904625697166532776746648320380374280103671755200316906558262375061821325249)]), (73, [(3912, 1099511626801), (122, 1099511627313)]), (106, [(62, 2658455991569831745807614120560689147), (3933, 2658455991569831745807614120560689121), (15740, 2658455991569831745807614120560689121), (62972, 2658455991569831745807614120560689121), (16121852, 2658455991569831745807614120560689121), (16121854, 2658455991569831744654692615953841633), (62974, 2658455991569831745807611921537433057), (488, 2658455991569831745807614120560687585)]), (107, [(6, 268435391)]), (108, [(6, 9007199254740735)]), (55, [(6, 65531)]), (109, [(468, 147573952589676412735), (1884, 147573952589676412735), (7548, 147573952589676412735), (30204, 147573952589676412735), (15100, 147537923792657317647), (940, 147573952589542063631), (119807, 147573952589676019215), (6, 147573952589676412430)]), (110, [(14, 9903520314283042199192993743), (7031186, 9903520314283042199192992783), (3515592, 9903520166709089609516579855), (878896, 9903520314274034999938251791), (109862, 9903520314283042199192992783), (54928, 9903520314283042061754039823), (858, 9903520314283042199192993295), (52, 9903520314283042199192993667)]), (111, [(15654, 36028797018963462), (3912, 36028797018963462), (122, 36028797018963718), (14, 36028797018963846), (52, 36028797018963919)]), (74, [(126, 279968092772225526319680285071055534765205687154331191862498637620473983897520118172609686658950889423), (2004, 279968092772225526319680285071055534765205687154331191862498637620473983897520118172609686658950889411), (32118, 279968092772225526319680285071055534765205687154331191862498637620473983897520118172609686658950889411), (16056, 279968092772225526319680285071055534765205687154331191862498637620473983892568358015468165559354392515), (64250, 279968092772225526319680285071055534765205687154331191862498637620473983897520118172609686658950889411), (64248, 279968092772225526319680285071055534765205687154331191862498637619144755901735202299705879598670544771), (257018, 279968092772225526319680285071055534765205687154331191862498637620473983897520118172609686658950889411), (257016, 279968092772225526319680285071055534765205687154331191862409434639679861404953975299519093212926967683), (514044, 279968092772225526319680285071055534765205687154331191862498637620473983897520118172609686658950889411), (2056188, 279968092772225526319680285071055534765205687154331191862498637620473983897520118172609686658950889411), (8224764, 279968092772225526319680285071055534765205687154331191862498637620473983897520118172609686658950877059), (32899068, 279968092772225526319680285071055534765205687154331191862498637620473983897520118172609686658950889411), (131596284, 279968092772225526319680285071055534765205687154331191862498637620473983897520118172609686658950873027), (1052770298, 279968092772225526319680285071055534765205687154331191862498637620473983897520118172609686658950856643), (4211081188, 279968092772225526319680285071055534765205687154331191862498637620473983897520118172609686658950889411), (2105540604, 279968092772225526319680285071055534765205687154331191862498637620473983897520118172609686658950823875), (8422162428, 279968092772225526319680285071055534765205687154331191862498637620473983897520118172609686658950889411), (131596286, 279968092772225526319680281452552746099074580167737910341001517205786963096252491921113442337956036483), (128510, 279968092772225526319680285071055534765205687154330817718079480909326923754202942785709910666510335875), (979, 279968092772225526319680285071055534765205687154331191862498637620473983897520118172609686658950889219), (15654, 279968092772225526319680285071055534765205687154331191862498637620473983897520118172609686658950887683), (15652, 279968092772225526319680285071055534765205687154331191862498637620473983897520118172609686624591150595), (122, 279968092772225526319680285071055534765205687154331191862498637620473983897520118172609686658950889219), (60, 279968092772225526319680285071055534765205687154331191862498637620473983897520118172609686658950889219)]), (54, [(14, 32719)]), (56, [(1864, 1152921504606846748), (58, 2305843009213693724), (860, 2305843008676822940), (13820, 2305825417027649436), (214, 2305843009213660572), (3391, 2305843009213692316)]), (76, [(2046, 7588550360256754183279148073529370729071901715047420004889892225542594864082845691), (2044, 7587624023542855653715759505649301225809075555170094880377576564870531559045726073), (1020, 7588550360242950690585566945954501217347347664142517786945551452432269815635246969), (508, 7588550360256753762029981399300623937399790980365690729309510623346149846838935417), (252, 7588550360256754183279144934978503035731519797152708401056684174364872632065589001), (514045, 7588550360256754183279148073529370729071901715047420004889892225542594864082845441), (33688649718, 7588550360256754183279148073529370729071901715047420004889892225542594864082845441), (134754598908, 7588550360256754183279148073529370729071901715047420004889892225542594864082845441), (539018395644, 7588550360256754183279148073529370729071901715047420004889892225542594864082845441), (275977418571770, 7588550360256754183279148073529370729071901715047420004889892225542594864082845441), (539018395646, 7588550360256754183279148073529370729071901715047420004270922205899904726633279233), (1052770300, 7588550360256754183279148073529370729071901715047420004889892225542524495338663681), (514046, 7588550360256754183279148073529370729071901715047420004889892225542594864074452737), (124, 7588550360256754183279148073529370729071901715047420004889892225542594864082841345)]), (112, [(14, 16777211), (6782, 16777161)]), (77, [(30, 4503599627370479), (28, 4503591037435875), (52, 4503599627370479)]), (190, [(2046, 664613997892457936451903530140172239), (8180, 664613997892457936451903530140172239), (510, 664613997892457936451903530140170694), (2036, 664613997892457936451903530140172239), (124, 664613997892457931840217511712784326), (15734, 664613997892457936451903530140172038), (244, 664613997892457936451903530140073734)]), (115, [(30, 68719476719), (28, 68719468491)]), (191, [(3912, 288230376151711683), (122, 576460752303423427), (28, 576451956210401251), (12, 576460752302374883)]), (152, [(8008, 6917529027641081219), (250, 9223372036854775171), (3912, 9223372019674906243), (122, 9223372036854775427), (6, 9223372036854775555)]), (153, [(6, 16776963)]), (192, [(211, 524236), (3364, 524236), (26, 524236)]), (154, [(14, 137438953455), (52, 137438953455)]), (117, [(14, 67108799), (6, 67108403)]), (113, [(8008, 211106232532163), (250, 281474976709827), (30, 281474976710339), (6, 281474976710531)]), (114, [(6, 262031)]), (116, [(6, 524175)]), (118, [(14, 2147483631)]), (119, [(6, 8589934527)]), (160, [(6, 73786976294838206447)]), (156, [(1864, 67108812), (58, 134217676)]), (157, [(1864, 1208925819614629174706124), (58, 2417851639229258349412300)]), (158, [(1864, 33554380), (58, 67108812)]), (159, [(1864, 67108812), (58, 134217676)]), (125, [(65170, 254629497041810760783555711051172270131433549208242031329517556169297662470417088272924515), (32584, 509258994083621521567111422102344540262867098416484062659035112338595324940834176545848419), (1018, 509258994083621521567111422102344540262867098416484062659035112338595324940834176545849187), (16200, 509258994083621521456683480553695519663911004620051655419817368783869140058233788965060515), (506, 509258994083621521567111422102344540262867098416484062659035112338595324940834176545849251), (8008, 509258994083621521567111422101541071240737603278713081612864531037334223443942780128198595), (250, 509258994083621521567111422102344540262867098416484062659035112338595324940834176545849283), (60, 509258994083621521567111422102344540262861252409934739047362297599264459808755552815677411), (28, 509258994083621521567111422102344540262867098416309838087171591845302077141829111221583843), (12, 509258994083621521567111422102344540262867098416484062659035109862715246370073626747600867)]), (120, [(16200, 18446744073709551275), (506, 36893488147419102891), (124, 36893470555233058731), (60, 36893488138829168419), (28, 36893488147419037475)]), (155, [(14, 68719476719), (52, 68719476719)]), (121, [(4147656, 332306998946228968225951765070084675), (129614, 664613997892457936451903530140170819), (16200, 664613997892457936451903530140171331), (506, 664613997892457936451903530140172099), (8008, 664613997892453214085420660494958467), (250, 664613997892457936451903530140172163), (60, 664613997892457936447399930512801731), (14, 664613997892457936451903530140172227), (12, 664613997892457936451903530123395043)]), (122, [(6, 131055)]), (123, [(32584, 178405961588244985132285746181186892047842411), (1018, 356811923176489970264571492362373784095685739), (126, 356811923176489970264571492362373784095686251), (124, 356811923176489970225885866134705650505088907), (14, 356811923176489970264571492362373784095686539), (12, 356811923176489970264571492362373749735948259)]), (78, [(14, 286687326998758938951352611912760867599570623646035140467198604923365359511060601008752319138765710819311), (860, 286687326998758938951352611912760867599570623646035140467198604923365359511060601008752319138765710819311), (3452, 286687326998758938951352611912760867599570623646035140467198604923365359511060601008752319138765710819311), (27642, 286687326998758938951352611912760867599570623646035140467198604923365359511060601008752319138765710819311), (27640, 286687326998758938951352611912760867599570623646035140467198604923365359511060600933194455412851387400163), (55292, 286687326998758938951352611912760867599570623646035140467198604923365359511060601008752319138765710819311), (884732, 286687326998758938951352611912760867599570623646035140467198604923365359511060601008752319138765710819311), (3538940, 286687326998758938951352611912760867599570623646035140467198604923365359511060601008752319138765710819311), (113246202, 286687326998758938951352611912760867599570623646035140467198604923365359511060601008752319138765710819311), (452984804, 286687326998758938951352611912760867599570623646035140467198604923365359511060601008752319138765710819311), (226492412, 286687326998758938951352611912760867599570623646035140467198604923365359511060601008752319138765710819311), (905969660, 286687326998758938951352611912760867599570623646035140467198604923365359511060601008752319138765710819311), (3623878652, 286687326998758938951352611912760867599570623646035140467198604923365359511060601008752319138765710819311), (14495514620, 286687326998758938951352611912760867599570623646035140467198604923365359511060601008752319138765710819311), (231928233980, 286687326998758938951352611912760867599570623646035140467198604923365359511060601008752319138765710819311), (3623878654, 286687326998758938949409943020535138528651161739211621560556198084313219989808788599013414853560502321059), (7077884, 286687326998758938951352611912760867599570623646035140280126395345009785980988942421068092622806345318307), (3454, 286687326998758938951352611912760867599570623646035140467198604923365359511060601008752319138765442383779)]), (79, [(8365267, 2854495385411919762116571938898990272765477795), (66922128, 2854408273125988001869925314999487740103345059), (1045658, 2854495385411919762116571938898990272765477795), (261412, 2854495380095007778976908447283762031644107683), (65352, 2854495385411919762116571938898990272765485987), (2042, 2854495385411919762116571938898990272765490083), (250, 2854495385411919762116571938898990272765493155), (59710, 2854495385411919762116571938898990272765493027), (14926, 2854495385411919762116571938898990272765492515), (1864, 2854495385411919762116571938898990272765492259), (58, 2854495385411919762116571938898990272765493027), (12, 2854495385411919762116571938898990135326539683)]), (126, [(980, 37778931862957161709551), (3932, 37778931862957161709551), (15740, 37778931862957161709551), (60, 37778931862957161701315), (116, 37778931862957161709551)]), (81, [(14, 524237)]), (80, [(4092, 62307562302417931542365955950641083), (259230, 83076749736557242056487941267517475), (1036916, 83076749736554585725341327092080675), (16200, 83076749736557242056487941267517475), (506, 83076749736557242056487941267519523), (62, 83076749736557242056487941267520547), (12, 83076749736557242056487803828567971)]), (82, [(14, 131023)]), (57, [(4051, 22835963083295358096932575511191922182123945763), (259228, 22824812710696092785361807652055598001370955299), (129612, 22835963082963051097986346542965970417053859363), (129610, 22835963083295358096932575511191922182123945507), (16200, 22835963083295358096932575511191922182123945507), (506, 22835963083295358096932575511191922182123945763), (32124, 22835963083295358096932575511191922182123945891), (64254, 22835963083295358096932575511191922182123945891), (500, 22835963083295358096932575511191918883589062563), (12, 22835963083295358096932575511191922177828978595)]), (51, [(8100, 4722366482869645213617), (506, 4722366482869645213617), (4004, 4722366482869645213649), (250, 4722366482869645213649), (932, 4722366482869645213665), (58, 4722366482869645213665)]), (58, [(499, 2199023255469), (62, 2199023255469), (3748, 2199023255497), (234, 2199023255497)]), (41, [(524243, 215679573337205118357336120696157045389097155380324579848828881911801), (65530, 215679573337205118357336120696157045389097155380324579848828881911801), (524196, 215679573337205118357336120696157045389097155380324579848828881944569), (32762, 215679573337205118357336120696157045389097155380324579848828881944569), (65444, 215679573337205118357336120696157045389097155380324579848828881981401), (4090, 215679573337205118357336120696157045389097155380324579848828881981401), (16683922, 215679573337205118263800015906979258624061326086482466590849199242329), (8341960, 215679573337205118357336120696157045389097155380324579848828881989721), (260686, 215679573337205118357336120696157045389097155380324579848828881992793), (130340, 215679573337205118357336120696135777741164596726358118935864396480089), (32584, 215679573337205118357336120696157045389097155380324579848828881993305), (1018, 215679573337205118357336120696157045389097155380324579848828881993561), (7826, 215679573337205118357336120696157045389094679500246009088279083745265), (3912, 215679573337205118357336120696157045389097155380324579848828881993697), (122, 215679573337205118357336120696157045389097155380324579848828881993713), (12, 215679573337205118357336120696157045389097155380324579567353905283065)]), (5, [(7474, 147537893006331871228), (58, 147573921803350835196), (28, 147573921803350835196)])]
noncomputable def E (kc : List KC) : XE := ⟨I, Ss, [(0, [3, 4, 7, 8, 9, 10, 11])], Dd, [6, 59, 83, 127, 162, 193, 194, 131, 165, 166, 86, 225, 237, 238, 234, 246, 242, 231, 233, 235, 236, 87, 103, 150, 135, 172, 205, 206, 208, 210, 211, 212, 173, 219, 227, 187, 221, 69, 61, 62, 93, 46, 47, 42, 5, 41, 52, 70, 71, 72, 75, 73, 106, 107, 108, 55, 56, 57, 76, 77, 112, 78, 113, 191, 115, 117, 154, 192, 114, 116, 118, 119, 120, 125, 156, 160, 157, 158, 159, 121, 155, 122, 123, 79, 80, 126], 64, kc⟩
end Go.Proofs.YtffabbjfdgmbjaaGreat.Cl

namespace Go.Proofs.YtffabbjfdgmbjaaGreat.Cl
open Go Go.Eng
set_option maxRecDepth 100000
noncomputable def a0 : AV := .int .i64 (.ofNat 1)
noncomputable def a1 : AV := .int .i64 (.ofNat 0)
noncomputable def a2 : AV := .int .i64 (.ofNat 9)
noncomputable def a3 : AV := .bool false
noncomputable def a4 : AV := .nilsl
noncomputable def a5 : List AV := [a0, a1, a2, a3, a4]
noncomputable def a6 : AV := .int .i64 (.ofNat 2147483647)
noncomputable def a7 : List AV := [a0, a1, a6, a3, a4]
noncomputable def a8 : AV := .list 84 [a5, a7]
noncomputable def a9 : AV := .int .i64 (.ofNat 4)
noncomputable def a10 : AV := .int .u8 (.ofNat 1)
noncomputable def a11 : AV := .int .u8 (.ofNat 0)
noncomputable def a12 : List AV := [a1, a4, a10, a1, a1, a1, a1, a1, a3, a3, a3, a3, a3, a11, a4, a4, a4, a4, a4, a4, a4, a4, a4, a1]
noncomputable def a13 : AV := .list 63 [a12]
noncomputable def a14 : AV := .int .i64 (.ofNat 5)
noncomputable def a15 : List AV := [a1]
noncomputable def a16 : AV := .list 3 [a15]
noncomputable def a17 : List AV := [a14, a16, a4]
noncomputable def a18 : AV := .list 104 [a17]
noncomputable def a19 : AV := .agg [a8, a9, a13, a18]
noncomputable def a20 : AV := .bool true
noncomputable def a21 : AV := .int .i64 (.ofNat 370)
noncomputable def a22 : AV := .int .u8 (.ofNat 9)
noncomputable def a23 : List AV := [a0]
noncomputable def a24 : AV := .list 3 [a23]
noncomputable def a25 : AV := .int .u8 (.ofNat 15)
noncomputable def a26 : List AV := [a10, a11, a0, a1, a1, a1, a1, a1, a4]
noncomputable def a27 : AV := .list 74 [a26]
noncomputable def a28 : List AV := [a25, a1, a1, a1, a1, a1, a3, a3, a3, a3, a3, a11, a27, a4, a4, a4, a4, a4, a4, a4, a4]
noncomputable def a29 : AV := .list 61 [a28]
noncomputable def a30 : List AV := [a1, a4, a22, a1, a1, a1, a1, a1, a3, a3, a3, a3, a3, a11, a4, a4, a4, a4, a24, a29, a4, a4, a4, a1]
noncomputable def a31 : AV := .int .u8 (.ofNat 5)
noncomputable def a32 : AV := .int .u8 (.ofNat 3)
noncomputable def a33 : AV := .int .u8 (.ofNat 2)
noncomputable def a34 : List AV := [a33, a11, a1, a0, a1, a1, a1, a1, a4]
noncomputable def a35 : AV := .list 74 [a34]
noncomputable def a36 : List AV := [a25, a1, a1, a1, a1, a1, a3, a3, a20, a3, a3, a11, a35, a4, a4, a4, a4, a4, a4, a4, a4]
noncomputable def a37 : AV := .int .u8 (.ofNat 20)
noncomputable def a38 : AV := .int .i64 (.ofNat 3)
noncomputable def a39 : List AV := [a10, a11, a38, a1, a1, a1, a1, a1, a4]
noncomputable def a40 : AV := .list 74 [a39]
noncomputable def a41 : List AV := [a10, a1, a1, a1, a4]
noncomputable def a42 : AV := .list 110 [a41]
noncomputable def a43 : List AV := [a33, a1, a1, a1, a1, a1, a3, a3, a3, a3, a3, a11, a40, a4, a42, a4, a4, a4, a4, a4, a4]
noncomputable def a44 : AV := .list 61 [a43]
noncomputable def a45 : List AV := [a37, a1, a1, a1, a1, a1, a3, a3, a3, a3, a3, a11, a4, a4, a4, a4, a4, a44, a4, a4, a4]
noncomputable def a46 : AV := .int .i64 (.ofNat 20)
noncomputable def a47 : List AV := [a10, a11, a46, a1, a1, a1, a1, a1, a4]
noncomputable def a48 : AV := .list 74 [a34, a47]
noncomputable def a49 : List AV := [a31, a10, a1, a1, a1, a1, a1, a1, a48]
noncomputable def a50 : AV := .list 74 [a49]
noncomputable def a51 : List AV := [a22, a11, a1, a1, a1, a1, a1, a6, a50]
noncomputable def a52 : AV := .list 74 [a51]
noncomputable def a53 : List AV := [a10, a0, a1, a1, a4]
noncomputable def a54 : AV := .list 110 [a53]
noncomputable def a55 : List AV := [a33, a1, a1, a1, a1, a1, a3, a3, a3, a3, a3, a11, a52, a4, a54, a4, a4, a4, a4, a4, a4]
noncomputable def a56 : AV := .list 61 [a36, a45, a55]
noncomputable def a57 : List AV := [a32, a1, a1, a1, a1, a1, a3, a3, a3, a3, a3, a11, a4, a4, a4, a4, a4, a56, a4, a4, a4]
noncomputable def a58 : AV := .list 61 [a57]
noncomputable def a59 : List AV := [a31, a1, a1, a1, a1, a1, a3, a3, a3, a3, a3, a11, a27, a4, a4, a4, a4, a58, a4, a4, a4]
noncomputable def a60 : AV := .list 61 [a59]
noncomputable def a61 : AV := .int .i64 (.ofNat 10)
noncomputable def a62 : List AV := [a10, a11, a61, a1, a1, a1, a1, a1, a4]
noncomputable def a63 : AV := .list 74 [a62]
noncomputable def a64 : List AV := [a33, a1, a1, a1, a1, a1, a3, a3, a3, a3, a3, a11, a63, a4, a54, a4, a4, a4, a4, a4, a4, a10, a1, a1, a1, a1, a1, a3, a3, a3, a3, a3, a11, a4, a4, a4, a4, a4, a4, a4, a4, a4]
noncomputable def a65 : AV := .list 81 [a64]
noncomputable def a66 : List AV := [a9, a4, a22, a1, a1, a1, a1, a1, a3, a3, a3, a3, a3, a11, a4, a4, a4, a4, a4, a60, a65, a4, a4, a1]
noncomputable def a67 : AV := .list 63 [a30, a66]
noncomputable def a68 : AV := .agg [a8, a9, a67, a18]
noncomputable def a69 : List AV := [a33, a1, a1, a1, a1, a1, a3, a3, a3, a3, a3, a11, a27, a4, a42, a4, a4, a4, a4, a4, a4]
noncomputable def a70 : AV := .list 61 [a69]
noncomputable def a71 : List AV := [a37, a1, a1, a1, a1, a1, a3, a3, a3, a3, a3, a11, a4, a4, a4, a4, a4, a70, a4, a4, a4]
noncomputable def a72 : AV := .list 61 [a71]
noncomputable def a73 : List AV := [a1, a4, a22, a1, a1, a1, a1, a1, a3, a3, a3, a3, a3, a11, a4, a4, a4, a4, a24, a72, a4, a4, a4, a1]
noncomputable def a74 : AV := .list 63 [a73, a66]
noncomputable def a75 : AV := .agg [a8, a9, a74, a18]
noncomputable def a76 : List AV := [a10, a1, a1, a1, a1, a1, a3, a3, a3, a3, a3, a11, a4, a4, a4, a4, a4, a4, a4, a4, a4]
noncomputable def a77 : AV := .list 61 [a76]
noncomputable def a78 : List AV := [a4, a10, a1, a1, a1, a1, a1, a3, a3, a3, a3, a3, a11, a4, a4, a4, a4, a4, a4, a4, a4, a4]
noncomputable def a79 : AV := .list 78 [a78]
noncomputable def a80 : List AV := [a1, a4, a22, a1, a1, a1, a1, a1, a3, a3, a3, a3, a3, a11, a4, a4, a4, a4, a24, a77, a4, a79, a4, a1]
noncomputable def a81 : AV := .list 63 [a80, a66]
noncomputable def a82 : AV := .agg [a8, a9, a81, a18]
noncomputable def a83 : List AV := [a10, a1, a1, a1, a1, a1, a3, a3, a3, a3, a3, a11, a4, a4, a4, a4, a4, a4, a4, a4, a4, a32, a1, a1, a1, a1, a1, a3, a3, a3, a3, a3, a11, a4, a4, a4, a4, a4, a4, a4, a4, a4]
noncomputable def a84 : AV := .list 81 [a83]
noncomputable def a85 : List AV := [a1, a4, a22, a1, a1, a1, a1, a1, a3, a3, a3, a3, a3, a11, a4, a4, a4, a4, a24, a77, a84, a4, a4, a1]
noncomputable def a86 : AV := .list 63 [a85, a66]
noncomputable def a87 : AV := .agg [a8, a9, a86, a18]
noncomputable def a88 : List AV := [a1, a4, a22, a1, a1, a1, a1, a1, a3, a3, a3, a3, a3, a11, a4, a4, a4, a4, a24, a77, a4, a4, a4, a1]
noncomputable def a89 : List AV := [a4, a4]
noncomputable def a90 : AV := .list 140 [a89]
noncomputable def a91 : List AV := [a9, a90, a22, a1, a1, a1, a1, a1, a3, a3, a3, a3, a3, a11, a4, a4, a4, a4, a4, a60, a65, a4, a4, a1]
noncomputable def a92 : AV := .list 63 [a88, a91]
noncomputable def a93 : AV := .agg [a8, a9, a92, a18]
noncomputable def a94 : AV := .list 61 [a76, a59]
noncomputable def a95 : List AV := [a9, a4, a32, a1, a1, a1, a1, a1, a3, a3, a3, a3, a3, a11, a4, a4, a4, a4, a4, a94, a4, a4, a4, a1]
noncomputable def a96 : AV := .list 63 [a88, a95]
noncomputable def a97 : AV := .agg [a8, a9, a96, a18]
noncomputable def a98 : List AV := [a33, a1, a1, a1, a1, a1, a3, a3, a3, a3, a3, a11, a27, a4, a54, a4, a4, a4, a4, a4, a4]
noncomputable def a99 : List AV := [a22, a1, a1, a1, a1, a1, a3, a3, a3, a3, a3, a11, a4, a4, a4, a4, a4, a60, a65, a4, a4]
noncomputable def a100 : AV := .list 61 [a98, a99]
noncomputable def a101 : List AV := [a9, a4, a32, a1, a1, a1, a1, a1, a3, a3, a3, a3, a3, a11, a4, a4, a4, a4, a4, a100, a4, a4, a4, a1]
noncomputable def a102 : AV := .list 63 [a88, a101]
noncomputable def a103 : AV := .agg [a8, a9, a102, a18]
noncomputable def a104 : List AV := [a33, a1, a1, a1, a1, a1, a3, a3, a3, a3, a3, a11, a35, a4, a54, a4, a4, a4, a4, a4, a4, a10, a1, a1, a1, a1, a1, a3, a3, a3, a3, a3, a11, a4, a4, a4, a4, a4, a4, a4, a4, a4]
noncomputable def a105 : AV := .list 81 [a104]
noncomputable def a106 : List AV := [a9, a4, a22, a1, a1, a1, a1, a1, a3, a3, a3, a3, a3, a11, a4, a4, a4, a4, a4, a60, a105, a4, a4, a1]
noncomputable def a107 : AV := .list 63 [a88, a106]
noncomputable def a108 : AV := .agg [a8, a9, a107, a18]
noncomputable def a109 : List AV := [a22, a11, a1, a1, a1, a1, a0, a0, a27]
noncomputable def a110 : AV := .list 74 [a109]
noncomputable def a111 : List AV := [a31, a1, a1, a1, a1, a1, a3, a3, a3, a3, a3, a11, a110, a4, a4, a4, a4, a58, a4, a4, a4]
noncomputable def a112 : AV := .list 61 [a111]
noncomputable def a113 : List AV := [a9, a4, a22, a1, a1, a1, a1, a1, a3, a3, a3, a3, a3, a11, a4, a4, a4, a4, a4, a112, a65, a4, a4, a1]
noncomputable def a114 : AV := .list 63 [a88, a113]
noncomputable def a115 : AV := .agg [a8, a9, a114, a18]
noncomputable def a116 : List AV := [a0, a1, a1, a20, a24]
noncomputable def a117 : AV := .list 84 [a5, a7, a116]
noncomputable def a118 : AV := .list 63 [a88, a66]
noncomputable def a119 : AV := .agg [a117, a9, a118, a18]
noncomputable def a120 : List AV := [a10, a11, a9, a1, a1, a1, a1, a1, a4]
noncomputable def a121 : AV := .list 74 [a120]
noncomputable def a122 : List AV := [a33, a1, a1, a1, a1, a1, a3, a3, a3, a3, a3, a11, a121, a4, a54, a4, a4, a4, a4, a4, a4, a10, a1, a1, a1, a1, a1, a3, a3, a3, a3, a3, a11, a4, a4, a4, a4, a4, a4, a4, a4, a4]
noncomputable def a123 : AV := .list 81 [a122]
noncomputable def a124 : List AV := [a1, a4, a22, a1, a1, a1, a1, a1, a3, a3, a3, a3, a3, a11, a4, a4, a4, a4, a24, a77, a123, a4, a4, a1]
noncomputable def a125 : AV := .list 63 [a124, a66]
noncomputable def a126 : AV := .agg [a8, a9, a125, a18]
noncomputable def a127 : AV := .list 61 [a45, a55]
noncomputable def a128 : List AV := [a32, a1, a1, a1, a1, a1, a3, a3, a3, a3, a3, a11, a4, a4, a4, a4, a4, a127, a4, a4, a4]
noncomputable def a129 : AV := .list 61 [a128]
noncomputable def a130 : List AV := [a31, a1, a1, a1, a1, a1, a3, a3, a3, a3, a3, a11, a27, a4, a4, a4, a4, a129, a4, a4, a4]
noncomputable def a131 : AV := .list 61 [a130]
noncomputable def a132 : List AV := [a9, a4, a22, a1, a1, a1, a1, a1, a3, a3, a3, a3, a3, a11, a4, a4, a4, a4, a4, a131, a65, a4, a4, a1]
noncomputable def a133 : AV := .list 63 [a88, a132]
noncomputable def a134 : AV := .agg [a8, a9, a133, a18]
noncomputable def a135 : AV := .list 61 [a36, a45]
noncomputable def a136 : List AV := [a32, a1, a1, a1, a1, a1, a3, a3, a3, a3, a3, a11, a4, a4, a4, a4, a4, a135, a4, a4, a4]
noncomputable def a137 : AV := .list 61 [a136]
noncomputable def a138 : List AV := [a31, a1, a1, a1, a1, a1, a3, a3, a3, a3, a3, a11, a27, a4, a4, a4, a4, a137, a4, a4, a4]
noncomputable def a139 : AV := .list 61 [a138]
noncomputable def a140 : List AV := [a9, a4, a22, a1, a1, a1, a1, a1, a3, a3, a3, a3, a3, a11, a4, a4, a4, a4, a4, a139, a65, a4, a4, a1]
noncomputable def a141 : AV := .list 63 [a88, a140]
noncomputable def a142 : AV := .agg [a8, a9, a141, a18]
noncomputable def a143 : AV := .list 61 [a36, a45, a55, a55]
noncomputable def a144 : List AV := [a32, a1, a1, a1, a1, a1, a3, a3, a3, a3, a3, a11, a4, a4, a4, a4, a4, a143, a4, a4, a4]
noncomputable def a145 : AV := .list 61 [a144]
noncomputable def a146 : List AV := [a31, a1, a1, a1, a1, a1, a3, a3, a3, a3, a3, a11, a27, a4, a4, a4, a4, a145, a4, a4, a4]
noncomputable def a147 : AV := .list 61 [a146]
noncomputable def a148 : List AV := [a9, a4, a22, a1, a1, a1, a1, a1, a3, a3, a3, a3, a3, a11, a4, a4, a4, a4, a4, a147, a65, a4, a4, a1]
noncomputable def a149 : AV := .list 63 [a88, a148]
noncomputable def a150 : AV := .agg [a8, a9, a149, a18]
noncomputable def a151 : List AV := [a25, a1, a1, a1, a1, a1, a3, a3, a3, a3, a3, a11, a35, a4, a4, a4, a4, a4, a4, a4, a4]
noncomputable def a152 : AV := .list 61 [a151, a45, a55]
noncomputable def a153 : List AV := [a32, a1, a1, a1, a1, a1, a3, a3, a3, a3, a3, a11, a4, a4, a4, a4, a4, a152, a4, a4, a4]
noncomputable def a154 : AV := .list 61 [a153]
noncomputable def a155 : List AV := [a31, a1, a1, a1, a1, a1, a3, a3, a3, a3, a3, a11, a27, a4, a4, a4, a4, a154, a4, a4, a4]
noncomputable def a156 : AV := .list 61 [a155]
noncomputable def a157 : List AV := [a9, a4, a22, a1, a1, a1, a1, a1, a3, a3, a3, a3, a3, a11, a4, a4, a4, a4, a4, a156, a65, a4, a4, a1]
noncomputable def a158 : AV := .list 63 [a88, a157]
noncomputable def a159 : AV := .agg [a8, a9, a158, a18]
noncomputable def a160 : List AV := [a10, a11, a1, a1, a1, a1, a1, a1, a4]
noncomputable def a161 : AV := .list 74 [a34, a160]
noncomputable def a162 : List AV := [a31, a10, a1, a1, a1, a1, a1, a1, a161]
noncomputable def a163 : AV := .list 74 [a162]
noncomputable def a164 : List AV := [a22, a11, a1, a1, a1, a1, a1, a2, a163]
noncomputable def a165 : AV := .list 74 [a164]
noncomputable def a166 : List AV := [a33, a1, a1, a1, a1, a1, a3, a3, a3, a3, a3, a11, a165, a4, a54, a4, a4, a4, a4, a4, a4]
noncomputable def a167 : AV := .list 61 [a36, a45, a166]
noncomputable def a168 : List AV := [a32, a1, a1, a1, a1, a1, a3, a3, a3, a3, a3, a11, a4, a4, a4, a4, a4, a167, a4, a4, a4]
noncomputable def a169 : AV := .list 61 [a168]
noncomputable def a170 : List AV := [a31, a1, a1, a1, a1, a1, a3, a3, a3, a3, a3, a11, a27, a4, a4, a4, a4, a169, a4, a4, a4]
noncomputable def a171 : AV := .list 61 [a170]
noncomputable def a172 : List AV := [a9, a4, a22, a1, a1, a1, a1, a1, a3, a3, a3, a3, a3, a11, a4, a4, a4, a4, a4, a171, a65, a4, a4, a1]
noncomputable def a173 : AV := .list 63 [a88, a172]
noncomputable def a174 : AV := .agg [a8, a9, a173, a18]
noncomputable def a175 : AV := .list 74 [a160]
noncomputable def a176 : List AV := [a31, a1, a1, a1, a1, a1, a3, a3, a3, a3, a3, a11, a175, a4, a4, a4, a4, a77, a4, a4, a4]
noncomputable def a177 : AV := .list 61 [a36, a176, a55]
noncomputable def a178 : List AV := [a32, a1, a1, a1, a1, a1, a3, a3, a3, a3, a3, a11, a4, a4, a4, a4, a4, a177, a4, a4, a4]
noncomputable def a179 : AV := .list 61 [a178]
noncomputable def a180 : List AV := [a31, a1, a1, a1, a1, a1, a3, a3, a3, a3, a3, a11, a27, a4, a4, a4, a4, a179, a4, a4, a4]
noncomputable def a181 : AV := .list 61 [a180]
noncomputable def a182 : List AV := [a9, a4, a22, a1, a1, a1, a1, a1, a3, a3, a3, a3, a3, a11, a4, a4, a4, a4, a4, a181, a65, a4, a4, a1]
noncomputable def a183 : AV := .list 63 [a88, a182]
noncomputable def a184 : AV := .agg [a8, a9, a183, a18]
noncomputable def a185 : AV := .int .u8 (.ofNat 6)
noncomputable def a186 : AV := .list 74 [a160, a39]
noncomputable def a187 : List AV := [a185, a1, a0, a1, a1, a1, a3, a3, a3, a3, a3, a11, a186, a4, a4, a4, a4, a77, a4, a4, a4]
noncomputable def a188 : AV := .list 61 [a36, a187, a55]
noncomputable def a189 : List AV := [a32, a1, a1, a1, a1, a1, a3, a3, a3, a3, a3, a11, a4, a4, a4, a4, a4, a188, a4, a4, a4]
noncomputable def a190 : AV := .list 61 [a189]
noncomputable def a191 : List AV := [a31, a1, a1, a1, a1, a1, a3, a3, a3, a3, a3, a11, a27, a4, a4, a4, a4, a190, a4, a4, a4]
noncomputable def a192 : AV := .list 61 [a191]
noncomputable def a193 : List AV := [a9, a4, a22, a1, a1, a1, a1, a1, a3, a3, a3, a3, a3, a11, a4, a4, a4, a4, a4, a192, a65, a4, a4, a1]
noncomputable def a194 : AV := .list 63 [a88, a193]
noncomputable def a195 : AV := .agg [a8, a9, a194, a18]
noncomputable def a196 : AV := .agg [a4, a1, a4, a4]
noncomputable def a197 : AV := .int .i64 (.ofNat 2)
noncomputable def a198 : AV := .agg [a8, a38, a118, a18]
noncomputable def a199 : AV := .agg [a8, a9, a118, a18]
noncomputable def a200 : AV := .int .i64 (.ofNat 21)
noncomputable def a201 : List AV := [a9, a4, a22, a1, a1, a1, a1, a1, a3, a3, a3, a3, a3, a11, a4, a4, a4, a4, a4, a60, a65, a4, a4, a200]
noncomputable def a202 : AV := .list 63 [a88, a201]
noncomputable def a203 : AV := .agg [a8, a9, a202, a18]
noncomputable def a204 : AV := .int .i64 (.ofNat 6)
noncomputable def a205 : List AV := [a204, a4, a22, a1, a1, a1, a1, a1, a3, a3, a3, a3, a3, a11, a4, a4, a4, a4, a4, a60, a65, a4, a4, a1]
noncomputable def a206 : AV := .list 63 [a88, a205]
noncomputable def a207 : AV := .agg [a8, a9, a206, a18]
noncomputable def a208 : AV := .int .i64 (.ofNat 371)
noncomputable def a209 : List AV := [a1, a4, a22, a1, a1, a1, a1, a1, a3, a3, a3, a3, a3, a11, a4, a4, a4, a4, a4, a60, a65, a4, a4, a1]
noncomputable def a210 : AV := .list 63 [a88, a209]
noncomputable def a211 : AV := .agg [a8, a9, a210, a18]
noncomputable def a212 : AV := .int .i64 (.ofNat 11)
noncomputable def a213 : List AV := [a10, a11, a212, a1, a1, a1, a1, a1, a4]
noncomputable def a214 : AV := .list 74 [a213]
noncomputable def a215 : List AV := [a33, a1, a1, a1, a1, a1, a3, a3, a3, a3, a3, a11, a214, a4, a54, a4, a4, a4, a4, a4, a4]
noncomputable def a216 : AV := .list 61 [a215, a36, a45, a55]
noncomputable def a217 : List AV := [a32, a1, a1, a1, a1, a1, a3, a3, a3, a3, a3, a11, a4, a4, a4, a4, a4, a216, a4, a4, a4]
noncomputable def a218 : AV := .list 61 [a217]
noncomputable def a219 : List AV := [a31, a1, a1, a1, a1, a1, a3, a3, a3, a3, a3, a11, a27, a4, a4, a4, a4, a218, a4, a4, a4]
noncomputable def a220 : AV := .list 61 [a219]
noncomputable def a221 : List AV := [a9, a4, a22, a1, a1, a1, a1, a1, a3, a3, a3, a3, a3, a11, a4, a4, a4, a4, a4, a220, a65, a4, a4, a1]
noncomputable def a222 : AV := .list 63 [a88, a221]
noncomputable def a223 : AV := .agg [a8, a9, a222, a18]
noncomputable def a224 : AV := .list 61 [a36, a45, a55, a28]
noncomputable def a225 : List AV := [a32, a1, a1, a1, a1, a1, a3, a3, a3, a3, a3, a11, a4, a4, a4, a4, a4, a224, a4, a4, a4]
noncomputable def a226 : AV := .list 61 [a225]
noncomputable def a227 : List AV := [a31, a1, a1, a1, a1, a1, a3, a3, a3, a3, a3, a11, a27, a4, a4, a4, a4, a226, a4, a4, a4]
noncomputable def a228 : AV := .list 61 [a227]
noncomputable def a229 : List AV := [a9, a4, a22, a1, a1, a1, a1, a1, a3, a3, a3, a3, a3, a11, a4, a4, a4, a4, a4, a228, a65, a4, a4, a1]
noncomputable def a230 : AV := .list 63 [a88, a229]
noncomputable def a231 : AV := .agg [a8, a9, a230, a18]
end Go.Proofs.YtffabbjfdgmbjaaGreat.Cl
