/- AEV: what an abstract value says of a value in memory. -/
import Derived.Test.YtndkobhclggeiaaAevA
import Derived.Laws.CopyRow
import Derived.Laws.Rows
import Derived.Laws.Cells
import Derived.ChangeKeysEq
namespace Go.Proofs.Ytndkobhclggeiaa.Aev
set_option linter.unusedVariables false
set_option linter.unusedSimpArgs false
open Go

def All2 {α β : Type} (R : α → β → Prop) : List α → List β → Prop
  | [], [] => True
  | a :: as, b :: bs => R a b ∧ All2 R as bs
  | _, _ => False
theorem All2.imp {α β : Type} {R R' : α → β → Prop} (h : ∀ a b, R a b → R' a b) : ∀ {l : List α} {m : List β}, All2 R l m → All2 R' l m
  | [], [], _ => trivial
  | _ :: _, _ :: _, ⟨h1, h2⟩ => ⟨h _ _ h1, All2.imp h h2⟩
  | [], _ :: _, h' => h'.elim
  | _ :: _, [], h' => h'.elim
theorem All2.length {α β : Type} {R : α → β → Prop} : ∀ {l : List α} {m : List β}, All2 R l m → l.length = m.length
  | [], [], _ => rfl
  | _ :: _, _ :: _, ⟨_, h2⟩ => by simp [All2.length h2]
  | [], _ :: _, h' => h'.elim
  | _ :: _, [], h' => h'.elim
theorem All2.append {α β : Type} {R : α → β → Prop} : ∀ {l l' : List α} {m m' : List β}, All2 R l m → All2 R l' m' → All2 R (l ++ l') (m ++ m')
  | [], _, [], _, _, h => h
  | _ :: _, _, _ :: _, _, ⟨h1, h2⟩, h => ⟨h1, All2.append h2 h⟩
  | [], _, _ :: _, _, h', _ => h'.elim
  | _ :: _, _, [], _, h', _ => h'.elim
theorem All2.take {α β : Type} {R : α → β → Prop} (n : Nat) : ∀ {l : List α} {m : List β}, All2 R l m → All2 R (l.take n) (m.take n) := by
  induction n with
  | zero => intro l m _; simp [All2]
  | succ n ih =>
    intro l m h
    match l, m, h with
    | [], [], _ => simp [All2]
    | _ :: _, _ :: _, ⟨h1, h2⟩ => exact ⟨h1, ih h2⟩
theorem All2.drop {α β : Type} {R : α → β → Prop} (n : Nat) : ∀ {l : List α} {m : List β}, All2 R l m → All2 R (l.drop n) (m.drop n) := by
  induction n with
  | zero => intro l m h; exact h
  | succ n ih =>
    intro l m h
    match l, m, h with
    | [], [], _ => simp [All2]
    | _ :: _, _ :: _, ⟨h1, h2⟩ => exact ih h2
theorem All2.get {α β : Type} {R : α → β → Prop} : ∀ {l : List α} {m : List β}, All2 R l m → ∀ {i : Nat} {a : α}, l[i]? = some a → ∃ b, m[i]? = some b ∧ R a b
  | [], [], _, i, a, h => by simp at h
  | x :: l, y :: m, ⟨h1, h2⟩, 0, a, h => by simp at h; exact ⟨y, rfl, h ▸ h1⟩
  | x :: l, y :: m, ⟨h1, h2⟩, i + 1, a, h => by simp at h; simpa using All2.get h2 h
  | [], _ :: _, h', _, _, _ => h'.elim
  | _ :: _, [], h', _, _, _ => h'.elim
theorem All2.get' {α β : Type} {R : α → β → Prop} : ∀ {l : List α} {m : List β}, All2 R l m → ∀ {i : Nat} {b : β}, m[i]? = some b → ∃ a, l[i]? = some a ∧ R a b
  | [], [], _, i, a, h => by simp at h
  | x :: l, y :: m, ⟨h1, h2⟩, 0, a, h => by simp at h; exact ⟨x, rfl, h ▸ h1⟩
  | x :: l, y :: m, ⟨h1, h2⟩, i + 1, a, h => by simp at h; simpa using All2.get' h2 h
  | [], _ :: _, h', _, _, _ => h'.elim
  | _ :: _, [], h', _, _, _ => h'.elim
theorem All2.nil_left {α β : Type} {R : α → β → Prop} {m : List β} (h : All2 R [] m) : m = [] := by cases m with | nil => rfl | cons => exact h.elim
theorem All2.cons_left {α β : Type} {R : α → β → Prop} {a : α} {l : List α} {m : List β} (h : All2 R (a :: l) m) : ∃ b m', m = b :: m' ∧ R a b ∧ All2 R l m' := by
  cases m with
  | nil => exact h.elim
  | cons b m' => exact ⟨b, m', rfl, h.1, h.2⟩
theorem All2.split {α β : Type} {R : α → β → Prop} : ∀ {l l' : List α} {m : List β}, All2 R (l ++ l') m → ∃ m1 m2, m = m1 ++ m2 ∧ All2 R l m1 ∧ All2 R l' m2
  | [], l', m, h => ⟨[], m, rfl, trivial, h⟩
  | a :: l, l', m, h => by
    obtain ⟨b, m', rfl, h1, h2⟩ := All2.cons_left h
    obtain ⟨m1, m2, rfl, h3, h4⟩ := All2.split h2
    exact ⟨b :: m1, m2, rfl, ⟨h1, h3⟩, h4⟩

/-- So many cells of a block, from a place on. -/
def cellsAt (w : World) (b off n : Nat) (vs : List Value) : Prop :=
  ∃ c e fr, w.heap[b]? = some (.cells c e fr) ∧ off + n ≤ c.size ∧ vs = (c.toList.drop off).take n

theorem cellsAt.length {w : World} {b off n : Nat} {vs : List Value} (h : cellsAt w b off n vs) : vs.length = n := by
  obtain ⟨c, e, fr, _, hs, rfl⟩ := h
  simp; omega

theorem cellsAt.of_heap {w w' : World} {b off n : Nat} {vs : List Value} (h : cellsAt w b off n vs) (hb : w'.heap[b]? = w.heap[b]?) : cellsAt w' b off n vs := by
  obtain ⟨c, e, fr, h1, hs, hv⟩ := h
  exact ⟨c, e, fr, hb.trans h1, hs, hv⟩

theorem cellsAt.sub {w : World} {b q n : Nat} {us : List Value} (h : cellsAt w b q n us) {off m : Nat} (hm : off + m ≤ n) : cellsAt w b (q + off) m ((us.drop off).take m) := by
  obtain ⟨c, e, fr, h1, h2, rfl⟩ := h
  refine ⟨c, e, fr, h1, by omega, ?_⟩
  rw [List.drop_take, List.take_take, List.drop_drop, Nat.min_eq_left (by omega)]

theorem cellsAt.lt {w : World} {b off n : Nat} {vs : List Value} (h : cellsAt w b off n vs) : b < w.heap.size := by
  obtain ⟨c, e, fr, h1, _, _⟩ := h
  rcases Nat.lt_or_ge b w.heap.size with h | h
  · exact h
  · simp [Array.getElem?_eq_none h] at h1

/-- Cells that are read as a datum; S: the blocks that are settled. -/
def Rd (w : World) (S : Nat → Prop) : (t : Ty) → List Value → t.den → Prop
  | .unit, vs, _ => vs = []
  | .bool, vs, x => vs = [.bool x]
  | .int k, vs, x => vs = [.int k x]
  | .str, vs, x => vs = [.string x]
  | .flt, vs, x => vs = [.float .f64 x]
  | .pair a b, vs, x => ∃ v1 v2, vs = v1 ++ v2 ∧ Rd w S a v1 x.1 ∧ Rd w S b v2 x.2
  | .sl e, vs, x => ∃ base len cap, vs = [.slice base len cap] ∧ len = x.length ∧ len ≤ cap ∧ (∀ a, base = some a → cap ≠ 0 → a.spot = none) ∧
      (base = none → cap = 0) ∧
      (x ≠ [] → ∃ a, base = some a ∧ S a.block ∧ ∀ i (h : i < x.length), ∃ us, cellsAt w a.block (a.off + i * e.size) e.size us ∧ Rd w S e us x[i])

theorem Rd.mono {w w' : World} {S S' : Nat → Prop} (hS : ∀ b, S b → S' b) (hw : ∀ b, S b → w'.heap[b]? = w.heap[b]?) :
    ∀ (t : Ty) (vs : List Value) (x : t.den), Rd w S t vs x → Rd w' S' t vs x := by
  intro t
  induction t with
  | unit => exact fun _ _ h => h
  | bool => exact fun _ _ h => h
  | int k => exact fun _ _ h => h
  | str => exact fun _ _ h => h
  | flt => exact fun _ _ h => h
  | pair a b iha ihb =>
    rintro vs x ⟨v1, v2, h, h1, h2⟩
    exact ⟨v1, v2, h, iha _ _ h1, ihb _ _ h2⟩
  | sl e ih =>
    rintro vs x ⟨base, len, cap, h, h1, h2, h3, h3', h4⟩
    refine ⟨base, len, cap, h, h1, h2, h3, h3', fun hx => ?_⟩
    obtain ⟨a, ha, hs, hr⟩ := h4 hx
    refine ⟨a, ha, hS _ hs, fun i hi => ?_⟩
    obtain ⟨us, hc, hu⟩ := hr i hi
    exact ⟨us, hc.of_heap (hw _ hs), ih _ _ hu⟩

theorem Rd.length {w : World} {S : Nat → Prop} : ∀ (t : Ty) (vs : List Value) (x : t.den), Rd w S t vs x → vs.length = t.size := by
  intro t
  induction t with
  | unit => intro vs x h; simp [Rd] at h; simp [h, Ty.size]
  | bool => intro vs x h; simp [Rd] at h; simp [h, Ty.size]
  | int k => intro vs x h; simp [Rd] at h; simp [h, Ty.size]
  | str => intro vs x h; simp [Rd] at h; simp [h, Ty.size]
  | flt => intro vs x h; simp [Rd] at h; simp [h, Ty.size]
  | pair a b iha ihb =>
    rintro vs x ⟨v1, v2, rfl, h1, h2⟩
    simp [Ty.size, iha _ _ h1, ihb _ _ h2]
  | sl e ih =>
    rintro vs x ⟨base, len, cap, rfl, _⟩
    simp [Ty.size]

abbrev Ptr (b off : Nat) : Value := .pointer (some ⟨b, off, none⟩)

/-- 'ρ n': the value that stands for the name n: a box's address, or a row's header. -/
def RepAV (w : World) (S : Nat → Prop) (ρ : Nat → Option Value) : AV → Value → Prop
  | .d t x, v => Rd w S t [v] x
  | .raw u, v => v = u ∧ u.oneCell' = true
  | .ptr n off, v => ∃ b, ρ n = some (Ptr b 0) ∧ v = Ptr b off
  | .own n, v => ρ n = some v ∧ ∃ base len cap, v = .slice base len cap
  | .arr n m, v => ∃ b, ρ n = some (.slice (some ⟨b, 0, none⟩) m m) ∧ v = Ptr b 0
  | .fn f caps, v => ∃ vs, v = .func (.func f) #[] vs ∧ All2 (fun p u => ∃ b, ρ p.1 = some (Ptr b 0) ∧ u = Ptr b p.2) caps vs.toList

def RepVV (w : World) (S : Nat → Prop) (ρ : Nat → Option Value) : VV → Value → Prop
  | .one a, v => RepAV w S ρ a v
  | .agg cs, v => ∃ vs, v = .agg vs ∧ All2 (RepAV w S ρ) cs vs.toList

def RepTV (w : World) (S : Nat → Prop) (ρ : Nat → Option Value) : TV → Value → Prop
  | .v x, v => RepVV w S ρ x v
  | .tup xs, v => ∃ vs, v = .tuple vs ∧ All2 (RepVV w S ρ) xs vs.toList
  | .elt e l i, v => i.toNat < l.length ∧ ∃ b off, v = Ptr b (off + i.toNat * e.size) ∧ S b ∧ ∀ j (h : j < l.length), ∃ us, cellsAt w b (off + j * e.size) e.size us ∧ Rd w S e us l[j]
  | .eltOf e n i, v => 0 ≤ i ∧ ∃ b off len cap, ρ n = some (.slice (some ⟨b, off, none⟩) len cap) ∧ i.toNat < len ∧ v = Ptr b (off + i.toNat * e.size)
  | .fld e l i o, v => i.toNat < l.length ∧ ∃ b off, v = Ptr b (off + i.toNat * e.size + o) ∧ S b ∧ ∀ j (h : j < l.length), ∃ us, cellsAt w b (off + j * e.size) e.size us ∧ Rd w S e us l[j]
  | .fldOf e n i o, v => 0 ≤ i ∧ ∃ b off len cap, ρ n = some (.slice (some ⟨b, off, none⟩) len cap) ∧ i.toNat < len ∧ v = Ptr b (off + i.toNat * e.size + o)
  | .undef, v => v = undef

/-- A row that may be appended to: its own, or one without room. -/
def RowOwn (w : World) (S : Nat → Prop) (t : Ty) (v : Value) (xs : List t.den) (home : Nat) : Prop :=
  ∃ len cap vs e, v = .slice (some ⟨home, 0, none⟩) len cap ∧ len = xs.length ∧ len ≤ cap ∧ w.heap[home]? = some (.cells vs e (0, 0)) ∧ vs.size = cap * t.size ∧
    ∀ i (h : i < xs.length), ∃ us, cellsAt w home (i * t.size) t.size us ∧ Rd w S t us xs[i]
def RowFull (w : World) (S : Nat → Prop) (t : Ty) (v : Value) (xs : List t.den) : Prop :=
  Rd w S (.sl t) [v] xs ∧ ∃ base, v = .slice base xs.length xs.length

/-- The block of a name: 'home' where it is the function's own to write. -/
def RepBlk (w : World) (S : Nat → Prop) (ρ : Nat → Option Value) (n : Nat) (home : Option Nat) : Blk → Prop
  | .box cs => ∃ b vs e, home = some b ∧ ρ n = some (Ptr b 0) ∧ w.heap[b]? = some (.cells vs e (0, 0)) ∧ All2 (RepAV w S ρ) cs vs.toList
  | .own t excl xs => ∃ v, ρ n = some v ∧ ((∃ b, home = some b ∧ RowOwn w S t v xs b) ∨ (excl = false ∧ home = none ∧ RowFull w S t v xs))
  | .settled t xs => ∃ v, ρ n = some v ∧ home = none ∧ Rd w S (.sl t) [v] xs

section mono
variable {w w' : World} {S S' : Nat → Prop} {ρ ρ' : Nat → Option Value}

theorem RepAV.mono (hS : ∀ b, S b → S' b) (hw : ∀ b, S b → w'.heap[b]? = w.heap[b]?) (hρ : ∀ n v, ρ n = some v → ρ' n = some v) :
    ∀ {a : AV} {v : Value}, RepAV w S ρ a v → RepAV w' S' ρ' a v
  | .d t x, v, h => Rd.mono hS hw _ _ _ h
  | .raw u, v, h => h
  | .ptr n off, v, ⟨b, h1, h2⟩ => ⟨b, hρ _ _ h1, h2⟩
  | .own n, v, ⟨h1, h2⟩ => ⟨hρ _ _ h1, h2⟩
  | .arr n m, v, ⟨b, h1, h2⟩ => ⟨b, hρ _ _ h1, h2⟩
  | .fn f caps, v, ⟨vs, h1, h2⟩ => ⟨vs, h1, h2.imp fun p u ⟨b, h3, h4⟩ => ⟨b, hρ _ _ h3, h4⟩⟩
theorem RepVV.mono (hS : ∀ b, S b → S' b) (hw : ∀ b, S b → w'.heap[b]? = w.heap[b]?) (hρ : ∀ n v, ρ n = some v → ρ' n = some v) :
    ∀ {a : VV} {v : Value}, RepVV w S ρ a v → RepVV w' S' ρ' a v
  | .one a, v, h => RepAV.mono hS hw hρ h
  | .agg cs, v, ⟨vs, h1, h2⟩ => ⟨vs, h1, h2.imp fun _ _ => RepAV.mono hS hw hρ⟩
theorem RepTV.mono (hS : ∀ b, S b → S' b) (hw : ∀ b, S b → w'.heap[b]? = w.heap[b]?) (hρ : ∀ n v, ρ n = some v → ρ' n = some v) :
    ∀ {a : TV} {v : Value}, RepTV w S ρ a v → RepTV w' S' ρ' a v
  | .v x, v, h => RepVV.mono hS hw hρ h
  | .tup xs, v, ⟨vs, h1, h2⟩ => ⟨vs, h1, h2.imp fun _ _ => RepVV.mono hS hw hρ⟩
  | .elt e l i, v, ⟨h0, b, off, h1, h2, h3⟩ => ⟨h0, b, off, h1, hS _ h2, fun j hj => by
    obtain ⟨us, h4, h5⟩ := h3 j hj
    exact ⟨us, h4.of_heap (hw _ h2), Rd.mono hS hw _ _ _ h5⟩⟩
  | .eltOf e n i, v, ⟨h0, b, off, len, cap, h1, h2⟩ => ⟨h0, b, off, len, cap, hρ _ _ h1, h2⟩
  | .fld e l i o, v, ⟨h0, b, off, h1, h2, h3⟩ => ⟨h0, b, off, h1, hS _ h2, fun j hj => by
    obtain ⟨us, h4, h5⟩ := h3 j hj
    exact ⟨us, h4.of_heap (hw _ h2), Rd.mono hS hw _ _ _ h5⟩⟩
  | .fldOf e n i o, v, ⟨h0, b, off, len, cap, h1, h2⟩ => ⟨h0, b, off, len, cap, hρ _ _ h1, h2⟩
  | .undef, v, h => h
/-- A block stays, if its cells do. -/
theorem RepBlk.mono (hS : ∀ b, S b → S' b) (hw : ∀ b, S b → w'.heap[b]? = w.heap[b]?) (hρ : ∀ n v, ρ n = some v → ρ' n = some v)
    {n : Nat} {home : Option Nat} (hh : ∀ b, home = some b → w'.heap[b]? = w.heap[b]?) : ∀ {B : Blk}, RepBlk w S ρ n home B → RepBlk w' S' ρ' n home B
  | .box cs, ⟨b, vs, e, h0, h1, h2, h3⟩ => ⟨b, vs, e, h0, hρ _ _ h1, (hh _ h0).trans h2, h3.imp fun _ _ => RepAV.mono hS hw hρ⟩
  | .own t excl xs, ⟨v, h1, h2⟩ => by
    refine ⟨v, hρ _ _ h1, ?_⟩
    rcases h2 with ⟨b, h0, len, cap, vs, e, h2, h3, h4, h5, h6, h7⟩ | ⟨h2, h3, h4, h5⟩
    · refine .inl ⟨b, h0, len, cap, vs, e, h2, h3, h4, (hh _ h0).trans h5, h6, fun i hi => ?_⟩
      obtain ⟨us, h8, h9⟩ := h7 i hi
      exact ⟨us, h8.of_heap (hh _ h0), Rd.mono hS hw _ _ _ h9⟩
    · exact .inr ⟨h2, h3, Rd.mono hS hw _ _ _ h4, h5⟩
  | .settled t xs, ⟨v, h1, h2, h3⟩ => ⟨v, hρ _ _ h1, h2, Rd.mono hS hw _ _ _ h3⟩
end mono

/-! ### states -/
/-- What is fixed while a function runs: the world when it began, what was settled, what it may write, the names it came with. -/
structure Cx where
  w0 : World
  S0 : Nat → Prop
  M0 : Nat → Prop
  ρ0 : Nat → Option Value

def Cx.mine (X : Cx) (b : Nat) : Prop := X.M0 b ∨ X.w0.heap.size ≤ b

structure Mem (X : Cx) (w : World) (S : Nat → Prop) (ρ : Nat → Option Value) (H : Nat → Option Nat) (blk : Nat → Option (Option Blk)) : Prop where
  rep : ∀ n B, blk n = some (some B) → RepBlk w S ρ n (H n) B
  sep : ∀ n m B C b, blk n = some (some B) → blk m = some (some C) → H n = some b → H m = some b → n = m
  apart : ∀ n B b, blk n = some (some B) → H n = some b → ¬ S b
  homes : ∀ n B b, blk n = some (some B) → H n = some b → X.mine b
  old : ∀ b, S b → b < w.heap.size
  never : ∀ n, blk n = none → ρ n = none
  s0 : ∀ b, X.S0 b → S b
  smine : ∀ b, S b → X.S0 b ∨ X.mine b
  names : ∀ n v, X.ρ0 n = some v → ρ n = some v
  os : w.os = X.w0.os
  tape : w.tape = X.w0.tape
  output : w.output = X.w0.output
  size : X.w0.heap.size ≤ w.heap.size
  same : ∀ b, b < X.w0.heap.size → ¬ X.M0 b → w.heap[b]? = X.w0.heap[b]?

structure Rep (X : Cx) (w : World) (S : Nat → Prop) (ρ : Nat → Option Value) (H : Nat → Option Nat) (N : Nat) (st : St) (a : Act) : Prop where
  mem : Mem X w S ρ H st.blk
  tmp : ∀ t v, st.tmp t = some v → RepTV w S ρ v (a.tmps.getD t undef)
  size : N ≤ a.tmps.size
  defers : a.defers = []

theorem RepBlk.home_lt {w : World} {S : Nat → Prop} {ρ : Nat → Option Value} {n : Nat} {home : Option Nat} {B : Blk} (h : RepBlk w S ρ n home B) {b : Nat} (hb : home = some b) : b < w.heap.size := by
  have key : ∀ vs e fr, w.heap[b]? = some (.cells vs e fr) → b < w.heap.size := by
    intro vs e fr h1
    rcases Nat.lt_or_ge b w.heap.size with h | h
    · exact h
    · simp [Array.getElem?_eq_none h] at h1
  cases B with
  | box cs => obtain ⟨b', vs, e, h0, _, h2, _⟩ := h; obtain rfl : b' = b := by simpa [h0] using hb
              exact key _ _ _ h2
  | own t excl xs =>
    obtain ⟨v, _, ⟨b', h0, len, cap, vs, e, _, _, _, h5, _⟩ | ⟨_, h0, _⟩⟩ := h
    · obtain rfl : b' = b := by simpa [h0] using hb
      exact key _ _ _ h5
    · simp [h0] at hb
  | settled t xs => obtain ⟨v, _, h0, _⟩ := h; simp [h0] at hb

/-- A new name. -/
def upd {α : Type} (f : Nat → α) (n : Nat) (x : α) : Nat → α := fun m => if m = n then x else f m
theorem upd_same {α : Type} (f : Nat → α) (n : Nat) (x : α) : upd f n x n = x := by simp [upd]
theorem upd_other {α : Type} (f : Nat → α) {n m : Nat} (x : α) (h : m ≠ n) : upd f n x m = f m := by simp [upd, h]
theorem upd_le {ρ : Nat → Option Value} {n : Nat} {v : Value} (h : ρ n = none) : ∀ m u, ρ m = some u → upd ρ n (some v) m = some u := by
  intro m u hm
  by_cases e : m = n
  · subst e; simp [h] at hm
  · rw [upd_other _ _ e]; exact hm

end Go.Proofs.Ytndkobhclggeiaa.Aev
