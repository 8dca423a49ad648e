/- AEV, the words: abstract values, states, and an evaluator of loaded functions over them. -/
import Derived.Calls
import Derived.Below
import Derived.KernelRfl
namespace Go.Proofs.Ytndkobhclggeiaa.Aev
set_option linter.unusedVariables false
open Go

/-- What a cell, or what lies behind it, is read as. -/
inductive Ty where
  | unit | bool | int (k : IntKind) | str | flt | sl (e : Ty) | pair (a b : Ty)
  deriving DecidableEq

abbrev Ty.den : Ty → Type
  | .unit => Unit
  | .bool => Bool
  | .int _ => Int
  | .str => ByteArray
  | .flt => Nat
  | .sl e => List (Ty.den e)
  | .pair a b => Ty.den a × Ty.den b

def Ty.size : Ty → Nat
  | .unit => 0
  | .pair a b => a.size + b.size
  | _ => 1

/-- An abstract value of one cell. -/
inductive AV where
  | d (t : Ty) (x : t.den)
  | raw (v : Value)
  | ptr (n off : Nat)
  | own (n : Nat)
  | arr (n m : Nat)
  | fn (f : Nat) (caps : List (Nat × Nat))

inductive VV where
  | one (a : AV)
  | agg (cs : List AV)

inductive TV where
  | v (x : VV)
  | tup (xs : List VV)
  | elt (e : Ty) (xs : List e.den) (i : Int)
  | eltOf (e : Ty) (n : Nat) (i : Int)
  | fld (e : Ty) (xs : List e.den) (i : Int) (off : Nat)
  | fldOf (e : Ty) (n : Nat) (i : Int) (off : Nat)
  | undef

abbrev TV.one (a : AV) : TV := .v (.one a)
abbrev TV.agg (cs : List AV) : TV := .v (.agg cs)
abbrev TV.i64 (n : Int) : TV := .v (.one (.d (.int .i64) n))
abbrev TV.bool (b : Bool) : TV := .v (.one (.d .bool b))
abbrev TV.str (s : ByteArray) : TV := .v (.one (.d .str s))

inductive Blk where
  | box (cs : List AV)
  | own (t : Ty) (excl : Bool) (xs : List t.den)
  | settled (t : Ty) (xs : List t.den)

inductive Loc where
  | t (n : Nat)
  | b (n : Nat)
  deriving DecidableEq

/-- 'blk n': none: no such name yet; 'some none': gone. -/
structure St where
  tmp : Nat → Option TV
  blk : Nat → Option (Option Blk)

/-- What an operation of the evaluator reads, tests and gives. -/
inductive AM (α : Type) where
  | pure (a : α)
  | rdT (n : Nat) (k : Option TV → AM α)
  | rdB (n : Nat) (k : Option (Option Blk) → AM α)
  | grd (c : Bool) (k : AM α)
  | brb (c : Bool) (x y : AM α)
  | fail

namespace AM
def bind {α β : Type} : AM α → (α → AM β) → AM β
  | .pure a, f => f a
  | .rdT n k, f => .rdT n fun x => (k x).bind f
  | .rdB n k, f => .rdB n fun x => (k x).bind f
  | .grd c k, f => .grd c (k.bind f)
  | .brb c x y, f => .brb c (x.bind f) (y.bind f)
  | .fail, _ => .fail
instance : Monad AM where
  pure := AM.pure
  bind := AM.bind

def rT (n : Nat) : AM TV := .rdT n fun | some v => .pure v | none => .fail
def rB (n : Nat) : AM Blk := .rdB n fun | some (some b) => .pure b | _ => .fail
def ofO {α : Type} : Option α → AM α
  | some a => .pure a
  | none => .fail
def guard (c : Bool) : AM Unit := .grd c (.pure ())

def run {α : Type} : AM α → St → List Loc → Option (α × List Loc)
  | .pure a, _, lg => some (a, lg)
  | .rdT n k, s, lg => run (k (s.tmp n)) s (.t n :: lg)
  | .rdB n k, s, lg => run (k (s.blk n)) s (.b n :: lg)
  | .grd c k, s, lg => bif c then run k s lg else none
  | .brb c x y, s, lg => bif c then run x s lg else run y s lg
  | .fail, _, _ => none

def runK {α β : Type} : AM α → St → List Loc → (α → List Loc → Option β) → Option β
  | .pure a, _, lg, K => K a lg
  | .rdT n k, s, lg, K => runK (k (s.tmp n)) s (.t n :: lg) K
  | .rdB n k, s, lg, K => runK (k (s.blk n)) s (.b n :: lg) K
  | .grd c k, s, lg, K => bif c then runK k s lg K else none
  | .brb c x y, s, lg, K => bif c then runK x s lg K else runK y s lg K
  | .fail, _, _, _ => none
end AM

/-- A constant, or what an operation of the model gave, as an abstract value. -/
def ofValue : Value → Option AV
  | .bool b => some (.d .bool b)
  | .int k n => some (.d (.int k) n)
  | .string s => some (.d .str s)
  | .float .f64 x => some (.d .flt x)
  | .slice none 0 0 => some (.raw (.slice none 0 0))
  | .pointer none => some (.raw (.pointer none))
  | .nilFunc => some (.raw .nilFunc)
  | .nilIface => some (.raw .nilIface)
  | .func (.func f) first caps => match first.toList, caps.toList with | [], [] => some (.fn f []) | _, _ => none
  | _ => none
def ofValues : List Value → Option (List AV)
  | [] => some []
  | v :: vs => match ofValue v with | some a => (ofValues vs).map (a :: ·) | none => none
def ofConst : Value → Option TV
  | .agg cs => (ofValues cs.toList).map fun l => .v (.agg l)
  | .tuple cs => match cs.toList with | [] => some (.tup []) | _ => none
  | v => (ofValue v).map fun a => .v (.one a)

def opd : Operand → AM TV
  | .tmp t => .rT t
  | .const v => .ofO (ofConst v)
  | .func f => .pure (.v (.one (.fn f [])))
  | .global _ => .fail

def VV.cells : VV → List AV
  | .one a => [a]
  | .agg cs => cs

/-- A datum's cells. -/
def flat : (t : Ty) → t.den → List AV
  | .unit, _ => []
  | .pair a b, x => flat a x.1 ++ flat b x.2
  | .bool, x => [.d .bool x]
  | .int k, x => [.d (.int k) x]
  | .str, x => [.d .str x]
  | .flt, x => [.d .flt x]
  | .sl e, x => [.d (.sl e) x]

def castD {t u : Ty} (h : t = u) (x : t.den) : u.den := h ▸ x

/-- A cell as a datum; a row of the function's own is settled by that. -/
def toD (t : Ty) : AV → AM (t.den × List (Nat × Option Blk))
  | .d u x => if h : u = t then .pure (castD h x, []) else .fail
  | .raw v => match t, v with
    | .sl e, .slice none 0 0 => .pure (([] : List e.den), [])
    | _, _ => .fail
  | .own n => match t with
    | .sl e => do
      match ← AM.rB n with
      | .own u _ xs => if h : u = e then pure (castD (congrArg Ty.sl h) xs, [(n, some (.settled u xs))]) else .fail
      | .settled u xs => if h : u = e then pure (castD (congrArg Ty.sl h) xs, []) else .fail
      | .box _ => .fail
    | _ => .fail
  | _ => .fail

/-- Cells as a datum, and the cells behind it. -/
def asm : (t : Ty) → List AV → AM (t.den × List (Nat × Option Blk) × List AV)
  | .unit, l => .pure ((), [], l)
  | .pair a b, l => do
    let (x, wr, l) ← asm a l
    let (y, wr', l) ← asm b l
    pure ((x, y), wr ++ wr', l)
  | .bool, c :: l => do let (x, wr) ← toD .bool c; pure (x, wr, l)
  | .int k, c :: l => do let (x, wr) ← toD (.int k) c; pure (x, wr, l)
  | .str, c :: l => do let (x, wr) ← toD .str c; pure (x, wr, l)
  | .flt, c :: l => do let (x, wr) ← toD .flt c; pure (x, wr, l)
  | .sl e, c :: l => do let (x, wr) ← toD (.sl e) c; pure (x, wr, l)
  | _, [] => .fail

/-- The kind of data that a type of the program is read as. -/
def tyOf (P : Program) : Nat → TypeId → Option Ty
  | 0, _ => none
  | d + 1, t => match P.underlying t with
    | some .bool => some .bool
    | some (.int k) => some (.int k)
    | some .string => some .str
    | some (.float .f64) => some .flt
    | some (.slice e) => (tyOf P d e).map .sl
    | some (.struct fs) => fs.toList.foldr (fun f r => match tyOf P d f.type, r with | some a, some b => some (.pair a b) | _, _ => none) (some .unit)
    | some (.array n e) => (tyOf P d e).map fun a => (List.replicate n a).foldr .pair .unit
    | _ => none
def tyD : Nat := 12

structure Out where
  tv : TV
  wr : List (Nat × Option Blk) := []

structure Req where
  f : FuncId
  args : List TV
  blks : List Blk
  names : List Nat
  nin : Nat
  wr : List (Nat × Option Blk)

inductive Eff where
  | out (o : Out)
  | call (r : Req)

structure Res where
  tv : TV
  blks : List (Option Blk)

/-- A function's answer, by continuation: 'some' only where the continuation gives it. -/
structure Ct where
  nin : Nat
  mv : List Nat
  F : List TV → List Blk → {β : Type} → (Res → Option β) → Option β
  legit : ∀ {β : Type} tvs blks (K : Res → Option β) r, F tvs blks K = some r → ∃ res, F tvs blks some = some res ∧ K res = some r

/-! ### names -/
def AV.names : AV → List Nat
  | .ptr n _ => [n]
  | .own n => [n]
  | .arr n _ => [n]
  | .fn _ caps => caps.map (·.1)
  | _ => []
def VV.names (x : VV) : List Nat := x.cells.flatMap AV.names
def TV.names : TV → List Nat
  | .v x => x.names
  | .tup xs => xs.flatMap VV.names
  | .eltOf _ n _ => [n]
  | .fldOf _ n _ _ => [n]
  | _ => []
def Blk.names : Blk → List Nat
  | .box cs => cs.flatMap AV.names
  | _ => []
def AV.ren (f : Nat → Option Nat) : AV → Option AV
  | .ptr n o => (f n).map (.ptr · o)
  | .own n => (f n).map .own
  | .arr n m => (f n).map (.arr · m)
  | .fn g caps => (caps.mapM fun p => (f p.1).map fun m => (m, p.2)).map (.fn g)
  | a => some a
def VV.ren (f : Nat → Option Nat) : VV → Option VV
  | .one a => (a.ren f).map .one
  | .agg cs => (cs.mapM (AV.ren f)).map .agg
def TV.ren (f : Nat → Option Nat) : TV → Option TV
  | .v x => (x.ren f).map .v
  | .tup xs => (xs.mapM (VV.ren f)).map .tup
  | .eltOf e n i => (f n).map (.eltOf e · i)
  | .fldOf e n i off => (f n).map (.fldOf e · i off)
  | x => some x
def Blk.ren (f : Nat → Option Nat) : Blk → Option Blk
  | .box cs => (cs.mapM (AV.ren f)).map .box
  | b => some b

def addNew (l : List Nat) : List Nat → List Nat
  | [] => l
  | n :: ns => addNew (if l.contains n then l else l ++ [n]) ns
/-- The names that are reached, and their blocks. -/
def reach : Nat → List Nat → List Nat → AM (List (Nat × Blk))
  | 0, _, _ => .fail
  | _ + 1, _, [] => .pure []
  | k + 1, seen, n :: todo =>
    if seen.contains n then reach k seen todo
    else do
      let b ← AM.rB n
      let r ← reach k (n :: seen) (todo ++ b.names)
      pure ((n, b) :: r)
def idx (l : List Nat) (n : Nat) : Option Nat := l.findIdx? (· == n)

/-- Data in their plain form; the function's own rows among them are settled. -/
def normVV (t : Ty) : VV → AM (VV × List (Nat × Option Blk))
  | .one a => do
    let (x, wr, l) ← asm t [a]
    match l, flat t x with
    | [], [c] => pure (.one c, wr)
    | _, _ => .fail
  | .agg cs => do
    let (x, wr, l) ← asm t cs
    match l with
    | [] => pure (.agg (flat t x), wr)
    | _ => .fail
def normT (P : Program) (keep : Bool) (t : Option TypeId) (x : TV) : AM (TV × List (Nat × Option Blk)) :=
  if keep then .pure (x, []) else
  match t.bind (tyOf P tyD), x with
  | some t, .v x => do let (y, wr) ← normVV t x; pure (.v y, wr)
  | _, x => .pure (x, [])
def normAll (P : Program) (mv : List Nat) (ts : List TypeId) : Nat → List TV → AM (List TV × List (Nat × Option Blk))
  | _, [] => .pure ([], [])
  | i, x :: xs => do
    let (y, wr) ← normT P (mv.contains i) (ts[i]?) x
    let (ys, wr') ← normAll P mv ts (i + 1) xs
    pure (y :: ys, wr ++ wr')

def Blk.isBox : Blk → Bool
  | .box _ => true
  | _ => false
def renO (f : Nat → Option Nat) : Option Blk → Option (Option Blk)
  | some b => (b.ren f).map some
  | none => some none
def nodupB : List Nat → Bool
  | [] => true
  | n :: ns => !ns.contains n && nodupB ns
def apartL (l m : List Nat) : Bool := l.all fun n => !m.contains n

/-- A call's arguments: what is reached, boxes first, under names of its own. -/
def pack (f : FuncId) (nin : Nat) (args : List TV) (wr : List (Nat × Option Blk)) : AM Req := do
  let nb ← reach 100 [] (args.flatMap TV.names)
  let nb := nb.filter (·.2.isBox) ++ nb.filter (!·.2.isBox)
  let names := nb.map (·.1)
  let args' ← AM.ofO (args.mapM (TV.ren (idx names)))
  let blks' ← AM.ofO ((nb.map (·.2)).mapM (Blk.ren (idx names)))
  if apartL names (wr.map (·.1)) && nodupB names && decide (nin ≤ names.length) then pure ⟨f, args', blks', names, nin, wr⟩ else .fail

/-- Behind a call: the first names are the caller's again; new ones are 'fresh + 0', .. -/
def back (names : List Nat) (nin fresh : Nat) (i : Nat) : Option Nat := if i < nin then names[i]? else some (fresh + (i - nin))
def freshOk (fresh : Nat) : Nat → AM Unit
  | 0 => .pure ()
  | k + 1 => .rdB (fresh + k) fun
    | none => freshOk fresh k
    | some _ => .fail
def unpack (r : Req) (fresh : Nat) (s : Res) : AM Out := do
  let tv ← AM.ofO (s.tv.ren (back r.names r.nin fresh))
  let bs ← AM.ofO (s.blks.mapM (renO (back r.names r.nin fresh)))
  freshOk fresh (s.blks.length - r.nin)
  if r.nin ≤ s.blks.length && decide (s.blks.length - r.nin ≤ 8) then
    pure ⟨tv, r.wr ++ (r.names.drop r.nin).map (fun n => (n, none)) ++ (r.names.take r.nin).zip bs ++ ((bs.drop r.nin).zipIdx fresh).map fun p => (p.2, p.1)⟩
  else .fail

def asI : TV → AM (IntKind × Int)
  | .v (.one (.d (.int k) n)) => .pure (k, n)
  | _ => .fail
def asS : TV → AM ByteArray
  | .v (.one (.d .str s)) => .pure s
  | _ => .fail
def asB : TV → AM Bool
  | .v (.one (.d .bool b)) => .pure b
  | _ => .fail
def asP : TV → AM (Nat × Nat)
  | .v (.one (.ptr n o)) => .pure (n, o)
  | _ => .fail
def out (v : TV) : AM Eff := .pure (.out { tv := v })
def outA (a : AV) : AM Eff := .pure (.out { tv := .v (.one a) })

/-- The scalar that an operation of the model gives, where it gives it at once. -/
def semV (s : Sem Value) : AM AV := match s with | .pure v => .ofO (ofValue v) | _ => .fail

def Ty.dflt : (t : Ty) → t.den
  | .unit => ()
  | .bool => false
  | .int _ => (0 : Int)
  | .str => ByteArray.empty
  | .flt => (0 : Nat)
  | .sl _ => []
  | .pair a b => (a.dflt, b.dflt)
/-- An element of a row that is known to be there. -/
def elem (t : Ty) (xs : List t.den) (i : Int) : t.den := xs.getD i.toNat t.dflt

def mergeVV (c : Bool) : VV → VV → AM VV
  | .one (.d t x), .one (.d u y) => if h : u = t then .pure (.one (.d t (bif c then x else castD h y))) else .fail
  | x, y => .brb c (.pure x) (.pure y)

def bt (s : ByteArray) (i : Int) : Int := ((s.data[i.toNat]?).getD 0).toNat

/-- A part of cells. -/
def cut (cs : List AV) (off n : Nat) : Option (List AV) := if off + n ≤ cs.length then some ((cs.drop off).take n) else none
def isAggT (P : Program) (t : TypeId) : Option (Bool × Nat) :=
  match P.underlying t, P.info? t with
  | some (.struct _), some i => some (true, i.size)
  | some (.array _ _), some i => some (true, i.size)
  | some _, some i => some (false, i.size)
  | _, _ => none
def partA (P : Program) (t : TypeId) (cs : List AV) (off : Nat) : Option VV :=
  match isAggT P t with
  | some (true, n) => (cut cs off n).map .agg
  | some (false, _) => match cut cs off 1 with | some [c] => some (.one c) | _ => none
  | none => none
def putCells : List AV → Nat → List AV → Option (List AV)
  | cs, off, new => if off + new.length ≤ cs.length then some (cs.take off ++ new ++ cs.drop (off + new.length)) else none

/-- Equality of scalars, and of structs of them. -/
def eqCells : List AV → List AV → Option Bool
  | [], [] => some true
  | .d .bool x :: l, .d .bool y :: m => (eqCells l m).map (x == y && ·)
  | .d (.int _) x :: l, .d (.int _) y :: m => (eqCells l m).map (x == y && ·)
  | .d .str x :: l, .d .str y :: m => (eqCells l m).map (x.toList == y.toList && ·)
  | _, _ => none

def cutT (P : Program) (t : TypeId) (cs : List AV) (off : Nat) : Option (List AV) :=
  match isAggT P t with
  | some (true, n) => cut cs off n
  | some (false, _) => cut cs off 1
  | none => none
def eqFields (eq : TypeId → List AV → List AV → Option Bool) (P : Program) (xs ys : List AV) : List Field → Option Bool
  | [] => some true
  | f :: fs => if f.name = "_" then none else
    match cutT P f.type xs f.offset, cutT P f.type ys f.offset with
    | some a, some b => match eq f.type a b, eqFields eq P xs ys fs with
      | some p, some q => some (p && q)
      | _, _ => none
    | _, _ => none
def eqElems (eq : List AV → List AV → Option Bool) (P : Program) (e : TypeId) (sz : Nat) (xs ys : List AV) : List Nat → Option Bool
  | [] => some true
  | i :: is => match cutT P e xs (i * sz), cutT P e ys (i * sz) with
    | some a, some b => match eq a b, eqElems eq P e sz xs ys is with
      | some p, some q => some (p && q)
      | _, _ => none
    | _, _ => none
def eqT (P : Program) : Nat → TypeId → List AV → List AV → Option Bool
  | 0, _, _, _ => none
  | d + 1, t, xs, ys => match P.underlying t with
    | some .bool => match xs, ys with | [.d .bool x], [.d .bool y] => some (x == y) | _, _ => none
    | some (.int _) => match xs, ys with | [.d (.int k) x], [.d (.int k') y] => if k = k' then some (x == y) else none | _, _ => none
    | some .string => match xs, ys with | [.d .str x], [.d .str y] => some (x.toList == y.toList) | _, _ => none
    | some (.struct fs) => if P.stoodInHeld t then none else eqFields (eqT P d) P xs ys fs.toList
    | some (.array n e) => match P.info? e with
      | some inf => eqElems (eqT P d e) P e inf.size xs ys (List.range' 0 n)
      | none => none
    | _ => none

def maxBytes : Nat := 2 ^ 45

def lenA (x : TV) : AM Int :=
  match x with
  | .v (.one (.d (.sl _) xs)) => .pure xs.length
  | .v (.one (.raw (.slice none 0 0))) => .pure 0
  | .v (.one (.own n)) => do
    match ← AM.rB n with
    | .own _ _ xs => pure (xs.length : Int)
    | .settled _ xs => pure (xs.length : Int)
    | _ => .fail
  | _ => .fail

/-- The rows of a slice of elements of kind t: for reading alone; what is settled by it. -/
def elemOk (P : Program) (t : TypeId) (u : Ty) : Option TypeInfo :=
  match P.underlying t with
  | some (.slice e) => match P.info? e with
    | some inf => if inf.size = u.size then some inf else none
    | none => none
  | _ => none
/-- An array of so many elements that are data. -/
def arrOk (P : Program) (t : TypeId) : Option (Nat × Ty) :=
  match P.underlying t with
  | some (.array len e) => match P.info? e, tyOf P tyD e with
    | some inf, some u => if inf.size == u.size && decide (1 ≤ inf.size) && decide (2 ≤ len) then some (len, u) else none
    | _, _ => none
  | _ => none
def rowsA (t : Ty) (x : TV) : AM (List t.den × List (Nat × Option Blk)) :=
  match x with
  | .v (.one a) => toD (.sl t) a
  | _ => .fail

def appended : (t : Ty) → TV → AM (List t.den × List (Nat × Option Blk))
  | .int .u8, .v (.one (.d .str z)) => .pure (z.data.toList.map fun b => (b.toNat : Int), [])
  | t, x => rowsA t x

/-- What an append asks of the element's type. -/
def growOk (inf : TypeInfo) : Bool := decide (1 ≤ inf.bytes) && (match inf.zero with | some z => z.cells.size == inf.size | none => false)
/-- A row that may be appended to, and what is given up by it. -/
def appendee (t : Ty) : TV → AM (List t.den × List (Nat × Option Blk))
  | .v (.one (.raw (.slice none 0 0))) => .pure ([], [])
  | .v (.one (.own n)) => do
    match ← AM.rB n with
    | .own u _ xs => if h : u = t then pure (castD (congrArg Ty.sl h) xs, [(n, none)]) else .fail
    | _ => .fail
  | _ => .fail
def seqT (P : Program) (t : TypeId) : Bool := match P.underlying t with | some (.slice _) => true | some .string => true | _ => false
def appendA (P : Program) (fresh : Nat) (ty tx : TypeId) (s x : TV) : AM Eff := do
  match P.underlying ty with
  | some (.slice e) =>
    match tyOf P tyD e with
    | some t => match elemOk P ty t with
      | some inf => do
        let (ys, wr) ← appended t x
        let (xs, gone) ← appendee t s
        AM.guard (decide ((xs.length + ys.length) * inf.bytes ≤ maxBytes))
        .rdB fresh fun
          | none => if growOk inf && seqT P tx && apartL (gone.map (·.1)) (wr.map (·.1)) then .pure (.out { tv := .v (.one (.own fresh)), wr := wr ++ gone ++ [(fresh, some (.own t false (xs ++ ys)))] }) else .fail
          | some _ => .fail
      | none => .fail
    | none => .fail
  | _ => .fail

def sliceB (lo hi : Option TV) (len : Int) : AM (Int × Int) := do
  let h ← (match hi with | some v => do pure (← asI v).2 | none => .pure len)
  let l ← (match lo with | some v => do pure (← asI v).2 | none => .pure 0)
  AM.guard (decide (0 ≤ l) && decide (l ≤ h) && decide (h ≤ len))
  pure (l, h)

def optM {α β : Type} (f : α → AM β) : Option α → AM (Option β)
  | none => .pure none
  | some a => do pure (some (← f a))

def fieldInfo (P : Program) (s : TypeId) (i : Nat) : Option Field := match P.underlying s with | some (.struct fs) => fs[i]? | _ => none

def fillA (place : Nat → Option (Nat × Nat)) : List AV → List (Nat × List AV) → Option (List AV)
  | cs, [] => some cs
  | cs, (i, new) :: rest => match place i with
    | some (off, size) => if new.length = size then (match putCells cs off new with | some cs' => fillA place cs' rest | none => none) else none
    | none => none
def buildPlace (P : Program) (t : TypeId) : Option (Nat → Option (Nat × Nat)) :=
  match P.underlying t with
  | some (.struct fields) => (fields.toList.mapM (fun f => (P.info? f.type).map fun i => (f.offset, i.size))).map fun ps i => ps[i]?
  | some (.array _ e) => (P.info? e).map fun ie i => some (i * ie.size, ie.size)
  | _ => none
def zeroOf (P : Program) (t : TypeId) : Option (List AV) := ((P.info? t).bind (·.zero)).bind fun z => ofValues z.cells.toList
def partsA : List (Nat × Operand) → AM (List (Nat × List AV))
  | [] => .pure []
  | (i, x) :: l => do
    match ← opd x with
    | .v y => do
      let r ← partsA l
      pure ((i, y.cells) :: r)
    | _ => .fail

def asmRows (t : Ty) : Nat → List AV → AM (List t.den × List (Nat × Option Blk))
  | 0, [] => .pure ([], [])
  | 0, _ => .fail
  | n + 1, l => do
    let (x, wr, l) ← asm t l
    let (xs, wr') ← asmRows t n l
    pure (x :: xs, wr ++ wr')

/-- A call of a function: what it is called with. -/
def reqA (P : Program) (sg : FuncId → Option (Nat × List Nat)) (c : Call) (f : Operand) : AM Req := do
  let args ← c.args.toList.mapM opd
  match ← opd f with
  | .v (.one (.fn g caps)) => match sg g with
    | some (nin, mv) => do
      let (args, wr) ← normAll P mv c.argTypes.toList 0 args
      pack g nin (args ++ caps.map fun p => .v (.one (.ptr p.1 p.2))) wr
    | none => .fail
  | _ => .fail
def calleeOf : Op → Option (Call × Operand)
  | .call c => match c.callee with | .value f => some (c, f) | _ => none
  | _ => none
def callA (P : Program) (sg : FuncId → Option (Nat × List Nat)) (fresh : Nat) (c : Call) (args : List TV) : AM Eff := do
  match c.callee with
  | .builtin .len => match args, c.argTypes.toList with
    | [x], [t] => match P.underlying t with
      | some .string => do outA (.d (.int .i64) ((← asS x).size : Int))
      | some (.slice _) => do outA (.d (.int .i64) (← lenA x))
      | _ => .fail
    | _, _ => .fail
  | .builtin .min => match args with
    | [.v (.one (.d (.int k) a)), .v (.one (.d (.int k') b))] => do outA (← semV (Builtin.min_ #[] 0 #[.int k a, .int k' b]))
    | _ => .fail
  | .builtin .max => match args with
    | [.v (.one (.d (.int k) a)), .v (.one (.d (.int k') b))] => do outA (← semV (Builtin.max_ #[] 0 #[.int k a, .int k' b]))
    | _ => .fail
  | .builtin .append => match args, c.argTypes.toList with
    | [s, x], [ty, tx] => appendA P fresh ty tx s x
    | _, _ => .fail
  | _ => .fail


def newBox (fresh : Nat) (cs : List AV) : AM Eff :=
  .rdB fresh fun
    | none => .pure (.out { tv := .v (.one (.ptr fresh 0)), wr := [(fresh, some (.box cs))] })
    | some _ => .fail

def loadE (P : Program) (t : TypeId) (e : Ty) (xs : List e.den) (i : Int) : AM Eff :=
  match isAggT P t with
  | some (true, n) => if n = e.size then out (.v (.agg (flat e (elem e xs i)))) else .fail
  | some (false, _) => match flat e (elem e xs i) with | [c] => outA c | _ => .fail
  | none => .fail
def loadF (P : Program) (t : TypeId) (e : Ty) (xs : List e.den) (i : Int) (off : Nat) : AM Eff :=
  match partA P t (flat e (elem e xs i)) off with | some v => out (.v v) | none => .fail
def loadA (P : Program) (t : TypeId) (a : TV) : AM Eff := do
  match a with
  | .v (.one (.ptr n o)) =>
    match ← AM.rB n with
    | .box cs => match partA P t cs o with | some v => out (.v v) | none => .fail
    | _ => .fail
  | .elt e xs i => loadE P t e xs i
  | .eltOf e n i =>
    match ← AM.rB n with
    | .own u _ xs => if h : u = e then loadE P t e (castD (congrArg Ty.sl h) xs) i else .fail
    | .settled u xs => if h : u = e then loadE P t e (castD (congrArg Ty.sl h) xs) i else .fail
    | _ => .fail
  | .fld e xs i off => loadF P t e xs i off
  | .fldOf e n i off =>
    match ← AM.rB n with
    | .own u _ xs => if h : u = e then loadF P t e (castD (congrArg Ty.sl h) xs) i off else .fail
    | .settled u xs => if h : u = e then loadF P t e (castD (congrArg Ty.sl h) xs) i off else .fail
    | _ => .fail
  | _ => .fail
/-- A field's place. -/
def fldA (o : Nat) : TV → AM Eff
  | .v (.one (.ptr n off)) => outA (.ptr n (off + o))
  | .elt e xs i => out (.fld e xs i o)
  | .eltOf e n i => out (.fldOf e n i o)
  | .fld e xs i off => out (.fld e xs i (off + o))
  | .fldOf e n i off => out (.fldOf e n i (off + o))
  | _ => .fail

/-- An element of a row that is known whole: the places one by one. -/
def pickAt (P : Program) (e : TypeId) (sz : Nat) (cs : List AV) (i : Int) : Nat → Nat → AM VV
  | 0, _ => .fail
  | n + 1, j => match partA P e cs (j * sz) with
    | some v => match n with
      | 0 => .pure v
      | _ => do mergeVV (decide (i = (j : Int))) v (← pickAt P e sz cs i n (j + 1))
    | none => .fail
def storeBox (P : Program) (t : TypeId) (n off : Nat) (x : TV) : AM Eff := do
  match x, ← AM.rB n with
  | .v x, .box cs => match P.info? t with
    | some inf => if x.cells.length = inf.size then (match putCells cs off x.cells with | some cs' => .pure (.out { tv := .undef, wr := [(n, some (.box cs'))] }) | none => .fail) else .fail
    | none => .fail
  | _, _ => .fail
def storeRow (P : Program) (t : TypeId) (e : Ty) (n : Nat) (i : Int) (x : TV) : AM Eff := do
  match x, ← AM.rB n with
  | .v x, .own u true xs => match P.info? t with
    | some inf =>
      if h : u = e then
        if x.cells.length = inf.size && inf.size == e.size then do
          let (d, wr, rest) ← asm e x.cells
          match rest with
          | [] => if apartL [n] (wr.map (·.1)) then .pure (.out { tv := .undef, wr := wr ++ [(n, some (.own e true ((castD (congrArg Ty.sl h) xs : List e.den).set i.toNat d)))] }) else .fail
          | _ => .fail
        else .fail
      else .fail
    | none => .fail
  | _, _ => .fail
def eltA (P : Program) (t : TypeId) (u : Ty) (a : AV) (i : Int) : AM Eff :=
  match elemOk P t u with
  | some _ => do
    let (xs, wr) ← toD (.sl u) a
    AM.guard (decide (0 ≤ i) && decide (i < xs.length))
    .pure (.out { tv := .elt u xs i, wr := wr })
  | none => .fail
def eltOwn (P : Program) (t : TypeId) (u : Ty) (n : Nat) (i : Int) : AM Eff :=
  match elemOk P t u with
  | some _ => do
    match ← AM.rB n with
    | .own u' _ xs =>
      if u' = u then do
        AM.guard (decide (0 ≤ i) && decide (i < xs.length))
        out (.eltOf u n i)
      else .fail
    | _ => eltA P t u (.own n) i
  | none => .fail
def makeA (P : Program) (fresh : Nat) (t : TypeId) (l c : Int) : AM Eff := do
  match P.underlying t with
  | some (.slice e) => match tyOf P tyD e with
    | some u => match elemOk P t u, zeroOf P e with
      | some inf, some zero =>
        if decide (1 ≤ inf.size) && decide (1 ≤ inf.bytes) && zero.length == inf.size then do
          AM.guard (decide (0 ≤ l) && decide (l ≤ c) && decide (c * inf.bytes ≤ maxBytes))
          let (z, wr, rest) ← asm u zero
          match wr, rest with
          | [], [] => .rdB fresh fun
            | none => .pure (.out { tv := .v (.one (.own fresh)), wr := [(fresh, some (.own u true (List.replicate l.toNat z)))] })
            | some _ => .fail
          | _, _ => .fail
        else .fail
      | _, _ => .fail
    | none => .fail
  | _ => .fail
/-- A cut of an array: it is given up by that. -/
def cutArr (n m : Nat) (u : Ty) (lo hi : Option TV) : Blk → AM Eff
  | .own u' _ xs =>
    if u' = u then do
      let (l, h) ← sliceB lo hi m
      .pure (.out { tv := .v (.one (.d (.sl u') ((xs.drop l.toNat).take (h.toNat - l.toNat)))), wr := [(n, some (.settled u' xs))] })
    else .fail
  | _ => .fail
/-- A cut whose room ends with it: a row without room. -/
def fullA (P : Program) (t : TypeId) (fresh : Nat) (lo hi : Option TV) (mx : TV) (x : TV) : AM Eff := do
  if hi.isNone then .fail else
  match x with
  | .v (.one a) => match P.underlying t with
    | some (.slice e) => match tyOf P tyD e with
      | some u => match elemOk P t u with
        | some _ => do
          let (xs, wr) ← toD (.sl u) a
          let (_, m) ← asI mx
          let (l, h) ← sliceB lo hi xs.length
          AM.guard (decide (h = m))
          .rdB fresh fun
            | none => .pure (.out { tv := .v (.one (.own fresh)), wr := wr ++ [(fresh, some (.own u false ((xs.drop l.toNat).take (h.toNat - l.toNat))))] })
            | some _ => .fail
        | none => .fail
      | none => .fail
    | _ => .fail
  | _ => .fail

def opA (P : Program) (sg : FuncId → Option (Nat × List Nat)) (fresh : Nat) (o : Oper) : AM Eff :=
  match o.op with
  | .move x | .assign x => do out (← opd x)
  | .pick c a b => do
    let c ← asB (← opd c)
    match ← opd a, ← opd b with
    | .v x, .v y => do out (.v (← mergeVV c x y))
    | x, y => .brb c (out x) (out y)
  | .box _ x => do
    match ← opd x with
    | .v x => newBox fresh x.cells
    | _ => .fail
  | .alloc t => match (P.info? t).bind (·.zero) with
    | some z => match ofValues z.cells.toList with
      | some cs => match arrOk P t with
        | some (m, u) => do
          let (xs, wr) ← asmRows u m cs
          match wr with
          | [] => .rdB fresh fun
            | none => .pure (.out { tv := .v (.one (.arr fresh m)), wr := [(fresh, some (.own u true xs))] })
            | some _ => .fail
          | _ => .fail
        | none => newBox fresh cs
      | none => .fail
    | none => .fail
  | .load t a => do loadA P t (← opd a)
  | .store t a x => do
    match ← opd a with
    | .v (.one (.ptr n off)) => storeBox P t n off (← opd x)
    | .eltOf e n i => storeRow P t e n i (← opd x)
    | _ => .fail
  | .fieldAddr s x i => do
    let v ← opd x
    match fieldInfo P s i with
    | some f => match P.info? f.type with | some inf => if inf.size = 0 then .fail else fldA f.offset v | none => .fail
    | none => .fail
  | .field s x i => do
    match ← opd x, fieldInfo P s i with
    | .v (.agg cs), some f => match partA P f.type cs f.offset with | some v => out (.v v) | none => .fail
    | _, _ => .fail
  | .nilCheck x => do
    match ← opd x with
    | .v (.one (.ptr n o)) => outA (.ptr n o)
    | .v (.one (.fn g cs)) => outA (.fn g cs)
    | _ => .fail
  | .extract x i => do
    match ← opd x with
    | .tup xs => match xs[i]? with | some v => out (.v v) | none => .fail
    | _ => .fail
  | .binOp op t x y _ => do
    match ← opd x, ← opd y with
    | .v (.one (.d (.int k) a)), .v (.one (.d (.int k') b)) =>
      match op with
      | .quo | .rem => do
        AM.guard (decide (b ≠ 0))
        if k = k' then outA (.d (.int k) (match op with | .quo => k.wrap (a.tdiv b) | _ => a.tmod b)) else .fail
      | .shl | .shr => do
        AM.guard (decide (0 ≤ b))
        outA (.d (.int k) (match op with | .shl => k.wrap (a * 2 ^ (min b.toNat k.bits)) | _ => a.fdiv (2 ^ (min b.toNat k.bits))))
      | _ => do outA (← semV (Go.binOp op t (.int k a) (.int k' b)))
    | .v (.one (.d .str a)), .v (.one (.d .str b)) =>
      match op with
      | .add => do
        AM.guard (decide (a.size ≤ 4611686018427387903) && decide (b.size ≤ 4611686018427387903))
        outA (.d .str (a ++ b))
      | .eql => outA (.d .bool (a.toList == b.toList))
      | .neq => outA (.d .bool (!(a.toList == b.toList)))
      | _ => do outA (← semV (Op.stringOp op a b))
    | .v (.one (.d .bool a)), .v (.one (.d .bool b)) =>
      match P.underlying t with
      | some .bool => match op with
        | .eql => outA (.d .bool (a == b))
        | .neq => outA (.d .bool (!(a == b)))
        | _ => .fail
      | _ => .fail
    | .v (.one (.d .flt a)), .v (.one (.d .flt b)) => do outA (← semV (Op.floatCmp op .f64 a b))
    | .v (.agg xs), .v (.agg ys) =>
      if P.eqGuardType P.depth t then .fail else
      match isAggT P t, eqT P tyD t xs ys with
      | some (true, _), some b => match op with
        | .eql => outA (.d .bool b)
        | .neq => outA (.d .bool (!b))
        | _ => .fail
      | _, _ => .fail
    | _, _ => .fail
  | .unOp op _ x => do
    match ← opd x with
    | .v (.one (.d .bool b)) => match op with | .not => outA (.d .bool (!b)) | _ => .fail
    | .v (.one (.d (.int k) n)) => do outA (← semV (Op.unary op (.int k n)))
    | _ => .fail
  | .convert s t x => do
    match ← opd x with
    | .v (.one (.d (.int _) n)) => match P.underlying s, P.underlying t with
      | some _, some (.int k) => outA (.d (.int k) (k.wrap n))
      | some _, some (.float .f64) => outA (.d .flt (FloatKind.f64.nearest n))
      | _, _ => .fail
    | .v (.one (.d .flt b)) => match P.underlying s, P.underlying t with
      | some _, some (.int k) => do
        AM.guard (((FloatKind.f64.decode b).toInt .zero).isSome && decide (k.min ≤ ((FloatKind.f64.decode b).toInt .zero).getD 0) && decide (((FloatKind.f64.decode b).toInt .zero).getD 0 ≤ k.max))
        outA (.d (.int k) (((FloatKind.f64.decode b).toInt .zero).getD 0))
      | _, _ => .fail
    | .v (.one (.d .str z)) => match P.underlying s, P.underlying t with
      | some _, some .string => outA (.d .str z)
      | some _, some (.slice e) => match P.underlying e with
        | some (.int .u8) => outA (.d (.sl (.int .u8)) (z.data.toList.map fun b => (b.toNat : Int)))
        | _ => .fail
      | _, _ => .fail
    | x => match P.underlying s, P.underlying t with
      | some (.slice e), some .string => match P.underlying e with
        | some (.int .u8) => do
          let (xs, wr) ← rowsA (.int .u8) x
          .pure (.out { tv := .v (.one (.d .str ⟨(xs.map fun (n : Int) => UInt8.ofNat n.toNat).toArray⟩)), wr := wr })
        | _ => .fail
      | _, _ => .fail
  | .slice t x lo hi mx => do
    let lo ← optM opd lo
    let hi ← optM opd hi
    match mx with
    | some m => fullA P t fresh lo hi (← opd m) (← opd x)
    | none =>
    match ← opd x with
    | .v (.one (.d .str s)) => match P.underlying t with
      | some .string => do
        let (l, h) ← sliceB lo hi s.size
        outA (.d .str (s.extract l.toNat h.toNat))
      | _ => .fail
    | .v (.one (.d (.sl e) xs)) => match elemOk P t e with
      | some _ => do
        let (l, h) ← sliceB lo hi xs.length
        outA (.d (.sl e) ((xs.drop l.toNat).take (h.toNat - l.toNat)))
      | none => .fail
    | .v (.one (.own n)) => do
      match ← AM.rB n with
      | .own u _ xs => match elemOk P t u with
        | some _ => do
          let (l, h) ← sliceB lo hi xs.length
          .pure (.out { tv := .v (.one (.d (.sl u) ((xs.drop l.toNat).take (h.toNat - l.toNat)))), wr := [(n, some (.settled u xs))] })
        | none => .fail
      | .settled u xs => match elemOk P t u with
        | some _ => do
          let (l, h) ← sliceB lo hi xs.length
          outA (.d (.sl u) ((xs.drop l.toNat).take (h.toNat - l.toNat)))
        | none => .fail
      | _ => .fail
    | .v (.one (.arr n m)) => match arrOk P t with
      | some (m', u) =>
        if m' = m then do cutArr n m u lo hi (← AM.rB n)
        else .fail
      | none => .fail
    | _ => .fail
  | .indexAddr t x i => do
    let (_, i) ← asI (← opd i)
    match ← opd x, P.underlying t with
    | .v (.one a), some (.slice e) =>
      match tyOf P tyD e with
      | some u => match a with
        | .own n => eltOwn P t u n i
        | a => eltA P t u a i
      | none => .fail
    | .v (.one (.arr n m)), some (.array _ _) =>
      match arrOk P t with
      | some (m', u) =>
        if m' = m then do
          AM.guard (decide (0 ≤ i) && decide (i < m))
          out (.eltOf u n i)
        else .fail
      | none => .fail
    | .v (.one (.ptr n off)), some (.array len e) =>
      match P.info? e with
      | some inf => do
        AM.guard (decide (0 ≤ i) && decide (i < len))
        outA (.ptr n (off + i.toNat * inf.size))
      | none => .fail
    | _, _ => .fail
  | .index t x i => do
    let (_, i) ← asI (← opd i)
    match ← opd x with
    | .v (.one (.d .str s)) => match P.underlying t with
      | some .string => do
        AM.guard (decide (0 ≤ i) && decide (i < s.size))
        outA (.d (.int .u8) (bt s i))
      | _ => .fail
    | .v (.agg cs) => match P.underlying t with
      | some (.array len e) => match P.info? e with
        | some inf => do
          AM.guard (decide (0 ≤ i) && decide (i < len))
          out (.v (← pickAt P e inf.size cs i len 0))
        | none => .fail
      | _ => .fail
    | _ => .fail
  | .makeSlice t l c => do
    let (_, l) ← asI (← opd l)
    let (_, c) ← asI (← opd c)
    makeA P fresh t l c
  | .build t parts => do
    let ps ← partsA parts.toList
    match buildPlace P t, zeroOf P t with
    | some pl, some zero => match fillA pl zero ps with
      | some cs => out (.v (.agg cs))
      | none => .fail
    | _, _ => .fail
  | .buildSlice t len parts => do
    let ps ← partsA parts.toList
    match P.underlying t with
    | some (.slice e) => match tyOf P tyD e with
      | some u => match elemOk P t u, zeroOf P e with
        | some inf, some zero =>
          if decide (1 ≤ inf.size) && decide (1 ≤ len) && decide (len * inf.size ≤ 2 ^ 24) && zero.length == inf.size then
            match fillA (fun i => some (i * inf.size, inf.size)) ((List.replicate len zero).flatten) ps with
            | some cells => do
              let (xs, wr) ← asmRows u len cells
              .rdB fresh fun
                | none => .pure (.out { tv := .v (.one (.own fresh)), wr := wr ++ [(fresh, some (.own u true xs))] })
                | some _ => .fail
            | none => .fail
          else .fail
        | _, _ => .fail
      | none => .fail
    | _ => .fail
  | .makeFunc (.func f) first captured => if first.isEmpty then do
      let cs ← captured.toList.mapM fun c => do asP (← opd c)
      outA (.fn f cs)
    else .fail
  | .call c => do
    let args ← c.args.toList.mapM opd
    callA P sg fresh c args
  | _ => .fail

/-! ### the evaluator -/
structure LogE where
  rd : List Loc
  wr : List Loc

def St.put (s : St) (dst : Option Nat) (v : TV) : St :=
  match dst with
  | none => s
  | some d => { s with tmp := fun n => if n = d then some v else s.tmp n }
def St.set (s : St) (n : Nat) (b : Option Blk) : St := { s with blk := fun m => if m = n then some b else s.blk m }
def St.sets (s : St) : List (Nat × Option Blk) → St
  | [] => s
  | (n, b) :: l => (s.set n b).sets l
def dstOk (N : Nat) : Option Nat → Bool
  | none => true
  | some d => d < N

structure Env where
  P : Program
  ct : FuncId → Option Ct
  N : Nat
def Env.sg (E : Env) (f : FuncId) : Option (Nat × List Nat) := (E.ct f).map fun c => (c.nin, c.mv)

section
variable {β : Type} (E : Env) (ops : Array Oper) (base : Nat)

def logOf (o : Oper) (rd : List Loc) (wr : List (Nat × Option Blk)) : LogE := ⟨rd, (o.dst.toList.map Loc.t) ++ wr.map fun p => .b p.1⟩

def evOps (K : St → List LogE → Option β) : List Nat → St → List LogE → Option β
  | [], st, lg => K st lg
  | i :: rest, st, lg =>
    match ops[i]? with
    | none => none
    | some o =>
      if dstOk E.N o.dst then
        let exec (st : St) (rd : List Loc) : Option β :=
          match calleeOf o.op with
          | some (c, f) => (reqA E.P E.sg c f).runK st rd fun r rd => match E.ct r.f with
            | none => none
            | some ct => ct.F r.args r.blks fun s => (unpack r (base + 8 * i) s).runK st rd fun x rd =>
                evOps K rest ((st.sets x.wr).put o.dst x.tv) (logOf o rd x.wr :: lg)
          | none => (opA E.P E.sg (base + 8 * i) o).runK st rd fun e rd =>
            match e with
            | .out x => evOps K rest ((st.sets x.wr).put o.dst x.tv) (logOf o rd x.wr :: lg)
            | .call _ => none
        match o.guard with
        | none => exec st []
        | some (j, want) => match (ops[j]?).bind (·.dst) with
          | none => none
          | some tj => match st.tmp tj with
            | some (.v (.one (.d .bool b))) =>
              match b with
              | true => let st := st.put (some tj) (.bool true); if want then exec st [.t tj] else evOps K rest (st.put o.dst .undef) (logOf o [.t tj] [] :: lg)
              | false => let st := st.put (some tj) (.bool false); if want then evOps K rest (st.put o.dst .undef) (logOf o [.t tj] [] :: lg) else exec st [.t tj]
            | some .undef => evOps K rest (st.put o.dst .undef) (logOf o [.t tj] [] :: lg)
            | _ => none
      else none

end

/-! ### regions, ways, segments -/
def binding (e : Edge) : Bool := match e.ground with | .textOnly _ | .gcOnly _ => false | _ => true
/-- Which operations stand surely ahead of each. -/
def ahead (ops : List Oper) : List (List Nat) :=
  ops.foldl (fun acc o => acc ++ [o.after.toList.flatMap fun e => if binding e then e.on :: acc.getD e.on [] else []]) []
/-- No order that the model may draw leaves an operation out. -/
def schedOk (ops : Array Oper) : Bool :=
  (Region.linearise .any ops 0).length == ops.size && (Region.linearise .text ops 0).length == ops.size && (Region.linearise .gc ops 0).length == ops.size
def meets (l m : List Loc) : Bool := l.any fun x => m.contains x
def indep (a b : LogE) : Bool := !meets a.wr b.wr && !meets a.wr b.rd && !meets a.rd b.wr
/-- Any two that no edge orders meet in nothing. 'lg': the last first. -/
def freeOf (ah : List (List Nat)) (lg : List LogE) : Bool :=
  let l := lg.reverse.zipIdx
  l.all fun (b, j) => l.all fun (a, i) => !(i < j) || (ah.getD j []).contains i || indep a b

inductive Fr where
  | seqL (b : Code)
  | seqR
  | arm
  | blk (id : Nat)
  | loop (body : Code)
  | scope (body : Code)

def codeAt (body : Code) : List Nat → Option (Code × List Fr)
  | [] => some (body, [])
  | d :: p => match codeAt body p with
    | some (c, k) => match d, c with
      | 0, .seq a b => some (a, .seqL b :: k)
      | 1, .seq _ b => some (b, .seqR :: k)
      | 2, .cond _ a _ => some (a, .arm :: k)
      | 3, .cond _ _ b => some (b, .arm :: k)
      | 4, .block id b => some (b, .blk id :: k)
      | 5, .loop b => some (b, .loop b :: k)
      | 6, .scope b => some (b, .scope b :: k)
      | d, .scope b => if 100 ≤ d then (findLabel b (d - 100)).map (·, .scope b :: k) else none
      | _, _ => none
    | none => none

/-- What is done ahead of a segment: a variable, or a cell of the box that a variable points to, is brought into one form. -/
inductive Prep where
  | dat (t : Nat) (ty : Ty)
  | own (t : Nat) (e : Ty)
  | cellDat (t off : Nat) (ty : Ty)
  | cellOwn (t off : Nat) (e : Ty)

structure Seg where
  path : List Nat
  prep : List Prep
  keep : List Nat
  F : List TV → List (Option Blk) → {β : Type} → (Res → Option β) → Option β
  legit : ∀ {β : Type} tvs blks (K : Res → Option β) r, F tvs blks K = some r → ∃ res, F tvs blks some = some res ∧ K res = some r

/-- A row as one's own, of one form. -/
def toOwn (fresh : Nat) (e : Ty) : AV → AM (AV × List (Nat × Option Blk))
  | .raw (.slice none 0 0) => .rdB fresh fun
    | none => .pure (.own fresh, [(fresh, some (.own e false []))])
    | some _ => .fail
  | .own n => do
    match ← AM.rB n with
    | .own u _ xs => if u = e then .pure (.own n, [(n, some (.own u false xs))]) else .fail
    | _ => .fail
  | _ => .fail
def prepA (fresh : Nat) : Prep → AM (Option (Nat × TV) × List (Nat × Option Blk))
  | .dat t ty => do
    match ← AM.rT t with
    | .v x => do let (y, wr) ← normVV ty x; pure (some (t, .v y), wr)
    | _ => .fail
  | .own t e => do
    match ← AM.rT t with
    | .v (.one a) => do let (y, wr) ← toOwn fresh e a; pure (some (t, .v (.one y)), wr)
    | _ => .fail
  | .cellDat t off ty => do
    let (n, o) ← asP (← AM.rT t)
    match ← AM.rB n with
    | .box cs => match cut cs (o + off) ty.size with
      | some l => do
        let (y, wr) ← normVV ty (.agg l)
        match putCells cs (o + off) y.cells with
        | some cs' => if apartL [n] (wr.map (·.1)) then pure (none, wr ++ [(n, some (.box cs'))]) else .fail
        | none => .fail
      | none => .fail
    | _ => .fail
  | .cellOwn t off e => do
    let (n, o) ← asP (← AM.rT t)
    match ← AM.rB n with
    | .box cs => match cut cs (o + off) 1 with
      | some [a] => do
        let (y, wr) ← toOwn fresh e a
        match putCells cs (o + off) [y] with
        | some cs' => if apartL [n] (wr.map (·.1)) then pure (none, wr ++ [(n, some (.box cs'))]) else .fail
        | none => .fail
      | _ => .fail
    | _ => .fail
def runPreps {β : Type} (K : St → Option β) : List Prep → Nat → St → Option β
  | [], _, st => K st
  | p :: ps, fr, st => (prepA fr p).runK st [] fun r _ =>
    let st := st.sets r.2
    match r.1 with
    | some (t, v) => runPreps K ps (fr + 1) (st.put (some t) v)
    | none => runPreps K ps (fr + 1) st

def oNames : Option Blk → List Nat
  | some b => b.names
  | none => []
def packN (nin : Nat) (wr : List (Nat × Option Blk)) (tvs : List TV) : AM (List TV × List (Option Blk)) := do
  let ins ← (List.range nin).mapM fun n => (.rdB n fun | some b => .pure b | none => .fail : AM (Option Blk))
  let nb ← reach 200 (List.range nin) (tvs.flatMap TV.names ++ ins.flatMap oNames)
  let names := List.range nin ++ nb.map (·.1)
  let tvs' ← AM.ofO (tvs.mapM (TV.ren (idx names)))
  let blks' ← AM.ofO ((ins ++ nb.map fun p => some p.2).mapM (renO (idx names)))
  if apartL names (wr.map (·.1)) && nodupB names then pure (tvs', blks') else .fail

def resTV (P : Program) (rv : ResultVar) : AM VV :=
  match rv with
  | .tmp t => do match ← AM.rT t with | .v x => pure x | _ => .fail
  | .cell a t => do
    match ← loadA P t (← AM.rT a) with
    | .out { tv := .v x, wr := [] } => pure x
    | _ => .fail
def vvs : List TV → Option (List VV)
  | [] => some []
  | .v x :: l => (vvs l).map (x :: ·)
  | _ => none
def resA (P : Program) (nin : Nat) (mv : List Nat) (ts : List TypeId) (rvs : List ResultVar) : AM (Res × List (Nat × Option Blk)) := do
  let xs ← rvs.mapM (resTV P)
  let (tvs, wr) ← normAll P mv ts 0 (xs.map .v)
  let (tvs, blks) ← packN nin wr tvs
  match tvs with
  | [v] => pure (⟨v, blks⟩, wr)
  | l => match vvs l with | some xs => pure (⟨.tup xs, blks⟩, wr) | none => .fail

structure FEnv extends Env where
  body : Code
  rvs : List ResultVar
  rts : List TypeId
  nin : Nat
  rmv : List Nat
  segs : List Seg

inductive Md where
  | enter (skip : Bool) (c : Code)
  | done
  | exit (id : Nat)
  | goto (l : Nat)
  | ret

def ev {β : Type} (E : FEnv) (K : Res → Option β) : Nat → Md → List Fr → List Nat → Nat → St → Option β
  | 0, _, _, _, _, _ => none
  | n + 1, md, stk, path, fr, st =>
    match md with
    | .enter skip c =>
      match (if skip then none else E.segs.find? fun s => s.path == path) with
      | some s => runPreps (fun st => (do packN E.nin [] (← s.keep.mapM AM.rT)).runK st [] fun p _ => s.F p.1 p.2 K) s.prep fr st
      | none => match c with
        | .skip => ev E K n .done stk path fr st
        | .label _ => ev E K n .done stk path fr st
        | .region _ ops draw => evOps E.toEnv ops fr (fun st lg => if draw then (if freeOf (ahead ops.toList) lg && schedOk ops then ev E K n .done stk path (fr + 8 * ops.size) st else none) else ev E K n .done stk path (fr + 8 * ops.size) st) (List.range ops.size) st []
        | .seq a b => ev E K n (.enter false a) (.seqL b :: stk) (0 :: path) fr st
        | .cond c a b => (do asB (← opd c)).runK st [] fun t _ => bif t then ev E K n (.enter false a) (.arm :: stk) (2 :: path) fr st else ev E K n (.enter false b) (.arm :: stk) (3 :: path) fr st
        | .block id b => ev E K n (.enter false b) (.blk id :: stk) (4 :: path) fr st
        | .loop b => ev E K n (.enter false b) (.loop b :: stk) (5 :: path) fr st
        | .scope b => ev E K n (.enter false b) (.scope b :: stk) (6 :: path) fr st
        | .goto l => ev E K n (.goto l) stk path fr st
        | .exit id => ev E K n (.exit id) stk path fr st
        | .ret => ev E K n .ret stk path fr st
        | _ => none
    | .done => match stk with
      | [] => (resA E.P E.nin E.rmv E.rts E.rvs).runK st [] fun r _ => K r.1
      | .seqL b :: k => ev E K n (.enter false b) (.seqR :: k) (1 :: path.tail) fr st
      | .seqR :: k | .arm :: k | .blk _ :: k | .scope _ :: k => ev E K n .done k path.tail fr st
      | .loop b :: k => ev E K n (.enter false (.loop b)) k path.tail fr st
    | .exit id => match stk with
      | [] => none
      | .blk id' :: k => if id' = id then ev E K n .done k path.tail fr st else ev E K n (.exit id) k path.tail fr st
      | _ :: k => ev E K n (.exit id) k path.tail fr st
    | .goto l => match stk with
      | [] => none
      | .scope c :: k => match findLabel c l with
        | some rest => ev E K n (.enter false rest) (.scope c :: k) ((100 + l) :: path.tail) fr st
        | none => none
      | _ :: k => ev E K n (.goto l) k path.tail fr st
    | .ret => (resA E.P E.nin E.rmv E.rts E.rvs).runK st [] fun r _ => K r.1

def stOf (keep : List Nat) (tvs : List TV) (blks : List (Option Blk)) : St :=
  { tmp := fun n => match keep.findIdx? (· == n) with | some i => tvs[i]? | none => none,
    blk := fun n => blks[n]? }

/-- From a place of the function on, with a state. -/
def evAt {β : Type} (E : FEnv) (path keep : List Nat) (tvs : List TV) (blks : List (Option Blk)) (K : Res → Option β) : Option β :=
  match codeAt E.body path with
  | some (c, stk) => ev E K 100000 (.enter true c) stk path blks.length (stOf keep tvs blks)
  | none => none

end Go.Proofs.Ytndkobhclggeiaa.Aev
