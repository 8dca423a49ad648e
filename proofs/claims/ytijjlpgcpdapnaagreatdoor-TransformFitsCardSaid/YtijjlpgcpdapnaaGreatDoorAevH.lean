import Derived.Calls
import Derived.Below
import Derived.KernelRfl
import Derived.Laws.CopyRow
import Derived.Laws.Rows
import Derived.Laws.Cells
import Derived.ChangeKeysEq
import Derived.Lib.ConvBytes
/- AEV: an evaluator of loaded functions over abstract values, and that it is sound: A B C D E F G H. -/
/- AEV, the words: abstract values, states, and an evaluator of loaded functions over them. -/
namespace Go.Proofs.YtijjlpgcpdapnaaGreatDoor.Aev
set_option linter.unusedVariables false
open Go

inductive Ty where
 | unit | bool | int (k : IntKind) | str | flt | sl (e : Ty) | pair (a b : Ty)
 deriving DecidableEq

abbrev Ty.den : Ty → Type
 | .unit => Unit
 | .bool => Bool
 | .int _ => Int
 | .str => ByteArray
 | .flt => Nat
 | .sl e => List (Ty.den e)
 | .pair a b => Ty.den a × Ty.den b

def Ty.size : Ty → Nat
 | .unit => 0
 | .pair a b => a.size + b.size
 | _ => 1

inductive AV where
 | d (t : Ty) (x : t.den)
 | raw (v : Value)
 | ptr (n off : Nat)
 | own (n : Nat)
 | arr (n m : Nat)
 | fn (f : Nat) (caps : List (Nat × Nat))
 | ifc (t : TypeId) (ag : Bool) (ty : Ty) (x : ty.den)
 | mp (n : Nat)
 | slb (n m : Nat)

inductive VV where
 | one (a : AV)
 | agg (cs : List AV)

inductive TV where
 | v (x : VV)
 | tup (xs : List VV)
 | elt (e : Ty) (xs : List e.den) (i : Int)
 | eltOf (e : Ty) (n : Nat) (i : Int)
 | fld (e : Ty) (xs : List e.den) (i : Int) (off : Nat)
 | fldOf (e : Ty) (n : Nat) (i : Int) (off : Nat)
 | undef

abbrev TV.one (a : AV) : TV := .v (.one a)
abbrev TV.agg (cs : List AV) : TV := .v (.agg cs)
abbrev TV.i64 (n : Int) : TV := .v (.one (.d (.int .i64) n))
abbrev TV.bool (b : Bool) : TV := .v (.one (.d .bool b))
abbrev TV.str (s : ByteArray) : TV := .v (.one (.d .str s))

inductive Blk where
 | box (cs : List AV)
 | own (t : Ty) (excl : Bool) (xs : List t.den)
 | settled (t : Ty) (xs : List t.den)
 | mp (kt et : Ty) (es : List (kt.den × et.den))

inductive Loc where
 | t (n : Nat)
 | b (n : Nat)
 deriving DecidableEq

structure St where
 tmp : Nat → Option TV
 blk : Nat → Option (Option Blk)

inductive AM (α : Type) where
 | pure (a : α)
 | rdT (n : Nat) (k : Option TV → AM α)
 | rdB (n : Nat) (k : Option (Option Blk) → AM α)
 | grd (c : Bool) (k : AM α)
 | brb (c : Bool) (x y : AM α)
 | fail

namespace AM
def bind {α β : Type} : AM α → (α → AM β) → AM β
 | .pure a, f => f a
 | .rdT n k, f => .rdT n fun x => (k x).bind f
 | .rdB n k, f => .rdB n fun x => (k x).bind f
 | .grd c k, f => .grd c (k.bind f)
 | .brb c x y, f => .brb c (x.bind f) (y.bind f)
 | .fail, _ => .fail
instance : Monad AM where
 pure := AM.pure
 bind := AM.bind

def rT (n : Nat) : AM TV := .rdT n fun | some v => .pure v | none => .fail
def rB (n : Nat) : AM Blk := .rdB n fun | some (some b) => .pure b | _ => .fail
def ofO {α : Type} : Option α → AM α
 | some a => .pure a
 | none => .fail
def guard (c : Bool) : AM Unit := .grd c (.pure ())

def run {α : Type} : AM α → St → List Loc → Option (α × List Loc)
 | .pure a, _, lg => some (a, lg)
 | .rdT n k, s, lg => run (k (s.tmp n)) s (.t n :: lg)
 | .rdB n k, s, lg => run (k (s.blk n)) s (.b n :: lg)
 | .grd c k, s, lg => bif c then run k s lg else none
 | .brb c x y, s, lg => bif c then run x s lg else run y s lg
 | .fail, _, _ => none

def runK {α β : Type} : AM α → St → List Loc → (α → List Loc → Option β) → Option β
 | .pure a, _, lg, K => K a lg
 | .rdT n k, s, lg, K => runK (k (s.tmp n)) s (.t n :: lg) K
 | .rdB n k, s, lg, K => runK (k (s.blk n)) s (.b n :: lg) K
 | .grd c k, s, lg, K => bif c then runK k s lg K else none
 | .brb c x y, s, lg, K => bif c then runK x s lg K else runK y s lg K
 | .fail, _, _, _ => none
end AM

def ofValue : Value → Option AV
 | .bool b => some (.d .bool b)
 | .int k n => some (.d (.int k) n)
 | .string s => some (.d .str s)
 | .float .f64 x => some (.d .flt x)
 | .slice none 0 0 => some (.raw (.slice none 0 0))
 | .pointer none => some (.raw (.pointer none))
 | .nilFunc => some (.raw .nilFunc)
 | .nilIface => some (.raw .nilIface)
 | .map none => some (.raw (.map none))
 | .func (.func f) first caps => match first.toList, caps.toList with | [], [] => some (.fn f []) | _, _ => none
 | _ => none
def ofValues : List Value → Option (List AV)
 | [] => some []
 | v :: vs => match ofValue v with | some a => (ofValues vs).map (a :: ·) | none => none
def ofConst : Value → Option TV
 | .agg cs => (ofValues cs.toList).map fun l => .v (.agg l)
 | .tuple cs => match cs.toList with | [] => some (.tup []) | _ => none
 | v => (ofValue v).map fun a => .v (.one a)

def opd : Operand → AM TV
 | .tmp t => .rT t
 | .const v => .ofO (ofConst v)
 | .func f => .pure (.v (.one (.fn f [])))
 | .global _ => .fail

def VV.cells : VV → List AV
 | .one a => [a]
 | .agg cs => cs

def flat : (t : Ty) → t.den → List AV
 | .unit, _ => []
 | .pair a b, x => flat a x.1 ++ flat b x.2
 | .bool, x => [.d .bool x]
 | .int k, x => [.d (.int k) x]
 | .str, x => [.d .str x]
 | .flt, x => [.d .flt x]
 | .sl e, x => [.d (.sl e) x]

def castD {t u : Ty} (h : t = u) (x : t.den) : u.den := h ▸ x

def toD (t : Ty) : AV → AM (t.den × List (Nat × Option Blk))
 | .d u x => if h : u = t then .pure (castD h x, []) else .fail
 | .raw v => match t, v with
  | .sl e, .slice none 0 0 => .pure (([] : List e.den), [])
  | _, _ => .fail
 | .own n => match t with
  | .sl e => do
   match ← AM.rB n with
   | .own u _ xs => if h : u = e then pure (castD (congrArg Ty.sl h) xs, [(n, some (.settled u xs))]) else .fail
   | .settled u xs => if h : u = e then pure (castD (congrArg Ty.sl h) xs, []) else .fail
   | _ => .fail
  | _ => .fail
 | _ => .fail

def asmN {α : Type} (f : List AV → AM (α × List (Nat × Option Blk) × List AV)) : Nat → List AV → AM (List α × List (Nat × Option Blk))
 | 0, [] => .pure ([], [])
 | 0, _ => .fail
 | n + 1, l => do
  let (x, wr, l) ← f l
  let (xs, wr') ← asmN f n l
  pure (x :: xs, wr ++ wr')
def asm : (t : Ty) → List AV → AM (t.den × List (Nat × Option Blk) × List AV)
 | .unit, l => .pure ((), [], l)
 | .pair a b, l => do
  let (x, wr, l) ← asm a l
  let (y, wr', l) ← asm b l
  pure ((x, y), wr ++ wr', l)
 | .bool, c :: l => do let (x, wr) ← toD .bool c; pure (x, wr, l)
 | .int k, c :: l => do let (x, wr) ← toD (.int k) c; pure (x, wr, l)
 | .str, c :: l => do let (x, wr) ← toD .str c; pure (x, wr, l)
 | .flt, c :: l => do let (x, wr) ← toD .flt c; pure (x, wr, l)
 | .sl e, c :: l => match c with
  | .slb n m => do
   match ← AM.rB n with
   | .box cs => do
    let (xs, wr) ← asmN (fun l => asm e l) m cs
    pure (xs, wr ++ [(n, none)], l)
   | _ => .fail
  | c => do let (x, wr) ← toD (.sl e) c; pure (x, wr, l)
 | _, [] => .fail

def tyOf (P : Program) : Nat → TypeId → Option Ty
 | 0, _ => none
 | d + 1, t => match P.underlying t with
  | some .bool => some .bool
  | some (.int k) => some (.int k)
  | some .string => some .str
  | some (.float .f64) => some .flt
  | some (.slice e) => (tyOf P d e).map .sl
  | some (.struct fs) => fs.toList.foldr (fun f r => match tyOf P d f.type, r with | some a, some b => some (.pair a b) | _, _ => none) (some .unit)
  | some (.array n e) => (tyOf P d e).map fun a => (List.replicate n a).foldr .pair .unit
  | _ => none
def tyD : Nat := 12

structure Out where
 tv : TV
 wr : List (Nat × Option Blk) := []

structure Req where
 f : FuncId
 args : List TV
 blks : List Blk
 names : List Nat
 nin : Nat
 wr : List (Nat × Option Blk)

inductive Eff where
 | out (o : Out)
 | call (r : Req)

structure Res where
 tv : TV
 blks : List (Option Blk)

structure Ct where
 nin : Nat
 mv : List Nat
 F : List TV → List Blk → {β : Type} → (Res → Option β) → Option β
 legit : ∀ {β : Type} tvs blks (K : Res → Option β) r, F tvs blks K = some r → ∃ res, F tvs blks some = some res ∧ K res = some r

/-! ### names -/
def AV.names : AV → List Nat
 | .ptr n _ => [n]
 | .own n => [n]
 | .arr n _ => [n]
 | .mp n => [n]
 | .slb n _ => [n]
 | .fn _ caps => caps.map (·.1)
 | _ => []
def VV.names (x : VV) : List Nat := x.cells.flatMap AV.names
def TV.names : TV → List Nat
 | .v x => x.names
 | .tup xs => xs.flatMap VV.names
 | .eltOf _ n _ => [n]
 | .fldOf _ n _ _ => [n]
 | _ => []
def Blk.names : Blk → List Nat
 | .box cs => cs.flatMap AV.names
 | _ => []
def AV.ren (f : Nat → Option Nat) : AV → Option AV
 | .ptr n o => (f n).map (.ptr · o)
 | .own n => (f n).map .own
 | .arr n m => (f n).map (.arr · m)
 | .mp n => (f n).map .mp
 | .slb n m => (f n).map (.slb · m)
 | .fn g caps => (caps.mapM fun p => (f p.1).map fun m => (m, p.2)).map (.fn g)
 | a => some a
def VV.ren (f : Nat → Option Nat) : VV → Option VV
 | .one a => (a.ren f).map .one
 | .agg cs => (cs.mapM (AV.ren f)).map .agg
def TV.ren (f : Nat → Option Nat) : TV → Option TV
 | .v x => (x.ren f).map .v
 | .tup xs => (xs.mapM (VV.ren f)).map .tup
 | .eltOf e n i => (f n).map (.eltOf e · i)
 | .fldOf e n i off => (f n).map (.fldOf e · i off)
 | x => some x
def Blk.ren (f : Nat → Option Nat) : Blk → Option Blk
 | .box cs => (cs.mapM (AV.ren f)).map .box
 | b => some b

def reach : Nat → List Nat → List Nat → AM (List (Nat × Blk))
 | 0, _, _ => .fail
 | _ + 1, _, [] => .pure []
 | k + 1, seen, n :: todo =>
  if seen.contains n then reach k seen todo
  else do
   let b ← AM.rB n
   let r ← reach k (n :: seen) (todo ++ b.names)
   pure ((n, b) :: r)
def idx (l : List Nat) (n : Nat) : Option Nat := l.findIdx? (· == n)

def normVV (t : Ty) : VV → AM (VV × List (Nat × Option Blk))
 | .one a => do
  let (x, wr, l) ← asm t [a]
  match l, flat t x with
  | [], [c] => pure (.one c, wr)
  | _, _ => .fail
 | .agg cs => do
  let (x, wr, l) ← asm t cs
  match l with
  | [] => pure (.agg (flat t x), wr)
  | _ => .fail
def normT (P : Program) (keep : Bool) (t : Option TypeId) (x : TV) : AM (TV × List (Nat × Option Blk)) :=
 if keep then .pure (x, []) else
 match t.bind (tyOf P tyD), x with
 | some _, .v (.one (.ptr n o)) => .pure (.v (.one (.ptr n o)), [])
 | some t, .v x => do let (y, wr) ← normVV t x; pure (.v y, wr)
 | _, x => .pure (x, [])
def normAll (P : Program) (mv : List Nat) (ts : List TypeId) : Nat → List TV → AM (List TV × List (Nat × Option Blk))
 | _, [] => .pure ([], [])
 | i, x :: xs => do
  let (y, wr) ← normT P (mv.contains i) (ts[i]?) x
  let (ys, wr') ← normAll P mv ts (i + 1) xs
  pure (y :: ys, wr ++ wr')

def Blk.isBox : Blk → Bool
 | .box _ => true
 | _ => false
def renO (f : Nat → Option Nat) : Option Blk → Option (Option Blk)
 | some b => (b.ren f).map some
 | none => some none
def nodupB : List Nat → Bool
 | [] => true
 | n :: ns => !ns.contains n && nodupB ns
def apartL (l m : List Nat) : Bool := l.all fun n => !m.contains n

def pack (f : FuncId) (nin : Nat) (args : List TV) (wr : List (Nat × Option Blk)) : AM Req := do
 let nb ← reach 100 [] (args.flatMap TV.names)
 let nb := nb.filter (·.2.isBox) ++ nb.filter (!·.2.isBox)
 let names := nb.map (·.1)
 let args' ← AM.ofO (args.mapM (TV.ren (idx names)))
 let blks' ← AM.ofO ((nb.map (·.2)).mapM (Blk.ren (idx names)))
 if apartL names (wr.map (·.1)) && nodupB names && decide (nin ≤ names.length) then pure ⟨f, args', blks', names, nin, wr⟩ else .fail

def back (names : List Nat) (nin fresh : Nat) (i : Nat) : Option Nat := if i < nin then names[i]? else some (fresh + (i - nin))
def freshOk (fresh : Nat) : Nat → AM Unit
 | 0 => .pure ()
 | k + 1 => .rdB (fresh + k) fun
  | none => freshOk fresh k
  | some _ => .fail
def scalarTy : Ty → Bool
 | .sl _ => false
 | .pair a b => scalarTy a && scalarTy b
 | _ => true
def scalarAV : AV → Bool
 | .d t _ => scalarTy t
 | .raw _ => true
 | .ifc _ _ t _ => scalarTy t
 | _ => false
def scalarTV : TV → Bool
 | .v x => x.cells.all scalarAV
 | .tup xs => xs.all fun x => x.cells.all scalarAV
 | _ => false
def unpack (r : Req) (fresh : Nat) (s : Res) : AM Out := if r.names.isEmpty && s.blks.isEmpty && scalarTV s.tv then .pure ⟨s.tv, []⟩ else do
 let tv ← AM.ofO (s.tv.ren (back r.names r.nin fresh))
 let bs ← AM.ofO (s.blks.mapM (renO (back r.names r.nin fresh)))
 freshOk fresh (s.blks.length - r.nin)
 if r.nin ≤ s.blks.length && decide (s.blks.length - r.nin ≤ 8) then
  pure ⟨tv, r.wr ++ (r.names.drop r.nin).map (fun n => (n, none)) ++ (r.names.take r.nin).zip bs ++ ((bs.drop r.nin).zipIdx fresh).map fun p => (p.2, p.1)⟩
 else .fail

def asI : TV → AM (IntKind × Int)
 | .v (.one (.d (.int k) n)) => .pure (k, n)
 | _ => .fail
def asS : TV → AM ByteArray
 | .v (.one (.d .str s)) => .pure s
 | _ => .fail
def asB : TV → AM Bool
 | .v (.one (.d .bool b)) => .pure b
 | _ => .fail
def asP : TV → AM (Nat × Nat)
 | .v (.one (.ptr n o)) => .pure (n, o)
 | _ => .fail
def out (v : TV) : AM Eff := .pure (.out { tv := v })
def outA (a : AV) : AM Eff := .pure (.out { tv := .v (.one a) })

def semV (s : Sem Value) : AM AV := match s with | .pure v => .ofO (ofValue v) | _ => .fail

def Ty.dflt : (t : Ty) → t.den
 | .unit => ()
 | .bool => false
 | .int _ => (0 : Int)
 | .str => ByteArray.empty
 | .flt => (0 : Nat)
 | .sl _ => []
 | .pair a b => (a.dflt, b.dflt)
def elem (t : Ty) (xs : List t.den) (i : Int) : t.den := xs.getD i.toNat t.dflt

def mergeVV (c : Bool) : VV → VV → AM VV
 | .one (.d t x), .one (.d u y) => if h : u = t then .pure (.one (.d t (bif c then x else castD h y))) else .fail
 | x, y => .brb c (.pure x) (.pure y)

def bt (s : ByteArray) (i : Int) : Int := ((s.data[i.toNat]?).getD 0).toNat

def cut (cs : List AV) (off n : Nat) : Option (List AV) := if off + n ≤ cs.length then some ((cs.drop off).take n) else none
def isAggT (P : Program) (t : TypeId) : Option (Bool × Nat) :=
 match P.underlying t, P.info? t with
 | some (.struct _), some i => some (true, i.size)
 | some (.array _ _), some i => some (true, i.size)
 | some _, some i => some (false, i.size)
 | _, _ => none
def partA (P : Program) (t : TypeId) (cs : List AV) (off : Nat) : Option VV :=
 match isAggT P t with
 | some (true, n) => (cut cs off n).map .agg
 | some (false, _) => match cut cs off 1 with | some [c] => some (.one c) | _ => none
 | none => none
def putCells : List AV → Nat → List AV → Option (List AV)
 | cs, off, new => if off + new.length ≤ cs.length then some (cs.take off ++ new ++ cs.drop (off + new.length)) else none

def cutT (P : Program) (t : TypeId) (cs : List AV) (off : Nat) : Option (List AV) :=
 match isAggT P t with
 | some (true, n) => cut cs off n
 | some (false, _) => cut cs off 1
 | none => none
def eqFields (eq : TypeId → List AV → List AV → Option Bool) (P : Program) (xs ys : List AV) : List Field → Option Bool
 | [] => some true
 | f :: fs => if f.name = "_" then none else
  match cutT P f.type xs f.offset, cutT P f.type ys f.offset with
  | some a, some b => match eq f.type a b, eqFields eq P xs ys fs with
   | some p, some q => some (p && q)
   | _, _ => none
  | _, _ => none
def eqElems (eq : List AV → List AV → Option Bool) (P : Program) (e : TypeId) (sz : Nat) (xs ys : List AV) : List Nat → Option Bool
 | [] => some true
 | i :: is => match cutT P e xs (i * sz), cutT P e ys (i * sz) with
  | some a, some b => match eq a b, eqElems eq P e sz xs ys is with
   | some p, some q => some (p && q)
   | _, _ => none
  | _, _ => none
def eqT (P : Program) : Nat → TypeId → List AV → List AV → Option Bool
 | 0, _, _, _ => none
 | d + 1, t, xs, ys => match P.underlying t with
  | some .bool => match xs, ys with | [.d .bool x], [.d .bool y] => some (x == y) | _, _ => none
  | some (.int _) => match xs, ys with | [.d (.int k) x], [.d (.int k') y] => if k = k' then some (x == y) else none | _, _ => none
  | some .string => match xs, ys with | [.d .str x], [.d .str y] => some (x.toList == y.toList) | _, _ => none
  | some (.struct fs) => if P.stoodInHeld t then none else eqFields (eqT P d) P xs ys fs.toList
  | some (.array n e) => match P.info? e with
   | some inf => eqElems (eqT P d e) P e inf.size xs ys (List.range' 0 n)
   | none => none
  | _ => none

def maxBytes : Nat := 2 ^ 45

def lenA (x : TV) : AM Int :=
 match x with
 | .v (.one (.d (.sl _) xs)) => .pure xs.length
 | .v (.one (.raw (.slice none 0 0))) => .pure 0
 | .v (.one (.slb _ m)) => .pure m
 | .v (.one (.own n)) => do
  match ← AM.rB n with
  | .own _ _ xs => pure (xs.length : Int)
  | .settled _ xs => pure (xs.length : Int)
  | _ => .fail
 | _ => .fail

def elemOk (P : Program) (t : TypeId) (u : Ty) : Option TypeInfo :=
 match P.underlying t with
 | some (.slice e) => match P.info? e with
  | some inf => if inf.size = u.size then some inf else none
  | none => none
 | _ => none
def arrOk (P : Program) (t : TypeId) : Option (Nat × Ty) :=
 match P.underlying t with
 | some (.array len e) => match P.info? e, tyOf P tyD e with
  | some inf, some u => if inf.size == u.size && decide (1 ≤ inf.size) && decide (2 ≤ len) then some (len, u) else none
  | _, _ => none
 | _ => none
def rowsA (t : Ty) (x : TV) : AM (List t.den × List (Nat × Option Blk)) :=
 match x with
 | .v (.one a) => do
  let (y, wr, l) ← asm (.sl t) [a]
  match l with
  | [] => pure (y, wr)
  | _ => .fail
 | _ => .fail

def appended : (t : Ty) → TV → AM (List t.den × List (Nat × Option Blk))
 | .int .u8, .v (.one (.d .str z)) => .pure (z.data.toList.map fun b => (b.toNat : Int), [])
 | t, x => rowsA t x

def growOk (inf : TypeInfo) : Bool := decide (1 ≤ inf.bytes) && (match inf.zero with | some z => z.cells.size == inf.size | none => false)
def appendee (t : Ty) : TV → AM (List t.den × List (Nat × Option Blk))
 | .v (.one (.raw (.slice none 0 0))) => .pure ([], [])
 | .v (.one (.own n)) => do
  match ← AM.rB n with
  | .own u _ xs => if h : u = t then pure (castD (congrArg Ty.sl h) xs, [(n, none)]) else .fail
  | _ => .fail
 | _ => .fail
def seqT (P : Program) (t : TypeId) : Bool := match P.underlying t with | some (.slice _) => true | some .string => true | _ => false
def appendA (P : Program) (fresh : Nat) (ty tx : TypeId) (s x : TV) : AM Eff := do
 match P.underlying ty with
 | some (.slice e) =>
  match tyOf P tyD e with
  | some t => match elemOk P ty t with
   | some inf => do
    let (ys, wr) ← appended t x
    let (xs, gone) ← appendee t s
    AM.guard (decide ((xs.length + ys.length) * inf.bytes ≤ maxBytes))
    .rdB fresh fun
     | none => if growOk inf && seqT P tx && apartL (gone.map (·.1)) (wr.map (·.1)) then .pure (.out { tv := .v (.one (.own fresh)), wr := wr ++ gone ++ [(fresh, some (.own t false (xs ++ ys)))] }) else .fail
     | some _ => .fail
   | none => .fail
  | none => .fail
 | _ => .fail

def sliceB (lo hi : Option TV) (len : Int) : AM (Int × Int) := do
 let h ← (match hi with | some v => do pure (← asI v).2 | none => .pure len)
 let l ← (match lo with | some v => do pure (← asI v).2 | none => .pure 0)
 AM.guard (decide (0 ≤ l) && decide (l ≤ h) && decide (h ≤ len))
 pure (l, h)

def optM {α β : Type} (f : α → AM β) : Option α → AM (Option β)
 | none => .pure none
 | some a => do pure (some (← f a))

def fieldInfo (P : Program) (s : TypeId) (i : Nat) : Option Field := match P.underlying s with | some (.struct fs) => fs[i]? | _ => none

def fillA (place : Nat → Option (Nat × Nat)) : List AV → List (Nat × List AV) → Option (List AV)
 | cs, [] => some cs
 | cs, (i, new) :: rest => match place i with
  | some (off, size) => if new.length = size then (match putCells cs off new with | some cs' => fillA place cs' rest | none => none) else none
  | none => none
def buildPlace (P : Program) (t : TypeId) : Option (Nat → Option (Nat × Nat)) :=
 match P.underlying t with
 | some (.struct fields) => (fields.toList.mapM (fun f => (P.info? f.type).map fun i => (f.offset, i.size))).map fun ps i => ps[i]?
 | some (.array _ e) => (P.info? e).map fun ie i => some (i * ie.size, ie.size)
 | _ => none
def zeroOf (P : Program) (t : TypeId) : Option (List AV) := ((P.info? t).bind (·.zero)).bind fun z => ofValues z.cells.toList
def partsA : List (Nat × Operand) → AM (List (Nat × List AV))
 | [] => .pure []
 | (i, x) :: l => do
  match ← opd x with
  | .v y => do
   let r ← partsA l
   pure ((i, y.cells) :: r)
  | _ => .fail

def asmRows (t : Ty) : Nat → List AV → AM (List t.den × List (Nat × Option Blk))
 | 0, [] => .pure ([], [])
 | 0, _ => .fail
 | n + 1, l => do
  let (x, wr, l) ← asm t l
  let (xs, wr') ← asmRows t n l
  pure (x :: xs, wr ++ wr')

def copyA (P : Program) (ty : TypeId) (n : Nat) (y : TV) : AM Eff :=
 match P.underlying ty with
 | some (.slice e) => match tyOf P tyD e with
  | some t => match elemOk P ty t with
   | some _ => do
    let (ys, wr) ← rowsA t y
    match ← AM.rB n with
    | .own u true xs =>
     if h : u = t then
      if apartL [n] (wr.map (·.1)) then
       .pure (.out { tv := .v (.one (.d (.int .i64) (Nat.min ys.length xs.length : Nat))), wr := wr ++ [(n, some (.own t true (ys.take xs.length ++ (castD (congrArg Ty.sl h) xs : List t.den).drop ys.length)))] })
      else .fail
     else .fail
    | _ => .fail
   | none => .fail
  | none => .fail
 | _ => .fail
/-! maps with keys that are numbers or texts -/
def keyTy : Ty → Bool
 | .int _ => true
 | .str => true
 | _ => false
def keyEq : (t : Ty) → t.den → t.den → Bool
 | .int _, a, b => a == b
 | .str, a, b => a.toList == b.toList
 | _, _, _ => false
def findD {kt et : Ty} (k : kt.den) : List (kt.den × et.den) → Option et.den
 | [] => none
 | e :: es => bif keyEq kt k e.1 then some e.2 else findD k es
def mapTy (P : Program) (t : TypeId) : Option (Ty × Ty × TypeId) :=
 match P.underlying t with
 | some (.map k e) => match tyOf P tyD k, tyOf P tyD e, isAggT P k, isAggT P e with
  | some kt, some et, some (false, _), some (false, _) => if keyTy kt then some (kt, et, e) else none
  | _, _, _, _ => none
 | _ => none
def one : TV → AM AV
 | .v (.one a) => .pure a
 | _ => .fail
def makeMapA (P : Program) (fresh : Nat) (t : TypeId) : AM Eff :=
 match mapTy P t with
 | some (kt, et, _) => .rdB fresh fun
  | none => .pure (.out { tv := .v (.one (.mp fresh)), wr := [(fresh, some (.mp kt et []))] })
  | some _ => .fail
 | none => .fail
def putMapA (P : Program) (t : TypeId) (m k v : TV) : AM Eff :=
 match mapTy P t with
 | some (kt, et, _) => match m with
  | .v (.one (.mp n)) => do
   let (dk, wr) ← toD kt (← one k)
   let (dv, wr') ← toD et (← one v)
   match ← AM.rB n with
   | .mp kt' et' es =>
    if h : kt' = kt ∧ et' = et then do
     let es' : List (kt.den × et.den) := h.1 ▸ h.2 ▸ es
     AM.guard ((findD dk es').isNone)
     match wr, wr' with
     | [], [] => .pure (.out { tv := .undef, wr := [(n, some (.mp kt et (es' ++ [(dk, dv)])))] })
     | _, _ => .fail
    else .fail
   | _ => .fail
  | _ => .fail
 | none => .fail
def lookupA (P : Program) (t : TypeId) (m k : TV) (ok : Bool) : AM Eff :=
 match mapTy P t with
 | some (kt, et, e) => match m with
  | .v (.one (.mp n)) => do
   let (dk, wr) ← toD kt (← one k)
   match ← AM.rB n with
   | .mp kt' et' es =>
    if h : kt' = kt ∧ et' = et then
     let es' : List (kt.den × et.den) := h.1 ▸ h.2 ▸ es
     match wr, ((P.info? e).bind (·.zero)).bind ofValue with
     | [], some z => do
      let (dz, wz) ← toD et z
      match wz with
      | [] => if ok then out (.tup [.one (.d et ((findD dk es').getD dz)), .one (.d .bool (findD dk es').isSome)]) else outA (.d et ((findD dk es').getD dz))
      | _ => .fail
     | _, _ => .fail
    else .fail
   | _ => .fail
  | _ => .fail
 | none => .fail

def methodA (P : Program) (t : TypeId) (name : String) : Option FuncId :=
 match (P.info? t).bind fun i => i.methods.find? (·.name == name) with
 | some m => if m.path.toList.isEmpty then match m.func, P.underlying t with
   | some (_, false), some (.pointer _) => none
   | some (f, false), some _ => some f
   | _, _ => none
  else none
 | none => none
def behindA (ag : Bool) (ty : Ty) (x : ty.den) : Option TV :=
 match ag with
 | true => some (.v (.agg (flat ty x)))
 | false => match flat ty x with | [c] => some (.v (.one c)) | _ => none

def assertA (P : Program) (T : TypeId) : TV → AM Eff
 | .v (.one (.ifc t ag ty x)) => match P.underlying T with
  | some (.interface _) => .fail
  | some _ =>
   if t = T then match behindA ag ty x with
    | some (.v y) => out (.tup [y, .one (.d .bool true)])
    | _ => .fail
   else match ((P.info? T).bind (·.zero)).bind ofConst with
    | some (.v z) => out (.tup [z, .one (.d .bool false)])
    | _ => .fail
  | none => .fail
 | _ => .fail

def reqA (P : Program) (sg : FuncId → Option (Nat × List Nat)) (c : Call) (f : Operand) : AM Req := do
 let args ← c.args.toList.mapM opd
 match c.callee, ← opd f with
 | .value _, .v (.one (.fn g caps)) => match sg g with
  | some (nin, mv) => do
   let (args, wr) ← normAll P mv c.argTypes.toList 0 args
   pack g nin (args ++ caps.map fun p => .v (.one (.ptr p.1 p.2))) wr
  | none => .fail
 | .invoke _ name, .v (.one (.ifc t ag ty x)) => match methodA P t name, behindA ag ty x with
  | some g, some y => match sg g with
   | some (nin, mv) => do
    let (args, wr) ← normAll P mv (t :: c.argTypes.toList) 0 (y :: args)
    pack g nin args wr
   | none => .fail
  | _, _ => .fail
 | _, _ => .fail
def calleeOf : Op → Option (Call × Operand)
 | .call c => match c.callee with | .value f => some (c, f) | .invoke f _ => some (c, f) | _ => none
 | _ => none
def callA (P : Program) (sg : FuncId → Option (Nat × List Nat)) (fresh : Nat) (c : Call) (args : List TV) : AM Eff := do
 match c.callee with
 | .builtin .len => match args, c.argTypes.toList with
  | [x], [t] => match P.underlying t with
   | some .string => do outA (.d (.int .i64) ((← asS x).size : Int))
   | some (.slice _) => do outA (.d (.int .i64) (← lenA x))
   | _ => .fail
  | _, _ => .fail
 | .builtin .min => match args with
  | [.v (.one (.d (.int k) a)), .v (.one (.d (.int k') b))] => do outA (← semV (Builtin.min_ #[] 0 #[.int k a, .int k' b]))
  | _ => .fail
 | .builtin .max => match args with
  | [.v (.one (.d (.int k) a)), .v (.one (.d (.int k') b))] => do outA (← semV (Builtin.max_ #[] 0 #[.int k a, .int k' b]))
  | _ => .fail
 | .builtin .append => match args, c.argTypes.toList with
  | [s, x], [ty, tx] => appendA P fresh ty tx s x
  | _, _ => .fail
 | .builtin .copy => match args, c.argTypes.toList with
  | [.v (.one (.own n)), y], [ty, _] => copyA P ty n y
  | _, _ => .fail
 | _ => .fail


def newBox (fresh : Nat) (cs : List AV) : AM Eff :=
 .rdB fresh fun
  | none => .pure (.out { tv := .v (.one (.ptr fresh 0)), wr := [(fresh, some (.box cs))] })
  | some _ => .fail

def loadE (P : Program) (t : TypeId) (e : Ty) (xs : List e.den) (i : Int) : AM Eff :=
 match isAggT P t with
 | some (true, n) => if n = e.size then out (.v (.agg (flat e (elem e xs i)))) else .fail
 | some (false, _) => match flat e (elem e xs i) with | [c] => outA c | _ => .fail
 | none => .fail
def arrCells (u : Ty) (xs : List u.den) (m : Nat) : List AV := (List.range m).flatMap fun i : Nat => flat u (elem u xs (i : Int))
def loadArr (P : Program) (t : TypeId) (m : Nat) (u : Ty) : Blk → AM Eff
 | .own u' true xs => match isAggT P t with
  | some (true, n) => if h : u' = u then (if n = m * u.size then out (.v (.agg (arrCells u (castD (congrArg Ty.sl h) xs) m))) else .fail) else .fail
  | _ => .fail
 | _ => .fail
def loadF (P : Program) (t : TypeId) (e : Ty) (xs : List e.den) (i : Int) (off : Nat) : AM Eff :=
 match partA P t (flat e (elem e xs i)) off with | some v => out (.v v) | none => .fail
def loadA (P : Program) (t : TypeId) (a : TV) : AM Eff := do
 match a with
 | .v (.one (.ptr n o)) =>
  match ← AM.rB n with
  | .box cs => match partA P t cs o with | some v => out (.v v) | none => .fail
  | _ => .fail
 | .elt e xs i => loadE P t e xs i
 | .eltOf e n i =>
  match ← AM.rB n with
  | .own u _ xs => if h : u = e then loadE P t e (castD (congrArg Ty.sl h) xs) i else .fail
  | .settled u xs => if h : u = e then loadE P t e (castD (congrArg Ty.sl h) xs) i else .fail
  | _ => .fail
 | .v (.one (.arr n m)) =>
  match arrOk P t with
  | some (m', u) => if m' = m then do loadArr P t m u (← AM.rB n) else .fail
  | none => .fail
 | .fld e xs i off => loadF P t e xs i off
 | .fldOf e n i off =>
  match ← AM.rB n with
  | .own u _ xs => if h : u = e then loadF P t e (castD (congrArg Ty.sl h) xs) i off else .fail
  | .settled u xs => if h : u = e then loadF P t e (castD (congrArg Ty.sl h) xs) i off else .fail
  | _ => .fail
 | _ => .fail
def fldA (o : Nat) : TV → AM Eff
 | .v (.one (.ptr n off)) => outA (.ptr n (off + o))
 | .elt e xs i => out (.fld e xs i o)
 | .eltOf e n i => out (.fldOf e n i o)
 | .fld e xs i off => out (.fld e xs i (off + o))
 | .fldOf e n i off => out (.fldOf e n i (off + o))
 | _ => .fail

def pickAt (P : Program) (e : TypeId) (sz : Nat) (cs : List AV) (i : Int) : Nat → Nat → AM VV
 | 0, _ => .fail
 | n + 1, j => match partA P e cs (j * sz) with
  | some v => match n with
   | 0 => .pure v
   | _ => do mergeVV (decide (i = (j : Int))) v (← pickAt P e sz cs i n (j + 1))
  | none => .fail
def storeBox (P : Program) (t : TypeId) (n off : Nat) (x : TV) : AM Eff := do
 match x, ← AM.rB n with
 | .v x, .box cs => match P.info? t with
  | some inf => if x.cells.length = inf.size then (match putCells cs off x.cells with | some cs' => .pure (.out { tv := .undef, wr := [(n, some (.box cs'))] }) | none => .fail) else .fail
  | none => .fail
 | _, _ => .fail
def storeRow (P : Program) (t : TypeId) (e : Ty) (n : Nat) (i : Int) (x : TV) : AM Eff := do
 match x, ← AM.rB n with
 | .v x, .own u true xs => match P.info? t with
  | some inf =>
   if h : u = e then
    if x.cells.length = inf.size && inf.size == e.size then do
     let (d, wr, rest) ← asm e x.cells
     match rest with
     | [] => if apartL [n] (wr.map (·.1)) then .pure (.out { tv := .undef, wr := wr ++ [(n, some (.own e true ((castD (congrArg Ty.sl h) xs : List e.den).set i.toNat d)))] }) else .fail
     | _ => .fail
    else .fail
   else .fail
  | none => .fail
 | _, _ => .fail
def storeFld (P : Program) (t : TypeId) (e : Ty) (n : Nat) (i : Int) (off : Nat) (x : TV) : AM Eff := do
 match x, ← AM.rB n with
 | .v x, .own u true xs => match P.info? t with
  | some inf =>
   if h : u = e then
    if x.cells.length = inf.size then
     match putCells (flat e (elem e (castD (congrArg Ty.sl h) xs) i)) off x.cells with
     | some cs => do
      let (d, wr, rest) ← asm e cs
      match rest with
      | [] => if apartL [n] (wr.map (·.1)) then .pure (.out { tv := .undef, wr := wr ++ [(n, some (.own e true ((castD (congrArg Ty.sl h) xs : List e.den).set i.toNat d)))] }) else .fail
      | _ => .fail
     | none => .fail
    else .fail
   else .fail
  | none => .fail
 | _, _ => .fail
def storeArr (P : Program) (t : TypeId) (n m : Nat) (x : TV) : AM Eff :=
 match arrOk P t with
 | some (m', u) =>
  if m' = m then do
   match x, ← AM.rB n with
   | .v x, .own u' true xs => match P.info? t with
    | some inf =>
     if u' = u then
      if x.cells.length = inf.size && inf.size == m * u.size then do
       let (ys, wr) ← asmRows u m x.cells
       if apartL [n] (wr.map (·.1)) then .pure (.out { tv := .undef, wr := wr ++ [(n, some (.own u true ys))] }) else .fail
      else .fail
     else .fail
    | none => .fail
   | _, _ => .fail
  else .fail
 | none => .fail
def eltA (P : Program) (t : TypeId) (u : Ty) (a : AV) (i : Int) : AM Eff :=
 match elemOk P t u with
 | some _ => do
  let (xs, wr) ← toD (.sl u) a
  AM.guard (decide (0 ≤ i) && decide (i < xs.length))
  .pure (.out { tv := .elt u xs i, wr := wr })
 | none => .fail
def eltOwn (P : Program) (t : TypeId) (u : Ty) (n : Nat) (i : Int) : AM Eff :=
 match elemOk P t u with
 | some _ => do
  match ← AM.rB n with
  | .own u' _ xs =>
   if u' = u then do
    AM.guard (decide (0 ≤ i) && decide (i < xs.length))
    out (.eltOf u n i)
   else .fail
  | _ => eltA P t u (.own n) i
 | none => .fail
def isSl : Ty → Bool
 | .sl _ => true
 | _ => false
def ownRow (fresh : Nat) (u : Ty) (l : Int) (z : u.den) : AM Eff := .rdB fresh fun
 | none => .pure (.out { tv := .v (.one (.own fresh)), wr := [(fresh, some (.own u true (List.replicate l.toNat z)))] })
 | some _ => .fail
def boxRow (fresh m : Nat) (zero : List AV) : AM Eff := .rdB fresh fun
 | none => .pure (.out { tv := .v (.one (.slb fresh m)), wr := [(fresh, some (.box (List.replicate m zero).flatten))] })
 | some _ => .fail
def pairRows : Ty → Bool
 | .pair a b => !scalarTy (.pair a b)
 | _ => false
def boxAs (fresh m : Nat) (cells : List AV) : AM Eff := .rdB fresh fun
 | none => .pure (.out { tv := .v (.one (.slb fresh m)), wr := [(fresh, some (.box cells))] })
 | some _ => .fail
def makeA (P : Program) (fresh : Nat) (t : TypeId) (l c : Int) : AM Eff := do
 match P.underlying t with
 | some (.slice e) => match tyOf P tyD e with
  | some u => match elemOk P t u, zeroOf P e with
   | some inf, some zero =>
    if decide (1 ≤ inf.size) && decide (1 ≤ inf.bytes) && zero.length == inf.size then do
     AM.guard (decide (0 ≤ l) && decide (l ≤ c) && decide (c * inf.bytes ≤ maxBytes))
     let (z, wr, rest) ← asm u zero
     match wr, rest with
     | [], [] => if isSl u then .brb (decide (l = 1) && decide (c = 1)) (boxRow fresh 1 zero) (.brb (decide (l = 2) && decide (c = 2)) (boxRow fresh 2 zero) (ownRow fresh u l z)) else ownRow fresh u l z
     | _, _ => .fail
    else .fail
   | _, _ => .fail
  | none => .fail
 | _ => .fail
def cutArr (n m : Nat) (u : Ty) (lo hi : Option TV) : Blk → AM Eff
 | .own u' _ xs =>
  if u' = u then do
   let (l, h) ← sliceB lo hi m
   .pure (.out { tv := .v (.one (.d (.sl u') ((xs.drop l.toNat).take (h.toNat - l.toNat)))), wr := [(n, some (.settled u' xs))] })
  else .fail
 | _ => .fail
def fullA (P : Program) (t : TypeId) (fresh : Nat) (lo hi : Option TV) (mx : TV) (x : TV) : AM Eff := do
 if hi.isNone then .fail else
 match x with
 | .v (.one a) => match P.underlying t with
  | some (.slice e) => match tyOf P tyD e with
   | some u => match elemOk P t u with
    | some _ => do
     let (xs, wr) ← toD (.sl u) a
     let (_, m) ← asI mx
     let (l, h) ← sliceB lo hi xs.length
     AM.guard (decide (h = m))
     .rdB fresh fun
      | none => .pure (.out { tv := .v (.one (.own fresh)), wr := wr ++ [(fresh, some (.own u false ((xs.drop l.toNat).take (h.toNat - l.toNat))))] })
      | some _ => .fail
    | none => .fail
   | none => .fail
  | _ => .fail
 | _ => .fail

def ifcA (P : Program) (t : TypeId) (x : TV) : AM Eff :=
 match P.underlying t with
 | some (.interface _) => .fail
 | some _ => match isAggT P t, tyOf P tyD t, x with
  | some (true, n), some u, .v (.agg cs) => if n = u.size then do
    let (d, wr, rest) ← asm u cs
    match rest with
    | [] => .pure (.out { tv := .v (.one (.ifc t true u d)), wr := wr })
    | _ => .fail
   else .fail
  | some (false, _), some u, .v (.one c) => do
    let (d, wr) ← toD u c
    .pure (.out { tv := .v (.one (.ifc t false u d)), wr := wr })
  | _, _, _ => .fail
 | none => .fail
def constO : Operand → Bool
 | .const _ => true
 | _ => false
def ifcEq (P : Program) (t : TypeId) (y z : Operand) : AV → AV → Option Bool
 | .raw .nilIface, .raw .nilIface => match P.underlying t with
  | some (.interface _) => if constO y || constO z then some true else none
  | _ => none
 | .raw .nilIface, .ifc _ _ _ _ => match P.underlying t with
  | some (.interface _) => some false
  | _ => none
 | .ifc _ _ _ _, .raw .nilIface => match P.underlying t with
  | some (.interface _) => some false
  | _ => none
 | _, _ => none

def opA (P : Program) (sg : FuncId → Option (Nat × List Nat)) (fresh : Nat) (o : Oper) : AM Eff :=
 match o.op with
 | .move x | .assign x => do out (← opd x)
 | .pick c a b => do
  let c ← asB (← opd c)
  match ← opd a, ← opd b with
  | .v x, .v y => do out (.v (← mergeVV c x y))
  | x, y => .brb c (out x) (out y)
 | .box _ x => do
  match ← opd x with
  | .v x => newBox fresh x.cells
  | _ => .fail
 | .alloc t => match (P.info? t).bind (·.zero) with
  | some z => match ofValues z.cells.toList with
   | some cs => match arrOk P t with
    | some (m, u) => do
     let (xs, wr) ← asmRows u m cs
     match wr with
     | [] => .rdB fresh fun
      | none => .pure (.out { tv := .v (.one (.arr fresh m)), wr := [(fresh, some (.own u true xs))] })
      | some _ => .fail
     | _ => .fail
    | none => newBox fresh cs
   | none => .fail
  | none => .fail
 | .load t a => do loadA P t (← opd a)
 | .store t a x => do
  match ← opd a with
  | .v (.one (.ptr n off)) => storeBox P t n off (← opd x)
  | .eltOf e n i => storeRow P t e n i (← opd x)
  | .fldOf e n i off => storeFld P t e n i off (← opd x)
  | .v (.one (.arr n m)) => storeArr P t n m (← opd x)
  | _ => .fail
 | .fieldAddr s x i => do
  let v ← opd x
  match fieldInfo P s i with
  | some f => match P.info? f.type with | some inf => if inf.size = 0 then .fail else fldA f.offset v | none => .fail
  | none => .fail
 | .field s x i => do
  match ← opd x, fieldInfo P s i with
  | .v (.agg cs), some f => match partA P f.type cs f.offset with | some v => out (.v v) | none => .fail
  | _, _ => .fail
 | .nilCheck x => do
  match ← opd x with
  | .v (.one (.ptr n o)) => outA (.ptr n o)
  | .v (.one (.fn g cs)) => outA (.fn g cs)
  | .eltOf e n i => out (.eltOf e n i)
  | _ => .fail
 | .extract x i => do
  match ← opd x with
  | .tup xs => match xs[i]? with | some v => out (.v v) | none => .fail
  | _ => .fail
 | .binOp op t x y _ => do
  match ← opd x, ← opd y with
  | .v (.one (.d (.int k) a)), .v (.one (.d (.int k') b)) =>
   match op with
   | .quo | .rem => do
    AM.guard (decide (b ≠ 0))
    if k = k' then outA (.d (.int k) (match op with | .quo => k.wrap (a.tdiv b) | _ => a.tmod b)) else .fail
   | .shl | .shr => do
    AM.guard (decide (0 ≤ b))
    outA (.d (.int k) (match op with | .shl => k.wrap (a * 2 ^ (min b.toNat k.bits)) | _ => a.fdiv (2 ^ (min b.toNat k.bits))))
   | _ => do outA (← semV (Go.binOp op t (.int k a) (.int k' b)))
  | .v (.one (.d .str a)), .v (.one (.d .str b)) =>
   match op with
   | .add => do
    AM.guard (decide (a.size ≤ 4611686018427387903) && decide (b.size ≤ 4611686018427387903))
    outA (.d .str (a ++ b))
   | .eql => outA (.d .bool (a.toList == b.toList))
   | .neq => outA (.d .bool (!(a.toList == b.toList)))
   | _ => do outA (← semV (Op.stringOp op a b))
  | .v (.one (.d .bool a)), .v (.one (.d .bool b)) =>
   match P.underlying t with
   | some .bool => match op with
    | .eql => outA (.d .bool (a == b))
    | .neq => outA (.d .bool (!(a == b)))
    | _ => .fail
   | _ => .fail
  | .v (.one (.d .flt a)), .v (.one (.d .flt b)) => do outA (← semV (Op.floatCmp op .f64 a b))
  | .v (.agg xs), .v (.agg ys) =>
   if P.eqGuardType P.depth t then .fail else
   match isAggT P t, eqT P tyD t xs ys with
   | some (true, _), some b => match op with
    | .eql => outA (.d .bool b)
    | .neq => outA (.d .bool (!b))
    | _ => .fail
   | _, _ => .fail
  | .v (.one (.d (.sl _) xs)), .v (.one (.raw (.slice none 0 0))) => match P.underlying t with
   | some (.slice _) => do
    AM.guard (decide (1 ≤ xs.length))
    match op with
    | .eql => outA (.d .bool false)
    | .neq => outA (.d .bool true)
    | _ => .fail
   | _ => .fail
  | .v (.one p), .v (.one q) => match ifcEq P t x y p q with
   | some b => match op with
    | .eql => outA (.d .bool b)
    | .neq => outA (.d .bool (!b))
    | _ => .fail
   | none => .fail
  | _, _ => .fail
 | .unOp op _ x => do
  match ← opd x with
  | .v (.one (.d .bool b)) => match op with | .not => outA (.d .bool (!b)) | _ => .fail
  | .v (.one (.d (.int k) n)) => do outA (← semV (Op.unary op (.int k n)))
  | _ => .fail
 | .convert s t x => do
  match ← opd x with
  | .v (.one (.d (.int _) n)) => match P.underlying s, P.underlying t with
   | some _, some (.int k) => outA (.d (.int k) (k.wrap n))
   | some _, some (.float .f64) => outA (.d .flt (FloatKind.f64.nearest n))
   | _, _ => .fail
  | .v (.one (.d .flt b)) => match P.underlying s, P.underlying t with
   | some _, some (.int k) => do
    AM.guard (((FloatKind.f64.decode b).toInt .zero).isSome && decide (k.min ≤ ((FloatKind.f64.decode b).toInt .zero).getD 0) && decide (((FloatKind.f64.decode b).toInt .zero).getD 0 ≤ k.max))
    outA (.d (.int k) (((FloatKind.f64.decode b).toInt .zero).getD 0))
   | _, _ => .fail
  | .v (.one (.d .str z)) => match P.underlying s, P.underlying t with
   | some _, some .string => outA (.d .str z)
   | some _, some (.slice e) => match P.underlying e with
    | some (.int .u8) => outA (.d (.sl (.int .u8)) (z.data.toList.map fun b => (b.toNat : Int)))
    | _ => .fail
   | _, _ => .fail
  | x => match P.underlying s, P.underlying t with
   | some (.slice e), some .string => match P.underlying e with
    | some (.int .u8) => do
     let (xs, wr) ← rowsA (.int .u8) x
     .pure (.out { tv := .v (.one (.d .str ⟨(xs.map fun (n : Int) => UInt8.ofNat n.toNat).toArray⟩)), wr := wr })
    | _ => .fail
   | _, _ => .fail
 | .slice t x lo hi mx => do
  let lo ← optM opd lo
  let hi ← optM opd hi
  match mx with
  | some m => fullA P t fresh lo hi (← opd m) (← opd x)
  | none =>
  match ← opd x with
  | .v (.one (.d .str s)) => match P.underlying t with
   | some .string => do
    let (l, h) ← sliceB lo hi s.size
    outA (.d .str (s.extract l.toNat h.toNat))
   | _ => .fail
  | .v (.one (.d (.sl e) xs)) => match elemOk P t e with
   | some _ => do
    let (l, h) ← sliceB lo hi xs.length
    outA (.d (.sl e) ((xs.drop l.toNat).take (h.toNat - l.toNat)))
   | none => .fail
  | .v (.one (.own n)) => do
   match ← AM.rB n with
   | .own u _ xs => match elemOk P t u with
    | some _ => do
     let (l, h) ← sliceB lo hi xs.length
     .pure (.out { tv := .v (.one (.d (.sl u) ((xs.drop l.toNat).take (h.toNat - l.toNat)))), wr := [(n, some (.settled u xs))] })
    | none => .fail
   | .settled u xs => match elemOk P t u with
    | some _ => do
     let (l, h) ← sliceB lo hi xs.length
     outA (.d (.sl u) ((xs.drop l.toNat).take (h.toNat - l.toNat)))
    | none => .fail
   | _ => .fail
  | .v (.one (.arr n m)) => match arrOk P t with
   | some (m', u) =>
    if m' = m then do cutArr n m u lo hi (← AM.rB n)
    else .fail
   | none => .fail
  | _ => .fail
 | .indexAddr t x i => do
  let (_, i) ← asI (← opd i)
  match ← opd x, P.underlying t with
  | .v (.one a), some (.slice e) =>
   match tyOf P tyD e with
   | some u => match a with
    | .own n => eltOwn P t u n i
    | .slb n m => match P.info? e with
     | some inf => do
      AM.guard (decide (0 ≤ i) && decide (i < m))
      outA (.ptr n (i.toNat * inf.size))
     | none => .fail
    | a => eltA P t u a i
   | none => .fail
  | .v (.one (.arr n m)), some (.array _ _) =>
   match arrOk P t with
   | some (m', u) =>
    if m' = m then do
     AM.guard (decide (0 ≤ i) && decide (i < m))
     out (.eltOf u n i)
    else .fail
   | none => .fail
  | .v (.one (.ptr n off)), some (.array len e) =>
   match P.info? e with
   | some inf => do
    AM.guard (decide (0 ≤ i) && decide (i < len))
    outA (.ptr n (off + i.toNat * inf.size))
   | none => .fail
  | _, _ => .fail
 | .index t x i => do
  let (_, i) ← asI (← opd i)
  match ← opd x with
  | .v (.one (.d .str s)) => match P.underlying t with
   | some .string => do
    AM.guard (decide (0 ≤ i) && decide (i < s.size))
    outA (.d (.int .u8) (bt s i))
   | _ => .fail
  | .v (.agg cs) => match P.underlying t with
   | some (.array len e) => match P.info? e with
    | some inf => do
     AM.guard (decide (0 ≤ i) && decide (i < len))
     out (.v (← pickAt P e inf.size cs i len 0))
    | none => .fail
   | _ => .fail
  | _ => .fail
 | .makeSlice t l c => do
  let (_, l) ← asI (← opd l)
  let (_, c) ← asI (← opd c)
  makeA P fresh t l c
 | .build t parts => do
  let ps ← partsA parts.toList
  match buildPlace P t, zeroOf P t with
  | some pl, some zero => match fillA pl zero ps with
   | some cs => out (.v (.agg cs))
   | none => .fail
  | _, _ => .fail
 | .buildSlice t len parts => do
  let ps ← partsA parts.toList
  match P.underlying t with
  | some (.slice e) => match tyOf P tyD e with
   | some u => match elemOk P t u, zeroOf P e with
    | some inf, some zero =>
     if decide (1 ≤ inf.size) && decide (len * inf.size ≤ 2 ^ 24) && zero.length == inf.size then
      match fillA (fun i => some (i * inf.size, inf.size)) ((List.replicate len zero).flatten) ps with
      | some cells => if pairRows u && (len == 1 || len == 2) then boxAs fresh len cells else do
       let (xs, wr) ← asmRows u len cells
       .rdB fresh fun
        | none => .pure (.out { tv := .v (.one (.own fresh)), wr := wr ++ [(fresh, some (.own u true xs))] })
        | some _ => .fail
      | none => .fail
     else .fail
    | _, _ => .fail
   | none => .fail
  | _ => .fail
 | .makeFunc (.func f) first captured => if first.isEmpty then do
   let cs ← captured.toList.mapM fun c => do asP (← opd c)
   outA (.fn f cs)
  else .fail
 | .makeInterface t x => do ifcA P t (← opd x)
 | .makeMap t none => makeMapA P fresh t
 | .typeAssert x _ T ok => if ok then do assertA P T (← opd x) else .fail
 | .insert t m k v => do putMapA P t (← opd m) (← opd k) (← opd v)
 | .lookup t m k ok => do lookupA P t (← opd m) (← opd k) ok
 | .call c => do
  let args ← c.args.toList.mapM opd
  callA P sg fresh c args
 | _ => .fail

/-! ### the evaluator -/
structure LogE where
 rd : List Loc
 wr : List Loc

def St.put (s : St) (dst : Option Nat) (v : TV) : St :=
 match dst with
 | none => s
 | some d => { s with tmp := fun n => if n = d then some v else s.tmp n }
def St.set (s : St) (n : Nat) (b : Option Blk) : St := { s with blk := fun m => if m = n then some b else s.blk m }
def St.sets (s : St) : List (Nat × Option Blk) → St
 | [] => s
 | (n, b) :: l => (s.set n b).sets l
def dstOk (N : Nat) : Option Nat → Bool
 | none => true
 | some d => d < N

structure Env where
 P : Program
 ct : FuncId → Option Ct
 N : Nat
def Env.sg (E : Env) (f : FuncId) : Option (Nat × List Nat) := (E.ct f).map fun c => (c.nin, c.mv)

section
variable {β : Type} (E : Env) (ops : Array Oper) (base : Nat)

def logOf (o : Oper) (rd : List Loc) (wr : List (Nat × Option Blk)) : LogE := ⟨rd, (o.dst.toList.map Loc.t) ++ wr.map fun p => .b p.1⟩

def evOps (K : St → List LogE → Option β) : List Nat → St → List LogE → Option β
 | [], st, lg => K st lg
 | i :: rest, st, lg =>
  match ops[i]? with
  | none => none
  | some o =>
   if dstOk E.N o.dst then
    let exec (st : St) (rd : List Loc) : Option β :=
     match calleeOf o.op with
     | some (c, f) => (reqA E.P E.sg c f).runK st rd fun r rd => match E.ct r.f with
      | none => none
      | some ct => ct.F r.args r.blks fun s => (unpack r (base + 8 * i) s).runK st rd fun x rd =>
        evOps K rest ((st.sets x.wr).put o.dst x.tv) (logOf o rd x.wr :: lg)
     | none => (opA E.P E.sg (base + 8 * i) o).runK st rd fun e rd =>
      match e with
      | .out x => evOps K rest ((st.sets x.wr).put o.dst x.tv) (logOf o rd x.wr :: lg)
      | .call _ => none
    match o.guard with
    | none => exec st []
    | some (j, want) => match (ops[j]?).bind (·.dst) with
     | none => none
     | some tj => match st.tmp tj with
      | some (.v (.one (.d .bool b))) =>
       match b with
       | true => let st := st.put (some tj) (.bool true); if want then exec st [.t tj] else evOps K rest (st.put o.dst .undef) (logOf o [.t tj] [] :: lg)
       | false => let st := st.put (some tj) (.bool false); if want then evOps K rest (st.put o.dst .undef) (logOf o [.t tj] [] :: lg) else exec st [.t tj]
      | some .undef => evOps K rest (st.put o.dst .undef) (logOf o [.t tj] [] :: lg)
      | _ => none
   else none

end

/-! ### regions, ways, segments -/
def binding (e : Edge) : Bool := match e.ground with | .textOnly _ | .gcOnly _ => false | _ => true
def aheadM (acc : List Nat) (m : Nat) (e : Edge) : Nat := bif binding e then Nat.lor (Nat.lor m (Nat.pow 2 e.on)) (acc.getD e.on 0) else m
def aheadStep (acc : List Nat) (o : Oper) : List Nat := acc ++ [o.after.toList.foldl (aheadM acc) 0]
def ahead (ops : List Oper) : List Nat := ops.foldl aheadStep []
def backFrom : Nat → List Oper → Bool
 | _, [] => true
 | i, o :: l => o.after.toList.all (fun e => Nat.ble (e.on + 1) i) && backFrom (i + 1) l
def schedOk (ops : Array Oper) : Bool := backFrom 0 ops.toList || ((Region.linearise .any ops 0).length == ops.size && (Region.linearise .text ops 0).length == ops.size && (Region.linearise .gc ops 0).length == ops.size)
def meets (l m : List Loc) : Bool := l.any fun x => m.contains x
def indep (a b : LogE) : Bool := !meets a.wr b.wr && !meets a.wr b.rd && !meets a.rd b.wr
def freeOf (ah : List Nat) (lg : List LogE) : Bool :=
 let l := lg.reverse.zipIdx
 l.all fun (b, j) => l.all fun (a, i) => !(i < j) || (ah.getD j 0).testBit i || indep a b

inductive Fr where
 | seqL (b : Code)
 | seqR
 | arm
 | blk (id : Nat)
 | loop (body : Code)
 | scope (body : Code)

def codeAt (body : Code) : List Nat → Option (Code × List Fr)
 | [] => some (body, [])
 | d :: p => match codeAt body p with
  | some (c, k) => match d, c with
   | 0, .seq a b => some (a, .seqL b :: k)
   | 1, .seq _ b => some (b, .seqR :: k)
   | 2, .cond _ a _ => some (a, .arm :: k)
   | 3, .cond _ _ b => some (b, .arm :: k)
   | 4, .block id b => some (b, .blk id :: k)
   | 5, .loop b => some (b, .loop b :: k)
   | 6, .scope b => some (b, .scope b :: k)
   | d, .scope b => if 100 ≤ d then (findLabel b (d - 100)).map (·, .scope b :: k) else none
   | _, _ => none
  | none => none

inductive Prep where
 | dat (t : Nat) (ty : Ty)
 | own (t : Nat) (e : Ty)
 | cellDat (t off : Nat) (ty : Ty)
 | cellOwn (t off : Nat) (e : Ty)

structure Seg where
 path : List Nat
 prep : List Prep
 keep : List Nat
 F : List TV → List (Option Blk) → {β : Type} → (Res → Option β) → Option β
 legit : ∀ {β : Type} tvs blks (K : Res → Option β) r, F tvs blks K = some r → ∃ res, F tvs blks some = some res ∧ K res = some r

def toOwn (fresh : Nat) (e : Ty) : AV → AM (AV × List (Nat × Option Blk))
 | .raw (.slice none 0 0) => .rdB fresh fun
  | none => .pure (.own fresh, [(fresh, some (.own e false []))])
  | some _ => .fail
 | .own n => do
  match ← AM.rB n with
  | .own u _ xs => if u = e then .pure (.own n, [(n, some (.own u false xs))]) else .fail
  | _ => .fail
 | _ => .fail
def asPB (x : TV) : AM (Nat × Nat) :=
 match x with
 | .v (.one (.ptr n o)) => .pure (n, o)
 | .v (.one (.slb n _)) => .pure (n, 0)
 | _ => .fail
def prepA (fresh : Nat) : Prep → AM (Option (Nat × TV) × List (Nat × Option Blk))
 | .dat t ty => do
  match ← AM.rT t with
  | .v x => do let (y, wr) ← normVV ty x; pure (some (t, .v y), wr)
  | _ => .fail
 | .own t e => do
  match ← AM.rT t with
  | .v (.one a) => do let (y, wr) ← toOwn fresh e a; pure (some (t, .v (.one y)), wr)
  | _ => .fail
 | .cellDat t off ty => do
  let (n, o) ← asPB (← AM.rT t)
  match ← AM.rB n with
  | .box cs => match cut cs (o + off) ty.size with
   | some l => do
    let (y, wr) ← normVV ty (.agg l)
    match putCells cs (o + off) y.cells with
    | some cs' => if apartL [n] (wr.map (·.1)) then pure (none, wr ++ [(n, some (.box cs'))]) else .fail
    | none => .fail
   | none => .fail
  | _ => .fail
 | .cellOwn t off e => do
  match ← AM.rT t with
  | .v (.one (.own _)) => .pure (none, [])
  | x => do
   let (n, o) ← asPB x
   match ← AM.rB n with
   | .box cs => match cut cs (o + off) 1 with
    | some [a] => do
     let (y, wr) ← toOwn fresh e a
     match putCells cs (o + off) [y] with
     | some cs' => if apartL [n] (wr.map (·.1)) then pure (none, wr ++ [(n, some (.box cs'))]) else .fail
     | none => .fail
    | none => .pure (none, [])
    | _ => .fail
   | _ => .fail
def runPreps {β : Type} (K : St → Option β) : List Prep → Nat → St → Option β
 | [], _, st => K st
 | p :: ps, fr, st => (prepA fr p).runK st [] fun r _ =>
  let st := st.sets r.2
  match r.1 with
  | some (t, v) => runPreps K ps (fr + 1) (st.put (some t) v)
  | none => runPreps K ps (fr + 1) st

def oNames : Option Blk → List Nat
 | some b => b.names
 | none => []
def packN (nin : Nat) (wr : List (Nat × Option Blk)) (tvs : List TV) : AM (List TV × List (Option Blk)) := do
 let ins ← (List.range nin).mapM fun n => (.rdB n fun | some b => .pure b | none => .fail : AM (Option Blk))
 let nb ← reach 200 (List.range nin) (tvs.flatMap TV.names ++ ins.flatMap oNames)
 let names := List.range nin ++ nb.map (·.1)
 let tvs' ← AM.ofO (tvs.mapM (TV.ren (idx names)))
 let blks' ← AM.ofO ((ins ++ nb.map fun p => some p.2).mapM (renO (idx names)))
 if apartL names (wr.map (·.1)) && nodupB names then pure (tvs', blks') else .fail

def resTV (P : Program) (rv : ResultVar) : AM VV :=
 match rv with
 | .tmp t => do match ← AM.rT t with | .v x => pure x | _ => .fail
 | .cell a t => do
  match ← loadA P t (← AM.rT a) with
  | .out { tv := .v x, wr := [] } => pure x
  | _ => .fail
def vvs : List TV → Option (List VV)
 | [] => some []
 | .v x :: l => (vvs l).map (x :: ·)
 | _ => none
def resA (P : Program) (nin : Nat) (mv : List Nat) (ts : List TypeId) (rvs : List ResultVar) : AM (Res × List (Nat × Option Blk)) := do
 let xs ← rvs.mapM (resTV P)
 let (tvs, wr) ← normAll P mv ts 0 (xs.map .v)
 let (tvs, blks) ← packN nin wr tvs
 match tvs with
 | [v] => pure (⟨v, blks⟩, wr)
 | l => match vvs l with | some xs => pure (⟨.tup xs, blks⟩, wr) | none => .fail

structure FEnv extends Env where
 body : Code
 rvs : List ResultVar
 rts : List TypeId
 nin : Nat
 rmv : List Nat
 segs : List Seg

/-! ### a walk over a map's entries, for the one whose element is a text -/
def findV (w : ByteArray) : List (Int × ByteArray) → Option Int
 | [] => none
 | p :: l => bif p.2.toList == w.toList then some p.1 else findV w l
def oneV (w : ByteArray) : List (Int × ByteArray) → Bool
 | [] => true
 | p :: l => bif p.2.toList == w.toList then (findV w l).isNone else oneV w l
def op2 (o : Oper) : Option (Nat × Op) := match o.dst, o.guard with
 | some d, none => some (d, o.op)
 | _, _ => none
def opsOf (l : List Oper) : Option (List (Nat × Op)) := l.mapM op2
structure RG where
 it : Nat
 t1 : Nat
 c1 : Nat
 t3 : Nat
 t4 : Nat
 t5 : Nat
 k : Nat
 v : Nat
 t6 : Nat
 t7 : Nat
 c2 : Nat
 wd : Nat
 eq : Bool
 ty : TypeId
 ty2 : TypeId
def RG.all (g : RG) : List Nat := [g.it, g.t1, g.c1, g.t3, g.t4, g.t5, g.k, g.v, g.t6, g.t7, g.c2]
def St.forget (l : List Nat) (st : St) : St := { st with tmp := fun n => if l.contains n then none else st.tmp n }
def p1 (l : List Oper) : Option (Nat × Nat × Nat) :=
 match opsOf l with
 | some [(t1, .next (.tmp it) false), (c1, .extract (.tmp x) 0)] => if x = t1 then some (it, t1, c1) else none
 | _ => none
def p3 (l : List Oper) : Option (Nat × Nat × Nat × Nat × Nat × Nat) :=
 match opsOf l with
 | some [(t3, .entry (.tmp it)), (t4, .extract (.tmp x) 0), (t5, .extract (.tmp y) 1), (k, .assign (.tmp z)), (v, .assign (.tmp u))] => if x = t3 ∧ y = t3 ∧ z = t4 ∧ u = t5 then some (it, t3, t4, t5, k, v) else none
 | _ => none
def p4 (l : List Oper) : Option (Nat × Nat × Nat × Nat × Nat × Bool × TypeId × TypeId) :=
 match opsOf l with
 | some [(t6, .move (.tmp v)), (t7, .move (.tmp wd)), (c2, .binOp .eql ty (.tmp x) (.tmp y) ty2)] => if x = t6 ∧ y = t7 then some (t6, t7, c2, v, wd, true, ty, ty2) else none
 | some [(t6, .move (.tmp v)), (t7, .move (.tmp wd)), (c2, .binOp .neq ty (.tmp x) (.tmp y) ty2)] => if x = t6 ∧ y = t7 then some (t6, t7, c2, v, wd, false, ty, ty2) else none
 | _ => none
def wkBody (e1 : Nat) (b : Code) : Option (RG × List Fr × List Nat × Code) :=
 match b with
 | .seq (.region _ r1 false) (.seq (.cond (.tmp c) .skip (.exit x1)) (.block e2 (.seq (.region _ r3 false) y))) =>
  match p1 r1.toList, p3 r3.toList with
  | some (it, t1, c1), some (it', t3, t4, t5, k, v) =>
   if c = c1 ∧ x1 = e1 ∧ it' = it then
    match y with
    | .seq (.region _ r4 false) (.cond (.tmp d) th .skip) =>
     match p4 r4.toList with
     | some (t6, t7, c2, v', wd, true, ty, ty2) => if d = c2 ∧ v' = v then some (⟨it, t1, c1, t3, t4, t5, k, v, t6, t7, c2, wd, true, ty, ty2⟩, [.seqR, .seqR, .blk e2, .seqR, .seqR, .loop b, .blk e1, .seqR], [1, 1, 4, 1, 1, 5, 4, 1], .cond (.tmp d) th .skip) else none
     | _ => none
    | .seq (.seq (.region _ r4 false) (.cond (.tmp d) (.exit x2) .skip)) rest =>
     match p4 r4.toList with
     | some (t6, t7, c2, v', wd, false, ty, ty2) => if d = c2 ∧ v' = v ∧ x2 = e2 then some (⟨it, t1, c1, t3, t4, t5, k, v, t6, t7, c2, wd, false, ty, ty2⟩, [.seqR, .seqL rest, .seqR, .blk e2, .seqR, .seqR, .loop b, .blk e1, .seqR], [1, 0, 1, 4, 1, 1, 5, 4, 1], .cond (.tmp d) (.exit x2) .skip) else none
     | _ => none
    | _ => none
   else none
  | _, _ => none
 | _ => none
structure Wk where
 g : RG
 ops : Array Oper
 m : Nat
 fr : List Fr
 pth : List Nat
 cnd : Code
def wkOf (P : Program) (N : Nat) (x y : Code) : Option Wk :=
 match x, y with
 | .region _ ops false, .block e1 (.loop b) =>
  match ops.toList.reverse with
  | o :: _ =>
   match op2 o with
   | some (it, .range ty (.tmp m)) =>
    match P.underlying ty, wkBody e1 b with
    | some (.map _ _), some (g, fr, pth, cnd) => if g.it = it ∧ (g.wd :: g.all).Nodup ∧ ∀ t ∈ g.wd :: g.all, t < N then some ⟨g, ops, m, fr, pth, cnd⟩ else none
    | _, _ => none
   | _ => none
  | [] => none
 | _, _ => none
def wkRead (q : Wk) : AM (List (Int × ByteArray) × ByteArray) := do
 match ← AM.rT q.m with
 | .v (.one (.mp n)) => do
  match ← AM.rB n with
  | .mp (.int .i64) .str es => do
   match ← AM.rT q.g.wd with
   | .v (.one (.d .str w)) => pure (es, w)
   | _ => .fail
  | _ => .fail
 | _ => .fail
inductive Md where
 | enter (skip : Bool) (c : Code)
 | done
 | exit (id : Nat)
 | goto (l : Nat)
 | ret

def ev {β : Type} (E : FEnv) (K : Res → Option β) : Nat → Md → List Fr → List Nat → Nat → St → Option β
 | 0, _, _, _, _, _ => none
 | n + 1, md, stk, path, fr, st =>
  match md with
  | .enter skip c =>
   match (if skip then none else E.segs.find? fun s => s.path == path) with
   | some s => runPreps (fun st => (do packN E.nin [] (← s.keep.mapM AM.rT)).runK st [] fun p _ => s.F p.1 p.2 K) s.prep fr st
   | none => match c with
    | .skip => ev E K n .done stk path fr st
    | .label _ => ev E K n .done stk path fr st
    | .region _ ops draw => evOps E.toEnv ops fr (fun st lg => if draw then (if freeOf (ahead ops.toList) lg && schedOk ops then ev E K n .done stk path (fr + 8 * ops.size) st else none) else ev E K n .done stk path (fr + 8 * ops.size) st) (List.range ops.size) st []
    | .seq a b => match wkOf E.P E.N a b with
     | none => ev E K n (.enter false a) (.seqL b :: stk) (0 :: path) fr st
     | some q => evOps E.toEnv q.ops fr (fun st _ => (wkRead q).runK st [] fun p _ => bif oneV p.2 p.1 then (bif (findV p.2 p.1).isSome then ev E K n (.enter false q.cnd) (q.fr ++ stk) (q.pth ++ path) (fr + 8 * q.ops.size) (((st.forget q.g.all).put (some q.g.k) (.v (.one (.d (.int .i64) ((findV p.2 p.1).getD 0))))).put (some q.g.c2) (.v (.one (.d .bool q.g.eq)))) else ev E K n .done stk path (fr + 8 * q.ops.size) (st.forget q.g.all)) else none) (List.range (q.ops.size - 1)) st []
    | .cond c a b => (do asB (← opd c)).runK st [] fun t _ => bif t then ev E K n (.enter false a) (.arm :: stk) (2 :: path) fr st else ev E K n (.enter false b) (.arm :: stk) (3 :: path) fr st
    | .block id b => ev E K n (.enter false b) (.blk id :: stk) (4 :: path) fr st
    | .loop b => ev E K n (.enter false b) (.loop b :: stk) (5 :: path) fr st
    | .scope b => ev E K n (.enter false b) (.scope b :: stk) (6 :: path) fr st
    | .goto l => ev E K n (.goto l) stk path fr st
    | .exit id => ev E K n (.exit id) stk path fr st
    | .ret => ev E K n .ret stk path fr st
    | _ => none
  | .done => match stk with
   | [] => (resA E.P E.nin E.rmv E.rts E.rvs).runK st [] fun r _ => K r.1
   | .seqL b :: k => ev E K n (.enter false b) (.seqR :: k) (1 :: path.tail) fr st
   | .seqR :: k | .arm :: k | .blk _ :: k | .scope _ :: k => ev E K n .done k path.tail fr st
   | .loop b :: k => ev E K n (.enter false (.loop b)) k path.tail fr st
  | .exit id => match stk with
   | [] => none
   | .blk id' :: k => if id' = id then ev E K n .done k path.tail fr st else ev E K n (.exit id) k path.tail fr st
   | _ :: k => ev E K n (.exit id) k path.tail fr st
  | .goto l => match stk with
   | [] => none
   | .scope c :: k => match findLabel c l with
    | some rest => ev E K n (.enter false rest) (.scope c :: k) ((100 + l) :: path.tail) fr st
    | none => none
   | _ :: k => ev E K n (.goto l) k path.tail fr st
  | .ret => (resA E.P E.nin E.rmv E.rts E.rvs).runK st [] fun r _ => K r.1

def stOf (keep : List Nat) (tvs : List TV) (blks : List (Option Blk)) : St :=
 { tmp := fun n => match keep.findIdx? (· == n) with | some i => tvs[i]? | none => none,
   blk := fun n => blks[n]? }

def evAt {β : Type} (E : FEnv) (path keep : List Nat) (tvs : List TV) (blks : List (Option Blk)) (K : Res → Option β) : Option β :=
 match codeAt E.body path with
 | some (c, stk) => ev E K 100000 (.enter true c) stk path blks.length (stOf keep tvs blks)
 | none => none

end Go.Proofs.YtijjlpgcpdapnaaGreatDoor.Aev

/- AEV: what an abstract value says of a value in memory. -/
namespace Go.Proofs.YtijjlpgcpdapnaaGreatDoor.Aev
set_option linter.unusedVariables false
set_option linter.unusedSimpArgs false
open Go

def All2 {α β : Type} (R : α → β → Prop) : List α → List β → Prop
 | [], [] => True
 | a :: as, b :: bs => R a b ∧ All2 R as bs
 | _, _ => False
theorem All2.imp {α β : Type} {R R' : α → β → Prop} (h : ∀ a b, R a b → R' a b) : ∀ {l : List α} {m : List β}, All2 R l m → All2 R' l m
 | [], [], _ => trivial
 | _ :: _, _ :: _, ⟨h1, h2⟩ => ⟨h _ _ h1, All2.imp h h2⟩
 | [], _ :: _, h' => h'.elim
 | _ :: _, [], h' => h'.elim
theorem All2.length {α β : Type} {R : α → β → Prop} : ∀ {l : List α} {m : List β}, All2 R l m → l.length = m.length
 | [], [], _ => rfl
 | _ :: _, _ :: _, ⟨_, h2⟩ => by simp [All2.length h2]
 | [], _ :: _, h' => h'.elim
 | _ :: _, [], h' => h'.elim
theorem All2.append {α β : Type} {R : α → β → Prop} : ∀ {l l' : List α} {m m' : List β}, All2 R l m → All2 R l' m' → All2 R (l ++ l') (m ++ m')
 | [], _, [], _, _, h => h
 | _ :: _, _, _ :: _, _, ⟨h1, h2⟩, h => ⟨h1, All2.append h2 h⟩
 | [], _, _ :: _, _, h', _ => h'.elim
 | _ :: _, _, [], _, h', _ => h'.elim
theorem All2.take {α β : Type} {R : α → β → Prop} (n : Nat) : ∀ {l : List α} {m : List β}, All2 R l m → All2 R (l.take n) (m.take n) := by
 induction n with
 | zero => intro l m _; simp [All2]
 | succ n ih =>
  intro l m h
  match l, m, h with
  | [], [], _ => simp [All2]
  | _ :: _, _ :: _, ⟨h1, h2⟩ => exact ⟨h1, ih h2⟩
theorem All2.drop {α β : Type} {R : α → β → Prop} (n : Nat) : ∀ {l : List α} {m : List β}, All2 R l m → All2 R (l.drop n) (m.drop n) := by
 induction n with
 | zero => intro l m h; exact h
 | succ n ih =>
  intro l m h
  match l, m, h with
  | [], [], _ => simp [All2]
  | _ :: _, _ :: _, ⟨h1, h2⟩ => exact ih h2
theorem All2.get {α β : Type} {R : α → β → Prop} : ∀ {l : List α} {m : List β}, All2 R l m → ∀ {i : Nat} {a : α}, l[i]? = some a → ∃ b, m[i]? = some b ∧ R a b
 | [], [], _, i, a, h => by simp at h
 | x :: l, y :: m, ⟨h1, h2⟩, 0, a, h => by simp at h; exact ⟨y, rfl, h ▸ h1⟩
 | x :: l, y :: m, ⟨h1, h2⟩, i + 1, a, h => by simp at h; simpa using All2.get h2 h
 | [], _ :: _, h', _, _, _ => h'.elim
 | _ :: _, [], h', _, _, _ => h'.elim
theorem All2.get' {α β : Type} {R : α → β → Prop} : ∀ {l : List α} {m : List β}, All2 R l m → ∀ {i : Nat} {b : β}, m[i]? = some b → ∃ a, l[i]? = some a ∧ R a b
 | [], [], _, i, a, h => by simp at h
 | x :: l, y :: m, ⟨h1, h2⟩, 0, a, h => by simp at h; exact ⟨x, rfl, h ▸ h1⟩
 | x :: l, y :: m, ⟨h1, h2⟩, i + 1, a, h => by simp at h; simpa using All2.get' h2 h
 | [], _ :: _, h', _, _, _ => h'.elim
 | _ :: _, [], h', _, _, _ => h'.elim
theorem All2.nil_left {α β : Type} {R : α → β → Prop} {m : List β} (h : All2 R [] m) : m = [] := by cases m with | nil => rfl | cons => exact h.elim
theorem All2.cons_left {α β : Type} {R : α → β → Prop} {a : α} {l : List α} {m : List β} (h : All2 R (a :: l) m) : ∃ b m', m = b :: m' ∧ R a b ∧ All2 R l m' := by
 cases m with
 | nil => exact h.elim
 | cons b m' => exact ⟨b, m', rfl, h.1, h.2⟩
theorem All2.split {α β : Type} {R : α → β → Prop} : ∀ {l l' : List α} {m : List β}, All2 R (l ++ l') m → ∃ m1 m2, m = m1 ++ m2 ∧ All2 R l m1 ∧ All2 R l' m2
 | [], l', m, h => ⟨[], m, rfl, trivial, h⟩
 | a :: l, l', m, h => by
  obtain ⟨b, m', rfl, h1, h2⟩ := All2.cons_left h
  obtain ⟨m1, m2, rfl, h3, h4⟩ := All2.split h2
  exact ⟨b :: m1, m2, rfl, ⟨h1, h3⟩, h4⟩

def cellsAt (w : World) (b off n : Nat) (vs : List Value) : Prop :=
 ∃ c e fr, w.heap[b]? = some (.cells c e fr) ∧ off + n ≤ c.size ∧ vs = (c.toList.drop off).take n

theorem cellsAt.length {w : World} {b off n : Nat} {vs : List Value} (h : cellsAt w b off n vs) : vs.length = n := by
 obtain ⟨c, e, fr, _, hs, rfl⟩ := h
 simp; omega

theorem cellsAt.of_heap {w w' : World} {b off n : Nat} {vs : List Value} (h : cellsAt w b off n vs) (hb : w'.heap[b]? = w.heap[b]?) : cellsAt w' b off n vs := by
 obtain ⟨c, e, fr, h1, hs, hv⟩ := h
 exact ⟨c, e, fr, hb.trans h1, hs, hv⟩

theorem cellsAt.sub {w : World} {b q n : Nat} {us : List Value} (h : cellsAt w b q n us) {off m : Nat} (hm : off + m ≤ n) : cellsAt w b (q + off) m ((us.drop off).take m) := by
 obtain ⟨c, e, fr, h1, h2, rfl⟩ := h
 refine ⟨c, e, fr, h1, by omega, ?_⟩
 rw [List.drop_take, List.take_take, List.drop_drop, Nat.min_eq_left (by omega)]

theorem cellsAt.lt {w : World} {b off n : Nat} {vs : List Value} (h : cellsAt w b off n vs) : b < w.heap.size := by
 obtain ⟨c, e, fr, h1, _, _⟩ := h
 rcases Nat.lt_or_ge b w.heap.size with h | h
 ·exact h
 ·simp [Array.getElem?_eq_none h] at h1

def Rd (w : World) (S : Nat → Prop) : (t : Ty) → List Value → t.den → Prop
 | .unit, vs, _ => vs = []
 | .bool, vs, x => vs = [.bool x]
 | .int k, vs, x => vs = [.int k x]
 | .str, vs, x => vs = [.string x]
 | .flt, vs, x => vs = [.float .f64 x]
 | .pair a b, vs, x => ∃ v1 v2, vs = v1 ++ v2 ∧ Rd w S a v1 x.1 ∧ Rd w S b v2 x.2
 | .sl e, vs, x => ∃ base len cap, vs = [.slice base len cap] ∧ len = x.length ∧ len ≤ cap ∧ (∀ a, base = some a → cap ≠ 0 → a.spot = none) ∧
   (base = none → cap = 0) ∧
   (x ≠ [] → ∃ a, base = some a ∧ S a.block ∧ ∀ i (h : i < x.length), ∃ us, cellsAt w a.block (a.off + i * e.size) e.size us ∧ Rd w S e us x[i])

theorem Rd.mono {w w' : World} {S S' : Nat → Prop} (hS : ∀ b, S b → S' b) (hw : ∀ b, S b → w'.heap[b]? = w.heap[b]?) :
  ∀ (t : Ty) (vs : List Value) (x : t.den), Rd w S t vs x → Rd w' S' t vs x := by
 intro t
 induction t with
 | unit => exact fun _ _ h => h
 | bool => exact fun _ _ h => h
 | int k => exact fun _ _ h => h
 | str => exact fun _ _ h => h
 | flt => exact fun _ _ h => h
 | pair a b iha ihb =>
  rintro vs x ⟨v1, v2, h, h1, h2⟩
  exact ⟨v1, v2, h, iha _ _ h1, ihb _ _ h2⟩
 | sl e ih =>
  rintro vs x ⟨base, len, cap, h, h1, h2, h3, h3', h4⟩
  refine ⟨base, len, cap, h, h1, h2, h3, h3', fun hx => ?_⟩
  obtain ⟨a, ha, hs, hr⟩ := h4 hx
  refine ⟨a, ha, hS _ hs, fun i hi => ?_⟩
  obtain ⟨us, hc, hu⟩ := hr i hi
  exact ⟨us, hc.of_heap (hw _ hs), ih _ _ hu⟩

theorem Rd.length {w : World} {S : Nat → Prop} : ∀ (t : Ty) (vs : List Value) (x : t.den), Rd w S t vs x → vs.length = t.size := by
 intro t
 induction t with
 | unit => intro vs x h; simp [Rd] at h; simp [h, Ty.size]
 | bool => intro vs x h; simp [Rd] at h; simp [h, Ty.size]
 | int k => intro vs x h; simp [Rd] at h; simp [h, Ty.size]
 | str => intro vs x h; simp [Rd] at h; simp [h, Ty.size]
 | flt => intro vs x h; simp [Rd] at h; simp [h, Ty.size]
 | pair a b iha ihb =>
  rintro vs x ⟨v1, v2, rfl, h1, h2⟩
  simp [Ty.size, iha _ _ h1, ihb _ _ h2]
 | sl e ih =>
  rintro vs x ⟨base, len, cap, rfl, _⟩
  simp [Ty.size]

abbrev Ptr (b off : Nat) : Value := .pointer (some ⟨b, off, none⟩)

def RepAV (w : World) (S : Nat → Prop) (ρ : Nat → Option Value) : AV → Value → Prop
 | .d t x, v => Rd w S t [v] x
 | .raw u, v => v = u ∧ u.oneCell' = true
 | .ptr n off, v => ∃ b, ρ n = some (Ptr b 0) ∧ v = Ptr b off
 | .own n, v => ρ n = some v ∧ ∃ base len cap, v = .slice base len cap
 | .arr n m, v => ∃ b, ρ n = some (.slice (some ⟨b, 0, none⟩) m m) ∧ v = Ptr b 0
 | .fn f caps, v => ∃ vs, v = .func (.func f) #[] vs ∧ All2 (fun p u => ∃ b, ρ p.1 = some (Ptr b 0) ∧ u = Ptr b p.2) caps vs.toList
 | .ifc t ag ty x, v => ∃ us u, v = .iface t u ∧ Rd w S ty us x ∧ (match ag with | true => u = .agg us.toArray | false => us = [u])
 | .mp n, v => ∃ b, ρ n = some (.map (some b)) ∧ v = .map (some b)
 | .slb n m, v => ∃ b, ρ n = some (Ptr b 0) ∧ v = .slice (some ⟨b, 0, none⟩) m m

def RepVV (w : World) (S : Nat → Prop) (ρ : Nat → Option Value) : VV → Value → Prop
 | .one a, v => RepAV w S ρ a v
 | .agg cs, v => ∃ vs, v = .agg vs ∧ All2 (RepAV w S ρ) cs vs.toList

def RepTV (w : World) (S : Nat → Prop) (ρ : Nat → Option Value) : TV → Value → Prop
 | .v x, v => RepVV w S ρ x v
 | .tup xs, v => ∃ vs, v = .tuple vs ∧ All2 (RepVV w S ρ) xs vs.toList
 | .elt e l i, v => i.toNat < l.length ∧ ∃ b off, v = Ptr b (off + i.toNat * e.size) ∧ S b ∧ ∀ j (h : j < l.length), ∃ us, cellsAt w b (off + j * e.size) e.size us ∧ Rd w S e us l[j]
 | .eltOf e n i, v => 0 ≤ i ∧ ∃ b off len cap, ρ n = some (.slice (some ⟨b, off, none⟩) len cap) ∧ i.toNat < len ∧ v = Ptr b (off + i.toNat * e.size)
 | .fld e l i o, v => i.toNat < l.length ∧ ∃ b off, v = Ptr b (off + i.toNat * e.size + o) ∧ S b ∧ ∀ j (h : j < l.length), ∃ us, cellsAt w b (off + j * e.size) e.size us ∧ Rd w S e us l[j]
 | .fldOf e n i o, v => 0 ≤ i ∧ ∃ b off len cap, ρ n = some (.slice (some ⟨b, off, none⟩) len cap) ∧ i.toNat < len ∧ v = Ptr b (off + i.toNat * e.size + o)
 | .undef, v => v = undef

def RowOwn (w : World) (S : Nat → Prop) (t : Ty) (v : Value) (xs : List t.den) (home : Nat) : Prop :=
 ∃ len cap vs e, v = .slice (some ⟨home, 0, none⟩) len cap ∧ len = xs.length ∧ len ≤ cap ∧ w.heap[home]? = some (.cells vs e (0, 0)) ∧ vs.size = cap * t.size ∧
  ∀ i (h : i < xs.length), ∃ us, cellsAt w home (i * t.size) t.size us ∧ Rd w S t us xs[i]
def RowFull (w : World) (S : Nat → Prop) (t : Ty) (v : Value) (xs : List t.den) : Prop :=
 Rd w S (.sl t) [v] xs ∧ ∃ base, v = .slice base xs.length xs.length

def Ents (w : World) (S : Nat → Prop) (kt et : Ty) (vs : List MapEntry) (es : List (kt.den × et.den)) : Prop :=
 All2 (fun (x : kt.den × et.den) e => Rd w S kt [e.key] x.1 ∧ Rd w S et [e.val] x.2) es vs ∧ (vs.map (·.born)) = List.range vs.length
def RepBlk (w : World) (S : Nat → Prop) (ρ : Nat → Option Value) (n : Nat) (home : Option Nat) : Blk → Prop
 | .box cs => ∃ b vs e, home = some b ∧ ρ n = some (Ptr b 0) ∧ w.heap[b]? = some (.cells vs e (0, 0)) ∧ All2 (RepAV w S ρ) cs vs.toList
 | .own t excl xs => ∃ v, ρ n = some v ∧ ((∃ b, home = some b ∧ RowOwn w S t v xs b) ∨ (excl = false ∧ home = none ∧ RowFull w S t v xs))
 | .settled t xs => ∃ v, ρ n = some v ∧ home = none ∧ Rd w S (.sl t) [v] xs
 | .mp kt et es => ∃ b vs, home = some b ∧ ρ n = some (.map (some b)) ∧ w.heap[b]? = some (.map vs vs.size) ∧ Ents w S kt et vs.toList es

section mono
variable {w w' : World} {S S' : Nat → Prop} {ρ ρ' : Nat → Option Value}

theorem RepAV.mono (hS : ∀ b, S b → S' b) (hw : ∀ b, S b → w'.heap[b]? = w.heap[b]?) (hρ : ∀ n v, ρ n = some v → ρ' n = some v) :
  ∀ {a : AV} {v : Value}, RepAV w S ρ a v → RepAV w' S' ρ' a v
 | .d t x, v, h => Rd.mono hS hw _ _ _ h
 | .raw u, v, h => h
 | .ptr n off, v, ⟨b, h1, h2⟩ => ⟨b, hρ _ _ h1, h2⟩
 | .own n, v, ⟨h1, h2⟩ => ⟨hρ _ _ h1, h2⟩
 | .arr n m, v, ⟨b, h1, h2⟩ => ⟨b, hρ _ _ h1, h2⟩
 | .fn f caps, v, ⟨vs, h1, h2⟩ => ⟨vs, h1, h2.imp fun p u ⟨b, h3, h4⟩ => ⟨b, hρ _ _ h3, h4⟩⟩
 | .ifc t ag ty x, v, ⟨us, u, h1, h2, h3⟩ => ⟨us, u, h1, Rd.mono hS hw _ _ _ h2, h3⟩
 | .mp n, v, ⟨b, h1, h2⟩ => ⟨b, hρ _ _ h1, h2⟩
 | .slb n m, v, ⟨b, h1, h2⟩ => ⟨b, hρ _ _ h1, h2⟩
theorem RepVV.mono (hS : ∀ b, S b → S' b) (hw : ∀ b, S b → w'.heap[b]? = w.heap[b]?) (hρ : ∀ n v, ρ n = some v → ρ' n = some v) :
  ∀ {a : VV} {v : Value}, RepVV w S ρ a v → RepVV w' S' ρ' a v
 | .one a, v, h => RepAV.mono hS hw hρ h
 | .agg cs, v, ⟨vs, h1, h2⟩ => ⟨vs, h1, h2.imp fun _ _ => RepAV.mono hS hw hρ⟩
theorem RepTV.mono (hS : ∀ b, S b → S' b) (hw : ∀ b, S b → w'.heap[b]? = w.heap[b]?) (hρ : ∀ n v, ρ n = some v → ρ' n = some v) :
  ∀ {a : TV} {v : Value}, RepTV w S ρ a v → RepTV w' S' ρ' a v
 | .v x, v, h => RepVV.mono hS hw hρ h
 | .tup xs, v, ⟨vs, h1, h2⟩ => ⟨vs, h1, h2.imp fun _ _ => RepVV.mono hS hw hρ⟩
 | .elt e l i, v, ⟨h0, b, off, h1, h2, h3⟩ => ⟨h0, b, off, h1, hS _ h2, fun j hj => by
  obtain ⟨us, h4, h5⟩ := h3 j hj
  exact ⟨us, h4.of_heap (hw _ h2), Rd.mono hS hw _ _ _ h5⟩⟩
 | .eltOf e n i, v, ⟨h0, b, off, len, cap, h1, h2⟩ => ⟨h0, b, off, len, cap, hρ _ _ h1, h2⟩
 | .fld e l i o, v, ⟨h0, b, off, h1, h2, h3⟩ => ⟨h0, b, off, h1, hS _ h2, fun j hj => by
  obtain ⟨us, h4, h5⟩ := h3 j hj
  exact ⟨us, h4.of_heap (hw _ h2), Rd.mono hS hw _ _ _ h5⟩⟩
 | .fldOf e n i o, v, ⟨h0, b, off, len, cap, h1, h2⟩ => ⟨h0, b, off, len, cap, hρ _ _ h1, h2⟩
 | .undef, v, h => h
theorem RepBlk.mono (hS : ∀ b, S b → S' b) (hw : ∀ b, S b → w'.heap[b]? = w.heap[b]?) (hρ : ∀ n v, ρ n = some v → ρ' n = some v)
  {n : Nat} {home : Option Nat} (hh : ∀ b, home = some b → w'.heap[b]? = w.heap[b]?) : ∀ {B : Blk}, RepBlk w S ρ n home B → RepBlk w' S' ρ' n home B
 | .box cs, ⟨b, vs, e, h0, h1, h2, h3⟩ => ⟨b, vs, e, h0, hρ _ _ h1, (hh _ h0).trans h2, h3.imp fun _ _ => RepAV.mono hS hw hρ⟩
 | .own t excl xs, ⟨v, h1, h2⟩ => by
  refine ⟨v, hρ _ _ h1, ?_⟩
  rcases h2 with ⟨b, h0, len, cap, vs, e, h2, h3, h4, h5, h6, h7⟩ | ⟨h2, h3, h4, h5⟩
  ·refine .inl ⟨b, h0, len, cap, vs, e, h2, h3, h4, (hh _ h0).trans h5, h6, fun i hi => ?_⟩
   obtain ⟨us, h8, h9⟩ := h7 i hi
   exact ⟨us, h8.of_heap (hh _ h0), Rd.mono hS hw _ _ _ h9⟩
  ·exact .inr ⟨h2, h3, Rd.mono hS hw _ _ _ h4, h5⟩
 | .settled t xs, ⟨v, h1, h2, h3⟩ => ⟨v, hρ _ _ h1, h2, Rd.mono hS hw _ _ _ h3⟩
 | .mp kt et es, ⟨b, vs, h0, h1, h2, h3, h4⟩ => ⟨b, vs, h0, hρ _ _ h1, (hh _ h0).trans h2, h3.imp fun _ _ ⟨h5, h6⟩ => ⟨Rd.mono hS hw _ _ _ h5, Rd.mono hS hw _ _ _ h6⟩, h4⟩
end mono

/-! ### package variables -/
def globs : List (Nat × Value) := [(0, .iface 178 (.agg #[.pointer (some ⟨2, 113, none⟩)]))]
def Gl (w : World) (S : Nat → Prop) : Prop := ∀ p ∈ globs, S p.1 ∧ w.cell? ⟨p.1, 0, none⟩ = some p.2
theorem Gl.mono {w w' : World} {S S' : Nat → Prop} (h : Gl w S) (hS : ∀ b, S b → S' b) (hw : ∀ b, S b → w'.heap[b]? = w.heap[b]?) : Gl w' S' := fun p hp => by
 obtain ⟨h1, h2⟩ := h p hp
 refine ⟨hS _ h1, ?_⟩
 have e := hw _ h1
 simp only [World.cell?] at h2 ⊢
 rw [e]; exact h2

/-! ### states -/
structure Cx where
 w0 : World
 S0 : Nat → Prop
 M0 : Nat → Prop
 ρ0 : Nat → Option Value

def Cx.mine (X : Cx) (b : Nat) : Prop := X.M0 b ∨ X.w0.heap.size ≤ b

structure Mem (X : Cx) (w : World) (S : Nat → Prop) (ρ : Nat → Option Value) (H : Nat → Option Nat) (blk : Nat → Option (Option Blk)) : Prop where
 rep : ∀ n B, blk n = some (some B) → RepBlk w S ρ n (H n) B
 sep : ∀ n m B C b, blk n = some (some B) → blk m = some (some C) → H n = some b → H m = some b → n = m
 apart : ∀ n B b, blk n = some (some B) → H n = some b → ¬ S b
 homes : ∀ n B b, blk n = some (some B) → H n = some b → X.mine b
 old : ∀ b, S b → b < w.heap.size
 never : ∀ n, blk n = none → ρ n = none
 s0 : ∀ b, X.S0 b → S b
 smine : ∀ b, S b → X.S0 b ∨ X.mine b
 names : ∀ n v, X.ρ0 n = some v → ρ n = some v
 os : w.os = X.w0.os
 tape : w.tape = X.w0.tape
 output : w.output = X.w0.output
 size : X.w0.heap.size ≤ w.heap.size
 same : ∀ b, b < X.w0.heap.size → ¬ X.M0 b → w.heap[b]? = X.w0.heap[b]?
 gl : Gl w S

structure Rep (X : Cx) (w : World) (S : Nat → Prop) (ρ : Nat → Option Value) (H : Nat → Option Nat) (N : Nat) (st : St) (a : Act) : Prop where
 mem : Mem X w S ρ H st.blk
 tmp : ∀ t v, st.tmp t = some v → RepTV w S ρ v (a.tmps.getD t undef)
 size : N ≤ a.tmps.size
 defers : a.defers = []

theorem RepBlk.home_lt {w : World} {S : Nat → Prop} {ρ : Nat → Option Value} {n : Nat} {home : Option Nat} {B : Blk} (h : RepBlk w S ρ n home B) {b : Nat} (hb : home = some b) : b < w.heap.size := by
 have key0 : ∀ o, w.heap[b]? = some o → b < w.heap.size := by
  intro o h1
  rcases Nat.lt_or_ge b w.heap.size with h | h
  ·exact h
  ·simp [Array.getElem?_eq_none h] at h1
 have key : ∀ vs e fr, w.heap[b]? = some (.cells vs e fr) → b < w.heap.size := fun _ _ _ => key0 _
 cases B with
 | box cs => obtain ⟨b', vs, e, h0, _, h2, _⟩ := h; obtain rfl : b' = b := by simpa [h0] using hb
             exact key _ _ _ h2
 | own t excl xs =>
  obtain ⟨v, _, ⟨b', h0, len, cap, vs, e, _, _, _, h5, _⟩ | ⟨_, h0, _⟩⟩ := h
  ·obtain rfl : b' = b := by simpa [h0] using hb
   exact key _ _ _ h5
  ·simp [h0] at hb
 | settled t xs => obtain ⟨v, _, h0, _⟩ := h; simp [h0] at hb
 | mp kt et es =>
  obtain ⟨b', vs, h0, _, h2, _⟩ := h; obtain rfl : b' = b := by simpa [h0] using hb
  exact key0 _ h2

def upd {α : Type} (f : Nat → α) (n : Nat) (x : α) : Nat → α := fun m => if m = n then x else f m
theorem upd_same {α : Type} (f : Nat → α) (n : Nat) (x : α) : upd f n x n = x := by simp [upd]
theorem upd_other {α : Type} (f : Nat → α) {n m : Nat} (x : α) (h : m ≠ n) : upd f n x m = f m := by simp [upd, h]
theorem upd_le {ρ : Nat → Option Value} {n : Nat} {v : Value} (h : ρ n = none) : ∀ m u, ρ m = some u → upd ρ n (some v) m = some u := by
 intro m u hm
 by_cases e : m = n
 ·subst e; simp [h] at hm
 ·rw [upd_other _ _ e]; exact hm

end Go.Proofs.YtijjlpgcpdapnaaGreatDoor.Aev

/- AEV: what an abstract state allows to be done to memory. -/
namespace Go.Proofs.YtijjlpgcpdapnaaGreatDoor.Aev
set_option linter.unusedVariables false
set_option linter.unusedSimpArgs false
open Go

/-! ### runs of AM -/
section runs
variable {α β : Type} {st : St}
theorem run_bind (m : AM α) (f : α → AM β) : ∀ lg, (m.bind f).run st lg = (m.run st lg).bind fun p => (f p.1).run st p.2 := by
 induction m with
 | pure a => intro lg; rfl
 | rdT n k ih => intro lg; exact ih _ _
 | rdB n k ih => intro lg; exact ih _ _
 | grd c k ih => intro lg; cases c <;> simp [AM.bind, AM.run, ih]
 | brb c x y ihx ihy => intro lg; cases c <;> simp [AM.bind, AM.run, ihx, ihy]
 | fail => intro lg; rfl
theorem rbs {m : AM α} {f : α → AM β} {lg : List Loc} {r : β × List Loc} (h : (m >>= f).run st lg = some r) :
  ∃ x lg1, m.run st lg = some (x, lg1) ∧ (f x).run st lg1 = some r := by
 have h : (m.bind f).run st lg = some r := h
 rw [run_bind] at h
 cases hm : m.run st lg with
 | none => simp [hm] at h
 | some p => simp [hm] at h; exact ⟨p.1, p.2, rfl, h⟩
theorem run_pure {a : α} {lg : List Loc} {r : α × List Loc} (h : (pure a : AM α).run st lg = some r) : r = (a, lg) := by
 have h : (AM.pure a).run st lg = some r := h
 simpa [AM.run, eq_comm] using h
theorem run_pure' {a : α} {lg : List Loc} {r : α × List Loc} (h : (AM.pure a).run st lg = some r) : r = (a, lg) := run_pure h
theorem rfl0 {lg : List Loc} {r : α × List Loc} (h : (AM.fail : AM α).run st lg = some r) : False := by simp [AM.run] at h
theorem run_rT {n : Nat} {lg : List Loc} {r : TV × List Loc} (h : (AM.rT n).run st lg = some r) : st.tmp n = some r.1 := by
 simp only [AM.rT, AM.run] at h
 cases ht : st.tmp n with
 | none => simp [ht, AM.run] at h
 | some v => simp [ht, AM.run] at h; subst h; rfl
theorem run_rB {n : Nat} {lg : List Loc} {r : Blk × List Loc} (h : (AM.rB n).run st lg = some r) : st.blk n = some (some r.1) := by
 simp only [AM.rB, AM.run] at h
 cases ht : st.blk n with
 | none => simp [ht, AM.run] at h
 | some v =>
  cases v with
  | none => simp [ht, AM.run] at h
  | some b => simp [ht, AM.run] at h; subst h; rfl
theorem run_ofO {o : Option α} {lg : List Loc} {r : α × List Loc} (h : (AM.ofO o).run st lg = some r) : o = some r.1 := by
 cases o with
 | none => simp [AM.ofO, AM.run] at h
 | some a => simp [AM.ofO, AM.run] at h; subst h; rfl
theorem run_guard {c : Bool} {lg : List Loc} {r : Unit × List Loc} (h : (AM.guard c).run st lg = some r) : c = true := by
 cases c with
 | true => rfl
 | false => simp [AM.guard, AM.run] at h
theorem run_brb {c : Bool} {x y : AM α} {lg : List Loc} {r : α × List Loc} (h : (AM.brb c x y).run st lg = some r) : (if c then x else y).run st lg = some r := by
 cases c <;> simpa [AM.run] using h
theorem run_rdB {n : Nat} {k : Option (Option Blk) → AM α} {lg : List Loc} {r : α × List Loc} (h : (AM.rdB n k).run st lg = some r) : (k (st.blk n)).run st (.b n :: lg) = some r := h

theorem AM.bind_pure' (m : AM α) : m.bind AM.pure = m := by
 induction m with
 | pure a => rfl
 | rdT n k ih => simp only [AM.bind]; congr 1; funext x; exact ih x
 | rdB n k ih => simp only [AM.bind]; congr 1; funext x; exact ih x
 | grd c k ih => simp only [AM.bind, ih]
 | brb c x y ihx ihy => simp only [AM.bind, ihx, ihy]
 | fail => rfl
theorem AM.bind_assoc' {γ : Type} (m : AM α) (f : α → AM β) (g : β → AM γ) : (m.bind f).bind g = m.bind fun a => (f a).bind g := by
 induction m with
 | pure a => rfl
 | rdT n k ih => simp only [AM.bind]; congr 1; funext x; exact ih x
 | rdB n k ih => simp only [AM.bind]; congr 1; funext x; exact ih x
 | grd c k ih => simp only [AM.bind, ih]
 | brb c x y ihx ihy => simp only [AM.bind, ihx, ihy]
 | fail => rfl
instance : LawfulMonad AM := LawfulMonad.mk'
 (id_map := fun x => AM.bind_pure' x)
 (pure_bind := fun _ _ => rfl)
 (bind_assoc := fun x f g => AM.bind_assoc' x f g)

theorem run_mapM {f : α → AM β} : ∀ {l : List α} {lg : List Loc} {r : List β × List Loc}, (l.mapM f).run st lg = some r →
  All2 (fun x y => ∃ lg1 lg2, (f x).run st lg1 = some (y, lg2)) l r.1
 | [], lg, r, h => by rw [List.mapM_nil] at h; have := run_pure h; subst this; trivial
 | x :: l, lg, r, h => by
  rw [List.mapM_cons] at h
  obtain ⟨y, lg1, h1, h⟩ := rbs h
  obtain ⟨ys, lg2, h2, h⟩ := rbs h
  have := run_pure h; subst this
  exact ⟨⟨_, _, h1⟩, run_mapM h2⟩

theorem runK_eq (m : AM α) (K : α → List Loc → Option β) : ∀ lg, m.runK st lg K = (m.run st lg).bind fun p => K p.1 p.2 := by
 induction m with
 | pure a => intro lg; rfl
 | rdT n k ih => intro lg; exact ih _ _
 | rdB n k ih => intro lg; exact ih _ _
 | grd c k ih => intro lg; cases c <;> simp [AM.runK, AM.run, ih]
 | brb c x y ihx ihy => intro lg; cases c <;> simp [AM.runK, AM.run, ihx, ihy]
 | fail => intro lg; rfl
theorem runK_some {m : AM α} {K : α → List Loc → Option β} {lg : List Loc} {r : β} (h : m.runK st lg K = some r) : ∃ a lg', m.run st lg = some (a, lg') ∧ K a lg' = some r := by
 rw [runK_eq] at h
 cases hm : m.run st lg with
 | none => simp [hm] at h
 | some p => simp [hm] at h; exact ⟨p.1, p.2, rfl, h⟩

theorem run_local {s s' : St} (m : AM α) : ∀ lg a lg', m.run s lg = some (a, lg') →
  ∃ rd, lg' = rd ++ lg ∧ ((∀ n, Loc.t n ∈ rd → s'.tmp n = s.tmp n) → (∀ n, Loc.b n ∈ rd → s'.blk n = s.blk n) → ∀ l2, m.run s' l2 = some (a, rd ++ l2)) := by
 induction m with
 | pure a => intro lg a' lg' h; simp [AM.run] at h; obtain ⟨rfl, rfl⟩ := h; exact ⟨[], rfl, fun _ _ l2 => rfl⟩
 | rdT n k ih =>
  intro lg a lg' h
  obtain ⟨rd, rfl, hr⟩ := ih _ _ _ _ (show (k (s.tmp n)).run s (.t n :: lg) = some (a, lg') from h)
  refine ⟨rd ++ [.t n], by simp, fun ht hb l2 => ?_⟩
  have e : s'.tmp n = s.tmp n := ht n (by simp)
  have := hr (fun m hm => ht m (by simp [hm])) (fun m hm => hb m (by simp [hm])) (.t n :: l2)
  simp only [AM.run, e, this, List.append_assoc, List.singleton_append]
 | rdB n k ih =>
  intro lg a lg' h
  obtain ⟨rd, rfl, hr⟩ := ih _ _ _ _ (show (k (s.blk n)).run s (.b n :: lg) = some (a, lg') from h)
  refine ⟨rd ++ [.b n], by simp, fun ht hb l2 => ?_⟩
  have e : s'.blk n = s.blk n := hb n (by simp)
  have := hr (fun m hm => ht m (by simp [hm])) (fun m hm => hb m (by simp [hm])) (.b n :: l2)
  simp only [AM.run, e, this, List.append_assoc, List.singleton_append]
 | grd c k ih =>
  intro lg a lg' h
  cases c with
  | false => simp [AM.run] at h
  | true =>
   obtain ⟨rd, e, hr⟩ := ih _ _ _ (by simpa [AM.run] using h)
   exact ⟨rd, e, fun ht hb l2 => by simpa [AM.run] using hr ht hb l2⟩
 | brb c x y ihx ihy =>
  intro lg a lg' h
  cases c with
  | false =>
   obtain ⟨rd, e, hr⟩ := ihy _ _ _ (by simpa [AM.run] using h)
   exact ⟨rd, e, fun ht hb l2 => by simpa [AM.run] using hr ht hb l2⟩
  | true =>
   obtain ⟨rd, e, hr⟩ := ihx _ _ _ (by simpa [AM.run] using h)
   exact ⟨rd, e, fun ht hb l2 => by simpa [AM.run] using hr ht hb l2⟩
 | fail => intro lg a lg' h; simp [AM.run] at h
end runs

/-! ### memory -/
section mem
variable {X : Cx} {w w' : World} {S S' : Nat → Prop} {ρ : Nat → Option Value} {H : Nat → Option Nat} {blk : Nat → Option (Option Blk)}

theorem Mem.world (h : Mem X w S ρ H blk) (hh : w'.heap = w.heap) (ho : w'.os = w.os) (ht : w'.tape = w.tape) (hp : w'.output = w.output) : Mem X w' S ρ H blk :=
 { rep := fun n B hB => (h.rep n B hB).mono (fun _ x => x) (fun _ _ => by rw [hh]) (fun _ _ x => x) (fun _ _ => by rw [hh])
   sep := h.sep, apart := h.apart, homes := h.homes
   old := fun b hb => by rw [hh]; exact h.old b hb
   never := h.never, s0 := h.s0, smine := h.smine, names := h.names
   os := ho.trans h.os, tape := ht.trans h.tape, output := hp.trans h.output
   size := by rw [hh]; exact h.size
   same := fun b hb hm => by rw [hh]; exact h.same b hb hm
   gl := h.gl.mono (fun _ x => x) (fun _ _ => by rw [hh]) }

theorem Mem.later (h : Mem X w S ρ H blk) (hsz : w.heap.size ≤ w'.heap.size) (hk : ∀ k, k < w.heap.size → w'.heap[k]? = w.heap[k]?) (ho : w'.os = w.os) (ht : w'.tape = w.tape) (hp : w'.output = w.output) : Mem X w' S ρ H blk :=
 { rep := fun n B hB => (h.rep n B hB).mono (fun _ x => x) (fun b hS => hk b (h.old b hS)) (fun _ _ x => x) (fun b e => hk b ((h.rep n B hB).home_lt e))
   sep := h.sep, apart := h.apart, homes := h.homes
   old := fun b hS => Nat.lt_of_lt_of_le (h.old b hS) hsz
   never := h.never, s0 := h.s0, smine := h.smine, names := h.names
   os := ho.trans h.os, tape := ht.trans h.tape, output := hp.trans h.output
   size := Nat.le_trans h.size hsz
   same := fun b hlt hM => (hk b (Nat.lt_of_lt_of_le hlt h.size)).trans (h.same b hlt hM)
   gl := h.gl.mono (fun _ x => x) (fun b hS => hk b (h.old b hS)) }
theorem Mem.alloc (h : Mem X w S ρ H blk) {n : Nat} (hn : blk n = none) {o : Obj} {v : Value} {B : Blk}
  (hB : RepBlk { w with heap := w.heap.push o } S (upd ρ n (some v)) n (some w.heap.size) B) :
  Mem X { w with heap := w.heap.push o } S (upd ρ n (some v)) (upd H n (some w.heap.size)) (upd blk n (some (some B))) := by
 have hρ := upd_le (v := v) (h.never n hn)
 have hlt : ∀ b, b < w.heap.size → ({ w with heap := w.heap.push o } : World).heap[b]? = w.heap[b]? := fun b hb => by
  show (w.heap.push o)[b]? = _
  rw [Array.getElem?_push, if_neg (by omega)]
 have other : ∀ m C, m ≠ n → upd blk n (some (some B)) m = some (some C) → blk m = some (some C) := fun m C e hm => by rwa [upd_other _ _ e] at hm
 refine { rep := ?_, sep := ?_, apart := ?_, homes := ?_, old := ?_, never := ?_, s0 := h.s0, smine := h.smine, names := fun m u hm => hρ _ _ (h.names m u hm), os := h.os, tape := h.tape, output := h.output, size := ?_, same := ?_, gl := h.gl.mono (fun _ x => x) (fun b hb => hlt b (h.old b hb)) }
 ·intro m C hm
  by_cases e : m = n
  ·subst e
   rw [upd_same] at hm ⊢
   obtain rfl : B = C := by simpa using hm
   exact hB
  ·rw [upd_other _ _ e]
   have hr := h.rep m C (other m C e hm)
   exact hr.mono (fun _ x => x) (fun b hb => hlt b (h.old b hb)) hρ (fun b hb => hlt b (hr.home_lt hb))
 ·intro m k C D b hm hk h1 h2
  by_cases e : m = n
  ·by_cases e' : k = n
   ·rw [e, e']
   ·subst e
    rw [upd_same] at h1
    rw [upd_other _ _ e'] at h2
    have := (h.rep k D (other k D e' hk)).home_lt h2
    simp at h1; omega
  ·by_cases e' : k = n
   ·subst e'
    rw [upd_same] at h2
    rw [upd_other _ _ e] at h1
    have := (h.rep m C (other m C e hm)).home_lt h1
    simp at h2; omega
   ·rw [upd_other _ _ e] at h1
    rw [upd_other _ _ e'] at h2
    exact h.sep m k C D b (other m C e hm) (other k D e' hk) h1 h2
 ·intro m C b hm h1 hs
  by_cases e : m = n
  ·subst e
   rw [upd_same] at h1
   have := h.old b hs
   simp at h1; omega
  ·rw [upd_other _ _ e] at h1
   exact h.apart m C b (other m C e hm) h1 hs
 ·intro m C b hm h1
  by_cases e : m = n
  ·subst e
   rw [upd_same] at h1
   simp at h1
   exact .inr (by have := h.size; omega)
  ·rw [upd_other _ _ e] at h1
   exact h.homes m C b (other m C e hm) h1
 ·intro b hb
  have := h.old b hb
  show b < (w.heap.push o).size
  simp; omega
 ·intro m hm
  by_cases e : m = n
  ·subst e; rw [upd_same] at hm; simp at hm
  ·rw [upd_other _ _ e] at hm ⊢
   exact h.never m hm
 ·have := h.size
  show _ ≤ (w.heap.push o).size
  simp; omega
 ·intro b hb hm
  have := h.size
  exact (hlt b (by omega)).trans (h.same b hb hm)

theorem Mem.write (h : Mem X w S ρ H blk) {n b : Nat} {B B' : Blk} (hn : blk n = some (some B)) (hb : H n = some b)
  (hsz : w'.heap.size = w.heap.size) (hk : ∀ k, k ≠ b → w'.heap[k]? = w.heap[k]?) (ho : w'.os = w.os) (ht : w'.tape = w.tape) (hp : w'.output = w.output)
  (hB : RepBlk w' S ρ n (some b) B') : Mem X w' S ρ H (upd blk n (some (some B'))) := by
 have other : ∀ m C, m ≠ n → upd blk n (some (some B')) m = some (some C) → blk m = some (some C) := fun m C e hm => by rwa [upd_other _ _ e] at hm
 have live : ∀ m C, upd blk n (some (some B')) m = some (some C) → ∃ D, blk m = some (some D) := fun m C hm => by
  by_cases e : m = n
  ·exact ⟨B, e ▸ hn⟩
  ·exact ⟨C, other m C e hm⟩
 have hS : ∀ k, S k → w'.heap[k]? = w.heap[k]? := fun k hs => hk k (fun e => h.apart n B b hn hb (e ▸ hs))
 refine { rep := ?_, sep := ?_, apart := ?_, homes := ?_, old := fun k hs => hsz ▸ h.old k hs, never := ?_, s0 := h.s0, smine := h.smine, names := h.names, os := ho.trans h.os, tape := ht.trans h.tape, output := hp.trans h.output, size := hsz ▸ h.size, same := ?_, gl := h.gl.mono (fun _ x => x) hS }
 ·intro m C hm
  by_cases e : m = n
  ·subst e
   rw [upd_same] at hm
   obtain rfl : B' = C := by simpa using hm
   rw [hb]; exact hB
  ·have hC := other m C e hm
   exact (h.rep m C hC).mono (fun _ x => x) hS (fun _ _ x => x) (fun k hk' => hk k (fun e' => e (h.sep m n C B b hC hn (e' ▸ hk') hb)))
 ·intro m k C D c hm hk' h1 h2
  obtain ⟨C', hC'⟩ := live m C hm
  obtain ⟨D', hD'⟩ := live k D hk'
  exact h.sep m k C' D' c hC' hD' h1 h2
 ·intro m C c hm h1
  obtain ⟨C', hC'⟩ := live m C hm
  exact h.apart m C' c hC' h1
 ·intro m C c hm h1
  obtain ⟨C', hC'⟩ := live m C hm
  exact h.homes m C' c hC' h1
 ·intro m hm
  by_cases e : m = n
  ·subst e; rw [upd_same] at hm; simp at hm
  ·rw [upd_other _ _ e] at hm; exact h.never m hm
 ·intro k hk' hm
  rw [hk k (fun e => ?_)]
  ·exact h.same k hk' hm
  ·rcases h.homes n B b hn hb with h1 | h1
   ·exact hm (e ▸ h1)
   ·omega

theorem Mem.drop (h : Mem X w S ρ H blk) {n : Nat} {x : Option Blk} (hn : blk n = some x) : Mem X w S ρ H (upd blk n (some none)) := by
 have other : ∀ m C, upd blk n (some none) m = some (some C) → blk m = some (some C) := fun m C hm => by
  by_cases e : m = n
  ·subst e; rw [upd_same] at hm; simp at hm
  ·rwa [upd_other _ _ e] at hm
 refine { h with rep := fun m C hm => h.rep m C (other m C hm), sep := fun m k C D b hm hk => h.sep m k C D b (other m C hm) (other k D hk), apart := fun m C b hm => h.apart m C b (other m C hm), homes := fun m C b hm => h.homes m C b (other m C hm), never := fun m hm => ?_ }
 by_cases e : m = n
 ·subst e; rw [upd_same] at hm; simp at hm
 ·rw [upd_other _ _ e] at hm; exact h.never m hm

theorem Mem.retell (h : Mem X w S ρ H blk) {n : Nat} {B B' : Blk} (hn : blk n = some (some B)) (hB : RepBlk w S ρ n (H n) B') : Mem X w S ρ H (upd blk n (some (some B'))) := by
 have other : ∀ m C, m ≠ n → upd blk n (some (some B')) m = some (some C) → blk m = some (some C) := fun m C e hm => by rwa [upd_other _ _ e] at hm
 have live : ∀ m C, upd blk n (some (some B')) m = some (some C) → ∃ D, blk m = some (some D) := fun m C hm => by
  by_cases e : m = n
  ·exact ⟨B, e ▸ hn⟩
  ·exact ⟨C, other m C e hm⟩
 refine { h with rep := ?_, sep := ?_, apart := ?_, homes := ?_, never := ?_ }
 ·intro m C hm
  by_cases e : m = n
  ·subst e
   rw [upd_same] at hm
   obtain rfl : B' = C := by simpa using hm
   exact hB
  ·exact h.rep m C (other m C e hm)
 ·intro m k C D c hm hk' h1 h2
  obtain ⟨C', hC'⟩ := live m C hm
  obtain ⟨D', hD'⟩ := live k D hk'
  exact h.sep m k C' D' c hC' hD' h1 h2
 ·intro m C c hm h1
  obtain ⟨C', hC'⟩ := live m C hm
  exact h.apart m C' c hC' h1
 ·intro m C c hm h1
  obtain ⟨C', hC'⟩ := live m C hm
  exact h.homes m C' c hC' h1
 ·intro m hm
  by_cases e : m = n
  ·subst e; rw [upd_same] at hm; simp at hm
  ·rw [upd_other _ _ e] at hm; exact h.never m hm

structure More (w w' : World) (S S' : Nat → Prop) (ρ ρ' : Nat → Option Value) : Prop where
 s : ∀ b, S b → S' b
 heap : ∀ b, S b → w'.heap[b]? = w.heap[b]?
 names : ∀ n v, ρ n = some v → ρ' n = some v
theorem More.refl (w : World) (S : Nat → Prop) (ρ : Nat → Option Value) : More w w S S ρ ρ := ⟨fun _ x => x, fun _ _ => rfl, fun _ _ x => x⟩
theorem More.trans {w1 w2 w3 : World} {S1 S2 S3 : Nat → Prop} {ρ1 ρ2 ρ3 : Nat → Option Value} (h : More w1 w2 S1 S2 ρ1 ρ2) (k : More w2 w3 S2 S3 ρ2 ρ3) : More w1 w3 S1 S3 ρ1 ρ3 :=
 ⟨fun b x => k.s b (h.s b x), fun b x => (k.heap b (h.s b x)).trans (h.heap b x), fun n v x => k.names n v (h.names n v x)⟩

theorem rd_of_row {w : World} {S : Nat → Prop} {t : Ty} {v : Value} {xs : List t.den} {b : Nat} (h : RowOwn w S t v xs b) (hs : S b) : Rd w S (.sl t) [v] xs := by
 obtain ⟨len, cap, vs, e, rfl, h1, h2, h3, h4, h5⟩ := h
 refine ⟨_, _, _, rfl, h1, h2, fun a ha _ => by simp at ha; rw [← ha], by simp, fun hx => ⟨_, rfl, hs, fun i hi => ?_⟩⟩
 simpa using h5 i hi

theorem Mem.freeze (h : Mem X w S ρ H blk) {n b : Nat} {B : Blk} (hn : blk n = some (some B)) (hb : H n = some b) :
  Mem X w (fun k => S k ∨ k = b) ρ H (upd blk n (some none)) ∧ More w w S (fun k => S k ∨ k = b) ρ ρ := by
 have hS : ∀ k, S k → (S k ∨ k = b) := fun k hk => .inl hk
 have other : ∀ m C, upd blk n (some none) m = some (some C) → m ≠ n ∧ blk m = some (some C) := fun m C hm => by
  by_cases e : m = n
  ·subst e; rw [upd_same] at hm; simp at hm
  ·exact ⟨e, by rwa [upd_other _ _ e] at hm⟩
 refine ⟨{ h with rep := ?_, sep := ?_, apart := ?_, homes := ?_, old := ?_, never := ?_, s0 := fun k hk => .inl (h.s0 k hk), smine := ?_, gl := h.gl.mono hS (fun _ _ => rfl) }, ⟨hS, fun _ _ => rfl, fun _ _ x => x⟩⟩
 ·intro m C hm
  exact (h.rep m C (other m C hm).2).mono hS (fun _ _ => rfl) (fun _ _ x => x) (fun _ _ => rfl)
 ·intro m k C D c hm hk h1 h2
  exact h.sep m k C D c (other m C hm).2 (other k D hk).2 h1 h2
 ·intro m C c hm h1 hs
  obtain ⟨e, hC⟩ := other m C hm
  rcases hs with hs | rfl
  ·exact h.apart m C c hC h1 hs
  ·exact e (h.sep m n C _ c hC hn h1 hb)
 ·intro m C c hm h1
  exact h.homes m C c (other m C hm).2 h1
 ·intro k hk
  rcases hk with hk | rfl
  ·exact h.old k hk
  ·exact (h.rep n _ hn).home_lt hb
 ·intro m hm
  by_cases e : m = n
  ·subst e; rw [upd_same] at hm; simp at hm
  ·rw [upd_other _ _ e] at hm; exact h.never m hm
 ·intro k hk
  rcases hk with hk | rfl
  ·exact h.smine k hk
  ·exact .inr (h.homes n _ k hn hb)

theorem Mem.settle (h : Mem X w S ρ H blk) {n : Nat} {t : Ty} {excl : Bool} {xs : List t.den} (hn : blk n = some (some (.own t excl xs))) :
  ∃ S' H', Mem X w S' ρ H' (upd blk n (some (some (.settled t xs)))) ∧ More w w S S' ρ ρ ∧ ∃ v, ρ n = some v ∧ Rd w S' (.sl t) [v] xs := by
 obtain ⟨v, hv, hrow⟩ := h.rep n _ hn
 have other : ∀ m C, m ≠ n → upd blk n (some (some (.settled t xs))) m = some (some C) → blk m = some (some C) := fun m C e hm => by rwa [upd_other _ _ e] at hm
 rcases hrow with ⟨b, hb, hrow⟩ | ⟨he, hb, hfull⟩
 ·have hS : ∀ k, S k → (S k ∨ k = b) := fun k hk => .inl hk
  have hrd : Rd w (fun k => S k ∨ k = b) (.sl t) [v] xs := by
   refine rd_of_row (b := b) ?_ (.inr rfl)
   obtain ⟨len, cap, vs, e, h1, h2, h3, h4, h5, h6⟩ := hrow
   refine ⟨len, cap, vs, e, h1, h2, h3, h4, h5, fun i hi => ?_⟩
   obtain ⟨us, h7, h8⟩ := h6 i hi
   exact ⟨us, h7, Rd.mono hS (fun _ _ => rfl) _ _ _ h8⟩
  refine ⟨fun k => S k ∨ k = b, upd H n none, ?_, ⟨hS, fun _ _ => rfl, fun _ _ x => x⟩, v, hv, hrd⟩
  refine { h with rep := ?_, sep := ?_, apart := ?_, homes := ?_, old := ?_, never := ?_, s0 := fun k hk => .inl (h.s0 k hk), smine := ?_, gl := h.gl.mono hS (fun _ _ => rfl) }
  ·intro m C hm
   by_cases e : m = n
   ·subst e
    rw [upd_same] at hm
    obtain rfl : Blk.settled t xs = C := by simpa using hm
    exact ⟨v, hv, by rw [upd_same], hrd⟩
   ·rw [upd_other _ _ e]
    exact (h.rep m C (other m C e hm)).mono hS (fun _ _ => rfl) (fun _ _ x => x) (fun _ _ => rfl)
  ·intro m k C D c hm hk h1 h2
   by_cases e : m = n
   ·subst e; rw [upd_same] at h1; simp at h1
   ·by_cases e' : k = n
    ·subst e'; rw [upd_same] at h2; simp at h2
    ·rw [upd_other _ _ e] at h1; rw [upd_other _ _ e'] at h2
     exact h.sep m k C D c (other m C e hm) (other k D e' hk) h1 h2
  ·intro m C c hm h1 hs
   by_cases e : m = n
   ·subst e; rw [upd_same] at h1; simp at h1
   ·rw [upd_other _ _ e] at h1
    have hC := other m C e hm
    rcases hs with hs | rfl
    ·exact h.apart m C c hC h1 hs
    ·exact e (h.sep m n C _ c hC hn h1 hb)
  ·intro m C c hm h1
   by_cases e : m = n
   ·subst e; rw [upd_same] at h1; simp at h1
   ·rw [upd_other _ _ e] at h1
    exact h.homes m C c (other m C e hm) h1
  ·intro k hk
   rcases hk with hk | rfl
   ·exact h.old k hk
   ·exact (h.rep n _ hn).home_lt hb
  ·intro m hm
   by_cases e : m = n
   ·subst e; rw [upd_same] at hm; simp at hm
   ·rw [upd_other _ _ e] at hm; exact h.never m hm
  ·intro k hk
   rcases hk with hk | rfl
   ·exact h.smine k hk
   ·exact .inr (h.homes n _ k hn hb)
 ·refine ⟨S, H, h.retell hn ⟨v, hv, hb, hfull.1⟩, More.refl _ _ _, v, hv, hfull.1⟩
end mem

theorem Rep.of_mem {X : Cx} {w w' : World} {S S' : Nat → Prop} {ρ ρ' : Nat → Option Value} {H H' : Nat → Option Nat} {N : Nat} {st st' : St} {a : Act}
  (h : Rep X w S ρ H N st a) (hm : Mem X w' S' ρ' H' st'.blk) (hmore : More w w' S S' ρ ρ') (ht : st'.tmp = st.tmp) : Rep X w' S' ρ' H' N st' a :=
 { mem := hm, tmp := fun t v hv => (h.tmp t v (ht ▸ hv)).mono hmore.s hmore.heap hmore.names, size := h.size, defers := h.defers }

theorem Rep.put {X : Cx} {w : World} {S : Nat → Prop} {ρ : Nat → Option Value} {H : Nat → Option Nat} {N : Nat} {st : St} {a : Act}
  (h : Rep X w S ρ H N st a) {dst : Option Nat} (hd : dstOk N dst = true) {tv : TV} {v : Value} (hv : RepTV w S ρ tv v) : Rep X w S ρ H N (st.put dst tv) (a.put dst v) := by
 cases dst with
 | none => exact h
 | some d =>
  have hd : d < N := by simpa [dstOk] using hd
  refine { mem := h.mem, tmp := ?_, size := by simpa [Act.put] using h.size, defers := by simpa [Act.put] using h.defers }
  intro t u hu
  simp only [St.put] at hu
  simp only [Act.put]
  by_cases e : t = d
  ·subst e
   rw [if_pos rfl] at hu
   obtain rfl : tv = u := by simpa using hu
   have : (a.tmps.setIfInBounds t v).getD t undef = v := by
    simp [Array.getD_eq_getD_getElem?, Array.getElem?_setIfInBounds]
    rw [if_pos (by have := h.size; omega)]; rfl
   rw [this]; exact hv
  ·rw [if_neg e] at hu
   have : (a.tmps.setIfInBounds d v).getD t undef = a.tmps.getD t undef := by
    simp [Array.getD_eq_getD_getElem?, Array.getElem?_setIfInBounds, Ne.symm e]
   rw [this]; exact h.tmp t u hu

theorem ofValue_rep {w : World} {S : Nat → Prop} {ρ : Nat → Option Value} {v : Value} {a : AV} (h : ofValue v = some a) : RepAV w S ρ a v := by
 unfold ofValue at h
 split at h
 ·simp at h; subst h; rfl
 ·simp at h; subst h; rfl
 ·simp at h; subst h; rfl
 ·simp at h; subst h; rfl
 ·simp at h; subst h; exact ⟨rfl, rfl⟩
 ·simp at h; subst h; exact ⟨rfl, rfl⟩
 ·simp at h; subst h; exact ⟨rfl, rfl⟩
 ·simp at h; subst h; exact ⟨rfl, rfl⟩
 ·simp at h; subst h; exact ⟨rfl, rfl⟩
 ·rename_i f first caps
  split at h
  ·rename_i e1 e2
   simp at h; subst h
   have e1 : first = #[] := by simpa using e1
   subst e1
   exact ⟨caps, rfl, by rw [e2]; trivial⟩
  ·simp at h
 ·simp at h
theorem ofValues_rep {w : World} {S : Nat → Prop} {ρ : Nat → Option Value} : ∀ {vs : List Value} {l : List AV}, ofValues vs = some l → All2 (RepAV w S ρ) l vs
 | [], l, h => by simp [ofValues] at h; subst h; trivial
 | v :: vs, l, h => by
  simp only [ofValues] at h
  split at h
  ·rename_i a ha
   cases hr : ofValues vs with
   | none => simp [hr] at h
   | some l' => simp [hr] at h; subst h; exact ⟨ofValue_rep ha, ofValues_rep hr⟩
  ·simp at h
theorem ofConst_rep {w : World} {S : Nat → Prop} {ρ : Nat → Option Value} {v : Value} {x : TV} (h : ofConst v = some x) : RepTV w S ρ x v := by
 unfold ofConst at h
 split at h
 ·rename_i cs
  cases hr : ofValues cs.toList with
  | none => simp [hr] at h
  | some l => simp [hr] at h; subst h; exact ⟨cs, rfl, ofValues_rep hr⟩
 ·rename_i cs
  split at h
  ·rename_i e
   simp at h; subst h
   exact ⟨cs, rfl, by rw [e]; trivial⟩
  ·simp at h
 ·cases hr : ofValue v with
  | none => simp [hr] at h
  | some a => simp [hr] at h; subst h; exact ofValue_rep hr
theorem opd_rep {X : Cx} {w : World} {S : Nat → Prop} {ρ : Nat → Option Value} {H : Nat → Option Nat} {N : Nat} {st : St} {a : Act}
  (h : Rep X w S ρ H N st a) {x : Operand} {lg : List Loc} {r : TV × List Loc} (hr : (opd x).run st lg = some r) : RepTV w S ρ r.1 (a.eval x) := by
 cases x with
 | tmp t => exact h.tmp _ _ (run_rT hr)
 | const v => exact ofConst_rep (run_ofO hr)
 | global g => exact (rfl0 hr).elim
 | func f => have := run_pure' hr; subst this; exact ⟨#[], rfl, trivial⟩

/-! ### inversions -/
section inv
variable {w : World} {S : Nat → Prop} {ρ : Nat → Option Value} {v : Value}
theorem rep_i {k : IntKind} {n : Int} (h : RepTV w S ρ (.v (.one (.d (.int k) n))) v) : v = .int k n := by
 have h : [v] = [Value.int k n] := h
 simpa using h
theorem rep_b {b : Bool} (h : RepTV w S ρ (.v (.one (.d .bool b))) v) : v = .bool b := by
 have h : [v] = [Value.bool b] := h
 simpa using h
theorem rep_s {s : ByteArray} (h : RepTV w S ρ (.v (.one (.d .str s))) v) : v = .string s := by
 have h : [v] = [Value.string s] := h
 simpa using h
theorem asI_inv {st : St} {x : TV} {lg : List Loc} {r : (IntKind × Int) × List Loc} (h : (asI x).run st lg = some r) : x = .v (.one (.d (.int r.1.1) r.1.2)) := by
 unfold asI at h
 split at h
 ·have := run_pure' h; subst this; rfl
 ·exact (rfl0 h).elim
theorem asB_inv {st : St} {x : TV} {lg : List Loc} {r : Bool × List Loc} (h : (asB x).run st lg = some r) : x = .v (.one (.d .bool r.1)) := by
 unfold asB at h
 split at h
 ·have := run_pure' h; subst this; rfl
 ·exact (rfl0 h).elim
theorem asP_inv {st : St} {x : TV} {lg : List Loc} {r : (Nat × Nat) × List Loc} (h : (asP x).run st lg = some r) : x = .v (.one (.ptr r.1.1 r.1.2)) := by
 unfold asP at h
 split at h
 ·have := run_pure' h; subst this; rfl
 ·exact (rfl0 h).elim
end inv

def Does (P : Program) (X : Cx) (N : Nat) (st : St) (a : Act) (w : World) (S : Nat → Prop) (ρ : Nat → Option Value) (s : Sem Next) (x : Out) : Prop :=
 ∃ v w' S' ρ' H', (s.run P w = .ok (.value v) w' ∨ (s.run P w = .ok .skip w' ∧ v = undef)) ∧ Rep X w' S' ρ' H' N (st.sets x.wr) a ∧ RepTV w' S' ρ' x.tv v ∧ More w w' S S' ρ ρ'

theorem Does.value {P : Program} {X : Cx} {N : Nat} {st : St} {a : Act} {w : World} {S : Nat → Prop} {ρ : Nat → Option Value} {H : Nat → Option Nat} {s : Sem Next} {tv : TV} {v : Value}
  (h : Rep X w S ρ H N st a) (hs : s.run P w = .ok (.value v) w) (hv : RepTV w S ρ tv v) : Does P X N st a w S ρ s { tv := tv } :=
 ⟨v, w, S, ρ, H, .inl hs, h, hv, More.refl _ _ _⟩

end Go.Proofs.YtijjlpgcpdapnaaGreatDoor.Aev

/- AEV: data out of cells, cells out of data, and what loads and stores do. -/
namespace Go.Proofs.YtijjlpgcpdapnaaGreatDoor.Aev
set_option linter.unusedVariables false
set_option linter.unusedSimpArgs false
open Go

theorem castD_self {t : Ty} (h : t = t) (x : t.den) : castD h x = x := rfl

theorem Rd.oneCell {w : World} {S : Nat → Prop} : ∀ (t : Ty) (vs : List Value) (x : t.den), Rd w S t vs x → ∀ v ∈ vs, v.oneCell' = true := by
 intro t
 induction t with
 | unit => intro vs x h; simp [Rd] at h; simp [h]
 | bool => intro vs x h; simp [Rd] at h; simp [h, Value.oneCell']
 | int k => intro vs x h; simp [Rd] at h; simp [h, Value.oneCell']
 | str => intro vs x h; simp [Rd] at h; simp [h, Value.oneCell']
 | flt => intro vs x h; simp [Rd] at h; simp [h, Value.oneCell']
 | pair a b iha ihb =>
  rintro vs x ⟨v1, v2, rfl, h1, h2⟩ v hv
  rcases List.mem_append.1 hv with hv | hv
  ·exact iha _ _ h1 v hv
  ·exact ihb _ _ h2 v hv
 | sl e ih =>
  rintro vs x ⟨base, len, cap, rfl, _⟩ v hv
  simp at hv; simp [hv, Value.oneCell']

section
variable {w : World} {S : Nat → Prop} {ρ : Nat → Option Value}
theorem RepAV.oneCell {a : AV} {v : Value} (h : RepAV w S ρ a v) : v.oneCell' = true := by
 cases a with
 | d t x => exact Rd.oneCell t _ x h v (by simp)
 | raw u => obtain ⟨rfl, h⟩ := h; exact h
 | ptr n off => obtain ⟨b, _, rfl⟩ := h; rfl
 | own n => obtain ⟨_, base, len, cap, rfl⟩ := h; rfl
 | fn f caps => obtain ⟨vs, rfl, _⟩ := h; rfl
 | arr n m => obtain ⟨b, _, rfl⟩ := h; rfl
 | ifc t ag ty x => obtain ⟨us, u, rfl, _⟩ := h; rfl
 | mp n => obtain ⟨b, _, rfl⟩ := h; rfl
 | slb n m => obtain ⟨b, _, rfl⟩ := h; rfl
theorem cells_one {v : Value} (h : v.oneCell' = true) : v.cells = #[v] := by cases v <;> first | rfl | simp [Value.oneCell'] at h
theorem RepVV.cells {x : VV} {v : Value} (h : RepVV w S ρ x v) : All2 (RepAV w S ρ) x.cells v.cells.toList := by
 cases x with
 | one a => rw [cells_one (RepAV.oneCell h)]; exact ⟨h, trivial⟩
 | agg cs => obtain ⟨vs, rfl, h⟩ := h; exact h

theorem flat_rep : ∀ (t : Ty) (us : List Value) (x : t.den), Rd w S t us x → All2 (RepAV w S ρ) (flat t x) us := by
 intro t
 induction t with
 | unit => intro us x h; simp [Rd] at h; subst h; exact trivial
 | bool => intro us x h; have e := h; simp [Rd] at e; subst e; exact ⟨h, trivial⟩
 | int k => intro us x h; have e := h; simp [Rd] at e; subst e; exact ⟨h, trivial⟩
 | str => intro us x h; have e := h; simp [Rd] at e; subst e; exact ⟨h, trivial⟩
 | flt => intro us x h; have e := h; simp [Rd] at e; subst e; exact ⟨h, trivial⟩
 | pair a b iha ihb =>
  rintro us x ⟨v1, v2, rfl, h1, h2⟩
  exact All2.append (iha _ _ h1) (ihb _ _ h2)
 | sl e ih =>
  intro us x h
  obtain ⟨base, len, cap, rfl, h'⟩ := h
  exact ⟨⟨base, len, cap, rfl, h'⟩, trivial⟩

theorem rd_nil {e : Ty} : Rd w S (.sl e) [.slice none 0 0] ([] : List e.den) := ⟨none, 0, 0, rfl, rfl, Nat.le_refl _, by simp, by simp, fun h => (h rfl).elim⟩
end

/-! ### settling -/
def ToSettle (st : St) (wr : List (Nat × Option Blk)) : Prop :=
 ∀ p ∈ wr, (∃ t excl xs, p.2 = some (.settled t xs) ∧ st.blk p.1 = some (some (.own t excl xs))) ∨ (p.2 = none ∧ ∃ cs, st.blk p.1 = some (some (.box cs)))
def Settled (w : World) (S : Nat → Prop) (ρ : Nat → Option Value) (wr : List (Nat × Option Blk)) : Prop :=
 ∀ p ∈ wr, (∃ t xs v, p.2 = some (.settled t xs) ∧ ρ p.1 = some v ∧ Rd w S (.sl t) [v] xs) ∨ (p.2 = none ∧ ∃ b, ρ p.1 = some (Ptr b 0) ∧ S b)
theorem Settled.sett {w : World} {S : Nat → Prop} {ρ : Nat → Option Value} {wr : List (Nat × Option Blk)} (h : Settled w S ρ wr) {n : Nat} {B : Blk} (hm : (n, some B) ∈ wr) :
  ∃ t xs v, some B = some (.settled t xs) ∧ ρ n = some v ∧ Rd w S (.sl t) [v] xs := by
 rcases h _ hm with h | ⟨h, _⟩
 ·exact h
 ·simp at h
theorem Settled.box {w : World} {S : Nat → Prop} {ρ : Nat → Option Value} {wr : List (Nat × Option Blk)} (h : Settled w S ρ wr) {n : Nat} (hm : (n, none) ∈ wr) :
  ∃ b, ρ n = some (Ptr b 0) ∧ S b := by
 rcases h _ hm with ⟨_, _, _, h, _⟩ | ⟨_, h⟩
 ·simp at h
 ·exact h

theorem set_blk (st : St) (n : Nat) (b : Option Blk) : (st.set n b).blk = upd st.blk n (some b) := rfl
theorem set_tmp (st : St) (n : Nat) (b : Option Blk) : (st.set n b).tmp = st.tmp := rfl
theorem sets_tmp : ∀ (wr : List (Nat × Option Blk)) (st : St), (st.sets wr).tmp = st.tmp
 | [], st => rfl
 | (n, b) :: l, st => by rw [St.sets, sets_tmp l, set_tmp]
theorem sets_append : ∀ (wr wr' : List (Nat × Option Blk)) (st : St), st.sets (wr ++ wr') = (st.sets wr).sets wr'
 | [], _, st => rfl
 | (n, b) :: l, wr', st => by simp [St.sets, sets_append l]
theorem sets_other : ∀ (wr : List (Nat × Option Blk)) (st : St) (n : Nat), (∀ p ∈ wr, p.1 ≠ n) → (st.sets wr).blk n = st.blk n
 | [], st, n, h => rfl
 | (m, b) :: l, st, n, h => by
  rw [St.sets, sets_other l _ n (fun p hp => h p (by simp [hp])), set_blk, upd_other]
  exact (h (m, b) (by simp)).symm

def CanSettle (S : Nat → Prop) (ρ : Nat → Option Value) (st : St) (p : Nat × Option Blk) : Prop :=
 (∃ t xs, p.2 = some (.settled t xs) ∧ ((∃ excl, st.blk p.1 = some (some (.own t excl xs))) ∨ (st.blk p.1 = some (some (.settled t xs))))) ∨
 (p.2 = none ∧ ((∃ cs, st.blk p.1 = some (some (.box cs))) ∨ (st.blk p.1 = some none ∧ ∃ b, ρ p.1 = some (Ptr b 0) ∧ S b)))
theorem settle_all {X : Cx} {w : World} {ρ : Nat → Option Value} : ∀ (wr : List (Nat × Option Blk)) {S : Nat → Prop} {H : Nat → Option Nat} {st : St}, Mem X w S ρ H st.blk →
  (∀ p ∈ wr, CanSettle S ρ st p) →
  ∃ S' H', Mem X w S' ρ H' (st.sets wr).blk ∧ More w w S S' ρ ρ ∧ Settled w S' ρ wr
 | [], S, H, st, h, _ => ⟨S, H, h, More.refl _ _ _, fun p hp => by simp at hp⟩
 | (n, b) :: wr, S, H, st, h, hw => by
  rcases hw (n, b) (by simp) with ⟨t, xs, rfl, hb⟩ | ⟨rfl, hb⟩
  ·obtain ⟨S1, H1, h1, m1, v, hv, hr⟩ : ∃ S' H', Mem X w S' ρ H' (upd st.blk n (some (some (.settled t xs)))) ∧ More w w S S' ρ ρ ∧ ∃ v, ρ n = some v ∧ Rd w S' (.sl t) [v] xs := by
    rcases hb with ⟨excl, hb⟩ | hb
    ·exact h.settle hb
    ·obtain ⟨v, hv, hh, hr⟩ := h.rep n _ hb
     exact ⟨S, H, h.retell hb ⟨v, hv, hh, hr⟩, More.refl _ _ _, v, hv, hr⟩
   obtain ⟨S2, H2, h2, m2, s2⟩ := settle_all wr (S := S1) (H := H1) (st := st.set n (some (.settled t xs))) h1 (by
    intro p hp
    rcases hw p (by simp [hp]) with ⟨t', xs', e, h'⟩ | ⟨e, h'⟩
    ·left
     refine ⟨t', xs', e, ?_⟩
     rw [set_blk]
     by_cases en : p.1 = n
     ·right
      rw [en, upd_same]
      rw [en] at h'
      rcases hb with ⟨excl, hb⟩ | hb
      ·rcases h' with ⟨excl', h'⟩ | h'
       ·rw [hb] at h'; simp at h'; obtain ⟨rfl, _, h'⟩ := h'; cases h'; rfl
       ·rw [hb] at h'; simp at h'
      ·rcases h' with ⟨excl', h'⟩ | h'
       ·rw [hb] at h'; simp at h'
       ·rw [hb] at h'; simp at h'; obtain ⟨rfl, h'⟩ := h'; cases h'; rfl
     ·rw [upd_other _ _ en]; exact h'
    ·right
     refine ⟨e, ?_⟩
     rw [set_blk]
     by_cases en : p.1 = n
     ·exfalso
      rw [en] at h'
      rcases hb with ⟨excl, hb⟩ | hb <;> rcases h' with ⟨cs, h'⟩ | ⟨h', _⟩ <;> rw [hb] at h' <;> simp at h'
     ·rw [upd_other _ _ en]
      rcases h' with h' | ⟨h', b', k1, k2⟩
      ·exact .inl h'
      ·exact .inr ⟨h', b', k1, m1.s _ k2⟩)
   refine ⟨S2, H2, h2, m1.trans m2, fun p hp => ?_⟩
   simp only [List.mem_cons] at hp
   rcases hp with rfl | hp
   ·exact .inl ⟨t, xs, v, rfl, hv, Rd.mono m2.s m2.heap _ _ _ hr⟩
   ·exact s2 p hp
  ·obtain ⟨S1, H1, h1, m1, b', hv, hs⟩ : ∃ S' H', Mem X w S' ρ H' (upd st.blk n (some none)) ∧ More w w S S' ρ ρ ∧ ∃ b', ρ n = some (Ptr b' 0) ∧ S' b' := by
    rcases hb with ⟨cs, hb⟩ | ⟨hb, b', k1, k2⟩
    ·obtain ⟨b', vs, e, k0, k1, _⟩ := h.rep n _ hb
     obtain ⟨hm, hmore⟩ := h.freeze hb k0
     exact ⟨_, H, hm, hmore, b', k1, .inr rfl⟩
    ·exact ⟨S, H, h.drop hb, More.refl _ _ _, b', k1, k2⟩
   obtain ⟨S2, H2, h2, m2, s2⟩ := settle_all wr (S := S1) (H := H1) (st := st.set n none) h1 (by
    intro p hp
    rcases hw p (by simp [hp]) with ⟨t', xs', e, h'⟩ | ⟨e, h'⟩
    ·left
     refine ⟨t', xs', e, ?_⟩
     rw [set_blk]
     by_cases en : p.1 = n
     ·exfalso
      rw [en] at h'
      rcases hb with ⟨cs, hb⟩ | ⟨hb, _⟩ <;> rcases h' with ⟨excl, h'⟩ | h' <;> rw [hb] at h' <;> simp at h'
     ·rw [upd_other _ _ en]; exact h'
    ·right
     refine ⟨e, ?_⟩
     rw [set_blk]
     by_cases en : p.1 = n
     ·rw [en, upd_same]
      exact .inr ⟨rfl, b', hv, hs⟩
     ·rw [upd_other _ _ en]
      rcases h' with h' | ⟨h', b', k1, k2⟩
      ·exact .inl h'
      ·exact .inr ⟨h', b', k1, m1.s _ k2⟩)
   refine ⟨S2, H2, h2, m1.trans m2, fun p hp => ?_⟩
   simp only [List.mem_cons] at hp
   rcases hp with rfl | hp
   ·exact .inr ⟨rfl, b', hv, m2.s _ hs⟩
   ·exact s2 p hp

theorem ToSettle.all {st : St} {wr : List (Nat × Option Blk)} (h : ToSettle st wr) {S : Nat → Prop} {ρ : Nat → Option Value} : ∀ p ∈ wr, CanSettle S ρ st p := by
 intro p hp
 rcases h p hp with ⟨t, excl, xs, h1, h2⟩ | ⟨h1, h2⟩
 ·exact .inl ⟨t, xs, h1, .inl ⟨excl, h2⟩⟩
 ·exact .inr ⟨h1, .inl h2⟩
theorem ToSettle.no {st : St} {wr : List (Nat × Option Blk)} (h : ToSettle st wr) {p : Nat × Option Blk} (hp : p ∈ wr) (h0 : st.blk p.1 = none) : False := by
 rcases h p hp with ⟨t, excl, xs, _, h2⟩ | ⟨_, cs, h2⟩ <;> rw [h0] at h2 <;> simp at h2
theorem ToSettle.nil {st : St} : ToSettle st [] := fun p hp => by simp at hp
theorem ToSettle.append {st : St} {l m : List (Nat × Option Blk)} (h : ToSettle st l) (k : ToSettle st m) : ToSettle st (l ++ m) := by
 intro p hp
 rcases List.mem_append.1 hp with hp | hp
 ·exact h p hp
 ·exact k p hp
theorem Settled.left {w : World} {S : Nat → Prop} {ρ : Nat → Option Value} {l m : List (Nat × Option Blk)} (h : Settled w S ρ (l ++ m)) : Settled w S ρ l := fun p hp => h p (by simp [hp])
theorem Settled.right {w : World} {S : Nat → Prop} {ρ : Nat → Option Value} {l m : List (Nat × Option Blk)} (h : Settled w S ρ (l ++ m)) : Settled w S ρ m := fun p hp => h p (by simp [hp])

section
variable {X : Cx} {w : World} {S : Nat → Prop} {ρ : Nat → Option Value} {H : Nat → Option Nat} {st : St}

theorem toD_spec {t : Ty} {a : AV} {lg : List Loc} {r : (t.den × List (Nat × Option Blk)) × List Loc} (h : (toD t a).run st lg = some r) (hm : Mem X w S ρ H st.blk) :
  ToSettle st r.1.2 ∧ ∀ {S' : Nat → Prop} {v : Value}, (∀ b, S b → S' b) → Settled w S' ρ r.1.2 → RepAV w S ρ a v → Rd w S' t [v] r.1.1 := by
 cases a with
 | d u x =>
  simp only [toD] at h
  split at h
  ·rename_i e
   subst e
   have := run_pure' h; subst this
   exact ⟨ToSettle.nil, fun hS _ hv => Rd.mono hS (fun _ _ => rfl) _ _ _ hv⟩
  ·exact (rfl0 h).elim
 | raw u =>
  simp only [toD] at h
  split at h
  ·have := run_pure' h; subst this
   exact ⟨ToSettle.nil, fun hS _ hv => by obtain ⟨rfl, _⟩ := hv; exact rd_nil⟩
  ·exact (rfl0 h).elim
 | ptr n off => exact (rfl0 h).elim
 | fn f caps => exact (rfl0 h).elim
 | arr n m => exact (rfl0 h).elim
 | slb n m => exact (rfl0 h).elim
 | ifc t ag ty x => exact (rfl0 h).elim
 | mp n => exact (rfl0 h).elim
 | own n =>
  simp only [toD] at h
  split at h
  ·rename_i e
   obtain ⟨B, lg1, h1, h2⟩ := rbs h
   have hb := run_rB h1
   simp only at hb
   split at h2
   ·rename_i u excl xs
    split at h2
    ·rename_i e'; subst e'
     have := run_pure' h2; subst this
     refine ⟨fun p hp => ?_, fun hS hs hv => ?_⟩
     ·simp at hp; subst hp; exact .inl ⟨_, _, _, rfl, hb⟩
     ·obtain ⟨t', xs', v', e1, e2, e3⟩ := hs.sett (n := n) (B := .settled u xs) (by simp)
      simp at e1; obtain ⟨rfl, e1⟩ := e1; cases e1
      obtain ⟨hv, _⟩ := hv
      rw [hv] at e2; cases e2
      exact e3
    ·exact (rfl0 h2).elim
   ·rename_i u xs
    split at h2
    ·rename_i e'; subst e'
     have := run_pure' h2; subst this
     refine ⟨ToSettle.nil, fun hS hs hv => ?_⟩
     obtain ⟨v', e2, _, e3⟩ := hm.rep n _ hb
     obtain ⟨hv, _⟩ := hv
     rw [hv] at e2; cases e2
     exact Rd.mono hS (fun _ _ => rfl) _ _ _ e3
    ·exact (rfl0 h2).elim
   ·exact (rfl0 h2).elim
  ·exact (rfl0 h).elim

theorem asm_spec : ∀ (t : Ty) {l : List AV} {lg : List Loc} {r : (t.den × List (Nat × Option Blk) × List AV) × List Loc}, (asm t l).run st lg = some r → Mem X w S ρ H st.blk →
  ToSettle st r.1.2.1 ∧ ∃ l1, l = l1 ++ r.1.2.2 ∧ l1.length = t.size ∧ ∀ {S' : Nat → Prop} {vs : List Value}, (∀ b, S b → S' b) → Settled w S' ρ r.1.2.1 → All2 (RepAV w S ρ) l1 vs → Rd w S' t vs r.1.1 := by
 intro t
 have atom : ∀ (t : Ty), t.size = 1 → ∀ {c : AV} {l : List AV} {lg : List Loc} {r : (t.den × List (Nat × Option Blk) × List AV) × List Loc},
   (do let (x, wr) ← toD t c; pure (x, wr, l) : AM (t.den × List (Nat × Option Blk) × List AV)).run st lg = some r → Mem X w S ρ H st.blk →
   ToSettle st r.1.2.1 ∧ ∃ l1, c :: l = l1 ++ r.1.2.2 ∧ l1.length = t.size ∧ ∀ {S' : Nat → Prop} {vs : List Value}, (∀ b, S b → S' b) → Settled w S' ρ r.1.2.1 → All2 (RepAV w S ρ) l1 vs → Rd w S' t vs r.1.1 := by
  intro t ht c l lg r h hm
  obtain ⟨⟨x, wr⟩, lg1, h1, h2⟩ := rbs h
  have := run_pure h2; subst this
  obtain ⟨h3, h4⟩ := toD_spec h1 hm
  refine ⟨h3, [c], rfl, by simp [ht], fun hS hs hv => ?_⟩
  obtain ⟨v, m, rfl, hv, hm'⟩ := hv.cons_left
  rw [hm'.nil_left]
  exact h4 hS hs hv
 induction t with
 | unit =>
  intro l lg r h hm
  simp only [asm] at h
  have := run_pure' h; subst this
  exact ⟨ToSettle.nil, [], rfl, rfl, fun _ _ hv => hv.nil_left⟩
 | pair a b iha ihb =>
  intro l lg r h hm
  simp only [asm] at h
  obtain ⟨⟨x, wr, l1⟩, lg1, h1, h⟩ := rbs h
  obtain ⟨⟨y, wr', l2⟩, lg2, h2, h⟩ := rbs h
  have := run_pure h; subst this
  obtain ⟨s1, p1, e1, n1, r1⟩ := iha h1 hm
  obtain ⟨s2, p2, e2, n2, r2⟩ := ihb h2 hm
  simp only at s1 e1 r1 s2 e2 r2
  refine ⟨s1.append s2, p1 ++ p2, by rw [e1, e2, List.append_assoc], by simp [n1, n2, Ty.size], fun hS hs hv => ?_⟩
  obtain ⟨m1, m2, rfl, hv1, hv2⟩ := hv.split
  exact ⟨m1, m2, rfl, r1 hS hs.left hv1, r2 hS hs.right hv2⟩
 | bool => intro l lg r h hm; cases l with
  | nil => exact (rfl0 h).elim
  | cons c l => exact atom .bool rfl h hm
 | int k => intro l lg r h hm; cases l with
  | nil => exact (rfl0 h).elim
  | cons c l => exact atom (.int k) rfl h hm
 | str => intro l lg r h hm; cases l with
  | nil => exact (rfl0 h).elim
  | cons c l => exact atom .str rfl h hm
 | flt => intro l lg r h hm; cases l with
  | nil => exact (rfl0 h).elim
  | cons c l => exact atom .flt rfl h hm
 | sl e ih => intro l lg r h hm; cases l with
  | nil => exact (rfl0 h).elim
  | cons c l =>
   cases c with
   | slb n m =>
    simp only [asm] at h
    obtain ⟨B, lg1, h1, h⟩ := rbs h
    have hb := run_rB h1
    simp only at h hb
    split at h
    ·rename_i cs
     obtain ⟨⟨xs, wr⟩, lg2, h2, h⟩ := rbs h
     have := run_pure h; subst this
     have hN : ∀ (n : Nat) {l : List AV} {lg : List Loc} {r : (List e.den × List (Nat × Option Blk)) × List Loc}, (asmN (fun l => asm e l) n l).run st lg = some r →
       ToSettle st r.1.2 ∧ r.1.1.length = n ∧ ∀ {S' : Nat → Prop} {vs : List Value}, (∀ b, S b → S' b) → Settled w S' ρ r.1.2 → All2 (RepAV w S ρ) l vs → vs.length = n * e.size ∧ ∀ i (h : i < r.1.1.length), Rd w S' e ((vs.drop (i * e.size)).take e.size) r.1.1[i] := by
      intro n
      induction n with
      | zero =>
       intro l lg r h
       cases l with
       | nil => cases run_pure' h; exact ⟨ToSettle.nil, rfl, fun _ _ hv => ⟨by rw [hv.nil_left]; simp, fun i hi => by simp at hi⟩⟩
       | cons _ _ => exact (rfl0 h).elim
      | succ n ihn =>
       intro l lg r h
       simp only [asmN] at h
       obtain ⟨⟨x, wr1, l1⟩, lg3, h3, h⟩ := rbs h
       obtain ⟨⟨ys, wr2⟩, lg4, h4, h⟩ := rbs h
       have := run_pure h; subst this
       obtain ⟨s1, p1, e1, n1, r1⟩ := ih h3 hm
       obtain ⟨s2, n2, r2⟩ := ihn h4
       simp only at s1 e1 r1 s2 n2 r2
       refine ⟨s1.append s2, by simp [n2], fun {S'} {vs} hS hs hv => ?_⟩
       rw [e1] at hv
       obtain ⟨m1, m2, rfl, hv1, hv2⟩ := hv.split
       have k1 := r1 hS hs.left hv1
       obtain ⟨k2, k3⟩ := r2 hS hs.right hv2
       have hl := hv1.length
       rw [n1] at hl
       refine ⟨by simp [← hl, k2, Nat.add_mul, Nat.add_comm], fun i hi => ?_⟩
       cases i with
       | zero =>
        simp only [Nat.zero_mul, List.drop_zero, List.getElem_cons_zero]
        rw [hl, List.take_left]
        exact k1
       | succ i =>
        have e2 : (i + 1) * e.size = m1.length + i * e.size := by rw [Nat.add_mul, Nat.one_mul, ← hl, Nat.add_comm]
        rw [e2, ← List.drop_drop, List.drop_left]
        exact k3 i (by simpa using hi)
     obtain ⟨s1, n1, r1⟩ := hN m h2
     simp only at s1 n1 r1
     refine ⟨s1.append fun p hp => by simp at hp; subst hp; exact .inr ⟨rfl, cs, hb⟩, [.slb n m], rfl, rfl, fun {S'} {vs} hS hs hv => ?_⟩
     obtain ⟨v, m', rfl, hv, hm'⟩ := hv.cons_left
     rw [hm'.nil_left]
     obtain ⟨b, hρ, hvv⟩ := hv
     obtain ⟨b', hρ', hSb⟩ := hs.right.box (n := n) (by simp)
     rw [hρ] at hρ'; simp at hρ'; subst hρ'
     obtain ⟨b2, us, el, _, hρ2, hheap, hcs⟩ := hm.rep n _ hb
     rw [hρ] at hρ2; simp at hρ2; subst hρ2
     obtain ⟨k1, k2⟩ := r1 hS hs.left hcs
     have hsz : us.size = m * e.size := by simpa using k1
     refine rd_of_row (b := b) ⟨m, m, us, el, hvv, n1.symm, Nat.le_refl _, hheap, hsz, fun i hi => ⟨_, ⟨us, el, _, hheap, ?_, rfl⟩, k2 i hi⟩⟩ hSb
     have hi' : i < m := n1 ▸ hi
     have : (i + 1) * e.size ≤ m * e.size := Nat.mul_le_mul_right _ (by omega)
     rw [Nat.add_mul, Nat.one_mul] at this
     omega
    ·exact (rfl0 h).elim
   | _ => exact atom (.sl e) rfl h hm

theorem normVV_spec {t : Ty} {x : VV} {lg : List Loc} {r : (VV × List (Nat × Option Blk)) × List Loc} (h : (normVV t x).run st lg = some r) (hm : Mem X w S ρ H st.blk) :
  ToSettle st r.1.2 ∧ ∀ {S' : Nat → Prop} {v : Value}, (∀ b, S b → S' b) → Settled w S' ρ r.1.2 → RepVV w S ρ x v → RepVV w S' ρ r.1.1 v := by
 cases x with
 | one a =>
  simp only [normVV] at h
  obtain ⟨⟨x, wr, l⟩, lg1, h1, h⟩ := rbs h
  obtain ⟨s1, p1, e1, n1, r1⟩ := asm_spec t h1 hm
  simp only at h e1 r1 s1
  split at h
  ·rename_i c hc
   have := run_pure h; subst this
   refine ⟨s1, fun hS hs hv => ?_⟩
   have e1 : p1 = [a] := by simpa using e1.symm
   subst e1
   have hr := r1 (vs := [_]) hS hs ⟨hv, trivial⟩
   have := flat_rep (ρ := ρ) t _ x hr
   rw [hc] at this
   exact this.1
  ·exact (rfl0 h).elim
 | agg cs =>
  simp only [normVV] at h
  obtain ⟨⟨x, wr, l⟩, lg1, h1, h⟩ := rbs h
  obtain ⟨s1, p1, e1, n1, r1⟩ := asm_spec t h1 hm
  simp only at h e1 r1 s1
  split at h
  ·have := run_pure h; subst this
   refine ⟨s1, fun hS hs hv => ?_⟩
   obtain ⟨vs, rfl, hv⟩ := hv
   have e1 : p1 = cs := by simpa using e1.symm
   subst e1
   exact ⟨vs, rfl, flat_rep t _ x (r1 hS hs hv)⟩
  ·exact (rfl0 h).elim
end

end Go.Proofs.YtijjlpgcpdapnaaGreatDoor.Aev

/- AEV: parts, loads and stores as the model runs them. -/
namespace Go.Proofs.YtijjlpgcpdapnaaGreatDoor.Aev
set_option linter.unusedVariables false
set_option linter.unusedSimpArgs false
open Go

theorem ur0 {P : Program} {t : TypeId} {d : TypeDesc} (h : P.underlying t = some d) (w : World) : (underlying t).run P w = .ok d w := run_underlying h w
theorem typeInfo_run {P : Program} {t : TypeId} {i : TypeInfo} (h : P.info? t = some i) (w : World) : (typeInfo t).run P w = .ok i w := by simp [typeInfo, h]
theorem sizeOf_run {P : Program} {t : TypeId} {i : TypeInfo} (h : P.info? t = some i) (w : World) : (Go.sizeOf t).run P w = .ok i.size w := by simp [Go.sizeOf, typeInfo_run h]

theorem isAggT_run {P : Program} {t : TypeId} {b : Bool} {n : Nat} (h : isAggT P t = some (b, n)) (w : World) : (isAgg t).run P w = .ok b w ∧ (Go.sizeOf t).run P w = .ok n w := by
 unfold isAggT at h
 split at h
 ·rename_i fs i h1 h2
  simp at h; obtain ⟨rfl, rfl⟩ := h
  exact ⟨by simp [isAgg, ur0 h1], sizeOf_run h2 w⟩
 ·rename_i k e i h1 h2
  simp at h; obtain ⟨rfl, rfl⟩ := h
  exact ⟨by simp [isAgg, ur0 h1], sizeOf_run h2 w⟩
 ·rename_i d i h3 h4 h1 h2
  simp at h; obtain ⟨rfl, rfl⟩ := h
  refine ⟨?_, sizeOf_run h2 w⟩
  simp only [isAgg, Sem.run_bind, ur0 h1, Result.andThen_ok]
  first | rfl | (split <;> first | rfl | (exfalso; first | exact h3 _ rfl | exact h4 _ _ rfl))
 ·simp at h

section
variable {w : World} {S : Nat → Prop} {ρ : Nat → Option Value}

theorem cut_some {cs l : List AV} {off n : Nat} (h : cut cs off n = some l) : off + n ≤ cs.length ∧ l = (cs.drop off).take n := by
 unfold cut at h
 split at h
 ·rename_i hl; simp at h; exact ⟨hl, h.symm⟩
 ·simp at h

theorem partA_run {P : Program} {t : TypeId} {cs : List AV} {off : Nat} {v : VV} (h : partA P t cs off = some v) {vs : Array Value} (hc : All2 (RepAV w S ρ) cs vs.toList) :
  ∃ u, (part t vs off).run P w = .ok u w ∧ RepVV w S ρ v u := by
 unfold partA at h
 have hlen := hc.length
 split at h
 ·rename_i n hg
  obtain ⟨ha, hs⟩ := isAggT_run hg w
  cases hcut : cut cs off n with
  | none => simp [hcut] at h
  | some l =>
   simp [hcut] at h; subst h
   obtain ⟨h1, rfl⟩ := cut_some hcut
   refine ⟨.agg (vs.extract off (off + n)), by simp [part, ha, hs], vs.extract off (off + n), rfl, ?_⟩
   have := (hc.drop off).take n
   rw [Array.toList_extract, List.extract_eq_take_drop]
   rwa [Nat.add_sub_cancel_left]
 ·rename_i n hg
  obtain ⟨ha, hs⟩ := isAggT_run hg w
  split at h
  ·rename_i c hcut
   simp at h; subst h
   obtain ⟨h1, h2⟩ := cut_some hcut
   have hoff : cs[off]? = some c := by
    have : ((cs.drop off).take 1)[0]? = some c := by rw [← h2]; rfl
    simpa using this
   obtain ⟨u, hu, hr⟩ := hc.get hoff
   have hu' : vs[off]? = some u := by simpa using hu
   exact ⟨u, by simp [part, ha, hu'], hr⟩
  ·simp at h
 ·simp at h

theorem addr_add {b off i : Nat} : (⟨b, off, none⟩ : Addr).add i = ⟨b, off + i, none⟩ := by unfold Addr.add; split <;> simp_all

theorem load_cells {P : Program} {b off n : Nat} {us : List Value} (h : cellsAt w b off n us) : (loadCells ⟨b, off, none⟩ n).run P w = .ok us.toArray w := by
 have hl := h.length
 obtain ⟨c, e, fr, h1, h2, h3⟩ := h
 rw [← hl]
 refine run_loadCells_list w _ us (fun j v hv => ?_)
 rw [addr_add, cell_of_row w b _ c e fr h1]
 have hj : j < n := by
  have : j < us.length := by
   rcases Nat.lt_or_ge j us.length with h | h
   ·exact h
   ·simp [List.getElem?_eq_none h] at hv
  omega
 rw [h3] at hv
 simp [hj] at hv
 simpa using hv

theorem cellsAt_of_heap {b off n : Nat} {vs : Array Value} {e : TypeId} {fr : Nat × Nat} (h : w.heap[b]? = some (.cells vs e fr)) (hn : off + n ≤ vs.size) : cellsAt w b off n ((vs.toList.drop off).take n) :=
 ⟨vs, e, fr, h, hn, rfl⟩

theorem loadVar_cells {P : Program} {t : TypeId} {isA : Bool} {n b off : Nat} (hg : isAggT P t = some (isA, n)) {us : List Value} (h : cellsAt w b off (if isA then n else 1) us) :
  (loadVar t ⟨b, off, none⟩).run P w = .ok (if isA then .agg us.toArray else us.headD undef) w := by
 obtain ⟨ha, hs⟩ := isAggT_run hg w
 cases isA with
 | true =>
  have h : cellsAt w b off n us := by simpa using h
  simp [loadVar, ha, hs, load_cells (P := P) h]
 | false =>
  have hl := h.length
  obtain ⟨c, e, fr, h1, h2, h3⟩ := h
  simp only [Bool.false_eq_true, if_false] at hl h2 h3
  match us, hl with
  | [u], _ =>
   have hcell : w.cell? ⟨b, off, none⟩ = some u := by
    rw [cell_of_row w b _ c e fr h1]
    have : ((c.toList.drop off).take 1)[0]? = some u := by rw [← h3]; rfl
    simpa using this
   simp [loadVar, ha, hcell]

theorem loadVar_box {P : Program} {t : TypeId} {cs : List AV} {off b : Nat} {v : VV} (h : partA P t cs off = some v) {vs : Array Value} {e : TypeId} {fr : Nat × Nat}
  (hb : w.heap[b]? = some (.cells vs e fr)) (hc : All2 (RepAV w S ρ) cs vs.toList) : ∃ u, (loadVar t ⟨b, off, none⟩).run P w = .ok u w ∧ RepVV w S ρ v u := by
 have hlen := hc.length
 simp only [Array.length_toList] at hlen
 unfold partA at h
 split at h
 ·rename_i n hg
  cases hcut : cut cs off n with
  | none => simp [hcut] at h
  | some l =>
   simp [hcut] at h; subst h
   obtain ⟨h1, rfl⟩ := cut_some hcut
   have hc' := cellsAt_of_heap (off := off) (n := n) hb (by omega)
   exact ⟨_, loadVar_cells hg (by simpa using hc'), _, rfl, by simpa using (hc.drop off).take n⟩
 ·rename_i n hg
  split at h
  ·rename_i c hcut
   simp at h; subst h
   obtain ⟨h1, h2⟩ := cut_some hcut
   have hc' := cellsAt_of_heap (off := off) (n := 1) hb (by omega)
   have hr := (hc.drop off).take 1
   rw [← h2] at hr
   obtain ⟨u, m, hu, hr', hn⟩ := hr.cons_left
   rw [hu] at hc'
   exact ⟨u, by have := loadVar_cells (P := P) hg (us := u :: m) (by simpa using hc'); simpa using this, hr'⟩
  ·simp at h
 ·simp at h

theorem putCells_some {cs new l : List AV} {off : Nat} (h : putCells cs off new = some l) : off + new.length ≤ cs.length ∧ l = cs.take off ++ new ++ cs.drop (off + new.length) := by
 by_cases hl : off + new.length ≤ cs.length
 ·simp [putCells, hl] at h; exact ⟨hl, by simp [← h]⟩
 ·simp [putCells, hl] at h

theorem putCells_rep {cs new l : List AV} {off : Nat} (h : putCells cs off new = some l) {vs us : List Value} (hc : All2 (RepAV w S ρ) cs vs) (hn : All2 (RepAV w S ρ) new us) :
  off + us.length ≤ vs.length ∧ All2 (RepAV w S ρ) l (vs.take off ++ us ++ vs.drop (off + us.length)) := by
 obtain ⟨h1, rfl⟩ := putCells_some h
 have e1 := hc.length
 have e2 := hn.length
 exact ⟨by omega, ((hc.take off).append hn).append (e2 ▸ hc.drop _)⟩

theorem All2.all {R : AV → Value → Prop} {p : Value → Prop} (h : ∀ a v, R a v → p v) : ∀ {l : List AV} {m : List Value}, All2 R l m → ∀ v ∈ m, p v
 | [], [], _, v, hv => by simp at hv
 | a :: l, b :: m, ⟨h1, h2⟩, v, hv => by
  simp at hv
  rcases hv with rfl | hv
  ·exact h _ _ h1
  ·exact All2.all h h2 v hv
 | [], _ :: _, h', _, _ => h'.elim
 | _ :: _, [], h', _, _ => h'.elim

theorem storeVar_box {P : Program} {t : TypeId} {inf : TypeInfo} (hi : P.info? t = some inf) {x : VV} {u : Value} (hx : RepVV w S ρ x u) (hsz : x.cells.length = inf.size)
  {b off : Nat} {vs : Array Value} {e : TypeId} (hb : w.heap[b]? = some (.cells vs e (0, 0))) (hfit : off + x.cells.length ≤ vs.size) :
  (storeVar t ⟨b, off, none⟩ u).run P w = .ok () (w.setRow b (vs.toList.take off ++ u.cells.toList ++ vs.toList.drop (off + u.cells.toList.length)).toArray) := by
 have hc := hx.cells
 have hl := hc.length
 have h1 : u.cells.size = inf.size := by rw [← hsz, hl]; simp
 have hst := run_storeCells_at P b off e u.cells.toList 0 vs w hb (by omega) (All2.all (R := RepAV w S ρ) (p := fun v => v.oneCell' = true) (fun a v h => RepAV.oneCell h) hc)
 simp only [Nat.add_zero] at hst
 simp only [storeVar, Sem.run_bind, sizeOf_run hi, Result.andThen_ok, h1]
 simp [hst]
end

end Go.Proofs.YtijjlpgcpdapnaaGreatDoor.Aev

/- AEV: each operation does what the evaluator says (1). -/
namespace Go.Proofs.YtijjlpgcpdapnaaGreatDoor.Aev
set_option linter.unusedVariables false
set_option linter.unusedSimpArgs false
open Go

section
variable {P : Program} {sg : FuncId → Option (Nat × List Nat)} {fresh : Nat} {X : Cx} {w : World} {S : Nat → Prop} {ρ : Nat → Option Value} {H : Nat → Option Nat} {N : Nat} {st : St} {a : Act} {o : Oper} {x : Out} {lg lg' : List Loc}

theorem out_eq {tv : TV} (h : (out tv).run st lg = some (.out x, lg')) : x = { tv := tv } := by
 have := run_pure' h; simp at this; exact this.1
theorem outA_eq {c : AV} (h : (outA c).run st lg = some (.out x, lg')) : x = { tv := .v (.one c) } := out_eq h
theorem semV_inv {s : Sem Value} {r : AV × List Loc} (h : (semV s).run st lg = some r) : ∃ v, s = .pure v ∧ ofValue v = some r.1 := by
 unfold semV at h
 split at h
 ·exact ⟨_, rfl, run_ofO h⟩
 ·exact (rfl0 h).elim

theorem does_move {y : Operand} (ho : o.op = .move y ∨ o.op = .assign y) (h : (do out (← opd y) : AM Eff).run st lg = some (.out x, lg')) (hR : Rep X w S ρ H N st a) : Does P X N st a w S ρ (execOp a.eval o) x := by
 obtain ⟨v, lg1, h1, h2⟩ := rbs h
 obtain rfl := out_eq h2
 refine Does.value hR ?_ (opd_rep hR h1)
 rcases ho with ho | ho <;> simp [execOp, ho]

theorem mergeVV_rep {c : Bool} {p q r : VV} {u v : Value} (h : (mergeVV c p q).run st lg = some (r, lg')) (hp : RepVV w S ρ p u) (hq : RepVV w S ρ q v) : RepVV w S ρ r (if c then u else v) := by
 unfold mergeVV at h
 split at h
 ·rename_i t y t' z
  split at h
  ·rename_i e; subst e
   have := run_pure' h; simp at this; obtain ⟨rfl, _⟩ := this
   cases c
   ·exact hq
   ·exact hp
  ·exact (rfl0 h).elim
 ·have := run_brb h
  cases c
  ·have := run_pure' (by simpa using this); simp at this; obtain ⟨rfl, _⟩ := this; exact hq
  ·have := run_pure' (by simpa using this); simp at this; obtain ⟨rfl, _⟩ := this; exact hp

theorem does_pick {c y z : Operand} (ho : o.op = .pick c y z) (h : (opA P sg fresh o).run st lg = some (.out x, lg')) (hR : Rep X w S ρ H N st a) : Does P X N st a w S ρ (execOp a.eval o) x := by
 simp only [opA, ho] at h
 obtain ⟨cv, lg1, h1, h⟩ := rbs h
 obtain ⟨b, lg2, h2, h⟩ := rbs h
 obtain ⟨yv, lg3, h3, h⟩ := rbs h
 obtain ⟨zv, lg4, h4, h⟩ := rbs h
 have hc := opd_rep hR h1
 rw [asB_inv h2] at hc
 have hc := rep_b hc
 have hy := opd_rep hR h3
 have hz := opd_rep hR h4
 have hs : (execOp a.eval o).run P w = .ok (.value (if b then a.eval y else a.eval z)) w := by
  simp only [execOp, ho, hc, asBool]
  cases b <;> simp
 simp only at h hy hz hs
 split at h
 ·obtain ⟨r, lg5, h5, h6⟩ := rbs h
  obtain rfl := out_eq h6
  exact Does.value hR hs (mergeVV_rep h5 hy hz)
 ·have h := run_brb h
  cases b
  ·obtain rfl := out_eq (by simpa using h)
   exact Does.value hR hs (by simpa using hz)
  ·obtain rfl := out_eq (by simpa using h)
   exact Does.value hR hs (by simpa using hy)

theorem newBox_does {cs : List AV} {vs : Array Value} {e : TypeId} (h : (newBox fresh cs).run st lg = some (.out x, lg')) (hR : Rep X w S ρ H N st a) (hc : All2 (RepAV w S ρ) cs vs.toList)
  {s : Sem Next} (hs : s.run P w = .ok (.value (Ptr w.heap.size 0)) { w with heap := w.heap.push (.cells vs e (0, 0)) }) : Does P X N st a w S ρ s x := by
 have h := run_rdB h
 split at h
 ·rename_i hn
  have := run_pure' h; simp at this; obtain ⟨rfl, _⟩ := this
  have hlt : ∀ b, S b → ({ w with heap := w.heap.push (.cells vs e (0, 0)) } : World).heap[b]? = w.heap[b]? := fun b hb => by
   have := hR.mem.old b hb
   show (w.heap.push _)[b]? = _
   rw [Array.getElem?_push, if_neg (by omega)]
  have hρ := upd_le (v := Ptr w.heap.size 0) (hR.mem.never fresh hn)
  have hm := hR.mem.alloc hn (o := .cells vs e (0, 0)) (v := Ptr w.heap.size 0) (B := .box cs)
   ⟨w.heap.size, vs, e, rfl, by rw [upd_same], by simp, hc.imp fun _ _ => RepAV.mono (fun _ x => x) hlt hρ⟩
  have hmore : More w { w with heap := w.heap.push (.cells vs e (0, 0)) } S S ρ (upd ρ fresh (some (Ptr w.heap.size 0))) := ⟨fun _ x => x, hlt, hρ⟩
  exact ⟨_, _, S, _, _, .inl hs, hR.of_mem hm hmore rfl, ⟨w.heap.size, by rw [upd_same], rfl⟩, hmore⟩
 ·exact (rfl0 h).elim

theorem does_box {t : TypeId} {y : Operand} (ho : o.op = .box t y) (h : (opA P sg fresh o).run st lg = some (.out x, lg')) (hR : Rep X w S ρ H N st a) : Does P X N st a w S ρ (execOp a.eval o) x := by
 simp only [opA, ho] at h
 obtain ⟨yv, lg1, h1, h⟩ := rbs h
 have hy := opd_rep hR h1
 simp only at h hy
 split at h
 ·exact newBox_does (e := t) h hR (RepVV.cells hy) (by simp [execOp, ho, Instr.box, newVar, newRow])
 ·exact (rfl0 h).elim

theorem loadE_val {t : TypeId} {e : Ty} {l : List e.den} {i : Int} {b q : Nat} {us : List Value} (h : (loadE P t e l i).run st lg = some (.out x, lg')) (hlt : i.toNat < l.length) (hc : cellsAt w b q e.size us) (hr : Rd w S e us l[i.toNat]) :
  ∃ v, (loadVar t ⟨b, q, none⟩).run P w = .ok v w ∧ x = { tv := x.tv } ∧ RepTV w S ρ x.tv v := by
 unfold loadE at h
 have hel : elem e l i = l[i.toNat] := by simp [elem, List.getD, List.getElem?_eq_getElem hlt]
 rw [← hel] at hr
 have hf := flat_rep (ρ := ρ) e us _ hr
 split at h
 ·rename_i n hg
  split at h
  ·rename_i hn
   obtain rfl := out_eq h
   exact ⟨_, loadVar_cells hg (us := us) (by simpa [hn] using hc), rfl, us.toArray, rfl, by simpa using hf⟩
  ·exact (rfl0 h).elim
 ·rename_i n hg
  split at h
  ·rename_i c hcf
   obtain rfl := outA_eq h
   rw [hcf] at hf
   obtain ⟨u, m, rfl, hu, hm⟩ := hf.cons_left
   have hm := hm.nil_left
   subst hm
   have hsz : e.size = 1 := by have := hc.length; simpa using this.symm
   have := loadVar_cells (P := P) hg (us := [u]) (b := b) (off := q) (by rw [hsz] at hc; simpa using hc)
   exact ⟨u, by simpa using this, rfl, hu⟩
  ·exact (rfl0 h).elim
 ·exact (rfl0 h).elim

theorem loadF_val {t : TypeId} {e : Ty} {l : List e.den} {i : Int} {o b q : Nat} {us : List Value} (h : (loadF P t e l i o).run st lg = some (.out x, lg')) (hlt : i.toNat < l.length) (hc : cellsAt w b q e.size us) (hr : Rd w S e us l[i.toNat]) :
  ∃ v, (loadVar t ⟨b, q + o, none⟩).run P w = .ok v w ∧ x = { tv := x.tv } ∧ RepTV w S ρ x.tv v := by
 unfold loadF at h
 have hel : elem e l i = l[i.toNat] := by simp [elem, List.getD, List.getElem?_eq_getElem hlt]
 rw [← hel] at hr
 have hf := flat_rep (ρ := ρ) e us _ hr
 have hlen := hf.length
 have hul := hc.length
 split at h
 ·rename_i v hv
  obtain rfl := out_eq h
  unfold partA at hv
  split at hv
  ·rename_i n hg
   cases hcut : cut (flat e (elem e l i)) o n with
   | none => simp [hcut] at hv
   | some cs =>
    simp [hcut] at hv; subst hv
    obtain ⟨h1, rfl⟩ := cut_some hcut
    have hc' := hc.sub (off := o) (m := n) (by omega)
    exact ⟨_, loadVar_cells hg hc', rfl, _, rfl, by simpa using (hf.drop o).take n⟩
  ·rename_i n hg
   split at hv
   ·rename_i c hcut
    simp at hv; subst hv
    obtain ⟨h1, h2⟩ := cut_some hcut
    have hc' := hc.sub (off := o) (m := 1) (by omega)
    have hr := (hf.drop o).take 1
    rw [← h2] at hr
    obtain ⟨u, m, hu, hr', hn⟩ := hr.cons_left
    rw [hu] at hc'
    exact ⟨u, by have := loadVar_cells (P := P) hg (us := u :: m) (by simpa using hc'); simpa using this, rfl, hr'⟩
   ·simp at hv
  ·simp at hv
 ·exact (rfl0 h).elim

theorem place_cells {e : Ty} {xs : List e.den} {v : Value} {b off len cap : Nat} (h : (∃ home, RowOwn w S e v xs home) ∨ Rd w S (.sl e) [v] xs) (hv : v = .slice (some ⟨b, off, none⟩) len cap) {i : Nat} (hi : i < len) :
  ∃ h' : i < xs.length, ∃ us, cellsAt w b (off + i * e.size) e.size us ∧ Rd w S e us xs[i] := by
 subst hv
 rcases h with ⟨home, len', cap', vs, el, h1, h2, h3, h4, h5, h6⟩ | ⟨base, len', cap', h1, h2, h3, h4, h5, h6⟩
 ·simp at h1
  obtain ⟨⟨rfl, rfl⟩, rfl, rfl⟩ := h1
  have hi' : i < xs.length := by omega
  obtain ⟨us, k1, k2⟩ := h6 i hi'
  exact ⟨hi', us, by simpa using k1, k2⟩
 ·simp at h1
  obtain ⟨rfl, rfl, rfl⟩ := h1
  have h2 : len = List.length xs := h2
  have hi' : i < List.length xs := by omega
  obtain ⟨a', ha, hs, hr⟩ := h6 (by intro e; rw [e] at hi'; simp at hi')
  simp at ha; subst ha
  obtain ⟨us, k1, k2⟩ := hr i hi'
  exact ⟨hi', us, k1, k2⟩

theorem arrCells_rep {u : Ty} {xs : List u.den} {vs : Array Value} {el : TypeId} {fr : Nat × Nat} {b : Nat} (hb : w.heap[b]? = some (.cells vs el fr)) (hr : ∀ i (h : i < xs.length), ∃ us, cellsAt w b (i * u.size) u.size us ∧ Rd w S u us xs[i]) :
  ∀ m, m ≤ xs.length → m * u.size ≤ vs.size → All2 (RepAV w S ρ) (arrCells u xs m) (vs.toList.take (m * u.size)) := by
 intro m
 induction m with
 | zero => intro _ _; simp [arrCells, All2]
 | succ m ih =>
  intro h1 h2
  have e : (m + 1) * u.size = m * u.size + u.size := by rw [Nat.add_mul, Nat.one_mul]
  rw [e] at h2
  have i1 := ih (by omega) (by omega)
  obtain ⟨us, ⟨c, e2, fr2, q1, q2, q3⟩, q4⟩ := hr m (by omega)
  rw [hb] at q1; simp at q1; obtain ⟨rfl, rfl, rfl⟩ := q1
  have hel : elem u xs (m : Int) = xs[m] := by simp [elem, List.getD, List.getElem?_eq_getElem (show m < xs.length by omega)]
  have hf := flat_rep (ρ := ρ) u us _ q4
  rw [q3] at hf
  unfold arrCells at *
  rw [List.range_succ, List.flatMap_append, List.flatMap_cons, List.flatMap_nil, List.append_nil, e, List.take_add, hel]
  exact i1.append hf
theorem loadArr_val {t : TypeId} {n m : Nat} {u : Ty} {B : Blk} (h : (loadArr P t m u B).run st lg = some (.out x, lg')) (hR : Rep X w S ρ H N st a) (hb : st.blk n = some (some B)) {b : Nat} (hp : ρ n = some (.slice (some ⟨b, 0, none⟩) m m)) :
  ∃ v, (loadVar t ⟨b, 0, none⟩).run P w = .ok v w ∧ x = { tv := x.tv } ∧ RepTV w S ρ x.tv v := by
 cases B with
 | box cs => exact (rfl0 h).elim
 | settled u' xs => exact (rfl0 h).elim
 | mp kt et es => exact (rfl0 h).elim
 | own u' excl xs =>
  cases excl with
  | false => exact (rfl0 h).elim
  | true =>
  simp only [loadArr] at h
  split at h
  ·rename_i n' hg
   split at h
   ·rename_i e; subst e
    split at h
    ·rename_i hn; subst hn
     obtain rfl := out_eq h
     obtain ⟨v', h2, h3⟩ := hR.mem.rep n _ hb
     rw [hp] at h2; simp at h2; subst h2
     rcases h3 with ⟨b', _, len, cap, vs, el, k1, k2, k3, k4, k5, k6⟩ | ⟨hf, _⟩
     ·simp at k1
      obtain ⟨rfl, rfl, rfl⟩ := k1
      have hrep := arrCells_rep (ρ := ρ) k4 k6 m (by omega) (by omega)
      have hc := cellsAt_of_heap (off := 0) (n := m * u'.size) k4 (by omega)
      rw [List.drop_zero] at hc
      exact ⟨_, loadVar_cells hg hc, rfl, _, rfl, by simpa [castD] using hrep⟩
     ·simp at hf
    ·exact (rfl0 h).elim
   ·exact (rfl0 h).elim
  ·exact (rfl0 h).elim
theorem loadA_val {t : TypeId} {y : TV} {u : Value} (h : (loadA P t y).run st lg = some (.out x, lg')) (hR : Rep X w S ρ H N st a) (hy : RepTV w S ρ y u) :
  ∃ b off v, u = Ptr b off ∧ (loadVar t ⟨b, off, none⟩).run P w = .ok v w ∧ x = { tv := x.tv } ∧ RepTV w S ρ x.tv v := by
 unfold loadA at h
 split at h
 ·rename_i n off
  obtain ⟨B, lg1, h1, h⟩ := rbs h
  have hb := run_rB h1
  obtain ⟨b, hp, rfl⟩ := hy
  simp only at h hb
  split at h
  ·rename_i cs
   split at h
   ·rename_i v hv
    obtain rfl := out_eq h
    obtain ⟨b', vs, e, _, h2, h3, h4⟩ := hR.mem.rep n _ hb
    rw [hp] at h2; simp at h2; subst h2
    obtain ⟨u, hu, hr⟩ := loadVar_box hv h3 h4
    exact ⟨_, _, _, rfl, hu, rfl, hr⟩
   ·exact (rfl0 h).elim
  ·exact (rfl0 h).elim
 ·rename_i e l i
  obtain ⟨hlt, b, off, rfl, hb, hl'⟩ := hy
  obtain ⟨us, hc, hr⟩ := hl' i.toNat hlt
  obtain ⟨v, k1, k2, k3⟩ := loadE_val (ρ := ρ) h hlt hc hr
  exact ⟨_, _, v, rfl, k1, k2, k3⟩
 ·rename_i e n i
  obtain ⟨B, lg1, h1, h⟩ := rbs h
  have hb := run_rB h1
  obtain ⟨h0, b, off, len, cap, hp, hlt, rfl⟩ := hy
  simp only at h hb
  split at h
  ·rename_i u' excl xs
   split at h
   ·rename_i e; subst e
    obtain ⟨v', h2, h3⟩ := hR.mem.rep n _ hb
    rw [hp] at h2; simp at h2; subst h2
    obtain ⟨hl', us, hc, hr⟩ := place_cells (xs := xs) (v := .slice (some ⟨b, off, none⟩) len cap) (h3.elim (fun ⟨b, _, h⟩ => .inl ⟨b, h⟩) (fun ⟨_, _, h, _⟩ => .inr h)) rfl hlt
    obtain ⟨v, k1, k2, k3⟩ := loadE_val (ρ := ρ) h hl' hc hr
    exact ⟨_, _, v, rfl, k1, k2, k3⟩
   ·exact (rfl0 h).elim
  ·rename_i u' xs
   split at h
   ·rename_i e; subst e
    obtain ⟨v', h2, _, h3⟩ := hR.mem.rep n _ hb
    rw [hp] at h2; simp at h2; subst h2
    obtain ⟨hl', us, hc, hr⟩ := place_cells (xs := xs) (v := .slice (some ⟨b, off, none⟩) len cap) (.inr h3) rfl hlt
    obtain ⟨v, k1, k2, k3⟩ := loadE_val (ρ := ρ) h hl' hc hr
    exact ⟨_, _, v, rfl, k1, k2, k3⟩
   ·exact (rfl0 h).elim
  ·exact (rfl0 h).elim
 ·rename_i n m
  split at h
  ·rename_i m' u har
   split at h
   ·rename_i hmm; subst hmm
    obtain ⟨B, lg1, h1, h⟩ := rbs h
    have hb := run_rB h1
    obtain ⟨b, hp, rfl⟩ := hy
    obtain ⟨v, k1, k2, k3⟩ := loadArr_val (n := n) h hR hb hp
    exact ⟨_, _, v, rfl, k1, k2, k3⟩
   ·exact (rfl0 h).elim
  ·exact (rfl0 h).elim
 ·rename_i e l i o
  obtain ⟨hlt, b, off, rfl, hb, hl'⟩ := hy
  obtain ⟨us, hc, hr⟩ := hl' i.toNat hlt
  obtain ⟨v, k1, k2, k3⟩ := loadF_val (ρ := ρ) h hlt hc hr
  exact ⟨_, _, v, rfl, k1, k2, k3⟩
 ·rename_i e n i o
  obtain ⟨B, lg1, h1, h⟩ := rbs h
  have hb := run_rB h1
  obtain ⟨h0, b, off, len, cap, hp, hlt, rfl⟩ := hy
  simp only at h hb
  split at h
  ·rename_i u' excl xs
   split at h
   ·rename_i e; subst e
    obtain ⟨v', h2, h3⟩ := hR.mem.rep n _ hb
    rw [hp] at h2; simp at h2; subst h2
    obtain ⟨hl', us, hc, hr⟩ := place_cells (xs := xs) (v := .slice (some ⟨b, off, none⟩) len cap) (h3.elim (fun ⟨b, _, h⟩ => .inl ⟨b, h⟩) (fun ⟨_, _, h, _⟩ => .inr h)) rfl hlt
    obtain ⟨v, k1, k2, k3⟩ := loadF_val (ρ := ρ) h hl' hc hr
    exact ⟨_, _, v, rfl, k1, k2, k3⟩
   ·exact (rfl0 h).elim
  ·rename_i u' xs
   split at h
   ·rename_i e; subst e
    obtain ⟨v', h2, _, h3⟩ := hR.mem.rep n _ hb
    rw [hp] at h2; simp at h2; subst h2
    obtain ⟨hl', us, hc, hr⟩ := place_cells (xs := xs) (v := .slice (some ⟨b, off, none⟩) len cap) (.inr h3) rfl hlt
    obtain ⟨v, k1, k2, k3⟩ := loadF_val (ρ := ρ) h hl' hc hr
    exact ⟨_, _, v, rfl, k1, k2, k3⟩
   ·exact (rfl0 h).elim
  ·exact (rfl0 h).elim
 ·exact (rfl0 h).elim
theorem loadA_does {t : TypeId} {y : TV} {u : Value} {s : Sem Next} (h : (loadA P t y).run st lg = some (.out x, lg')) (hR : Rep X w S ρ H N st a) (hy : RepTV w S ρ y u)
  (hs : ∀ b off v, u = Ptr b off → (loadVar t ⟨b, off, none⟩).run P w = .ok v w → s.run P w = .ok (.value v) w) : Does P X N st a w S ρ s x := by
 obtain ⟨b, off, v, hu, hl, hx, hr⟩ := loadA_val h hR hy
 rw [hx]
 exact Does.value hR (hs b off v hu hl) hr
end
end Go.Proofs.YtijjlpgcpdapnaaGreatDoor.Aev

/- AEV: each operation does what the evaluator says (2). -/
namespace Go.Proofs.YtijjlpgcpdapnaaGreatDoor.Aev
set_option linter.unusedVariables false
set_option linter.unusedSimpArgs false
open Go

section
variable {P : Program} {sg : FuncId → Option (Nat × List Nat)} {fresh : Nat} {X : Cx} {w : World} {S : Nat → Prop} {ρ : Nat → Option Value} {H : Nat → Option Nat} {N : Nat} {st : St} {a : Act} {o : Oper} {x : Out} {lg lg' : List Loc}

theorem does_load {t : TypeId} {y : Operand} (ho : o.op = .load t y) (h : (opA P sg fresh o).run st lg = some (.out x, lg')) (hR : Rep X w S ρ H N st a) : Does P X N st a w S ρ (execOp a.eval o) x := by
 simp only [opA, ho] at h
 obtain ⟨yv, lg1, h1, h⟩ := rbs h
 refine loadA_does h hR (opd_rep hR h1) (fun b off v hu hl => ?_)
 simp [execOp, ho, Instr.loadAt, Instr.sureAddr, hu, hl]

theorem apartL_spec {l m : List Nat} (h : apartL l m = true) : ∀ n ∈ l, n ∉ m := by
 intro n hn hm
 unfold apartL at h
 rw [List.all_eq_true] at h
 have := h n hn
 simp [hm] at this

theorem splice_other {α : Type} {vs us : List α} {sz i j : Nat} (hus : us.length = sz) (hfit : i * sz + sz ≤ vs.length) (hne : j ≠ i) (hj : j * sz + sz ≤ vs.length) :
  ((vs.take (i * sz) ++ us ++ vs.drop (i * sz + us.length)).drop (j * sz)).take sz = (vs.drop (j * sz)).take sz := by
 apply List.ext_getElem?
 intro k
 rcases Nat.lt_or_ge k sz with hk | hk
 ·rw [List.getElem?_take_of_lt hk, List.getElem?_take_of_lt hk, List.getElem?_drop, List.getElem?_drop, hus]
  rcases Nat.lt_or_ge j i with h | h
  ·have : (j + 1) * sz ≤ i * sz := Nat.mul_le_mul_right _ h
   rw [Nat.add_mul, Nat.one_mul] at this
   rw [List.append_assoc, List.getElem?_append_left (by simp; omega), List.getElem?_take_of_lt (by omega)]
  ·have : (i + 1) * sz ≤ j * sz := Nat.mul_le_mul_right _ (by omega)
   rw [Nat.add_mul, Nat.one_mul] at this
   rw [List.getElem?_append_right (by simp; omega), List.getElem?_drop]
   congr 1
   simp; omega
 ·rw [List.getElem?_eq_none (by simp; omega), List.getElem?_eq_none (by simp; omega)]
theorem splice_same {α : Type} {vs us : List α} {sz i : Nat} (hus : us.length = sz) (hfit : i * sz + sz ≤ vs.length) :
  ((vs.take (i * sz) ++ us ++ vs.drop (i * sz + us.length)).drop (i * sz)).take sz = us := by
 rw [List.append_assoc, List.drop_append_of_le_length (by simp; omega)]
 rw [List.drop_eq_nil_of_le (by simp; omega), List.nil_append, ← hus, List.take_append_of_le_length (Nat.le_refl _), List.take_length]

theorem storeBox_does {t : TypeId} {y z : Operand} (ho : o.op = .store t y z) {n off : Nat} {zv : TV} (h : (storeBox P t n off zv).run st lg = some (.out x, lg')) (hR : Rep X w S ρ H N st a)
  (hy : RepTV w S ρ (.v (.one (.ptr n off))) (a.eval y)) (hz : RepTV w S ρ zv (a.eval z)) : Does P X N st a w S ρ (execOp a.eval o) x := by
 unfold storeBox at h
 obtain ⟨B, lg4, h4, h⟩ := rbs h
 have hb := run_rB h4
 simp only at h hz hb
 split at h
 ·rename_i xx cs
  split at h
  ·rename_i inf hi
   split at h
   ·rename_i hsz
    split at h
    ·rename_i cs' hput
     have := run_pure' h; simp at this; obtain ⟨rfl, _⟩ := this
     obtain ⟨b, hp, hpv⟩ := hy
     obtain ⟨b', vs, e, hh, h5, h6, h7⟩ := hR.mem.rep n _ hb
     rw [hp] at h5; simp at h5; subst h5
     have hlen := h7.length
     obtain ⟨hfit, hrep⟩ := putCells_rep hput h7 (RepVV.cells hz)
     have hfit' := (putCells_some hput).1
     simp only [Array.length_toList] at hlen hfit
     have hst := storeVar_box (P := P) hi hz hsz h6 (off := off) (by omega)
     have hmem := hR.mem.write (w' := w.setRow b (vs.toList.take off ++ (a.eval z).cells.toList ++ vs.toList.drop (off + (a.eval z).cells.toList.length)).toArray) hb hh (by simp)
      (fun k hk => setRow_other w b k _ hk) rfl rfl rfl (B' := .box cs') (by
       refine ⟨b, _, e, rfl, hp, setRow_heap w b _ _ e _ h6, ?_⟩
       simp only
       refine hrep.imp fun _ _ => RepAV.mono (fun _ x => x) (fun k hk => setRow_other w b k _ (fun e => hR.mem.apart n _ b hb hh (e ▸ hk))) (fun _ _ x => x))
     have hmore : More w (w.setRow b (vs.toList.take off ++ (a.eval z).cells.toList ++ vs.toList.drop (off + (a.eval z).cells.toList.length)).toArray) S S ρ ρ :=
      ⟨fun _ x => x, fun k hk => setRow_other w b k _ (fun e => hR.mem.apart n _ b hb hh (e ▸ hk)), fun _ _ x => x⟩
     exact ⟨undef, _, S, ρ, H, .inr ⟨by simp [execOp, ho, Instr.storeAt, Instr.sureAddr, hpv, hst], rfl⟩, hR.of_mem hmem hmore rfl, rfl, hmore⟩
    ·exact (rfl0 h).elim
   ·exact (rfl0 h).elim
  ·exact (rfl0 h).elim
 ·exact (rfl0 h).elim


theorem storeRow_does {t : TypeId} {y z : Operand} (ho : o.op = .store t y z) {e : Ty} {n : Nat} {i : Int} {zv : TV} (h : (storeRow P t e n i zv).run st lg = some (.out x, lg')) (hR : Rep X w S ρ H N st a)
  (hy : RepTV w S ρ (.eltOf e n i) (a.eval y)) (hz : RepTV w S ρ zv (a.eval z)) : Does P X N st a w S ρ (execOp a.eval o) x := by
 unfold storeRow at h
 obtain ⟨B, lg4, h4, h⟩ := rbs h
 have hb := run_rB h4
 simp only at h hz hb
 split at h
 ·rename_i xx u xs _hz
  split at h
  ·rename_i inf hi
   split at h
   ·rename_i e'; subst e'
    split at h
    ·rename_i hsz
     simp only [Bool.and_eq_true, decide_eq_true_eq, beq_iff_eq] at hsz
     obtain ⟨hsz1, hsz2⟩ := hsz
     obtain ⟨⟨d, wr, rest⟩, lg5, h5, h⟩ := rbs h
     obtain ⟨hts, l1, e1, n1, hrd⟩ := asm_spec _ h5 hR.mem
     simp only at h hts e1 hrd
     split at h
     ·split at h
      ·rename_i hap
       have := run_pure' h; simp at this; obtain ⟨rfl, _⟩ := this
       have e1 : l1 = xx.cells := by simpa using e1.symm
       subst e1
       obtain ⟨S1, H1, hm1, hmore1, hset1⟩ := settle_all wr hR.mem hts.all
       have hnw : n ∉ wr.map (·.1) := apartL_spec hap n (by simp)
       have hn1 : (st.sets wr).blk n = some (some (.own u true xs)) := by
        rw [sets_other]
        ·exact hb
        ·intro p hp e; exact hnw (List.mem_map.2 ⟨p, hp, e⟩)
       obtain ⟨h0, b, off, len, cap, hp, hlt, hpv⟩ := hy
       obtain ⟨v', h2, h3⟩ := hm1.rep n _ hn1
       rw [hp] at h2; simp at h2; subst h2
       rcases h3 with ⟨b', hh, len', cap', vs, el, k1, k2, k3, k4, k5, k6⟩ | ⟨hf, _⟩
       ·simp at k1
        obtain ⟨⟨rfl, rfl⟩, rfl, rfl⟩ := k1
        have hzc := RepVV.cells hz
        have hrdz := hrd hmore1.s hset1 hzc
        have hul : (a.eval z).cells.toList.length = u.size := by rw [← hzc.length, hsz1, hsz2]
        have hle : (i.toNat + 1) * u.size ≤ cap * u.size := Nat.mul_le_mul_right _ (by omega)
        rw [Nat.add_mul, Nat.one_mul] at hle
        have hst := storeVar_box (P := P) hi hz hsz1 k4 (off := i.toNat * u.size) (by rw [hsz1, hsz2, k5]; exact hle)
        have hvl : vs.toList.length = cap * u.size := by simpa using k5
        have hoth : ∀ k, k ≠ b → (w.setRow b (vs.toList.take (i.toNat * u.size) ++ (a.eval z).cells.toList ++ vs.toList.drop (i.toNat * u.size + (a.eval z).cells.toList.length)).toArray).heap[k]? = w.heap[k]? := fun k hk => setRow_other w b k _ hk
        have hSb : ∀ k, S1 k → k ≠ b := fun k hk e => hm1.apart n _ b hn1 hh (e ▸ hk)
        have hmem := hm1.write (w' := w.setRow b (vs.toList.take (i.toNat * u.size) ++ (a.eval z).cells.toList ++ vs.toList.drop (i.toNat * u.size + (a.eval z).cells.toList.length)).toArray) hn1 hh (by simp)
         (fun k hk => hoth k hk) rfl rfl rfl (B' := .own u true ((xs : List u.den).set i.toNat d)) (by
          refine ⟨_, hp, .inl ⟨b, rfl, len, cap, _, el, rfl, by rw [List.length_set]; exact k2, k3, setRow_heap w b _ _ el _ k4, by simp only [List.size_toArray, List.length_append, List.length_take, List.length_drop, hul, hvl]; omega, ?_⟩⟩
          intro j hj
          have hj' : j < xs.length := by simpa using hj
          have hjc : (j + 1) * u.size ≤ cap * u.size := Nat.mul_le_mul_right _ (by omega)
          rw [Nat.add_mul, Nat.one_mul] at hjc
          refine ⟨_, ⟨_, el, (0, 0), setRow_heap w b _ _ el _ k4, by simp only [List.size_toArray, List.length_append, List.length_take, List.length_drop, hul, hvl]; omega, rfl⟩, ?_⟩
          simp only
          by_cases e : j = i.toNat
          ·subst e
           rw [splice_same hul (by rw [hvl]; exact hle)]
           simp only [List.getElem_set_self]
           exact Rd.mono (fun _ x => x) (fun k hk => hoth k (hSb k hk)) _ _ _ hrdz
          ·rw [splice_other hul (by rw [hvl]; exact hle) e (by rw [hvl]; exact hjc)]
           rw [List.getElem_set_ne (fun h => e h.symm)]
           obtain ⟨us, ⟨c, e2, fr, q1, q2, q3⟩, q4⟩ := k6 j hj'
           rw [k4] at q1
           simp at q1
           obtain ⟨rfl, rfl, rfl⟩ := q1
           rw [← q3]
           exact Rd.mono (fun _ x => x) (fun k hk => hoth k (hSb k hk)) _ _ _ q4)
        have hmore : More w (w.setRow b (vs.toList.take (i.toNat * u.size) ++ (a.eval z).cells.toList ++ vs.toList.drop (i.toNat * u.size + (a.eval z).cells.toList.length)).toArray) S1 S1 ρ ρ :=
         ⟨fun _ x => x, fun k hk => hoth k (hSb k hk), fun _ _ x => x⟩
        have hM := hmore1.trans hmore
        refine ⟨undef, _, S1, ρ, H1, .inr ⟨by simp [execOp, ho, Instr.storeAt, Instr.sureAddr, hpv, hst], rfl⟩, hR.of_mem (st' := st.sets _) ?_ hM (sets_tmp _ _), rfl, hM⟩
        rw [sets_append]
        exact hmem
       ·simp at hf
      ·exact (rfl0 h).elim
     ·exact (rfl0 h).elim
    ·exact (rfl0 h).elim
   ·exact (rfl0 h).elim
  ·exact (rfl0 h).elim
 ·exact (rfl0 h).elim

theorem fieldInfo_some {s : TypeId} {i : Nat} {f : Field} (h : fieldInfo P s i = some f) : ∃ fs, P.underlying s = some (.struct fs) ∧ fs[i]? = some f := by
 unfold fieldInfo at h
 split at h
 ·rename_i fs hu; exact ⟨fs, hu, h⟩
 ·simp at h

theorem fldA_rep {o : Nat} {y : TV} {u : Value} (h : (fldA o y).run st lg = some (.out x, lg')) (hy : RepTV w S ρ y u) :
  ∃ b off, u = Ptr b off ∧ x = { tv := x.tv } ∧ RepTV w S ρ x.tv (Ptr b (off + o)) := by
 unfold fldA at h
 split at h
 ·obtain rfl := outA_eq h
  obtain ⟨b, hp, rfl⟩ := hy
  exact ⟨_, _, rfl, rfl, b, hp, rfl⟩
 ·obtain rfl := out_eq h
  obtain ⟨h0, b, off, rfl, h2⟩ := hy
  exact ⟨_, _, rfl, rfl, h0, b, off, rfl, h2⟩
 ·obtain rfl := out_eq h
  obtain ⟨h0, b, off, len, cap, h1, h2, rfl⟩ := hy
  exact ⟨_, _, rfl, rfl, h0, b, off, len, cap, h1, h2, rfl⟩
 ·obtain rfl := out_eq h
  obtain ⟨h0, b, off, rfl, h2⟩ := hy
  exact ⟨_, _, rfl, rfl, h0, b, off, by rw [Nat.add_assoc], h2⟩
 ·obtain rfl := out_eq h
  obtain ⟨h0, b, off, len, cap, h1, h2, rfl⟩ := hy
  exact ⟨_, _, rfl, rfl, h0, b, off, len, cap, h1, h2, by rw [Nat.add_assoc]⟩
 ·exact (rfl0 h).elim
theorem does_fieldAddr {s : TypeId} {y : Operand} {i : Nat} (ho : o.op = .fieldAddr s y i) (h : (opA P sg fresh o).run st lg = some (.out x, lg')) (hR : Rep X w S ρ H N st a) : Does P X N st a w S ρ (execOp a.eval o) x := by
 simp only [opA, ho] at h
 obtain ⟨yv, lg1, h1, h⟩ := rbs h
 have hy := opd_rep hR h1
 simp only at h hy
 split at h
 ·rename_i f hf
  split at h
  ·rename_i inf hi
   split at h
   ·exact (rfl0 h).elim
   ·rename_i hsz
    obtain ⟨b, off, hpv, hx, hr⟩ := fldA_rep h hy
    rw [hx]
    obtain ⟨fs, hu, hfs⟩ := fieldInfo_some hf
    refine Does.value hR (v := Ptr b (off + f.offset)) ?_ hr
    simp [execOp, ho, Instr.fieldAt, ur0 hu, hfs, Instr.sureAddr, hpv, fieldPlace, sizeOf_run hi, hsz, addr_add]
  ·exact (rfl0 h).elim
 ·exact (rfl0 h).elim

theorem does_field {s : TypeId} {y : Operand} {i : Nat} (ho : o.op = .field s y i) (h : (opA P sg fresh o).run st lg = some (.out x, lg')) (hR : Rep X w S ρ H N st a) : Does P X N st a w S ρ (execOp a.eval o) x := by
 simp only [opA, ho] at h
 obtain ⟨yv, lg1, h1, h⟩ := rbs h
 have hy := opd_rep hR h1
 simp only at h hy
 split at h
 ·rename_i cs f hf
  split at h
  ·rename_i v hv
   obtain rfl := out_eq h
   obtain ⟨vs, hvs, hc⟩ := hy
   obtain ⟨fs, hu, hfs⟩ := fieldInfo_some hf
   obtain ⟨u, hu', hr⟩ := partA_run hv hc
   exact Does.value hR (by simp [execOp, ho, Instr.field, ur0 hu, hfs, hvs, asAgg, hu']) hr
  ·exact (rfl0 h).elim
 ·exact (rfl0 h).elim

theorem does_nilCheck {y : Operand} (ho : o.op = .nilCheck y) (h : (opA P sg fresh o).run st lg = some (.out x, lg')) (hR : Rep X w S ρ H N st a) : Does P X N st a w S ρ (execOp a.eval o) x := by
 simp only [opA, ho] at h
 obtain ⟨yv, lg1, h1, h⟩ := rbs h
 have hy := opd_rep hR h1
 simp only at h hy
 split at h
 ·obtain rfl := outA_eq h
  have hy' := hy
  obtain ⟨b, hp, hv⟩ := hy
  exact Does.value hR (by simp [execOp, ho, hv]) hy'
 ·obtain rfl := outA_eq h
  have hy' := hy
  obtain ⟨vs, hv, _⟩ := hy
  exact Does.value hR (by simp [execOp, ho, hv]) hy'
 ·obtain rfl := out_eq h
  have hy' := hy
  obtain ⟨_, b, off, len, cap, _, _, hv⟩ := hy
  exact Does.value hR (by simp [execOp, ho, hv]) hy'
 ·exact (rfl0 h).elim

theorem does_extract {y : Operand} {i : Nat} (ho : o.op = .extract y i) (h : (opA P sg fresh o).run st lg = some (.out x, lg')) (hR : Rep X w S ρ H N st a) : Does P X N st a w S ρ (execOp a.eval o) x := by
 simp only [opA, ho] at h
 obtain ⟨yv, lg1, h1, h⟩ := rbs h
 have hy := opd_rep hR h1
 simp only at h hy
 split at h
 ·rename_i xs
  split at h
  ·rename_i v hv
   obtain rfl := out_eq h
   obtain ⟨vs, hvs, hc⟩ := hy
   obtain ⟨u, hu, hr⟩ := hc.get hv
   exact Does.value hR (by simp [execOp, ho, Instr.extract, hvs, show vs[i]? = some u by simpa using hu]) hr
  ·exact (rfl0 h).elim
 ·exact (rfl0 h).elim

theorem does_unOp {op : UnOp} {t : TypeId} {y : Operand} (ho : o.op = .unOp op t y) (h : (opA P sg fresh o).run st lg = some (.out x, lg')) (hR : Rep X w S ρ H N st a) : Does P X N st a w S ρ (execOp a.eval o) x := by
 simp only [opA, ho] at h
 obtain ⟨yv, lg1, h1, h⟩ := rbs h
 have hy := opd_rep hR h1
 simp only at h hy
 split at h
 ·split at h
  ·obtain rfl := outA_eq h
   have := rep_b hy
   exact Does.value hR (by simp [execOp, ho, this, Op.unary]; rfl) (by simp [RepTV, RepVV, RepAV, Rd])
  ·exact (rfl0 h).elim
 ·obtain ⟨c, lg2, h2, h⟩ := rbs h
  obtain ⟨v, hs, hv⟩ := semV_inv h2
  obtain rfl := outA_eq h
  have := rep_i hy
  exact Does.value hR (by simp [execOp, ho, this, hs]) (ofValue_rep hv)
 ·exact (rfl0 h).elim

theorem caps_rep (hR : Rep X w S ρ H N st a) : ∀ {l : List Operand} {cs : List (Nat × Nat)},
  All2 (fun x y => ∃ lg1 lg2, (do asP (← opd x) : AM (Nat × Nat)).run st lg1 = some (y, lg2)) l cs →
  All2 (fun (p : Nat × Nat) u => ∃ b, ρ p.1 = some (Ptr b 0) ∧ u = Ptr b p.2) cs (l.map a.eval)
 | [], cs, hc => by rw [hc.nil_left]; trivial
 | y :: l, cs, hc => by
  obtain ⟨p, ps, rfl, ⟨lg2, lg3, h2⟩, hc⟩ := hc.cons_left
  obtain ⟨v, lg4, h3, h4⟩ := rbs h2
  have hy := opd_rep hR h3
  rw [asP_inv h4] at hy
  exact ⟨hy, caps_rep hR hc⟩

theorem does_makeFunc {f : Fn} {fi ca : Array Operand} (ho : o.op = .makeFunc f fi ca) (h : (opA P sg fresh o).run st lg = some (.out x, lg')) (hR : Rep X w S ρ H N st a) : Does P X N st a w S ρ (execOp a.eval o) x := by
 cases f with
 | func f =>
  simp only [opA, ho] at h
  split at h
  ·rename_i hfi
   have hfi : fi = #[] := by simpa using hfi
   subst hfi
   obtain ⟨cs, lg1, h1, h⟩ := rbs h
   obtain rfl := outA_eq h
   have hc := run_mapM h1
   refine Does.value hR (v := .func (.func f) #[] (ca.map a.eval)) (by simp [execOp, ho, Instr.makeFunc]) ⟨_, rfl, ?_⟩
   rw [Array.toList_map]
   exact caps_rep hR hc
  ·exact (rfl0 h).elim
 | _ => simp only [opA, ho] at h; exact (rfl0 h).elim

theorem bounds_run {isS : Bool} {cap : Nat} {lo hi : Option Operand} {l h len : Int} {lo' hi' : Option TV} {lg lg1 lg2 lg3 lg4 lg5 : List Loc} (hR : Rep X w S ρ H N st a)
  (h1 : (optM opd lo).run st lg = some (lo', lg1)) (h2 : (optM opd hi).run st lg2 = some (hi', lg3)) (h3 : (sliceB lo' hi' len).run st lg4 = some ((l, h), lg5)) {n : Nat} (hn : len = n) (hcap : n ≤ cap) :
  0 ≤ l ∧ l ≤ h ∧ h ≤ n ∧ (Instr.sliceBounds isS n cap (lo.map a.eval) (hi.map a.eval) none).run P w = .ok (l.toNat, h.toNat, cap) w := by
 subst hn
 unfold sliceB at h3
 obtain ⟨h', lg6, h4, h3⟩ := rbs h3
 obtain ⟨l', lg7, h5, h3⟩ := rbs h3
 obtain ⟨u, lg8, h6, h3⟩ := rbs h3
 have hg := run_guard h6
 have := run_pure h3; simp at this; obtain ⟨⟨rfl, rfl⟩, _⟩ := this
 simp only [Bool.and_eq_true, decide_eq_true_eq] at hg
 obtain ⟨⟨g1, g2⟩, g3⟩ := hg
 refine ⟨g1, g2, g3, ?_⟩
 have hh : (match hi.map a.eval with | some v => Instr.sliceBound v cap (if isS then .sliceAcap else .sliceAlen) | none => (pure n : Sem Nat)).run P w = .ok h.toNat w := by
  cases hi with
  | none =>
   have := run_pure' h2; simp at this; obtain ⟨rfl, _⟩ := this
   have := run_pure' h4; simp at this; obtain ⟨rfl, _⟩ := this
   simp
  | some y =>
   obtain ⟨v, lg9, h7, h8⟩ := rbs h2
   have := run_pure h8; simp at this; obtain ⟨rfl, _⟩ := this
   obtain ⟨⟨k, i⟩, lg10, h9, h10⟩ := rbs h4
   have := run_pure h10; simp at this; obtain ⟨rfl, _⟩ := this
   have hy := opd_rep hR h7
   rw [asI_inv h9] at hy
   have hy := rep_i hy
   simp only at hy
   simp only [Option.map_some, hy, Instr.sliceBound, asIntOf, Sem.run_bind, Sem.run_pure, Result.andThen_ok]
   rw [if_pos (by omega)]
   rfl
 have hl : (match lo.map a.eval with | some v => Instr.sliceBound v h.toNat .sliceB | none => (pure 0 : Sem Nat)).run P w = .ok l.toNat w := by
  cases lo with
  | none =>
   have := run_pure' h1; simp at this; obtain ⟨rfl, _⟩ := this
   have := run_pure' h5; simp at this; obtain ⟨rfl, _⟩ := this
   simp
  | some y =>
   obtain ⟨v, lg9, h7, h8⟩ := rbs h1
   have := run_pure h8; simp at this; obtain ⟨rfl, _⟩ := this
   obtain ⟨⟨k, i⟩, lg10, h9, h10⟩ := rbs h5
   have := run_pure h10; simp at this; obtain ⟨rfl, _⟩ := this
   have hy := opd_rep hR h7
   rw [asI_inv h9] at hy
   have hy := rep_i hy
   simp only at hy
   simp only [Option.map_some, hy, Instr.sliceBound, asIntOf, Sem.run_bind, Sem.run_pure, Result.andThen_ok]
   rw [if_pos (by omega)]
   rfl
 unfold Instr.sliceBounds
 cases hi with
 | none =>
  cases lo with
  | none => simp at hh hl ⊢; exact ⟨hl, hh⟩
  | some y => simp at hh hl ⊢; simp [← hh] at hl ⊢; simp [hl]
 | some z =>
  cases lo with
  | none => simp at hh hl ⊢; simp [hh, hl]
  | some y => simp at hh hl ⊢; simp [hh, hl]

end
end Go.Proofs.YtijjlpgcpdapnaaGreatDoor.Aev

/- AEV: each operation does what the evaluator says (3). -/
namespace Go.Proofs.YtijjlpgcpdapnaaGreatDoor.Aev
set_option linter.unusedVariables false
set_option linter.unusedSimpArgs false
open Go

section mem
variable {X : Cx} {w w' : World} {S : Nat → Prop} {ρ : Nat → Option Value} {H : Nat → Option Nat} {blk : Nat → Option (Option Blk)}

theorem Mem.adopt (h : Mem X w S ρ H blk) {n : Nat} (hn : blk n = none) {home : Option Nat} (hm : ∀ b, home = some b → X.mine b ∧ ¬ S b ∧ ∀ m C, blk m = some (some C) → H m ≠ some b)
  (hsz : w.heap.size ≤ w'.heap.size) (hk : ∀ k, k < w.heap.size → home ≠ some k → w'.heap[k]? = w.heap[k]?) (ho : w'.os = w.os) (ht : w'.tape = w.tape) (hp : w'.output = w.output)
  {v : Value} {B : Blk} (hB : RepBlk w' S (upd ρ n (some v)) n home B) :
  Mem X w' S (upd ρ n (some v)) (upd H n home) (upd blk n (some (some B))) ∧ More w w' S S ρ (upd ρ n (some v)) := by
 have hρ := upd_le (v := v) (h.never n hn)
 have hS : ∀ k, S k → w'.heap[k]? = w.heap[k]? := fun k hs => hk k (h.old k hs) (fun e => (hm k e).2.1 hs)
 have other : ∀ m C, m ≠ n → upd blk n (some (some B)) m = some (some C) → blk m = some (some C) := fun m C e hm => by rwa [upd_other _ _ e] at hm
 refine ⟨?_, fun _ x => x, hS, hρ⟩
 refine { rep := ?_, sep := ?_, apart := ?_, homes := ?_, old := fun b hb => Nat.lt_of_lt_of_le (h.old b hb) hsz, never := ?_, s0 := h.s0, smine := h.smine, names := fun m u hm => hρ _ _ (h.names m u hm), os := ho.trans h.os, tape := ht.trans h.tape, output := hp.trans h.output, size := Nat.le_trans h.size hsz, same := ?_, gl := h.gl.mono (fun _ x => x) hS }
 ·intro m C hC
  by_cases e : m = n
  ·subst e
   rw [upd_same] at hC ⊢
   obtain rfl : B = C := by simpa using hC
   exact hB
  ·rw [upd_other _ _ e]
   have hC := other m C e hC
   have hr := h.rep m C hC
   exact hr.mono (fun _ x => x) hS hρ (fun b hb => hk b (hr.home_lt hb) (fun e' => (hm b e').2.2 m C hC hb))
 ·intro m k C D b hC hD h1 h2
  by_cases e : m = n
  ·by_cases e' : k = n
   ·rw [e, e']
   ·subst e
    rw [upd_same] at h1
    rw [upd_other _ _ e'] at h2
    exact ((hm b h1).2.2 k D (other k D e' hD) h2).elim
  ·by_cases e' : k = n
   ·subst e'
    rw [upd_same] at h2
    rw [upd_other _ _ e] at h1
    exact ((hm b h2).2.2 m C (other m C e hC) h1).elim
   ·rw [upd_other _ _ e] at h1
    rw [upd_other _ _ e'] at h2
    exact h.sep m k C D b (other m C e hC) (other k D e' hD) h1 h2
 ·intro m C b hC h1
  by_cases e : m = n
  ·subst e; rw [upd_same] at h1; exact (hm b h1).2.1
  ·rw [upd_other _ _ e] at h1; exact h.apart m C b (other m C e hC) h1
 ·intro m C b hC h1
  by_cases e : m = n
  ·subst e; rw [upd_same] at h1; exact (hm b h1).1
  ·rw [upd_other _ _ e] at h1; exact h.homes m C b (other m C e hC) h1
 ·intro m hC
  by_cases e : m = n
  ·subst e; rw [upd_same] at hC; simp at hC
  ·rw [upd_other _ _ e] at hC ⊢
   exact h.never m hC
 ·intro b hb hM
  rw [hk b (Nat.lt_of_lt_of_le hb h.size) (fun e => ?_)]
  ·exact h.same b hb hM
  ·rcases (hm b e).1 with h1 | h1
   ·exact hM h1
   ·omega
end mem

section
variable {P : Program} {sg : FuncId → Option (Nat × List Nat)} {fresh : Nat} {X : Cx} {w : World} {S : Nat → Prop} {ρ : Nat → Option Value} {H : Nat → Option Nat} {N : Nat} {st : St} {a : Act} {o : Oper} {x : Out} {lg lg' : List Loc}

theorem Does.settled {tv : TV} {wr : List (Nat × Option Blk)} {v : Value} {s : Sem Next} (hR : Rep X w S ρ H N st a) (ht : ToSettle st wr) (hs : s.run P w = .ok (.value v) w)
  (hv : ∀ S' : Nat → Prop, (∀ b, S b → S' b) → Settled w S' ρ wr → RepTV w S' ρ tv v) : Does P X N st a w S ρ s { tv := tv, wr := wr } := by
 obtain ⟨S', H', hm, hmore, hset⟩ := settle_all wr hR.mem ht.all
 exact ⟨v, w, S', ρ, H', .inl hs, hR.of_mem hm hmore (sets_tmp wr st), hv S' hmore.s hset, hmore⟩

theorem rd_drop_take {t : Ty} {base : Option Addr} {len cap : Nat} {xs : List t.den} (h : Rd w S (.sl t) [.slice base len cap] xs) {l h' : Nat} (h1 : l ≤ h') (h2 : h' ≤ xs.length) :
  Rd w S (.sl t) [.slice (if cap = l then base else base.map (·.add (l * t.size))) (h' - l) (cap - l)] ((xs.drop l).take (h' - l)) := by
 obtain ⟨base', len', cap', e, e1, e2, e3, e4, e5⟩ := h
 simp at e; obtain ⟨rfl, rfl, rfl⟩ := e
 refine ⟨_, _, _, rfl, by simp; omega, by omega, ?_, ?_, ?_⟩
 ·intro q hq hc
  split at hq
  ·omega
  ·cases base with
   | none => simp at hq
   | some p =>
    simp at hq; subst hq
    have := e3 p rfl (by omega)
    unfold Addr.add; split
    ·exact this
    ·rfl
 ·intro hb
  split at hb
  ·have := e4 hb; omega
  ·cases base with
   | none => have := e4 rfl; omega
   | some p => simp at hb
 ·intro hx
  have hlen : 0 < ((xs.drop l).take (h' - l)).length := List.length_pos_iff.2 hx
  simp at hlen
  have hne : xs ≠ [] := by intro e; subst e; simp at hlen
  obtain ⟨p, rfl, hS, hr⟩ := e5 hne
  have hcl : cap ≠ l := by omega
  have hsp := e3 p rfl (by omega)
  refine ⟨p.add (l * t.size), by simp [hcl], by unfold Addr.add; split <;> simpa using hS, fun i hi => ?_⟩
  simp at hi
  obtain ⟨us, hc, hu⟩ := hr (l + i) (by omega)
  have ep : p = ⟨p.block, p.off, none⟩ := by cases p; simp at hsp; simp [hsp]
  refine ⟨us, ?_, ?_⟩
  ·rw [ep, addr_add]
   simp only
   have : p.off + l * t.size + i * t.size = p.off + (l + i) * t.size := by rw [Nat.add_mul]; omega
   rw [this]; exact hc
  ·have : ((xs.drop l).take (h' - l))[i]'(by simp; omega) = xs[l + i]'(by omega) := by simp
   rw [this]; exact hu

theorem rd_cut {t : Ty} {base : Option Addr} {len cap : Nat} {xs : List t.den} (h : Rd w S (.sl t) [.slice base len cap] xs) {l h' m : Nat} (h1 : l ≤ h') (h2 : h' ≤ xs.length) (h3 : h' ≤ m) (h4 : m ≤ cap) :
  Rd w S (.sl t) [.slice (if m = l then base else base.map (·.add (l * t.size))) (h' - l) (m - l)] ((xs.drop l).take (h' - l)) := by
 obtain ⟨base', len', cap', e, e1, e2, e3, e4, e5⟩ := h
 simp at e; obtain ⟨rfl, rfl, rfl⟩ := e
 refine ⟨_, _, _, rfl, by simp; omega, by omega, ?_, ?_, ?_⟩
 ·intro q hq hc
  split at hq
  ·omega
  ·cases base with
   | none => simp at hq
   | some p =>
    simp at hq; subst hq
    have := e3 p rfl (by omega)
    unfold Addr.add; split
    ·exact this
    ·rfl
 ·intro hb
  split at hb
  ·have := e4 hb; omega
  ·cases base with
   | none => have := e4 rfl; omega
   | some p => simp at hb
 ·intro hx
  have hlen : 0 < ((xs.drop l).take (h' - l)).length := List.length_pos_iff.2 hx
  simp at hlen
  have hne : xs ≠ [] := by intro e; subst e; simp at hlen
  obtain ⟨p, rfl, hS, hr⟩ := e5 hne
  have hcl : m ≠ l := by omega
  have hsp := e3 p rfl (by omega)
  refine ⟨p.add (l * t.size), by simp [hcl], by unfold Addr.add; split <;> simpa using hS, fun i hi => ?_⟩
  simp at hi
  obtain ⟨us, hc, hu⟩ := hr (l + i) (by omega)
  have ep : p = ⟨p.block, p.off, none⟩ := by cases p; simp at hsp; simp [hsp]
  refine ⟨us, ?_, ?_⟩
  ·rw [ep, addr_add]
   simp only
   have : p.off + l * t.size + i * t.size = p.off + (l + i) * t.size := by rw [Nat.add_mul]; omega
   rw [this]; exact hc
  ·have : ((xs.drop l).take (h' - l))[i]'(by simp; omega) = xs[l + i]'(by omega) := by simp
   rw [this]; exact hu

theorem bounds3_run {cap : Nat} {lo : Option Operand} {z mo : Operand} {l h len : Int} {lo' : Option TV} {hv mv : TV} {km : IntKind × Int} {lg lg1 lg2 lg3 lg4 lg5 lg6 lg7 : List Loc} (hR : Rep X w S ρ H N st a)
  (h1 : (optM opd lo).run st lg = some (lo', lg1)) (h2 : (opd z).run st lg2 = some (hv, lg3)) (h3 : (sliceB lo' (some hv) len).run st lg4 = some ((l, h), lg5)) {n : Nat} (hn : len = n) (hcap : n ≤ cap)
  (h8 : (opd mo).run st lg6 = some (mv, lg7)) {lg8 lg9 : List Loc} (h9 : (asI mv).run st lg8 = some (km, lg9)) (hm : h = km.2) :
  0 ≤ l ∧ l ≤ h ∧ h ≤ n ∧ (Instr.sliceBounds true n cap (lo.map a.eval) (some (a.eval z)) (some (a.eval mo))).run P w = .ok (l.toNat, h.toNat, h.toNat) w := by
 subst hn
 unfold sliceB at h3
 obtain ⟨h', lg6, h4, h3⟩ := rbs h3
 obtain ⟨l', lg7, h5, h3⟩ := rbs h3
 obtain ⟨u, lg8, h6, h3⟩ := rbs h3
 have hg := run_guard h6
 have := run_pure h3; simp at this; obtain ⟨⟨rfl, rfl⟩, _⟩ := this
 simp only [Bool.and_eq_true, decide_eq_true_eq] at hg
 obtain ⟨⟨g1, g2⟩, g3⟩ := hg
 refine ⟨g1, g2, g3, ?_⟩
 have hmo := opd_rep hR h8
 rw [asI_inv h9] at hmo
 have hmo := rep_i hmo
 simp only at hmo
 have hz := opd_rep hR h2
 obtain ⟨⟨k, i⟩, lg10, h11, h10⟩ := rbs h4
 have := run_pure h10; simp at this; obtain ⟨rfl, _⟩ := this
 rw [asI_inv h11] at hz
 have hz := rep_i hz
 simp only at hz hm
 have hl : (match lo.map a.eval with | some v => Instr.sliceBound v h.toNat .slice3C | none => (pure 0 : Sem Nat)).run P w = .ok l.toNat w := by
  cases lo with
  | none =>
   have := run_pure' h1; simp at this; obtain ⟨rfl, _⟩ := this
   have := run_pure' h5; simp at this; obtain ⟨rfl, _⟩ := this
   simp
  | some y =>
   obtain ⟨v, lg9, h7, h8⟩ := rbs h1
   have := run_pure h8; simp at this; obtain ⟨rfl, _⟩ := this
   obtain ⟨⟨k, i⟩, lg10, h9, h10⟩ := rbs h5
   have := run_pure h10; simp at this; obtain ⟨rfl, _⟩ := this
   have hy := opd_rep hR h7
   rw [asI_inv h9] at hy
   have hy := rep_i hy
   simp only at hy
   simp only [Option.map_some, hy, Instr.sliceBound, asIntOf, Sem.run_bind, Sem.run_pure, Result.andThen_ok]
   rw [if_pos (by omega)]
   rfl
 have hb1 : (Instr.sliceBound (a.eval mo) cap .slice3Acap).run P w = .ok h.toNat w := by
  simp only [hmo, Instr.sliceBound, asIntOf, Sem.run_bind, Sem.run_pure, Result.andThen_ok]
  rw [if_pos (by omega), hm]; rfl
 have hb2 : (Instr.sliceBound (a.eval z) h.toNat .slice3B).run P w = .ok h.toNat w := by
  simp only [hz, Instr.sliceBound, asIntOf, Sem.run_bind, Sem.run_pure, Result.andThen_ok]
  rw [if_pos (by omega)]; rfl
 unfold Instr.sliceBounds
 cases lo with
 | none => simp at hl; simp [hb1, hb2, ← hl]
 | some y => simp at hl; simp [hb1, hb2, hl]

theorem slice_run {t : TypeId} {e : TypeId} (hu : P.underlying t = some (.slice e)) {inf : TypeInfo} (hi : P.info? e = some inf) {base : Option Addr} {len cap : Nat} {lo hi' : Option Value} {l h : Nat}
  (hb : (Instr.sliceBounds true len cap lo hi' none).run P w = .ok (l, h, cap) w) :
  (Instr.sliceAt t (.slice base len cap) lo hi' none).run P w = .ok (.slice (if cap = l then base else base.map (·.add (l * inf.size))) (h - l) (cap - l)) w := by
 simp [Instr.sliceAt, ur0 hu, Instr.slice, hb, sizeOf_run hi]

theorem elemOk_some {t : TypeId} {u : Ty} {inf : TypeInfo} (h : elemOk P t u = some inf) : ∃ e, P.underlying t = some (.slice e) ∧ P.info? e = some inf ∧ inf.size = u.size := by
 unfold elemOk at h
 split at h
 ·rename_i e hu
  split at h
  ·rename_i i hi
   split at h
   ·rename_i hs
    simp at h; subst h
    exact ⟨e, hu, hi, hs⟩
   ·simp at h
  ·simp at h
 ·simp at h

theorem arrOk_some {t : TypeId} {m : Nat} {u : Ty} (h : arrOk P t = some (m, u)) : ∃ e inf, P.underlying t = some (.array m e) ∧ P.info? e = some inf ∧ inf.size = u.size ∧ 1 ≤ inf.size ∧ 2 ≤ m := by
 unfold arrOk at h
 split at h
 ·rename_i len e hu
  split at h
  ·rename_i inf u' hi hu'
   split at h
   ·rename_i hc
    simp at h
    obtain ⟨rfl, rfl⟩ := h
    simp only [Bool.and_eq_true, decide_eq_true_eq, beq_iff_eq] at hc
    exact ⟨e, inf, hu, hi, hc.1.1, hc.1.2, hc.2⟩
   ·simp at h
  ·simp at h
 ·simp at h

theorem does_slice {t : TypeId} {y : Operand} {lo hi mx : Option Operand} (ho : o.op = .slice t y lo hi mx) (h : (opA P sg fresh o).run st lg = some (.out x, lg')) (hR : Rep X w S ρ H N st a) : Does P X N st a w S ρ (execOp a.eval o) x := by
 cases mx with
 | some m =>
  simp only [opA, ho] at h
  obtain ⟨lo', lg1, h1, h⟩ := rbs h
  obtain ⟨hi', lg2, h2, h⟩ := rbs h
  obtain ⟨mv, lg3, h3, h⟩ := rbs h
  obtain ⟨yv, lg4, h4, h⟩ := rbs h
  have hy := opd_rep hR h4
  simp only at h hy
  unfold fullA at h
  split at h
  ·exact (rfl0 h).elim
  rename_i hnn
  cases hi with
  | none =>
   have := run_pure' h2; simp at this; obtain ⟨rfl, _⟩ := this
   simp at hnn
  | some z =>
  obtain ⟨zv, lg5, h5, h6⟩ := rbs h2
  have := run_pure h6; simp at this; obtain ⟨rfl, _⟩ := this
  split at h
  ·rename_i av
   split at h
   ·rename_i e hu
    split at h
    ·rename_i u htu
     split at h
     ·rename_i inf hel
      obtain ⟨⟨xs, wr⟩, lg6, h7, h⟩ := rbs h
      obtain ⟨⟨km, m'⟩, lg7, h8, h⟩ := rbs h
      obtain ⟨⟨l, h'⟩, lg8, h9, h⟩ := rbs h
      obtain ⟨_, lg9, h10, h⟩ := rbs h
      have hg := run_guard h10
      simp only [decide_eq_true_eq] at hg
      have h := run_rdB h
      split at h
      ·rename_i hfresh
       have := run_pure' h; simp at this; obtain ⟨rfl, _⟩ := this
       obtain ⟨e', hue, hie, hsz⟩ := elemOk_some hel
       obtain ⟨hts, hrd⟩ := toD_spec h7 hR.mem
       obtain ⟨S1, H1, hm1, hmore1, hset1⟩ := settle_all _ hR.mem hts.all
       have hrd1 := hrd hmore1.s hset1 hy
       have hq := hrd1
       obtain ⟨base, len, cap, hv, e1, e2, e3, e4, e5⟩ := hq
       simp at hv
       have e1 : len = List.length xs := e1
       rw [hv] at hrd1
       obtain ⟨g1, g2, g3, hb⟩ := bounds3_run (P := P) (cap := cap) (n := List.length xs) hR h1 h5 h9 rfl (by omega) h3 h8 hg
       have hcut := rd_cut hrd1 (l := l.toNat) (h' := h'.toNat) (m := h'.toNat) (by omega) (by omega) (Nat.le_refl _) (by omega)
       have hrun : (Instr.sliceAt t (a.eval y) (lo.map a.eval) (some (a.eval z)) (some (a.eval m))).run P w = .ok (.slice (if h'.toNat = l.toNat then base else base.map (·.add (l.toNat * u.size))) (h'.toNat - l.toNat) (h'.toNat - l.toNat)) w := by
        rw [hv, ← hsz]
        simp [Instr.sliceAt, ur0 hue, Instr.slice, e1, hb, sizeOf_run hie]
       have hfw : (st.sets wr).blk fresh = none := by
        rw [sets_other]
        ·exact hfresh
        ·intro p hp e
         exact hts.no hp (by rw [e]; exact hfresh)
       generalize hnv : Value.slice (if h'.toNat = l.toNat then base else base.map (·.add (l.toNat * u.size))) (h'.toNat - l.toNat) (h'.toNat - l.toNat) = nv at hrun hcut
       have hll : (((xs : List u.den).drop l.toNat).take (h'.toNat - l.toNat)).length = h'.toNat - l.toNat := by simp; omega
       obtain ⟨hmem, hmore⟩ := hm1.adopt hfw (home := none) (w' := w) (fun b hb => by simp at hb) (Nat.le_refl _) (fun k hk _ => rfl) rfl rfl rfl
        (v := nv) (B := .own u false (((xs : List u.den).drop l.toNat).take (h'.toNat - l.toNat))) ⟨_, by rw [upd_same], .inr ⟨rfl, rfl, hcut, _, by rw [hll]; exact hnv.symm⟩⟩
       have hM := hmore1.trans hmore
       refine ⟨nv, w, S1, upd ρ fresh (some nv), upd H1 fresh none, .inl (by simp [execOp, ho, hrun]), hR.of_mem (st' := st.sets _) ?_ hM (sets_tmp _ _), ⟨by rw [upd_same], _, _, _, hnv.symm⟩, hM⟩
       rw [sets_append]
       exact hmem
      ·exact (rfl0 h).elim
     ·exact (rfl0 h).elim
    ·exact (rfl0 h).elim
   ·exact (rfl0 h).elim
  ·exact (rfl0 h).elim
 | none =>
 simp only [opA, ho] at h
 obtain ⟨lo', lg1, h1, h⟩ := rbs h
 obtain ⟨hi', lg2, h2, h⟩ := rbs h
 obtain ⟨yv, lg3, h3, h⟩ := rbs h
 have hy := opd_rep hR h3
 simp only at h hy
 split at h
 ·rename_i s
  split at h
  ·rename_i hu
   obtain ⟨⟨l, h'⟩, lg4, h4, h⟩ := rbs h
   obtain rfl := outA_eq h
   have hv := rep_s hy
   obtain ⟨g1, g2, g3, hb⟩ := bounds_run (P := P) (isS := false) (cap := s.size) hR h1 h2 h4 (n := s.size) rfl (Nat.le_refl _)
   refine Does.value hR (v := .string (s.extract l.toNat h'.toNat)) ?_ (by simp [RepTV, RepVV, RepAV, Rd])
   simp [execOp, ho, hv, Instr.sliceAt, ur0 hu, Instr.slice, hb]
  ·exact (rfl0 h).elim
 ·rename_i e xs
  split at h
  ·rename_i inf hel
   obtain ⟨⟨l, h'⟩, lg4, h4, h⟩ := rbs h
   obtain rfl := outA_eq h
   obtain ⟨e', hu, hi', hsz⟩ := elemOk_some hel
   have hy' := hy
   obtain ⟨base, len, cap, hv, e1, e2, e3, e4, e5⟩ := hy
   simp at hv
   obtain ⟨g1, g2, g3, hb⟩ := bounds_run (P := P) (isS := true) (cap := cap) hR h1 h2 h4 (n := xs.length) rfl (by omega)
   have hy' : Rd w S (.sl e) [.slice base len cap] xs := by rw [← hv]; exact hy'
   have hrd := rd_drop_take hy' (l := l.toNat) (h' := h'.toNat) (by omega) (by omega)
   refine Does.value hR ?_ hrd
   have := slice_run (P := P) (w := w) hu hi' (base := base) (len := len) (cap := cap) (by rw [e1]; exact hb)
   rw [hsz] at this
   simp [execOp, ho, hv, this]
  ·exact (rfl0 h).elim
 ·rename_i n
  obtain ⟨B, lg4, h4, h⟩ := rbs h
  have hb := run_rB h4
  simp only at h hb
  split at h
  ·rename_i u excl xs
   split at h
   ·rename_i inf hel
    obtain ⟨⟨l, h'⟩, lg5, h5, h⟩ := rbs h
    have := run_pure' h; simp at this; obtain ⟨rfl, _⟩ := this
    obtain ⟨e', hu, hi', hsz⟩ := elemOk_some hel
    obtain ⟨hρ, base, len, cap, hv⟩ := hy
    have hts : ToSettle st [(n, some (.settled u xs))] := fun p hp => by simp at hp; subst hp; exact .inl ⟨_, _, _, rfl, hb⟩
    have hlen : len = xs.length ∧ len ≤ cap := by
     obtain ⟨S', H', hm, hmore, hset⟩ := settle_all _ hR.mem hts.all
     obtain ⟨t', xs', v', e1, e2, e3⟩ := hset.sett (List.mem_singleton.2 rfl)
     simp at e1; obtain ⟨rfl, e1⟩ := e1; cases e1
     rw [hρ] at e2; cases e2
     obtain ⟨_, _, _, q, q1, q2, _⟩ := e3
     rw [hv] at q; simp at q; obtain ⟨_, rfl, rfl⟩ := q
     exact ⟨q1, q2⟩
    obtain ⟨g1, g2, g3, hbd⟩ := bounds_run (P := P) (isS := true) (cap := cap) hR h1 h2 h5 (n := xs.length) rfl (by omega)
    have hrun := slice_run (P := P) (w := w) hu hi' (base := base) (len := len) (cap := cap) (by rw [hlen.1]; exact hbd)
    rw [hsz] at hrun
    refine Does.settled hR hts (v := .slice (if cap = l.toNat then base else base.map (·.add (l.toNat * u.size))) (h'.toNat - l.toNat) (cap - l.toNat)) (by simp [execOp, ho, hv, hrun]) (fun S' hS hset => ?_)
    obtain ⟨t', xs', v', e1, e2, e3⟩ := hset.sett (List.mem_singleton.2 rfl)
    simp at e1; obtain ⟨rfl, e1⟩ := e1; cases e1
    rw [hρ] at e2; cases e2
    rw [hv] at e3
    exact rd_drop_take e3 (l := l.toNat) (h' := h'.toNat) (by omega) (by omega)
   ·exact (rfl0 h).elim
  ·rename_i u xs
   split at h
   ·rename_i inf hel
    obtain ⟨⟨l, h'⟩, lg5, h5, h⟩ := rbs h
    obtain rfl := outA_eq h
    obtain ⟨e', hu, hi', hsz⟩ := elemOk_some hel
    obtain ⟨hρ, base, len, cap, hv⟩ := hy
    obtain ⟨v', e2, _, hrd⟩ := hR.mem.rep n _ hb
    rw [hρ] at e2; cases e2
    rw [hv] at hrd
    have hq := hrd
    obtain ⟨_, _, _, q, q1, q2, _⟩ := hq
    simp at q; obtain ⟨_, rfl, rfl⟩ := q
    obtain ⟨g1, g2, g3, hbd⟩ := bounds_run (P := P) (isS := true) (cap := cap) hR h1 h2 h5 (n := xs.length) rfl (by omega)
    have hrun := slice_run (P := P) (w := w) hu hi' (base := base) (len := len) (cap := cap) (by rw [q1]; exact hbd)
    rw [hsz] at hrun
    exact Does.value hR (by simp [execOp, ho, hv, hrun]) (rd_drop_take hrd (l := l.toNat) (h' := h'.toNat) (by omega) (by omega))
   ·exact (rfl0 h).elim
  ·exact (rfl0 h).elim
 ·rename_i n m
  split at h
  ·rename_i m' u har
   split at h
   ·rename_i hmm; subst hmm
    obtain ⟨e', inf, hu, hie, hsz, _, _⟩ := arrOk_some har
    obtain ⟨B, lg4, h4, hB⟩ := rbs h
    have hb := run_rB h4
    simp only at hB hb
    cases B with
    | box cs => exact (rfl0 hB).elim
    | settled u' xs => exact (rfl0 hB).elim
    | mp kt et es => exact (rfl0 hB).elim
    | own u' excl xs =>
     simp only [cutArr] at hB
     split at hB
     ·rename_i huu; subst huu
      obtain ⟨⟨l, h'⟩, lg5, h5, hB⟩ := rbs hB
      have := run_pure' hB; simp at this; obtain ⟨rfl, _⟩ := this
      obtain ⟨b, hρ, hv⟩ := hy
      have hts : ToSettle st [(n, some (.settled u' xs))] := fun p hp => by simp at hp; subst hp; exact .inl ⟨_, _, _, rfl, hb⟩
      have hlen : m' = List.length xs := by
       obtain ⟨S', H', hm, hmore, hset⟩ := settle_all _ hR.mem hts.all
       obtain ⟨t', xs', v', e1, e2, e3⟩ := hset.sett (List.mem_singleton.2 rfl)
       simp at e1; obtain ⟨rfl, e1⟩ := e1; cases e1
       rw [hρ] at e2; cases e2
       obtain ⟨_, _, _, q, q1, q2, _⟩ := e3
       simp at q; obtain ⟨_, rfl, rfl⟩ := q
       exact q1
      obtain ⟨g1, g2, g3, hbd⟩ := bounds_run (P := P) (isS := false) (cap := m') hR h1 h2 h5 (n := m') rfl (Nat.le_refl _)
      refine Does.settled hR hts (v := .slice (if m' = l.toNat then some ⟨b, 0, none⟩ else (some (⟨b, 0, none⟩ : Addr)).map (·.add (l.toNat * u'.size))) (h'.toNat - l.toNat) (m' - l.toNat)) (by
       simp [execOp, ho, hv, Instr.sliceAt, ur0 hu, Instr.sureAddr, hbd, sizeOf_run hie, hsz]
       split <;> rfl) (fun S' hS hset => ?_)
      obtain ⟨t', xs', v', e1, e2, e3⟩ := hset.sett (List.mem_singleton.2 rfl)
      simp at e1; obtain ⟨rfl, e1⟩ := e1; cases e1
      rw [hρ] at e2; cases e2
      exact rd_drop_take e3 (l := l.toNat) (h' := h'.toNat) (by omega) (by omega)
     ·exact (rfl0 hB).elim
   ·exact (rfl0 h).elim
  ·exact (rfl0 h).elim
 ·exact (rfl0 h).elim

theorem eltA_does {t : TypeId} {y i : Operand} (ho : o.op = .indexAddr t y i) {u : Ty} {av : AV} {k : IntKind} {i' : Int} (h : (eltA P t u av i').run st lg = some (.out x, lg')) (hR : Rep X w S ρ H N st a)
  (hi : a.eval i = .int k i') (hy : RepTV w S ρ (.v (.one av)) (a.eval y)) : Does P X N st a w S ρ (execOp a.eval o) x := by
 unfold eltA at h
 split at h
 ·rename_i inf hel
  obtain ⟨⟨xs, wr⟩, lg4, h4, h⟩ := rbs h
  obtain ⟨_, lg5, h5, h⟩ := rbs h
  have hg := run_guard h5
  simp only [Bool.and_eq_true, decide_eq_true_eq] at hg
  have := run_pure' h; simp at this; obtain ⟨rfl, _⟩ := this
  obtain ⟨e', hue, hie, hsz⟩ := elemOk_some hel
  obtain ⟨hts, hrd⟩ := toD_spec h4 hR.mem
  obtain ⟨S1, H1, hm1, hmore1, hset1⟩ := settle_all _ hR.mem hts.all
  obtain ⟨base, len, cap, hv, e1, e2, e3, e4, e5⟩ := hrd hmore1.s hset1 hy
  have e1 : len = xs.length := e1
  have hne : xs ≠ [] := by intro e; have := hg.2; rw [e] at this; simp at this; omega
  simp at hv
  obtain ⟨p, rfl, hS, _⟩ := e5 hne
  have hsp := e3 p rfl (by have := List.length_pos_iff.2 hne; omega)
  have ep : p = ⟨p.block, p.off, none⟩ := by cases p; simp at hsp; simp [hsp]
  have hlt : i' < len := by omega
  refine Does.settled hR hts (v := Ptr p.block (p.off + i'.toNat * u.size)) ?_ (fun S' hS' hset => ?_)
  ·have hadd : p.add (i'.toNat * u.size) = ⟨p.block, p.off + i'.toNat * u.size, none⟩ := by rw [ep, addr_add]
   simp [execOp, ho, hv, hi, Instr.indexAt, asIntOf, ur0 hue, sizeOf_run hie, hsz, hg.1, hlt, hadd]
  ·obtain ⟨base', len', cap', hv', q1, q2, q3, q4, q5⟩ := hrd hS' hset hy
   rw [hv] at hv'; simp at hv'; obtain ⟨rfl, rfl, rfl⟩ := hv'
   obtain ⟨p', hp', hS'', hr⟩ := q5 hne
   simp at hp'; subst hp'
   exact ⟨by have := hg.2; omega, p.block, p.off, rfl, hS'', hr⟩
 ·exact (rfl0 h).elim
theorem eltOwn_does {t : TypeId} {y i : Operand} (ho : o.op = .indexAddr t y i) {u : Ty} {n : Nat} {k : IntKind} {i' : Int} (h : (eltOwn P t u n i').run st lg = some (.out x, lg')) (hR : Rep X w S ρ H N st a)
  (hi : a.eval i = .int k i') (hy : RepTV w S ρ (.v (.one (.own n))) (a.eval y)) : Does P X N st a w S ρ (execOp a.eval o) x := by
 unfold eltOwn at h
 split at h
 ·rename_i inf hel
  obtain ⟨B, lg4, h4, h⟩ := rbs h
  have hb := run_rB h4
  simp only at h hb
  split at h
  ·rename_i u' excl xs
   split at h
   ·rename_i e; subst e
    obtain ⟨_, lg5, h5, h⟩ := rbs h
    have hg := run_guard h5
    simp only [Bool.and_eq_true, decide_eq_true_eq] at hg
    obtain rfl := out_eq h
    obtain ⟨e', hue, hie, hsz⟩ := elemOk_some hel
    obtain ⟨hρ, _⟩ := hy
    obtain ⟨v', h2, h3⟩ := hR.mem.rep n _ hb
    rw [hρ] at h2; simp at h2; subst h2
    have hpl : ∃ b off cap, a.eval y = .slice (some ⟨b, off, none⟩) (List.length xs) cap := by
     rcases h3 with ⟨b, _, len, cap, vs, el, k1, k2, _⟩ | ⟨_, _, h3, _⟩
     ·exact ⟨b, 0, cap, by rw [k1, k2]⟩
     ·obtain ⟨base, len, cap, q1, q2, q3, q4, q5, q6⟩ := h3
      simp at q1
      have q2 : len = List.length xs := q2
      have hne : xs ≠ [] := by intro e; have := hg.2; rw [e] at this; simp at this; omega
      obtain ⟨p, rfl, _⟩ := q6 hne
      have hsp := q4 p rfl (by have := List.length_pos_iff.2 hne; omega)
      have ep : p = ⟨p.block, p.off, none⟩ := by cases p; simp at hsp; simp [hsp]
      exact ⟨p.block, p.off, cap, by rw [q1, ← q2, ← ep]⟩
    obtain ⟨b, off, cap, hv⟩ := hpl
    refine Does.value hR (v := Ptr b (off + i'.toNat * u'.size)) ?_ ⟨hg.1, b, off, List.length xs, cap, by rw [hρ, hv], by omega, rfl⟩
    simp [execOp, ho, hv, hi, Instr.indexAt, asIntOf, ur0 hue, sizeOf_run hie, hsz, hg.1, hg.2, addr_add]
   ·exact (rfl0 h).elim
  ·exact eltA_does ho h hR hi hy
 ·exact (rfl0 h).elim
theorem does_indexAddr {t : TypeId} {y i : Operand} (ho : o.op = .indexAddr t y i) (h : (opA P sg fresh o).run st lg = some (.out x, lg')) (hR : Rep X w S ρ H N st a) : Does P X N st a w S ρ (execOp a.eval o) x := by
 simp only [opA, ho] at h
 obtain ⟨iv, lg1, h1, h⟩ := rbs h
 obtain ⟨⟨k, i'⟩, lg2, h2, h⟩ := rbs h
 obtain ⟨yv, lg3, h3, h⟩ := rbs h
 have hi := opd_rep hR h1
 rw [asI_inv h2] at hi
 have hi := rep_i hi
 have hy := opd_rep hR h3
 simp only at h hy hi
 split at h
 ·rename_i av e hu
  split at h
  ·split at h
   ·exact eltOwn_does ho h hR hi hy
   ·split at h
    ·rename_i inf hie
     obtain ⟨_, lg5, h5, h⟩ := rbs h
     have hg := run_guard h5
     simp only [Bool.and_eq_true, decide_eq_true_eq] at hg
     obtain rfl := outA_eq h
     obtain ⟨b, hp, hpv⟩ := hy
     refine Does.value hR (v := Ptr b (i'.toNat * inf.size)) ?_ ⟨b, hp, rfl⟩
     simp [execOp, ho, hpv, hi, Instr.indexAt, asIntOf, ur0 hu, sizeOf_run hie, hg.1, hg.2, addr_add]
    ·exact (rfl0 h).elim
   ·exact eltA_does ho h hR hi hy
  ·exact (rfl0 h).elim
 ·rename_i n m len e hu
  split at h
  ·rename_i m' u har
   split at h
   ·rename_i hmm; subst hmm
    obtain ⟨e', inf, hu', hie, hsz, _, _⟩ := arrOk_some har
    obtain ⟨_, lg5, h5, h⟩ := rbs h
    have hg := run_guard h5
    simp only [Bool.and_eq_true, decide_eq_true_eq] at hg
    obtain rfl := out_eq h
    obtain ⟨b, hp, hpv⟩ := hy
    refine Does.value hR (v := Ptr b (0 + i'.toNat * u.size)) ?_ ⟨hg.1, b, 0, m', m', hp, by omega, rfl⟩
    simp [execOp, ho, hpv, hi, Instr.indexAt, asIntOf, ur0 hu', Instr.sureAddr, sizeOf_run hie, hsz, hg.1, hg.2, addr_add]
   ·exact (rfl0 h).elim
  ·exact (rfl0 h).elim
 ·rename_i n off len e hu
  split at h
  ·rename_i inf hie
   obtain ⟨_, lg5, h5, h⟩ := rbs h
   have hg := run_guard h5
   simp only [Bool.and_eq_true, decide_eq_true_eq] at hg
   obtain rfl := outA_eq h
   obtain ⟨b, hp, hpv⟩ := hy
   refine Does.value hR (v := Ptr b (off + i'.toNat * inf.size)) ?_ ⟨b, hp, rfl⟩
   simp [execOp, ho, hpv, hi, Instr.indexAt, asIntOf, ur0 hu, Instr.sureAddr, sizeOf_run hie, hg.1, hg.2, addr_add]
  ·exact (rfl0 h).elim
 ·exact (rfl0 h).elim

theorem mergeVV_tt {p q : VV} {lg : List Loc} {r : VV × List Loc} (h : (mergeVV true p q).run st lg = some r) : r.1 = p := by
 unfold mergeVV at h
 split at h
 ·split at h
  ·have := run_pure' h; subst this; rfl
  ·exact (rfl0 h).elim
 ·have := run_pure' (by simpa using run_brb h); subst this; rfl
theorem pickAt_rep {e : TypeId} {sz : Nat} {cs : List AV} {i : Int} {vs : Array Value} (hc : All2 (RepAV w S ρ) cs vs.toList) : ∀ (n j : Nat) {lg : List Loc} {r : VV × List Loc}, (pickAt P e sz cs i n j).run st lg = some r → (j : Int) ≤ i → i < ((j + n : Nat) : Int) →
  ∃ u, (part e vs (i.toNat * sz)).run P w = .ok u w ∧ RepVV w S ρ r.1 u
 | 0, j, lg, r, h, h1, h2 => by omega
 | n + 1, j, lg, r, h, h1, h2 => by
  simp only [pickAt] at h
  split at h
  ·rename_i v hv
   obtain ⟨u, hu, hr⟩ := partA_run (P := P) hv hc
   cases n with
   | zero =>
    have := run_pure' h; subst this
    have : i.toNat = j := by omega
    rw [this]; exact ⟨u, hu, hr⟩
   | succ n =>
    simp only at h
    obtain ⟨q, lg1, h3, h⟩ := rbs h
    by_cases e' : i = (j : Int)
    ·rw [decide_eq_true e'] at h
     have : i.toNat = j := by omega
     rw [this]
     have := mergeVV_tt h
     rw [this]; exact ⟨u, hu, hr⟩
    ·obtain ⟨u', hu', hr'⟩ := pickAt_rep hc (n + 1) (j + 1) h3 (by omega) (by omega)
     have hm := mergeVV_rep h hr hr'
     rw [decide_eq_false e'] at hm
     exact ⟨u', hu', by simpa using hm⟩
  ·exact (rfl0 h).elim

theorem does_index {t : TypeId} {y i : Operand} (ho : o.op = .index t y i) (h : (opA P sg fresh o).run st lg = some (.out x, lg')) (hR : Rep X w S ρ H N st a) : Does P X N st a w S ρ (execOp a.eval o) x := by
 simp only [opA, ho] at h
 obtain ⟨iv, lg1, h1, h⟩ := rbs h
 obtain ⟨⟨k, i'⟩, lg2, h2, h⟩ := rbs h
 obtain ⟨yv, lg3, h3, h⟩ := rbs h
 have hi := opd_rep hR h1
 rw [asI_inv h2] at hi
 have hi := rep_i hi
 have hy := opd_rep hR h3
 simp only at h hy hi
 split at h
 ·rename_i s
  split at h
  ·rename_i hu
   obtain ⟨_, lg5, h5, h⟩ := rbs h
   have hg := run_guard h5
   simp only [Bool.and_eq_true, decide_eq_true_eq] at hg
   obtain rfl := outA_eq h
   have hv := rep_s hy
   have hlt : i'.toNat < s.size := by omega
   refine Does.value hR (v := .int .u8 (bt s i')) ?_ (by simp [RepTV, RepVV, RepAV, Rd])
   have hget : s[i'.toNat]? = some s[i'.toNat] := by simp [hlt]
   have hbt : bt s i' = (s[i'.toNat]).toNat := by
    unfold bt
    have : s.data[i'.toNat]? = some s[i'.toNat] := by
     have := hlt
     simp only [ByteArray.size] at this
     rw [Array.getElem?_eq_getElem this]; rfl
    rw [this]; rfl
   rw [hbt]
   simp [execOp, ho, hv, hi, Instr.index, asIntOf, ur0 hu, hg.1, hget]
  ·exact (rfl0 h).elim
 ·rename_i cs
  split at h
  ·rename_i len e hu
   split at h
   ·rename_i inf hie
    obtain ⟨_, lg5, h5, h⟩ := rbs h
    have hg := run_guard h5
    simp only [Bool.and_eq_true, decide_eq_true_eq] at hg
    obtain ⟨vv, lg6, h6, h⟩ := rbs h
    obtain rfl := out_eq h
    obtain ⟨vs, hvs, hc⟩ := hy
    obtain ⟨u, hu', hr⟩ := pickAt_rep (P := P) hc _ _ h6 (by omega) (by omega)
    refine Does.value hR (v := u) ?_ hr
    simp [execOp, ho, hvs, hi, Instr.index, asIntOf, ur0 hu, sizeOf_run hie, hg.1, hg.2, hu']
   ·exact (rfl0 h).elim
  ·exact (rfl0 h).elim
 ·exact (rfl0 h).elim
end
end Go.Proofs.YtijjlpgcpdapnaaGreatDoor.Aev
