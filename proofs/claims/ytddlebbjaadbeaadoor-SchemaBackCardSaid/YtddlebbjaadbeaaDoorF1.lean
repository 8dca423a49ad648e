/- By a program of this session (AEV): functions of the program as plain functions, and that the machine does what they say. -/
import Derived.Test.YtddlebbjaadbeaaDoorTys
import Derived.Test.YtddlebbjaadbeaaDoorProg
import Derived.Laws.Externs
import Derived.Lib.Bytealg
import Derived.Test.YtddlebbjaadbeaaDoorF0
namespace Go.Proofs.YtddlebbjaadbeaaDoor.Aev
set_option linter.unusedVariables false
set_option linter.unusedSimpArgs false
set_option maxRecDepth 100000
set_option maxHeartbeats 4000000
open Go
/-! ### math_Float64frombits: function 80 (no body) -/
def ct_math_Float64frombits (g : Int → Option Nat) : Ct where
  nin := 0
  mv := []
  F := fun tvs blks {β} K => match tvs, blks with
    | [.v (.one (.d (.int .u64) a0))], [] => (g a0).bind fun r => K ⟨.v (.one (.d .flt r)), []⟩
    | _, _ => none
  legit := fun tvs blks K r h => by
    split at h
    · obtain ⟨x, hx, hk⟩ := Option.bind_eq_some_iff.1 h
      refine ⟨_, ?_, hk⟩
      simp only [hx, Option.bind_some]
    · simp at h
def math_Float64frombits.f (k : Nat) (a0 : Int) : Option Nat := some (a0.toNat)
theorem math_Float64frombits.ok (k : Nat) : CtOK Go.Proofs.Tryd.prog 80 (ct_math_Float64frombits (math_Float64frombits.f k)) := by
  refine ct_extern ?_
  intro tvs blks res h
  simp only [ct_math_Float64frombits] at h
  split at h
  · simp only [math_Float64frombits.f, Option.bind_some, Option.some.injEq] at h; subst h
    rename_i a0
    refine ⟨.float .f64 a0.toNat, ?_, rfl, rfl⟩
    intro w S ρ H vals hm hv
    obtain ⟨v0, m0, rfl, h0, hv⟩ := All2.cons_left hv
    cases All2.nil_left hv
    simp only [RepTV, RepVV, RepAV, Rd, List.cons.injEq, and_true] at h0
    subst h0
    exact ⟨run_callFunc_extern (e := Extern.MathFloatBits.float64frombits) Go.Proofs.Tryd.func80 (by kernel_rfl) (by kernel_rfl) (by kernel_rfl) (by kernel_rfl) _ w, rfl⟩
  · simp at h

/-! ### reals_Canon: function 62 -/
abbrev G_reals_Canon : Type := Int → Option Int
def ct_reals_Canon (g : G_reals_Canon) : Ct where
  nin := 0
  mv := []
  F := fun tvs blks {β} K => match tvs, blks with
    | [.v (.one (.d (.int .u64) a0))], [] => (g a0).bind fun r => K ⟨.v (.one (.d (.int .u64) r)), []⟩
    | _, _ => none
  legit := fun tvs blks K r h => by
    split at h
    · obtain ⟨x, hx, hk⟩ := Option.bind_eq_some_iff.1 h
      refine ⟨_, ?_, hk⟩
      simp only [hx, Option.bind_some]
    · simp at h
noncomputable def env_reals_Canon (g80 : Int → Option Nat)  : FEnv := { P := Go.Proofs.Tryd.prog, ct := fun m => if m = 80 then some (ct_math_Float64frombits g80) else none, N := 10, body := Go.Proofs.Tryd.f62.body.getD .skip, rvs := [.tmp 2], rts := [29], nin := 0, rmv := [], segs := [] }
def reals_Canon.c {β : Type} (g80 : Int → Option Nat)  (a0 : Int) (ret : Int → Option β) : Option β := ((g80 a0).bind fun r0 => (bif ((Ieee.Format.order (FloatKind.format FloatKind.f64) r0 r0) != (Option.some Ordering.eq)) then (ret ((9221120237041090560 : Int))) else (ret (a0))))
theorem reals_Canon.c_bind {β : Type} {g80 : Int → Option Nat}  {a0 : Int} {ret : Int → Option β} : reals_Canon.c g80  a0 ret = (reals_Canon.c g80  a0 some).bind ret := by
  simp only [reals_Canon.c, bif_bind, sum_bind, Option.bind_assoc, Option.bind_some, Option.bind_none, Option.bind_fun_some]
theorem reals_Canon.ev {g80 : Int → Option Nat}  {a0 : Int} : evAt (env_reals_Canon g80 ) [] [0] [.v (.one (.d (.int .u64) a0))] [] some = reals_Canon.c g80  a0 (fun r => some ⟨.v (.one (.d (.int .u64) r)), []⟩) := by
  kernel_rfl
def reals_Canon.f (k : Nat) (a0 : Int) : Option Int := reals_Canon.c (math_Float64frombits.f k)  a0 some
theorem reals_Canon.is {g80 : Int → Option Nat}  : FnIs (env_reals_Canon g80 ) 62 Go.Proofs.Tryd.f62 := ⟨Go.Proofs.Tryd.func62, rfl, rfl, rfl, by decide⟩
theorem reals_Canon.envok {g80 : Int → Option Nat}  (h80 : CtOK Go.Proofs.Tryd.prog 80 (ct_math_Float64frombits g80)) : EnvOK (env_reals_Canon g80 ).toEnv := by
  intro f c h
  simp only [env_reals_Canon] at h
  split at h
  · rename_i e; subst e; cases h; exact h80
  simp at h
noncomputable abbrev reals_Canon.E (k : Nat) : FEnv := env_reals_Canon (math_Float64frombits.f k) 
theorem reals_Canon.hE (k : Nat) : EnvOK (reals_Canon.E k).toEnv := reals_Canon.envok (math_Float64frombits.ok k)
theorem reals_Canon.ok (k : Nat) : CtOK Go.Proofs.Tryd.prog 62 (ct_reals_Canon (reals_Canon.f k)) := by
  refine ct_of_ev (E := reals_Canon.E k) reals_Canon.is (reals_Canon.hE k) (fun s hs => by simp [reals_Canon.E, env_reals_Canon] at hs) rfl ?_
  intro tvs blks res h
  simp only [ct_reals_Canon] at h
  split at h
  · exact (reals_Canon.ev.trans reals_Canon.c_bind).trans h
  · simp at h

/-! ### utf_first: function 93 -/
abbrev G_utf_first : Type := Int → Option (Int × Int × Int × Int)
def ct_utf_first (g : G_utf_first) : Ct where
  nin := 0
  mv := []
  F := fun tvs blks {β} K => match tvs, blks with
    | [.v (.one (.d (.int .u8) a0))], [] => (g a0).bind fun r => K ⟨.tup [(.one (.d (.int .i64) r.1)), (.one (.d (.int .i64) r.2.1)), (.one (.d (.int .u8) r.2.2.1)), (.one (.d (.int .u8) r.2.2.2))], []⟩
    | _, _ => none
  legit := fun tvs blks K r h => by
    split at h
    · obtain ⟨x, hx, hk⟩ := Option.bind_eq_some_iff.1 h
      refine ⟨_, ?_, hk⟩
      simp only [hx, Option.bind_some]
    · simp at h
abbrev S_utf_first_0 : Type := Int → Bool → Option (Int × Int × Int × Int)
def seg_utf_first_0 (g : S_utf_first_0) : Seg where
  path := [1, 3, 1, 4, 0, 1]
  prep := []
  keep := [0, 11]
  F := fun tvs blks {β} K => match tvs, blks with
    | [.v (.one (.d (.int .u8) x0)), .v (.one (.d .bool x1))], [] => (g x0 x1).bind fun r => K ⟨.tup [(.one (.d (.int .i64) r.1)), (.one (.d (.int .i64) r.2.1)), (.one (.d (.int .u8) r.2.2.1)), (.one (.d (.int .u8) r.2.2.2))], []⟩
    | _, _ => none
  legit := fun tvs blks K r h => by
    split at h
    · obtain ⟨x, hx, hk⟩ := Option.bind_eq_some_iff.1 h
      refine ⟨_, ?_, hk⟩
      simp only [hx, Option.bind_some]
    · simp at h
noncomputable def env_utf_first  (s0 : S_utf_first_0) : FEnv := { P := Go.Proofs.Tryd.prog, ct := fun m => none, N := 48, body := Go.Proofs.Tryd.f93.body.getD .skip, rvs := [.tmp 2, .tmp 3, .tmp 4, .tmp 5], rts := [3, 3, 5, 5], nin := 0, rmv := [], segs := [seg_utf_first_0 s0] }
def utf_first.c {β : Type}  (s0 : S_utf_first_0) (a0 : Int) (ret : (Int × Int × Int × Int) → Option β) : Option β := (bif (decide (a0 < (128 : Int))) then (ret ((1 : Int), (IntKind.wrap IntKind.i64 a0), (0 : Int), (0 : Int))) else (bif (decide (a0 < (194 : Int))) then ((s0 a0 true).bind ret) else ((s0 a0 (decide (a0 > (244 : Int)))).bind ret)))
def utf_first.s0c {β : Type}  (s0 : S_utf_first_0) (x0 : Int) (x1 : Bool) (ret : (Int × Int × Int × Int) → Option β) : Option β := (bif x1 then (ret ((0 : Int), (0 : Int), (0 : Int), (0 : Int))) else (bif (decide (x0 < (224 : Int))) then (ret ((2 : Int), (IntKind.wrap IntKind.i64 (IntKind.wrap IntKind.u8 ((BitVec.toNat ((BitVec.ofInt (8 : Nat) x0) &&& (BitVec.ofInt (8 : Nat) (31 : Int)))) : Int))), (128 : Int), (191 : Int))) else (bif (x0 == (224 : Int)) then (ret ((3 : Int), (0 : Int), (160 : Int), (191 : Int))) else (bif (x0 == (237 : Int)) then (ret ((3 : Int), (IntKind.wrap IntKind.i64 (IntKind.wrap IntKind.u8 ((BitVec.toNat ((BitVec.ofInt (8 : Nat) x0) &&& (BitVec.ofInt (8 : Nat) (15 : Int)))) : Int))), (128 : Int), (159 : Int))) else (bif (decide (x0 < (240 : Int))) then (ret ((3 : Int), (IntKind.wrap IntKind.i64 (IntKind.wrap IntKind.u8 ((BitVec.toNat ((BitVec.ofInt (8 : Nat) x0) &&& (BitVec.ofInt (8 : Nat) (15 : Int)))) : Int))), (128 : Int), (191 : Int))) else (bif (x0 == (240 : Int)) then (ret ((4 : Int), (0 : Int), (144 : Int), (191 : Int))) else (bif (x0 == (244 : Int)) then (ret ((4 : Int), (4 : Int), (128 : Int), (143 : Int))) else (ret ((4 : Int), (IntKind.wrap IntKind.i64 (IntKind.wrap IntKind.u8 ((BitVec.toNat ((BitVec.ofInt (8 : Nat) x0) &&& (BitVec.ofInt (8 : Nat) (7 : Int)))) : Int))), (128 : Int), (191 : Int))))))))))
theorem utf_first.c_bind {β : Type}  {s0 : S_utf_first_0} {a0 : Int} {ret : (Int × Int × Int × Int) → Option β} : utf_first.c  s0 a0 ret = (utf_first.c  s0 a0 some).bind ret := by
  simp only [utf_first.c, bif_bind, sum_bind, Option.bind_assoc, Option.bind_some, Option.bind_none, Option.bind_fun_some]
theorem utf_first.s0c_bind {β : Type}  {s0 : S_utf_first_0} {x0 : Int} {x1 : Bool} {ret : (Int × Int × Int × Int) → Option β} : utf_first.s0c  s0 x0 x1 ret = (utf_first.s0c  s0 x0 x1 some).bind ret := by
  simp only [utf_first.s0c, bif_bind, sum_bind, Option.bind_assoc, Option.bind_some, Option.bind_none, Option.bind_fun_some]
theorem utf_first.ev  {s0 : S_utf_first_0} {a0 : Int} : evAt (env_utf_first  s0) [] [0] [.v (.one (.d (.int .u8) a0))] [] some = utf_first.c  s0 a0 (fun r => some ⟨.tup [(.one (.d (.int .i64) r.1)), (.one (.d (.int .i64) r.2.1)), (.one (.d (.int .u8) r.2.2.1)), (.one (.d (.int .u8) r.2.2.2))], []⟩) := by
  kernel_rfl
theorem utf_first.s0_ev  {s0 : S_utf_first_0} {x0 : Int} {x1 : Bool} : evAt (env_utf_first  s0) [1, 3, 1, 4, 0, 1] [0, 11] [.v (.one (.d (.int .u8) x0)), .v (.one (.d .bool x1))] [] some = utf_first.s0c  s0 x0 x1 (fun r => some ⟨.tup [(.one (.d (.int .i64) r.1)), (.one (.d (.int .i64) r.2.1)), (.one (.d (.int .u8) r.2.2.1)), (.one (.d (.int .u8) r.2.2.2))], []⟩) := by
  kernel_rfl
def utf_first.s0 : Nat → Int → Bool → Option (Int × Int × Int × Int)
  | 0, _, _ => none
  | k + 1, x0, x1 => utf_first.s0c  (utf_first.s0 k) x0 x1 some
def utf_first.f (k : Nat) (a0 : Int) : Option (Int × Int × Int × Int) := utf_first.c  (utf_first.s0 k) a0 some
theorem utf_first.is  {s0 : S_utf_first_0} : FnIs (env_utf_first  s0) 93 Go.Proofs.Tryd.f93 := ⟨Go.Proofs.Tryd.func93, rfl, rfl, rfl, by decide⟩
theorem utf_first.envok  {s0 : S_utf_first_0}  : EnvOK (env_utf_first  s0).toEnv := by
  intro f c h
  simp only [env_utf_first] at h
  simp at h
noncomputable abbrev utf_first.E (k : Nat) : FEnv := env_utf_first  (utf_first.s0 k)
theorem utf_first.hE (k : Nat) : EnvOK (utf_first.E k).toEnv := utf_first.envok 
theorem utf_first.segs_ok : ∀ k, ∀ s ∈ (utf_first.E k).segs, SegOK (utf_first.E k) Go.Proofs.Tryd.f93 s
  | 0 => by
    intro s hs
    simp only [utf_first.E, env_utf_first, List.mem_cons, List.not_mem_nil, or_false] at hs
    rcases hs with rfl
    · intro tvs blks res h; exfalso; simp only [seg_utf_first_0] at h; split at h <;> simp [utf_first.s0] at h
  | k + 1 => by
    intro s hs
    simp only [utf_first.E, env_utf_first, List.mem_cons, List.not_mem_nil, or_false] at hs
    rcases hs with rfl
    · refine seg_of_ev (E := utf_first.E k) (utf_first.hE k) ⟨utf_first.is.rvs⟩ (utf_first.segs_ok k) ?_
      intro tvs blks res h
      simp only [seg_utf_first_0] at h
      split at h
      · exact (utf_first.s0_ev.trans utf_first.s0c_bind).trans h
      · simp at h
theorem utf_first.ok (k : Nat) : CtOK Go.Proofs.Tryd.prog 93 (ct_utf_first (utf_first.f k)) := by
  refine ct_of_ev (E := utf_first.E k) utf_first.is (utf_first.hE k) (utf_first.segs_ok k) rfl ?_
  intro tvs blks res h
  simp only [ct_utf_first] at h
  split at h
  · exact (utf_first.ev.trans utf_first.c_bind).trans h
  · simp at h

/-! ### utf_Next: function 90 -/
abbrev G_utf_Next : Type := ByteArray → Option (Int × Int × Int)
def ct_utf_Next (g : G_utf_Next) : Ct where
  nin := 0
  mv := []
  F := fun tvs blks {β} K => match tvs, blks with
    | [.v (.one (.d .str a0))], [] => (g a0).bind fun r => K ⟨.tup [(.one (.d (.int .i64) r.1)), (.one (.d (.int .i64) r.2.1)), (.one (.d (.int .i64) r.2.2))], []⟩
    | _, _ => none
  legit := fun tvs blks K r h => by
    split at h
    · obtain ⟨x, hx, hk⟩ := Option.bind_eq_some_iff.1 h
      refine ⟨_, ?_, hk⟩
      simp only [hx, Option.bind_some]
    · simp at h
abbrev S_utf_Next_0 : Type := ByteArray → Int → Int → Int → Int → Int → Int → Option (Int × Int × Int)
abbrev S_utf_Next_1 : Type := ByteArray → Int → Int → Int → Int → Bool → Option (Int × Int × Int)
abbrev S_utf_Next_2 : Type := ByteArray → Int → Int → Int → Int → Option (Int × Int × Int)
abbrev S_utf_Next_3 : Type := ByteArray → Int → Int → Int → Int → Int → Int → Option (Int × Int × Int)
def seg_utf_Next_0 (g : S_utf_Next_0) : Seg where
  path := [4, 1, 0, 1, 1, 1, 1, 1, 6, 1]
  prep := []
  keep := [0, 5, 6, 7, 8, 9, 10]
  F := fun tvs blks {β} K => match tvs, blks with
    | [.v (.one (.d .str x0)), .v (.one (.d (.int .i64) x1)), .v (.one (.d (.int .i64) x2)), .v (.one (.d (.int .u8) x3)), .v (.one (.d (.int .u8) x4)), .v (.one (.d (.int .i64) x5)), .v (.one (.d (.int .i64) x6))], [] => (g x0 x1 x2 x3 x4 x5 x6).bind fun r => K ⟨.tup [(.one (.d (.int .i64) r.1)), (.one (.d (.int .i64) r.2.1)), (.one (.d (.int .i64) r.2.2))], []⟩
    | _, _ => none
  legit := fun tvs blks K r h => by
    split at h
    · obtain ⟨x, hx, hk⟩ := Option.bind_eq_some_iff.1 h
      refine ⟨_, ?_, hk⟩
      simp only [hx, Option.bind_some]
    · simp at h
def seg_utf_Next_1 (g : S_utf_Next_1) : Seg where
  path := [1, 3, 1, 4, 0, 4, 0, 1, 5, 4, 1, 0, 1, 1, 1, 1, 1, 6, 1]
  prep := []
  keep := [0, 5, 6, 9, 10, 33]
  F := fun tvs blks {β} K => match tvs, blks with
    | [.v (.one (.d .str x0)), .v (.one (.d (.int .i64) x1)), .v (.one (.d (.int .i64) x2)), .v (.one (.d (.int .i64) x3)), .v (.one (.d (.int .i64) x4)), .v (.one (.d .bool x5))], [] => (g x0 x1 x2 x3 x4 x5).bind fun r => K ⟨.tup [(.one (.d (.int .i64) r.1)), (.one (.d (.int .i64) r.2.1)), (.one (.d (.int .i64) r.2.2))], []⟩
    | _, _ => none
  legit := fun tvs blks K r h => by
    split at h
    · obtain ⟨x, hx, hk⟩ := Option.bind_eq_some_iff.1 h
      refine ⟨_, ?_, hk⟩
      simp only [hx, Option.bind_some]
    · simp at h
def seg_utf_Next_2 (g : S_utf_Next_2) : Seg where
  path := [1, 4, 0, 1, 5, 4, 1, 0, 1, 1, 1, 1, 1, 6, 1]
  prep := []
  keep := [0, 5, 6, 9, 10]
  F := fun tvs blks {β} K => match tvs, blks with
    | [.v (.one (.d .str x0)), .v (.one (.d (.int .i64) x1)), .v (.one (.d (.int .i64) x2)), .v (.one (.d (.int .i64) x3)), .v (.one (.d (.int .i64) x4))], [] => (g x0 x1 x2 x3 x4).bind fun r => K ⟨.tup [(.one (.d (.int .i64) r.1)), (.one (.d (.int .i64) r.2.1)), (.one (.d (.int .i64) r.2.2))], []⟩
    | _, _ => none
  legit := fun tvs blks K r h => by
    split at h
    · obtain ⟨x, hx, hk⟩ := Option.bind_eq_some_iff.1 h
      refine ⟨_, ?_, hk⟩
      simp only [hx, Option.bind_some]
    · simp at h
def seg_utf_Next_3 (g : S_utf_Next_3) : Seg where
  path := [1, 1, 5, 4, 1, 0, 1, 1, 1, 1, 1, 6, 1]
  prep := []
  keep := [0, 5, 6, 7, 8, 9, 10]
  F := fun tvs blks {β} K => match tvs, blks with
    | [.v (.one (.d .str x0)), .v (.one (.d (.int .i64) x1)), .v (.one (.d (.int .i64) x2)), .v (.one (.d (.int .u8) x3)), .v (.one (.d (.int .u8) x4)), .v (.one (.d (.int .i64) x5)), .v (.one (.d (.int .i64) x6))], [] => (g x0 x1 x2 x3 x4 x5 x6).bind fun r => K ⟨.tup [(.one (.d (.int .i64) r.1)), (.one (.d (.int .i64) r.2.1)), (.one (.d (.int .i64) r.2.2))], []⟩
    | _, _ => none
  legit := fun tvs blks K r h => by
    split at h
    · obtain ⟨x, hx, hk⟩ := Option.bind_eq_some_iff.1 h
      refine ⟨_, ?_, hk⟩
      simp only [hx, Option.bind_some]
    · simp at h
noncomputable def env_utf_Next (g93 : G_utf_first) (s0 : S_utf_Next_0) (s1 : S_utf_Next_1) (s2 : S_utf_Next_2) (s3 : S_utf_Next_3) : FEnv := { P := Go.Proofs.Tryd.prog, ct := fun m => if m = 93 then some (ct_utf_first g93) else none, N := 59, body := Go.Proofs.Tryd.f90.body.getD .skip, rvs := [.tmp 2, .tmp 3, .tmp 4], rts := [3, 3, 27], nin := 0, rmv := [], segs := [seg_utf_Next_0 s0, seg_utf_Next_1 s1, seg_utf_Next_2 s2, seg_utf_Next_3 s3] }
def utf_Next.c {β : Type} (g93 : G_utf_first) (s0 : S_utf_Next_0) (s1 : S_utf_Next_1) (s2 : S_utf_Next_2) (s3 : S_utf_Next_3) (a0 : ByteArray) (ret : (Int × Int × Int) → Option β) : Option β := (bif ((ByteArray.toList a0) == (ByteArray.toList (ByteArray.mk (List.toArray [])))) then (ret ((0 : Int), (0 : Int), (3 : Int))) else (bif (true && (decide ((0 : Int) < ((ByteArray.size a0) : Int)))) then ((g93 (bt a0 (0 : Int))).bind fun r0 => (bif (r0.1 == (0 : Int)) then (ret ((0 : Int), (0 : Int), (7 : Int))) else ((s0 a0 r0.1 r0.2.1 r0.2.2.1 r0.2.2.2 (0 : Int) (1 : Int)).bind ret))) else none))
def utf_Next.s0c {β : Type} (g93 : G_utf_first) (s0 : S_utf_Next_0) (s1 : S_utf_Next_1) (s2 : S_utf_Next_2) (s3 : S_utf_Next_3) (x0 : ByteArray) (x1 : Int) (x2 : Int) (x3 : Int) (x4 : Int) (x5 : Int) (x6 : Int) (ret : (Int × Int × Int) → Option β) : Option β := (bif (decide (x6 < x1)) then (bif (decide (x6 ≥ ((ByteArray.size x0) : Int))) then (ret ((0 : Int), (0 : Int), (3 : Int))) else (bif ((decide ((0 : Int) ≤ x6)) && (decide (x6 < ((ByteArray.size x0) : Int)))) then (bif (decide ((bt x0 x6) < x3)) then ((s1 x0 x1 x2 x5 x6 true).bind ret) else (bif ((decide ((0 : Int) ≤ x6)) && (decide (x6 < ((ByteArray.size x0) : Int)))) then ((s1 x0 x1 x2 x5 x6 (decide ((bt x0 x6) > x4))).bind ret) else none)) else none)) else (bif (x5 != (0 : Int)) then (ret ((0 : Int), (0 : Int), x5)) else (ret (x2, x1, (0 : Int)))))
def utf_Next.s1c {β : Type} (g93 : G_utf_first) (s0 : S_utf_Next_0) (s1 : S_utf_Next_1) (s2 : S_utf_Next_2) (s3 : S_utf_Next_3) (x0 : ByteArray) (x1 : Int) (x2 : Int) (x3 : Int) (x4 : Int) (x5 : Bool) (ret : (Int × Int × Int) → Option β) : Option β := (bif x5 then (ret ((0 : Int), (0 : Int), (7 : Int))) else ((s2 x0 x1 x2 x3 x4).bind ret))
def utf_Next.s2c {β : Type} (g93 : G_utf_first) (s0 : S_utf_Next_0) (s1 : S_utf_Next_1) (s2 : S_utf_Next_2) (s3 : S_utf_Next_3) (x0 : ByteArray) (x1 : Int) (x2 : Int) (x3 : Int) (x4 : Int) (ret : (Int × Int × Int) → Option β) : Option β := (bif ((decide ((0 : Int) ≤ x4)) && (decide (x4 < ((ByteArray.size x0) : Int)))) then ((s3 x0 x1 (IntKind.wrap IntKind.i64 ((BitVec.toNat ((BitVec.ofInt (64 : Nat) (IntKind.wrap IntKind.i64 (x2 * (64 : Int)))) ||| (BitVec.ofInt (64 : Nat) (IntKind.wrap IntKind.i64 (IntKind.wrap IntKind.u8 ((BitVec.toNat ((BitVec.ofInt (8 : Nat) (bt x0 x4)) &&& (BitVec.ofInt (8 : Nat) (63 : Int)))) : Int)))))) : Int)) (128 : Int) (191 : Int) x3 x4).bind ret) else none)
def utf_Next.s3c {β : Type} (g93 : G_utf_first) (s0 : S_utf_Next_0) (s1 : S_utf_Next_1) (s2 : S_utf_Next_2) (s3 : S_utf_Next_3) (x0 : ByteArray) (x1 : Int) (x2 : Int) (x3 : Int) (x4 : Int) (x5 : Int) (x6 : Int) (ret : (Int × Int × Int) → Option β) : Option β := ((s0 x0 x1 x2 x3 x4 x5 (IntKind.wrap IntKind.i64 (x6 + (1 : Int)))).bind ret)
theorem utf_Next.c_bind {β : Type} {g93 : G_utf_first} {s0 : S_utf_Next_0} {s1 : S_utf_Next_1} {s2 : S_utf_Next_2} {s3 : S_utf_Next_3} {a0 : ByteArray} {ret : (Int × Int × Int) → Option β} : utf_Next.c g93 s0 s1 s2 s3 a0 ret = (utf_Next.c g93 s0 s1 s2 s3 a0 some).bind ret := by
  simp only [utf_Next.c, bif_bind, sum_bind, Option.bind_assoc, Option.bind_some, Option.bind_none, Option.bind_fun_some]
theorem utf_Next.s0c_bind {β : Type} {g93 : G_utf_first} {s0 : S_utf_Next_0} {s1 : S_utf_Next_1} {s2 : S_utf_Next_2} {s3 : S_utf_Next_3} {x0 : ByteArray} {x1 : Int} {x2 : Int} {x3 : Int} {x4 : Int} {x5 : Int} {x6 : Int} {ret : (Int × Int × Int) → Option β} : utf_Next.s0c g93 s0 s1 s2 s3 x0 x1 x2 x3 x4 x5 x6 ret = (utf_Next.s0c g93 s0 s1 s2 s3 x0 x1 x2 x3 x4 x5 x6 some).bind ret := by
  simp only [utf_Next.s0c, bif_bind, sum_bind, Option.bind_assoc, Option.bind_some, Option.bind_none, Option.bind_fun_some]
theorem utf_Next.s1c_bind {β : Type} {g93 : G_utf_first} {s0 : S_utf_Next_0} {s1 : S_utf_Next_1} {s2 : S_utf_Next_2} {s3 : S_utf_Next_3} {x0 : ByteArray} {x1 : Int} {x2 : Int} {x3 : Int} {x4 : Int} {x5 : Bool} {ret : (Int × Int × Int) → Option β} : utf_Next.s1c g93 s0 s1 s2 s3 x0 x1 x2 x3 x4 x5 ret = (utf_Next.s1c g93 s0 s1 s2 s3 x0 x1 x2 x3 x4 x5 some).bind ret := by
  simp only [utf_Next.s1c, bif_bind, sum_bind, Option.bind_assoc, Option.bind_some, Option.bind_none, Option.bind_fun_some]
theorem utf_Next.s2c_bind {β : Type} {g93 : G_utf_first} {s0 : S_utf_Next_0} {s1 : S_utf_Next_1} {s2 : S_utf_Next_2} {s3 : S_utf_Next_3} {x0 : ByteArray} {x1 : Int} {x2 : Int} {x3 : Int} {x4 : Int} {ret : (Int × Int × Int) → Option β} : utf_Next.s2c g93 s0 s1 s2 s3 x0 x1 x2 x3 x4 ret = (utf_Next.s2c g93 s0 s1 s2 s3 x0 x1 x2 x3 x4 some).bind ret := by
  simp only [utf_Next.s2c, bif_bind, sum_bind, Option.bind_assoc, Option.bind_some, Option.bind_none, Option.bind_fun_some]
theorem utf_Next.s3c_bind {β : Type} {g93 : G_utf_first} {s0 : S_utf_Next_0} {s1 : S_utf_Next_1} {s2 : S_utf_Next_2} {s3 : S_utf_Next_3} {x0 : ByteArray} {x1 : Int} {x2 : Int} {x3 : Int} {x4 : Int} {x5 : Int} {x6 : Int} {ret : (Int × Int × Int) → Option β} : utf_Next.s3c g93 s0 s1 s2 s3 x0 x1 x2 x3 x4 x5 x6 ret = (utf_Next.s3c g93 s0 s1 s2 s3 x0 x1 x2 x3 x4 x5 x6 some).bind ret := by
  simp only [utf_Next.s3c, bif_bind, sum_bind, Option.bind_assoc, Option.bind_some, Option.bind_none, Option.bind_fun_some]
theorem utf_Next.ev {g93 : G_utf_first} {s0 : S_utf_Next_0} {s1 : S_utf_Next_1} {s2 : S_utf_Next_2} {s3 : S_utf_Next_3} {a0 : ByteArray} : evAt (env_utf_Next g93 s0 s1 s2 s3) [] [0] [.v (.one (.d .str a0))] [] some = utf_Next.c g93 s0 s1 s2 s3 a0 (fun r => some ⟨.tup [(.one (.d (.int .i64) r.1)), (.one (.d (.int .i64) r.2.1)), (.one (.d (.int .i64) r.2.2))], []⟩) := by
  kernel_rfl
theorem utf_Next.s0_ev {g93 : G_utf_first} {s0 : S_utf_Next_0} {s1 : S_utf_Next_1} {s2 : S_utf_Next_2} {s3 : S_utf_Next_3} {x0 : ByteArray} {x1 : Int} {x2 : Int} {x3 : Int} {x4 : Int} {x5 : Int} {x6 : Int} : evAt (env_utf_Next g93 s0 s1 s2 s3) [4, 1, 0, 1, 1, 1, 1, 1, 6, 1] [0, 5, 6, 7, 8, 9, 10] [.v (.one (.d .str x0)), .v (.one (.d (.int .i64) x1)), .v (.one (.d (.int .i64) x2)), .v (.one (.d (.int .u8) x3)), .v (.one (.d (.int .u8) x4)), .v (.one (.d (.int .i64) x5)), .v (.one (.d (.int .i64) x6))] [] some = utf_Next.s0c g93 s0 s1 s2 s3 x0 x1 x2 x3 x4 x5 x6 (fun r => some ⟨.tup [(.one (.d (.int .i64) r.1)), (.one (.d (.int .i64) r.2.1)), (.one (.d (.int .i64) r.2.2))], []⟩) := by
  kernel_rfl
theorem utf_Next.s1_ev {g93 : G_utf_first} {s0 : S_utf_Next_0} {s1 : S_utf_Next_1} {s2 : S_utf_Next_2} {s3 : S_utf_Next_3} {x0 : ByteArray} {x1 : Int} {x2 : Int} {x3 : Int} {x4 : Int} {x5 : Bool} : evAt (env_utf_Next g93 s0 s1 s2 s3) [1, 3, 1, 4, 0, 4, 0, 1, 5, 4, 1, 0, 1, 1, 1, 1, 1, 6, 1] [0, 5, 6, 9, 10, 33] [.v (.one (.d .str x0)), .v (.one (.d (.int .i64) x1)), .v (.one (.d (.int .i64) x2)), .v (.one (.d (.int .i64) x3)), .v (.one (.d (.int .i64) x4)), .v (.one (.d .bool x5))] [] some = utf_Next.s1c g93 s0 s1 s2 s3 x0 x1 x2 x3 x4 x5 (fun r => some ⟨.tup [(.one (.d (.int .i64) r.1)), (.one (.d (.int .i64) r.2.1)), (.one (.d (.int .i64) r.2.2))], []⟩) := by
  kernel_rfl
theorem utf_Next.s2_ev {g93 : G_utf_first} {s0 : S_utf_Next_0} {s1 : S_utf_Next_1} {s2 : S_utf_Next_2} {s3 : S_utf_Next_3} {x0 : ByteArray} {x1 : Int} {x2 : Int} {x3 : Int} {x4 : Int} : evAt (env_utf_Next g93 s0 s1 s2 s3) [1, 4, 0, 1, 5, 4, 1, 0, 1, 1, 1, 1, 1, 6, 1] [0, 5, 6, 9, 10] [.v (.one (.d .str x0)), .v (.one (.d (.int .i64) x1)), .v (.one (.d (.int .i64) x2)), .v (.one (.d (.int .i64) x3)), .v (.one (.d (.int .i64) x4))] [] some = utf_Next.s2c g93 s0 s1 s2 s3 x0 x1 x2 x3 x4 (fun r => some ⟨.tup [(.one (.d (.int .i64) r.1)), (.one (.d (.int .i64) r.2.1)), (.one (.d (.int .i64) r.2.2))], []⟩) := by
  kernel_rfl
theorem utf_Next.s3_ev {g93 : G_utf_first} {s0 : S_utf_Next_0} {s1 : S_utf_Next_1} {s2 : S_utf_Next_2} {s3 : S_utf_Next_3} {x0 : ByteArray} {x1 : Int} {x2 : Int} {x3 : Int} {x4 : Int} {x5 : Int} {x6 : Int} : evAt (env_utf_Next g93 s0 s1 s2 s3) [1, 1, 5, 4, 1, 0, 1, 1, 1, 1, 1, 6, 1] [0, 5, 6, 7, 8, 9, 10] [.v (.one (.d .str x0)), .v (.one (.d (.int .i64) x1)), .v (.one (.d (.int .i64) x2)), .v (.one (.d (.int .u8) x3)), .v (.one (.d (.int .u8) x4)), .v (.one (.d (.int .i64) x5)), .v (.one (.d (.int .i64) x6))] [] some = utf_Next.s3c g93 s0 s1 s2 s3 x0 x1 x2 x3 x4 x5 x6 (fun r => some ⟨.tup [(.one (.d (.int .i64) r.1)), (.one (.d (.int .i64) r.2.1)), (.one (.d (.int .i64) r.2.2))], []⟩) := by
  kernel_rfl
mutual
def utf_Next.s0 : Nat → ByteArray → Int → Int → Int → Int → Int → Int → Option (Int × Int × Int)
  | 0, _, _, _, _, _, _, _ => none
  | k + 1, x0, x1, x2, x3, x4, x5, x6 => utf_Next.s0c (utf_first.f k) (utf_Next.s0 k) (utf_Next.s1 k) (utf_Next.s2 k) (utf_Next.s3 k) x0 x1 x2 x3 x4 x5 x6 some
def utf_Next.s1 : Nat → ByteArray → Int → Int → Int → Int → Bool → Option (Int × Int × Int)
  | 0, _, _, _, _, _, _ => none
  | k + 1, x0, x1, x2, x3, x4, x5 => utf_Next.s1c (utf_first.f k) (utf_Next.s0 k) (utf_Next.s1 k) (utf_Next.s2 k) (utf_Next.s3 k) x0 x1 x2 x3 x4 x5 some
def utf_Next.s2 : Nat → ByteArray → Int → Int → Int → Int → Option (Int × Int × Int)
  | 0, _, _, _, _, _ => none
  | k + 1, x0, x1, x2, x3, x4 => utf_Next.s2c (utf_first.f k) (utf_Next.s0 k) (utf_Next.s1 k) (utf_Next.s2 k) (utf_Next.s3 k) x0 x1 x2 x3 x4 some
def utf_Next.s3 : Nat → ByteArray → Int → Int → Int → Int → Int → Int → Option (Int × Int × Int)
  | 0, _, _, _, _, _, _, _ => none
  | k + 1, x0, x1, x2, x3, x4, x5, x6 => utf_Next.s3c (utf_first.f k) (utf_Next.s0 k) (utf_Next.s1 k) (utf_Next.s2 k) (utf_Next.s3 k) x0 x1 x2 x3 x4 x5 x6 some
end
def utf_Next.f (k : Nat) (a0 : ByteArray) : Option (Int × Int × Int) := utf_Next.c (utf_first.f k) (utf_Next.s0 k) (utf_Next.s1 k) (utf_Next.s2 k) (utf_Next.s3 k) a0 some
theorem utf_Next.is {g93 : G_utf_first} {s0 : S_utf_Next_0} {s1 : S_utf_Next_1} {s2 : S_utf_Next_2} {s3 : S_utf_Next_3} : FnIs (env_utf_Next g93 s0 s1 s2 s3) 90 Go.Proofs.Tryd.f90 := ⟨Go.Proofs.Tryd.func90, rfl, rfl, rfl, by decide⟩
theorem utf_Next.envok {g93 : G_utf_first} {s0 : S_utf_Next_0} {s1 : S_utf_Next_1} {s2 : S_utf_Next_2} {s3 : S_utf_Next_3} (h93 : CtOK Go.Proofs.Tryd.prog 93 (ct_utf_first g93)) : EnvOK (env_utf_Next g93 s0 s1 s2 s3).toEnv := by
  intro f c h
  simp only [env_utf_Next] at h
  split at h
  · rename_i e; subst e; cases h; exact h93
  simp at h
noncomputable abbrev utf_Next.E (k : Nat) : FEnv := env_utf_Next (utf_first.f k) (utf_Next.s0 k) (utf_Next.s1 k) (utf_Next.s2 k) (utf_Next.s3 k)
theorem utf_Next.hE (k : Nat) : EnvOK (utf_Next.E k).toEnv := utf_Next.envok (utf_first.ok k)
theorem utf_Next.segs_ok : ∀ k, ∀ s ∈ (utf_Next.E k).segs, SegOK (utf_Next.E k) Go.Proofs.Tryd.f90 s
  | 0 => by
    intro s hs
    simp only [utf_Next.E, env_utf_Next, List.mem_cons, List.not_mem_nil, or_false] at hs
    rcases hs with rfl | rfl | rfl | rfl
    · intro tvs blks res h; exfalso; simp only [seg_utf_Next_0] at h; split at h <;> simp [utf_Next.s0] at h
    · intro tvs blks res h; exfalso; simp only [seg_utf_Next_1] at h; split at h <;> simp [utf_Next.s1] at h
    · intro tvs blks res h; exfalso; simp only [seg_utf_Next_2] at h; split at h <;> simp [utf_Next.s2] at h
    · intro tvs blks res h; exfalso; simp only [seg_utf_Next_3] at h; split at h <;> simp [utf_Next.s3] at h
  | k + 1 => by
    intro s hs
    simp only [utf_Next.E, env_utf_Next, List.mem_cons, List.not_mem_nil, or_false] at hs
    rcases hs with rfl | rfl | rfl | rfl
    · refine seg_of_ev (E := utf_Next.E k) (utf_Next.hE k) ⟨utf_Next.is.rvs⟩ (utf_Next.segs_ok k) ?_
      intro tvs blks res h
      simp only [seg_utf_Next_0] at h
      split at h
      · exact (utf_Next.s0_ev.trans utf_Next.s0c_bind).trans h
      · simp at h
    · refine seg_of_ev (E := utf_Next.E k) (utf_Next.hE k) ⟨utf_Next.is.rvs⟩ (utf_Next.segs_ok k) ?_
      intro tvs blks res h
      simp only [seg_utf_Next_1] at h
      split at h
      · exact (utf_Next.s1_ev.trans utf_Next.s1c_bind).trans h
      · simp at h
    · refine seg_of_ev (E := utf_Next.E k) (utf_Next.hE k) ⟨utf_Next.is.rvs⟩ (utf_Next.segs_ok k) ?_
      intro tvs blks res h
      simp only [seg_utf_Next_2] at h
      split at h
      · exact (utf_Next.s2_ev.trans utf_Next.s2c_bind).trans h
      · simp at h
    · refine seg_of_ev (E := utf_Next.E k) (utf_Next.hE k) ⟨utf_Next.is.rvs⟩ (utf_Next.segs_ok k) ?_
      intro tvs blks res h
      simp only [seg_utf_Next_3] at h
      split at h
      · exact (utf_Next.s3_ev.trans utf_Next.s3c_bind).trans h
      · simp at h
theorem utf_Next.ok (k : Nat) : CtOK Go.Proofs.Tryd.prog 90 (ct_utf_Next (utf_Next.f k)) := by
  refine ct_of_ev (E := utf_Next.E k) utf_Next.is (utf_Next.hE k) (utf_Next.segs_ok k) rfl ?_
  intro tvs blks res h
  simp only [ct_utf_Next] at h
  split at h
  · exact (utf_Next.ev.trans utf_Next.c_bind).trans h
  · simp at h

/-! ### utf_Count: function 81 -/
abbrev G_utf_Count : Type := ByteArray → Option Int
def ct_utf_Count (g : G_utf_Count) : Ct where
  nin := 0
  mv := []
  F := fun tvs blks {β} K => match tvs, blks with
    | [.v (.one (.d .str a0))], [] => (g a0).bind fun r => K ⟨.v (.one (.d (.int .i64) r)), []⟩
    | _, _ => none
  legit := fun tvs blks K r h => by
    split at h
    · obtain ⟨x, hx, hk⟩ := Option.bind_eq_some_iff.1 h
      refine ⟨_, ?_, hk⟩
      simp only [hx, Option.bind_some]
    · simp at h
abbrev S_utf_Count_0 : Type := ByteArray → Int → Option Int
def seg_utf_Count_0 (g : S_utf_Count_0) : Seg where
  path := [4, 0, 1, 1]
  prep := []
  keep := [0, 3]
  F := fun tvs blks {β} K => match tvs, blks with
    | [.v (.one (.d .str x0)), .v (.one (.d (.int .i64) x1))], [] => (g x0 x1).bind fun r => K ⟨.v (.one (.d (.int .i64) r)), []⟩
    | _, _ => none
  legit := fun tvs blks K r h => by
    split at h
    · obtain ⟨x, hx, hk⟩ := Option.bind_eq_some_iff.1 h
      refine ⟨_, ?_, hk⟩
      simp only [hx, Option.bind_some]
    · simp at h
noncomputable def env_utf_Count (g90 : G_utf_Next) (s0 : S_utf_Count_0) : FEnv := { P := Go.Proofs.Tryd.prog, ct := fun m => if m = 90 then some (ct_utf_Next g90) else none, N := 23, body := Go.Proofs.Tryd.f81.body.getD .skip, rvs := [.tmp 2], rts := [3], nin := 0, rmv := [], segs := [seg_utf_Count_0 s0] }
def utf_Count.c {β : Type} (g90 : G_utf_Next) (s0 : S_utf_Count_0) (a0 : ByteArray) (ret : Int → Option β) : Option β := ((s0 a0 (0 : Int)).bind ret)
def utf_Count.s0c {β : Type} (g90 : G_utf_Next) (s0 : S_utf_Count_0) (x0 : ByteArray) (x1 : Int) (ret : Int → Option β) : Option β := (bif (!((ByteArray.toList x0) == (ByteArray.toList (ByteArray.mk (List.toArray []))))) then ((g90 x0).bind fun r0 => (bif (r0.2.2 != (0 : Int)) then (ret ((-1 : Int))) else (bif (((decide ((0 : Int) ≤ r0.2.1)) && (decide (r0.2.1 ≤ ((ByteArray.size x0) : Int)))) && (decide (((ByteArray.size x0) : Int) ≤ ((ByteArray.size x0) : Int)))) then ((s0 (ByteArray.extract x0 (Int.toNat r0.2.1) (Int.toNat ((ByteArray.size x0) : Int))) (IntKind.wrap IntKind.i64 (x1 + (1 : Int)))).bind ret) else none))) else (ret (x1)))
theorem utf_Count.c_bind {β : Type} {g90 : G_utf_Next} {s0 : S_utf_Count_0} {a0 : ByteArray} {ret : Int → Option β} : utf_Count.c g90 s0 a0 ret = (utf_Count.c g90 s0 a0 some).bind ret := by
  simp only [utf_Count.c, bif_bind, sum_bind, Option.bind_assoc, Option.bind_some, Option.bind_none, Option.bind_fun_some]
theorem utf_Count.s0c_bind {β : Type} {g90 : G_utf_Next} {s0 : S_utf_Count_0} {x0 : ByteArray} {x1 : Int} {ret : Int → Option β} : utf_Count.s0c g90 s0 x0 x1 ret = (utf_Count.s0c g90 s0 x0 x1 some).bind ret := by
  simp only [utf_Count.s0c, bif_bind, sum_bind, Option.bind_assoc, Option.bind_some, Option.bind_none, Option.bind_fun_some]
theorem utf_Count.ev {g90 : G_utf_Next} {s0 : S_utf_Count_0} {a0 : ByteArray} : evAt (env_utf_Count g90 s0) [] [0] [.v (.one (.d .str a0))] [] some = utf_Count.c g90 s0 a0 (fun r => some ⟨.v (.one (.d (.int .i64) r)), []⟩) := by
  kernel_rfl
theorem utf_Count.s0_ev {g90 : G_utf_Next} {s0 : S_utf_Count_0} {x0 : ByteArray} {x1 : Int} : evAt (env_utf_Count g90 s0) [4, 0, 1, 1] [0, 3] [.v (.one (.d .str x0)), .v (.one (.d (.int .i64) x1))] [] some = utf_Count.s0c g90 s0 x0 x1 (fun r => some ⟨.v (.one (.d (.int .i64) r)), []⟩) := by
  kernel_rfl
def utf_Count.s0 : Nat → ByteArray → Int → Option Int
  | 0, _, _ => none
  | k + 1, x0, x1 => utf_Count.s0c (utf_Next.f k) (utf_Count.s0 k) x0 x1 some
def utf_Count.f (k : Nat) (a0 : ByteArray) : Option Int := utf_Count.c (utf_Next.f k) (utf_Count.s0 k) a0 some
theorem utf_Count.is {g90 : G_utf_Next} {s0 : S_utf_Count_0} : FnIs (env_utf_Count g90 s0) 81 Go.Proofs.Tryd.f81 := ⟨Go.Proofs.Tryd.func81, rfl, rfl, rfl, by decide⟩
theorem utf_Count.envok {g90 : G_utf_Next} {s0 : S_utf_Count_0} (h90 : CtOK Go.Proofs.Tryd.prog 90 (ct_utf_Next g90)) : EnvOK (env_utf_Count g90 s0).toEnv := by
  intro f c h
  simp only [env_utf_Count] at h
  split at h
  · rename_i e; subst e; cases h; exact h90
  simp at h
noncomputable abbrev utf_Count.E (k : Nat) : FEnv := env_utf_Count (utf_Next.f k) (utf_Count.s0 k)
theorem utf_Count.hE (k : Nat) : EnvOK (utf_Count.E k).toEnv := utf_Count.envok (utf_Next.ok k)
theorem utf_Count.segs_ok : ∀ k, ∀ s ∈ (utf_Count.E k).segs, SegOK (utf_Count.E k) Go.Proofs.Tryd.f81 s
  | 0 => by
    intro s hs
    simp only [utf_Count.E, env_utf_Count, List.mem_cons, List.not_mem_nil, or_false] at hs
    rcases hs with rfl
    · intro tvs blks res h; exfalso; simp only [seg_utf_Count_0] at h; split at h <;> simp [utf_Count.s0] at h
  | k + 1 => by
    intro s hs
    simp only [utf_Count.E, env_utf_Count, List.mem_cons, List.not_mem_nil, or_false] at hs
    rcases hs with rfl
    · refine seg_of_ev (E := utf_Count.E k) (utf_Count.hE k) ⟨utf_Count.is.rvs⟩ (utf_Count.segs_ok k) ?_
      intro tvs blks res h
      simp only [seg_utf_Count_0] at h
      split at h
      · exact (utf_Count.s0_ev.trans utf_Count.s0c_bind).trans h
      · simp at h
theorem utf_Count.ok (k : Nat) : CtOK Go.Proofs.Tryd.prog 81 (ct_utf_Count (utf_Count.f k)) := by
  refine ct_of_ev (E := utf_Count.E k) utf_Count.is (utf_Count.hE k) (utf_Count.segs_ok k) rfl ?_
  intro tvs blks res h
  simp only [ct_utf_Count] at h
  split at h
  · exact (utf_Count.ev.trans utf_Count.c_bind).trans h
  · simp at h

/-! ### utf_Valid: function 63 -/
abbrev G_utf_Valid : Type := ByteArray → Option Bool
def ct_utf_Valid (g : G_utf_Valid) : Ct where
  nin := 0
  mv := []
  F := fun tvs blks {β} K => match tvs, blks with
    | [.v (.one (.d .str a0))], [] => (g a0).bind fun r => K ⟨.v (.one (.d .bool r)), []⟩
    | _, _ => none
  legit := fun tvs blks K r h => by
    split at h
    · obtain ⟨x, hx, hk⟩ := Option.bind_eq_some_iff.1 h
      refine ⟨_, ?_, hk⟩
      simp only [hx, Option.bind_some]
    · simp at h
noncomputable def env_utf_Valid (g81 : G_utf_Count)  : FEnv := { P := Go.Proofs.Tryd.prog, ct := fun m => if m = 81 then some (ct_utf_Count g81) else none, N := 6, body := Go.Proofs.Tryd.f63.body.getD .skip, rvs := [.tmp 2], rts := [4], nin := 0, rmv := [], segs := [] }
def utf_Valid.c {β : Type} (g81 : G_utf_Count)  (a0 : ByteArray) (ret : Bool → Option β) : Option β := ((g81 a0).bind fun r0 => (ret ((decide (r0 ≥ (0 : Int))))))
theorem utf_Valid.c_bind {β : Type} {g81 : G_utf_Count}  {a0 : ByteArray} {ret : Bool → Option β} : utf_Valid.c g81  a0 ret = (utf_Valid.c g81  a0 some).bind ret := by
  simp only [utf_Valid.c, bif_bind, sum_bind, Option.bind_assoc, Option.bind_some, Option.bind_none, Option.bind_fun_some]
theorem utf_Valid.ev {g81 : G_utf_Count}  {a0 : ByteArray} : evAt (env_utf_Valid g81 ) [] [0] [.v (.one (.d .str a0))] [] some = utf_Valid.c g81  a0 (fun r => some ⟨.v (.one (.d .bool r)), []⟩) := by
  kernel_rfl
def utf_Valid.f (k : Nat) (a0 : ByteArray) : Option Bool := utf_Valid.c (utf_Count.f k)  a0 some
theorem utf_Valid.is {g81 : G_utf_Count}  : FnIs (env_utf_Valid g81 ) 63 Go.Proofs.Tryd.f63 := ⟨Go.Proofs.Tryd.func63, rfl, rfl, rfl, by decide⟩
theorem utf_Valid.envok {g81 : G_utf_Count}  (h81 : CtOK Go.Proofs.Tryd.prog 81 (ct_utf_Count g81)) : EnvOK (env_utf_Valid g81 ).toEnv := by
  intro f c h
  simp only [env_utf_Valid] at h
  split at h
  · rename_i e; subst e; cases h; exact h81
  simp at h
noncomputable abbrev utf_Valid.E (k : Nat) : FEnv := env_utf_Valid (utf_Count.f k) 
theorem utf_Valid.hE (k : Nat) : EnvOK (utf_Valid.E k).toEnv := utf_Valid.envok (utf_Count.ok k)
theorem utf_Valid.ok (k : Nat) : CtOK Go.Proofs.Tryd.prog 63 (ct_utf_Valid (utf_Valid.f k)) := by
  refine ct_of_ev (E := utf_Valid.E k) utf_Valid.is (utf_Valid.hE k) (fun s hs => by simp [utf_Valid.E, env_utf_Valid] at hs) rfl ?_
  intro tvs blks res h
  simp only [ct_utf_Valid] at h
  split at h
  · exact (utf_Valid.ev.trans utf_Valid.c_bind).trans h
  · simp at h

/-! ### values_Check: function 45 -/
abbrev G_values_Check : Type := Int → Int → Int → ByteArray → Option Int
def ct_values_Check (g : G_values_Check) : Ct where
  nin := 0
  mv := []
  F := fun tvs blks {β} K => match tvs, blks with
    | [.v (.agg [(.d (.int .i64) a0), (.d (.int .i64) a1), (.d (.int .u64) a2), (.d .str a3)])], [] => (g a0 a1 a2 a3).bind fun r => K ⟨.v (.one (.d (.int .i64) r)), []⟩
    | _, _ => none
  legit := fun tvs blks K r h => by
    split at h
    · obtain ⟨x, hx, hk⟩ := Option.bind_eq_some_iff.1 h
      refine ⟨_, ?_, hk⟩
      simp only [hx, Option.bind_some]
    · simp at h
abbrev S_values_Check_0 : Type := Bool → Int → Int → Int → ByteArray → Option Int
abbrev S_values_Check_1 : Type := Bool → Int → Int → Int → ByteArray → Option Int
def seg_values_Check_0 (g : S_values_Check_0) : Seg where
  path := [1, 4, 0, 1]
  prep := []
  keep := [1, 3]
  F := fun tvs blks {β} K => match tvs, blks with
    | [.v (.one (.ptr 0 0)), .v (.one (.d .bool x0))], [some (.box [(.d (.int .i64) x1), (.d (.int .i64) x2), (.d (.int .u64) x3), (.d .str x4)])] => (g x0 x1 x2 x3 x4).bind fun r => K ⟨.v (.one (.d (.int .i64) r)), []⟩
    | _, _ => none
  legit := fun tvs blks K r h => by
    split at h
    · obtain ⟨x, hx, hk⟩ := Option.bind_eq_some_iff.1 h
      refine ⟨_, ?_, hk⟩
      simp only [hx, Option.bind_some]
    · simp at h
def seg_values_Check_1 (g : S_values_Check_1) : Seg where
  path := [1, 3, 1, 3, 1, 4, 0, 1]
  prep := []
  keep := [1, 17]
  F := fun tvs blks {β} K => match tvs, blks with
    | [.v (.one (.ptr 0 0)), .v (.one (.d .bool x0))], [some (.box [(.d (.int .i64) x1), (.d (.int .i64) x2), (.d (.int .u64) x3), (.d .str x4)])] => (g x0 x1 x2 x3 x4).bind fun r => K ⟨.v (.one (.d (.int .i64) r)), []⟩
    | _, _ => none
  legit := fun tvs blks K r h => by
    split at h
    · obtain ⟨x, hx, hk⟩ := Option.bind_eq_some_iff.1 h
      refine ⟨_, ?_, hk⟩
      simp only [hx, Option.bind_some]
    · simp at h
noncomputable def env_values_Check (g61 : G_values_only) (g62 : G_reals_Canon) (g63 : G_utf_Valid) (s0 : S_values_Check_0) (s1 : S_values_Check_1) : FEnv := { P := Go.Proofs.Tryd.prog, ct := fun m => if m = 61 then some (ct_values_only g61) else if m = 62 then some (ct_reals_Canon g62) else if m = 63 then some (ct_utf_Valid g63) else none, N := 53, body := Go.Proofs.Tryd.f45.body.getD .skip, rvs := [.tmp 2], rts := [27], nin := 0, rmv := [], segs := [seg_values_Check_0 s0, seg_values_Check_1 s1] }
def values_Check.c {β : Type} (g61 : G_values_only) (g62 : G_reals_Canon) (g63 : G_utf_Valid) (s0 : S_values_Check_0) (s1 : S_values_Check_1) (a0 : Int) (a1 : Int) (a2 : Int) (a3 : ByteArray) (ret : Int → Option β) : Option β := (bif (decide (a0 < (0 : Int))) then ((s0 true a0 a1 a2 a3).bind ret) else ((s0 (decide (a0 ≥ (6 : Int))) a0 a1 a2 a3).bind ret))
def values_Check.s0c {β : Type} (g61 : G_values_only) (g62 : G_reals_Canon) (g63 : G_utf_Valid) (s0 : S_values_Check_0) (s1 : S_values_Check_1) (x0 : Bool) (x1 : Int) (x2 : Int) (x3 : Int) (x4 : ByteArray) (ret : Int → Option β) : Option β := (bif x0 then (ret ((5 : Int))) else ((g61 x1 x2 x3 x4).bind fun r0 => (bif (!((r0.1 == x1) && ((r0.2.1 == x2) && ((r0.2.2.1 == x3) && (((ByteArray.toList r0.2.2.2) == (ByteArray.toList x4)) && true))))) then (ret ((4 : Int))) else (bif (x1 == (1 : Int)) then (bif (x2 != (0 : Int)) then ((s1 (x2 != (1 : Int)) x1 x2 x3 x4).bind ret) else ((s1 false x1 x2 x3 x4).bind ret)) else ((s1 false x1 x2 x3 x4).bind ret)))))
def values_Check.s1c {β : Type} (g61 : G_values_only) (g62 : G_reals_Canon) (g63 : G_utf_Valid) (s0 : S_values_Check_0) (s1 : S_values_Check_1) (x0 : Bool) (x1 : Int) (x2 : Int) (x3 : Int) (x4 : ByteArray) (ret : Int → Option β) : Option β := (bif x0 then (ret ((6 : Int))) else ((g62 x3).bind fun r0 => (bif (r0 != x3) then (ret ((4 : Int))) else (bif (decide (((ByteArray.size x4) : Int) > (64 : Int))) then (ret ((2 : Int))) else (bif (x1 == (5 : Int)) then ((g63 x4).bind fun r1 => (bif (!r1) then (ret ((7 : Int))) else (ret ((0 : Int))))) else (ret ((0 : Int))))))))
theorem values_Check.c_bind {β : Type} {g61 : G_values_only} {g62 : G_reals_Canon} {g63 : G_utf_Valid} {s0 : S_values_Check_0} {s1 : S_values_Check_1} {a0 : Int} {a1 : Int} {a2 : Int} {a3 : ByteArray} {ret : Int → Option β} : values_Check.c g61 g62 g63 s0 s1 a0 a1 a2 a3 ret = (values_Check.c g61 g62 g63 s0 s1 a0 a1 a2 a3 some).bind ret := by
  simp only [values_Check.c, bif_bind, sum_bind, Option.bind_assoc, Option.bind_some, Option.bind_none, Option.bind_fun_some]
theorem values_Check.s0c_bind {β : Type} {g61 : G_values_only} {g62 : G_reals_Canon} {g63 : G_utf_Valid} {s0 : S_values_Check_0} {s1 : S_values_Check_1} {x0 : Bool} {x1 : Int} {x2 : Int} {x3 : Int} {x4 : ByteArray} {ret : Int → Option β} : values_Check.s0c g61 g62 g63 s0 s1 x0 x1 x2 x3 x4 ret = (values_Check.s0c g61 g62 g63 s0 s1 x0 x1 x2 x3 x4 some).bind ret := by
  simp only [values_Check.s0c, bif_bind, sum_bind, Option.bind_assoc, Option.bind_some, Option.bind_none, Option.bind_fun_some]
theorem values_Check.s1c_bind {β : Type} {g61 : G_values_only} {g62 : G_reals_Canon} {g63 : G_utf_Valid} {s0 : S_values_Check_0} {s1 : S_values_Check_1} {x0 : Bool} {x1 : Int} {x2 : Int} {x3 : Int} {x4 : ByteArray} {ret : Int → Option β} : values_Check.s1c g61 g62 g63 s0 s1 x0 x1 x2 x3 x4 ret = (values_Check.s1c g61 g62 g63 s0 s1 x0 x1 x2 x3 x4 some).bind ret := by
  simp only [values_Check.s1c, bif_bind, sum_bind, Option.bind_assoc, Option.bind_some, Option.bind_none, Option.bind_fun_some]
theorem values_Check.ev {g61 : G_values_only} {g62 : G_reals_Canon} {g63 : G_utf_Valid} {s0 : S_values_Check_0} {s1 : S_values_Check_1} {a0 : Int} {a1 : Int} {a2 : Int} {a3 : ByteArray} : evAt (env_values_Check g61 g62 g63 s0 s1) [] [0] [.v (.agg [(.d (.int .i64) a0), (.d (.int .i64) a1), (.d (.int .u64) a2), (.d .str a3)])] [] some = values_Check.c g61 g62 g63 s0 s1 a0 a1 a2 a3 (fun r => some ⟨.v (.one (.d (.int .i64) r)), []⟩) := by
  kernel_rfl
theorem values_Check.s0_ev {g61 : G_values_only} {g62 : G_reals_Canon} {g63 : G_utf_Valid} {s0 : S_values_Check_0} {s1 : S_values_Check_1} {x0 : Bool} {x1 : Int} {x2 : Int} {x3 : Int} {x4 : ByteArray} : evAt (env_values_Check g61 g62 g63 s0 s1) [1, 4, 0, 1] [1, 3] [.v (.one (.ptr 0 0)), .v (.one (.d .bool x0))] [some (.box [(.d (.int .i64) x1), (.d (.int .i64) x2), (.d (.int .u64) x3), (.d .str x4)])] some = values_Check.s0c g61 g62 g63 s0 s1 x0 x1 x2 x3 x4 (fun r => some ⟨.v (.one (.d (.int .i64) r)), []⟩) := by
  kernel_rfl
theorem values_Check.s1_ev {g61 : G_values_only} {g62 : G_reals_Canon} {g63 : G_utf_Valid} {s0 : S_values_Check_0} {s1 : S_values_Check_1} {x0 : Bool} {x1 : Int} {x2 : Int} {x3 : Int} {x4 : ByteArray} : evAt (env_values_Check g61 g62 g63 s0 s1) [1, 3, 1, 3, 1, 4, 0, 1] [1, 17] [.v (.one (.ptr 0 0)), .v (.one (.d .bool x0))] [some (.box [(.d (.int .i64) x1), (.d (.int .i64) x2), (.d (.int .u64) x3), (.d .str x4)])] some = values_Check.s1c g61 g62 g63 s0 s1 x0 x1 x2 x3 x4 (fun r => some ⟨.v (.one (.d (.int .i64) r)), []⟩) := by
  kernel_rfl
mutual
def values_Check.s0 : Nat → Bool → Int → Int → Int → ByteArray → Option Int
  | 0, _, _, _, _, _ => none
  | k + 1, x0, x1, x2, x3, x4 => values_Check.s0c (values_only.f k) (reals_Canon.f k) (utf_Valid.f k) (values_Check.s0 k) (values_Check.s1 k) x0 x1 x2 x3 x4 some
def values_Check.s1 : Nat → Bool → Int → Int → Int → ByteArray → Option Int
  | 0, _, _, _, _, _ => none
  | k + 1, x0, x1, x2, x3, x4 => values_Check.s1c (values_only.f k) (reals_Canon.f k) (utf_Valid.f k) (values_Check.s0 k) (values_Check.s1 k) x0 x1 x2 x3 x4 some
end
def values_Check.f (k : Nat) (a0 : Int) (a1 : Int) (a2 : Int) (a3 : ByteArray) : Option Int := values_Check.c (values_only.f k) (reals_Canon.f k) (utf_Valid.f k) (values_Check.s0 k) (values_Check.s1 k) a0 a1 a2 a3 some
theorem values_Check.is {g61 : G_values_only} {g62 : G_reals_Canon} {g63 : G_utf_Valid} {s0 : S_values_Check_0} {s1 : S_values_Check_1} : FnIs (env_values_Check g61 g62 g63 s0 s1) 45 Go.Proofs.Tryd.f45 := ⟨Go.Proofs.Tryd.func45, rfl, rfl, rfl, by decide⟩
theorem values_Check.envok {g61 : G_values_only} {g62 : G_reals_Canon} {g63 : G_utf_Valid} {s0 : S_values_Check_0} {s1 : S_values_Check_1} (h61 : CtOK Go.Proofs.Tryd.prog 61 (ct_values_only g61)) (h62 : CtOK Go.Proofs.Tryd.prog 62 (ct_reals_Canon g62)) (h63 : CtOK Go.Proofs.Tryd.prog 63 (ct_utf_Valid g63)) : EnvOK (env_values_Check g61 g62 g63 s0 s1).toEnv := by
  intro f c h
  simp only [env_values_Check] at h
  split at h
  · rename_i e; subst e; cases h; exact h61
  split at h
  · rename_i e; subst e; cases h; exact h62
  split at h
  · rename_i e; subst e; cases h; exact h63
  simp at h
noncomputable abbrev values_Check.E (k : Nat) : FEnv := env_values_Check (values_only.f k) (reals_Canon.f k) (utf_Valid.f k) (values_Check.s0 k) (values_Check.s1 k)
theorem values_Check.hE (k : Nat) : EnvOK (values_Check.E k).toEnv := values_Check.envok (values_only.ok k) (reals_Canon.ok k) (utf_Valid.ok k)
theorem values_Check.segs_ok : ∀ k, ∀ s ∈ (values_Check.E k).segs, SegOK (values_Check.E k) Go.Proofs.Tryd.f45 s
  | 0 => by
    intro s hs
    simp only [values_Check.E, env_values_Check, List.mem_cons, List.not_mem_nil, or_false] at hs
    rcases hs with rfl | rfl
    · intro tvs blks res h; exfalso; simp only [seg_values_Check_0] at h; split at h <;> simp [values_Check.s0] at h
    · intro tvs blks res h; exfalso; simp only [seg_values_Check_1] at h; split at h <;> simp [values_Check.s1] at h
  | k + 1 => by
    intro s hs
    simp only [values_Check.E, env_values_Check, List.mem_cons, List.not_mem_nil, or_false] at hs
    rcases hs with rfl | rfl
    · refine seg_of_ev (E := values_Check.E k) (values_Check.hE k) ⟨values_Check.is.rvs⟩ (values_Check.segs_ok k) ?_
      intro tvs blks res h
      simp only [seg_values_Check_0] at h
      split at h
      · exact (values_Check.s0_ev.trans values_Check.s0c_bind).trans h
      · simp at h
    · refine seg_of_ev (E := values_Check.E k) (values_Check.hE k) ⟨values_Check.is.rvs⟩ (values_Check.segs_ok k) ?_
      intro tvs blks res h
      simp only [seg_values_Check_1] at h
      split at h
      · exact (values_Check.s1_ev.trans values_Check.s1c_bind).trans h
      · simp at h
theorem values_Check.ok (k : Nat) : CtOK Go.Proofs.Tryd.prog 45 (ct_values_Check (values_Check.f k)) := by
  refine ct_of_ev (E := values_Check.E k) values_Check.is (values_Check.hE k) (values_Check.segs_ok k) rfl ?_
  intro tvs blks res h
  simp only [ct_values_Check] at h
  split at h
  · exact (values_Check.ev.trans values_Check.c_bind).trans h
  · simp at h
end Go.Proofs.YtddlebbjaadbeaaDoor.Aev
