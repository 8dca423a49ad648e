/- By a program of this session (AEV): functions of the program as plain functions, and that the machine does what they say. -/
import Derived.Test.YtddlebbjaadbeaaDoorTys
import Derived.Test.YtddlebbjaadbeaaDoorProg
import Derived.Laws.Externs
import Derived.Lib.Bytealg
import Derived.Test.YtddlebbjaadbeaaDoorF1
import Derived.Test.YtddlebbjaadbeaaDoorF7
import Derived.Test.YtddlebbjaadbeaaDoorF8
namespace Go.Proofs.YtddlebbjaadbeaaDoor.Aev
set_option linter.unusedVariables false
set_option linter.unusedSimpArgs false
set_option maxRecDepth 100000
set_option maxHeartbeats 4000000
open Go
/-! ### reals_Back: function 77 -/
abbrev G_reals_Back : Type := Int → Option (Int × Bool)
def ct_reals_Back (g : G_reals_Back) : Ct where
  nin := 0
  mv := []
  F := fun tvs blks {β} K => match tvs, blks with
    | [.v (.one (.d (.int .u64) a0))], [] => (g a0).bind fun r => K ⟨.tup [(.one (.d (.int .u64) r.1)), (.one (.d .bool r.2))], []⟩
    | _, _ => none
  legit := fun tvs blks K r h => by
    split at h
    · obtain ⟨x, hx, hk⟩ := Option.bind_eq_some_iff.1 h
      refine ⟨_, ?_, hk⟩
      simp only [hx, Option.bind_some]
    · simp at h
noncomputable def env_reals_Back (g62 : G_reals_Canon) (g89 : G_reals_bytes)  : FEnv := { P := Go.Proofs.Tryd.prog, ct := fun m => if m = 62 then some (ct_reals_Canon g62) else if m = 89 then some (ct_reals_bytes g89) else none, N := 19, body := Go.Proofs.Tryd.f77.body.getD .skip, rvs := [.tmp 2, .tmp 3], rts := [29, 4], nin := 0, rmv := [], segs := [] }
def reals_Back.c {β : Type} (g62 : G_reals_Canon) (g89 : G_reals_bytes)  (a0 : Int) (ret : (Int × Bool) → Option β) : Option β := (bif ((IntKind.wrap IntKind.u64 ((BitVec.toNat ((BitVec.ofInt (64 : Nat) a0) &&& (BitVec.ofInt (64 : Nat) (9223372036854775808 : Int)))) : Int)) == (0 : Int)) then ((g62 (IntKind.wrap IntKind.u64 ((BitVec.toNat ((BitVec.ofInt (64 : Nat) (18446744073709551615 : Int)) ^^^ (BitVec.ofInt (64 : Nat) a0))) : Int))).bind fun r0 => ((g89 r0).bind fun r1 => ((g89 (IntKind.wrap IntKind.u64 ((BitVec.toNat ((BitVec.ofInt (64 : Nat) (18446744073709551615 : Int)) ^^^ (BitVec.ofInt (64 : Nat) a0))) : Int))).bind fun r2 => (bif (!((r1.1 == r2.1) && ((r1.2.1 == r2.2.1) && ((r1.2.2.1 == r2.2.2.1) && ((r1.2.2.2.1 == r2.2.2.2.1) && ((r1.2.2.2.2.1 == r2.2.2.2.2.1) && ((r1.2.2.2.2.2.1 == r2.2.2.2.2.2.1) && ((r1.2.2.2.2.2.2.1 == r2.2.2.2.2.2.2.1) && ((r1.2.2.2.2.2.2.2 == r2.2.2.2.2.2.2.2) && true))))))))) then (ret ((0 : Int), false)) else (ret ((IntKind.wrap IntKind.u64 ((BitVec.toNat ((BitVec.ofInt (64 : Nat) (18446744073709551615 : Int)) ^^^ (BitVec.ofInt (64 : Nat) a0))) : Int)), true)))))) else ((g62 (IntKind.wrap IntKind.u64 ((BitVec.toNat ((BitVec.ofInt (64 : Nat) a0) &&& (Complement.complement (BitVec.ofInt (64 : Nat) (9223372036854775808 : Int))))) : Int))).bind fun r3 => ((g89 r3).bind fun r4 => ((g89 (IntKind.wrap IntKind.u64 ((BitVec.toNat ((BitVec.ofInt (64 : Nat) a0) &&& (Complement.complement (BitVec.ofInt (64 : Nat) (9223372036854775808 : Int))))) : Int))).bind fun r5 => (bif (!((r4.1 == r5.1) && ((r4.2.1 == r5.2.1) && ((r4.2.2.1 == r5.2.2.1) && ((r4.2.2.2.1 == r5.2.2.2.1) && ((r4.2.2.2.2.1 == r5.2.2.2.2.1) && ((r4.2.2.2.2.2.1 == r5.2.2.2.2.2.1) && ((r4.2.2.2.2.2.2.1 == r5.2.2.2.2.2.2.1) && ((r4.2.2.2.2.2.2.2 == r5.2.2.2.2.2.2.2) && true))))))))) then (ret ((0 : Int), false)) else (ret ((IntKind.wrap IntKind.u64 ((BitVec.toNat ((BitVec.ofInt (64 : Nat) a0) &&& (Complement.complement (BitVec.ofInt (64 : Nat) (9223372036854775808 : Int))))) : Int)), true)))))))
theorem reals_Back.c_bind {β : Type} {g62 : G_reals_Canon} {g89 : G_reals_bytes}  {a0 : Int} {ret : (Int × Bool) → Option β} : reals_Back.c g62 g89  a0 ret = (reals_Back.c g62 g89  a0 some).bind ret := by
  simp only [reals_Back.c, bif_bind, sum_bind, Option.bind_assoc, Option.bind_some, Option.bind_none, Option.bind_fun_some]
theorem reals_Back.ev {g62 : G_reals_Canon} {g89 : G_reals_bytes}  {a0 : Int} : evAt (env_reals_Back g62 g89 ) [] [0] [.v (.one (.d (.int .u64) a0))] [] some = reals_Back.c g62 g89  a0 (fun r => some ⟨.tup [(.one (.d (.int .u64) r.1)), (.one (.d .bool r.2))], []⟩) := by
  kernel_rfl
def reals_Back.f (k : Nat) (a0 : Int) : Option (Int × Bool) := reals_Back.c (reals_Canon.f k) (reals_bytes.f k)  a0 some
theorem reals_Back.is {g62 : G_reals_Canon} {g89 : G_reals_bytes}  : FnIs (env_reals_Back g62 g89 ) 77 Go.Proofs.Tryd.f77 := ⟨Go.Proofs.Tryd.func77, rfl, rfl, rfl, by decide⟩
theorem reals_Back.envok {g62 : G_reals_Canon} {g89 : G_reals_bytes}  (h62 : CtOK Go.Proofs.Tryd.prog 62 (ct_reals_Canon g62)) (h89 : CtOK Go.Proofs.Tryd.prog 89 (ct_reals_bytes g89)) : EnvOK (env_reals_Back g62 g89 ).toEnv := by
  intro f c h
  simp only [env_reals_Back] at h
  split at h
  · rename_i e; subst e; cases h; exact h62
  split at h
  · rename_i e; subst e; cases h; exact h89
  simp at h
noncomputable abbrev reals_Back.E (k : Nat) : FEnv := env_reals_Back (reals_Canon.f k) (reals_bytes.f k) 
theorem reals_Back.hE (k : Nat) : EnvOK (reals_Back.E k).toEnv := reals_Back.envok (reals_Canon.ok k) (reals_bytes.ok k)
theorem reals_Back.ok (k : Nat) : CtOK Go.Proofs.Tryd.prog 77 (ct_reals_Back (reals_Back.f k)) := by
  refine ct_of_ev (E := reals_Back.E k) reals_Back.is (reals_Back.hE k) (fun s hs => by simp [reals_Back.E, env_reals_Back] at hs) rfl ?_
  intro tvs blks res h
  simp only [ct_reals_Back] at h
  split at h
  · exact (reals_Back.ev.trans reals_Back.c_bind).trans h
  · simp at h

/-! ### keycode_plain: function 78 -/
abbrev G_keycode_plain : Type := ByteArray → Option (ByteArray × ByteArray × Int)
def ct_keycode_plain (g : G_keycode_plain) : Ct where
  nin := 0
  mv := []
  F := fun tvs blks {β} K => match tvs, blks with
    | [.v (.one (.d .str a0))], [] => (g a0).bind fun r => K ⟨.tup [(.one (.d .str r.1)), (.one (.d .str r.2.1)), (.one (.d (.int .i64) r.2.2))], []⟩
    | _, _ => none
  legit := fun tvs blks K r h => by
    split at h
    · obtain ⟨x, hx, hk⟩ := Option.bind_eq_some_iff.1 h
      refine ⟨_, ?_, hk⟩
      simp only [hx, Option.bind_some]
    · simp at h
abbrev S_keycode_plain_0 : Type := ByteArray → Int → (List Int) → Option (ByteArray × ByteArray × Int)
abbrev S_keycode_plain_1 : Type := ByteArray → Int → (List Int) → Option (ByteArray × ByteArray × Int)
def seg_keycode_plain_0 (g : S_keycode_plain_0) : Seg where
  path := [4, 1, 0, 1, 1]
  prep := [.own 5 (.int .u8)]
  keep := [0, 5, 6]
  F := fun tvs blks {β} K => match tvs, blks with
    | [.v (.one (.d .str x0)), .v (.one (.own 0)), .v (.one (.d (.int .i64) x1))], [some (.own (.int .u8) false x2)] => (g x0 x1 x2).bind fun r => K ⟨.tup [(.one (.d .str r.1)), (.one (.d .str r.2.1)), (.one (.d (.int .i64) r.2.2))], []⟩
    | _, _ => none
  legit := fun tvs blks K r h => by
    split at h
    · obtain ⟨x, hx, hk⟩ := Option.bind_eq_some_iff.1 h
      refine ⟨_, ?_, hk⟩
      simp only [hx, Option.bind_some]
    · simp at h
def seg_keycode_plain_1 (g : S_keycode_plain_1) : Seg where
  path := [1, 1, 5, 4, 1, 0, 1, 1]
  prep := []
  keep := [0, 5, 6]
  F := fun tvs blks {β} K => match tvs, blks with
    | [.v (.one (.d .str x0)), .v (.one (.own 0)), .v (.one (.d (.int .i64) x1))], [some (.own (.int .u8) false x2)] => (g x0 x1 x2).bind fun r => K ⟨.tup [(.one (.d .str r.1)), (.one (.d .str r.2.1)), (.one (.d (.int .i64) r.2.2))], []⟩
    | _, _ => none
  legit := fun tvs blks K r h => by
    split at h
    · obtain ⟨x, hx, hk⟩ := Option.bind_eq_some_iff.1 h
      refine ⟨_, ?_, hk⟩
      simp only [hx, Option.bind_some]
    · simp at h
noncomputable def env_keycode_plain  (s0 : S_keycode_plain_0) (s1 : S_keycode_plain_1) : FEnv := { P := Go.Proofs.Tryd.prog, ct := fun m => none, N := 53, body := Go.Proofs.Tryd.f78.body.getD .skip, rvs := [.tmp 2, .tmp 3, .tmp 4], rts := [9, 9, 27], nin := 0, rmv := [], segs := [seg_keycode_plain_0 s0, seg_keycode_plain_1 s1] }
def keycode_plain.c {β : Type}  (s0 : S_keycode_plain_0) (s1 : S_keycode_plain_1) (a0 : ByteArray) (ret : (ByteArray × ByteArray × Int) → Option β) : Option β := ((s0 a0 (0 : Int) []).bind ret)
def keycode_plain.s0c {β : Type}  (s0 : S_keycode_plain_0) (s1 : S_keycode_plain_1) (x0 : ByteArray) (x1 : Int) (x2 : List Int) (ret : (ByteArray × ByteArray × Int) → Option β) : Option β := (bif (decide (x1 < ((ByteArray.size x0) : Int))) then (bif ((decide ((0 : Int) ≤ x1)) && (decide (x1 < ((ByteArray.size x0) : Int)))) then (bif ((bt x0 x1) != (0 : Int)) then (bif ((decide ((0 : Int) ≤ x1)) && (decide (x1 < ((ByteArray.size x0) : Int)))) then (bif (decide ((((List.length x2) + (1 : Nat)) * (1 : Nat)) ≤ (35184372088832 : Nat))) then ((s1 x0 x1 (x2 ++ [(bt x0 x1)])).bind ret) else none) else none) else (bif ((IntKind.wrap IntKind.i64 (x1 + (1 : Int))) == ((ByteArray.size x0) : Int)) then (ret ((ByteArray.mk (List.toArray [])), (ByteArray.mk (List.toArray [])), (3 : Int))) else (bif ((decide ((0 : Int) ≤ (IntKind.wrap IntKind.i64 (x1 + (1 : Int))))) && (decide ((IntKind.wrap IntKind.i64 (x1 + (1 : Int))) < ((ByteArray.size x0) : Int)))) then (bif ((bt x0 (IntKind.wrap IntKind.i64 (x1 + (1 : Int)))) == (0 : Int)) then (bif (((decide ((0 : Int) ≤ (IntKind.wrap IntKind.i64 (x1 + (2 : Int))))) && (decide ((IntKind.wrap IntKind.i64 (x1 + (2 : Int))) ≤ ((ByteArray.size x0) : Int)))) && (decide (((ByteArray.size x0) : Int) ≤ ((ByteArray.size x0) : Int)))) then (ret ((ByteArray.mk (List.toArray (List.map (fun n => (UInt8.ofNat (Int.toNat n))) x2))), (ByteArray.extract x0 (Int.toNat (IntKind.wrap IntKind.i64 (x1 + (2 : Int)))) (Int.toNat ((ByteArray.size x0) : Int))), (0 : Int))) else none) else (bif ((decide ((0 : Int) ≤ (IntKind.wrap IntKind.i64 (x1 + (1 : Int))))) && (decide ((IntKind.wrap IntKind.i64 (x1 + (1 : Int))) < ((ByteArray.size x0) : Int)))) then (bif ((bt x0 (IntKind.wrap IntKind.i64 (x1 + (1 : Int)))) != (255 : Int)) then (ret ((ByteArray.mk (List.toArray [])), (ByteArray.mk (List.toArray [])), (4 : Int))) else (bif (decide ((((List.length x2) + (1 : Nat)) * (1 : Nat)) ≤ (35184372088832 : Nat))) then ((s1 x0 (IntKind.wrap IntKind.i64 (x1 + (1 : Int))) (x2 ++ [(0 : Int)])).bind ret) else none)) else none)) else none))) else none) else (ret ((ByteArray.mk (List.toArray [])), (ByteArray.mk (List.toArray [])), (3 : Int))))
def keycode_plain.s1c {β : Type}  (s0 : S_keycode_plain_0) (s1 : S_keycode_plain_1) (x0 : ByteArray) (x1 : Int) (x2 : List Int) (ret : (ByteArray × ByteArray × Int) → Option β) : Option β := ((s0 x0 (IntKind.wrap IntKind.i64 (x1 + (1 : Int))) x2).bind ret)
theorem keycode_plain.c_bind {β : Type}  {s0 : S_keycode_plain_0} {s1 : S_keycode_plain_1} {a0 : ByteArray} {ret : (ByteArray × ByteArray × Int) → Option β} : keycode_plain.c  s0 s1 a0 ret = (keycode_plain.c  s0 s1 a0 some).bind ret := by
  simp only [keycode_plain.c, bif_bind, sum_bind, Option.bind_assoc, Option.bind_some, Option.bind_none, Option.bind_fun_some]
theorem keycode_plain.s0c_bind {β : Type}  {s0 : S_keycode_plain_0} {s1 : S_keycode_plain_1} {x0 : ByteArray} {x1 : Int} {x2 : List Int} {ret : (ByteArray × ByteArray × Int) → Option β} : keycode_plain.s0c  s0 s1 x0 x1 x2 ret = (keycode_plain.s0c  s0 s1 x0 x1 x2 some).bind ret := by
  simp only [keycode_plain.s0c, bif_bind, sum_bind, Option.bind_assoc, Option.bind_some, Option.bind_none, Option.bind_fun_some]
theorem keycode_plain.s1c_bind {β : Type}  {s0 : S_keycode_plain_0} {s1 : S_keycode_plain_1} {x0 : ByteArray} {x1 : Int} {x2 : List Int} {ret : (ByteArray × ByteArray × Int) → Option β} : keycode_plain.s1c  s0 s1 x0 x1 x2 ret = (keycode_plain.s1c  s0 s1 x0 x1 x2 some).bind ret := by
  simp only [keycode_plain.s1c, bif_bind, sum_bind, Option.bind_assoc, Option.bind_some, Option.bind_none, Option.bind_fun_some]
theorem keycode_plain.ev  {s0 : S_keycode_plain_0} {s1 : S_keycode_plain_1} {a0 : ByteArray} : evAt (env_keycode_plain  s0 s1) [] [0] [.v (.one (.d .str a0))] [] some = keycode_plain.c  s0 s1 a0 (fun r => some ⟨.tup [(.one (.d .str r.1)), (.one (.d .str r.2.1)), (.one (.d (.int .i64) r.2.2))], []⟩) := by
  kernel_rfl
theorem keycode_plain.s0_ev  {s0 : S_keycode_plain_0} {s1 : S_keycode_plain_1} {x0 : ByteArray} {x1 : Int} {x2 : List Int} : evAt (env_keycode_plain  s0 s1) [4, 1, 0, 1, 1] [0, 5, 6] [.v (.one (.d .str x0)), .v (.one (.own 0)), .v (.one (.d (.int .i64) x1))] [some (.own (.int .u8) false x2)] some = keycode_plain.s0c  s0 s1 x0 x1 x2 (fun r => some ⟨.tup [(.one (.d .str r.1)), (.one (.d .str r.2.1)), (.one (.d (.int .i64) r.2.2))], []⟩) := by
  kernel_rfl
theorem keycode_plain.s1_ev  {s0 : S_keycode_plain_0} {s1 : S_keycode_plain_1} {x0 : ByteArray} {x1 : Int} {x2 : List Int} : evAt (env_keycode_plain  s0 s1) [1, 1, 5, 4, 1, 0, 1, 1] [0, 5, 6] [.v (.one (.d .str x0)), .v (.one (.own 0)), .v (.one (.d (.int .i64) x1))] [some (.own (.int .u8) false x2)] some = keycode_plain.s1c  s0 s1 x0 x1 x2 (fun r => some ⟨.tup [(.one (.d .str r.1)), (.one (.d .str r.2.1)), (.one (.d (.int .i64) r.2.2))], []⟩) := by
  kernel_rfl
mutual
def keycode_plain.s0 : Nat → ByteArray → Int → (List Int) → Option (ByteArray × ByteArray × Int)
  | 0, _, _, _ => none
  | k + 1, x0, x1, x2 => keycode_plain.s0c  (keycode_plain.s0 k) (keycode_plain.s1 k) x0 x1 x2 some
def keycode_plain.s1 : Nat → ByteArray → Int → (List Int) → Option (ByteArray × ByteArray × Int)
  | 0, _, _, _ => none
  | k + 1, x0, x1, x2 => keycode_plain.s1c  (keycode_plain.s0 k) (keycode_plain.s1 k) x0 x1 x2 some
end
def keycode_plain.f (k : Nat) (a0 : ByteArray) : Option (ByteArray × ByteArray × Int) := keycode_plain.c  (keycode_plain.s0 k) (keycode_plain.s1 k) a0 some
theorem keycode_plain.is  {s0 : S_keycode_plain_0} {s1 : S_keycode_plain_1} : FnIs (env_keycode_plain  s0 s1) 78 Go.Proofs.Tryd.f78 := ⟨Go.Proofs.Tryd.func78, rfl, rfl, rfl, by decide⟩
theorem keycode_plain.envok  {s0 : S_keycode_plain_0} {s1 : S_keycode_plain_1}  : EnvOK (env_keycode_plain  s0 s1).toEnv := by
  intro f c h
  simp only [env_keycode_plain] at h
  simp at h
noncomputable abbrev keycode_plain.E (k : Nat) : FEnv := env_keycode_plain  (keycode_plain.s0 k) (keycode_plain.s1 k)
theorem keycode_plain.hE (k : Nat) : EnvOK (keycode_plain.E k).toEnv := keycode_plain.envok 
theorem keycode_plain.segs_ok : ∀ k, ∀ s ∈ (keycode_plain.E k).segs, SegOK (keycode_plain.E k) Go.Proofs.Tryd.f78 s
  | 0 => by
    intro s hs
    simp only [keycode_plain.E, env_keycode_plain, List.mem_cons, List.not_mem_nil, or_false] at hs
    rcases hs with rfl | rfl
    · intro tvs blks res h; exfalso; simp only [seg_keycode_plain_0] at h; split at h <;> simp [keycode_plain.s0] at h
    · intro tvs blks res h; exfalso; simp only [seg_keycode_plain_1] at h; split at h <;> simp [keycode_plain.s1] at h
  | k + 1 => by
    intro s hs
    simp only [keycode_plain.E, env_keycode_plain, List.mem_cons, List.not_mem_nil, or_false] at hs
    rcases hs with rfl | rfl
    · refine seg_of_ev (E := keycode_plain.E k) (keycode_plain.hE k) ⟨keycode_plain.is.rvs⟩ (keycode_plain.segs_ok k) ?_
      intro tvs blks res h
      simp only [seg_keycode_plain_0] at h
      split at h
      · exact (keycode_plain.s0_ev.trans keycode_plain.s0c_bind).trans h
      · simp at h
    · refine seg_of_ev (E := keycode_plain.E k) (keycode_plain.hE k) ⟨keycode_plain.is.rvs⟩ (keycode_plain.segs_ok k) ?_
      intro tvs blks res h
      simp only [seg_keycode_plain_1] at h
      split at h
      · exact (keycode_plain.s1_ev.trans keycode_plain.s1c_bind).trans h
      · simp at h
theorem keycode_plain.ok (k : Nat) : CtOK Go.Proofs.Tryd.prog 78 (ct_keycode_plain (keycode_plain.f k)) := by
  refine ct_of_ev (E := keycode_plain.E k) keycode_plain.is (keycode_plain.hE k) (keycode_plain.segs_ok k) rfl ?_
  intro tvs blks res h
  simp only [ct_keycode_plain] at h
  split at h
  · exact (keycode_plain.ev.trans keycode_plain.c_bind).trans h
  · simp at h

/-! ### keycode_Read: function 59 -/
abbrev G_keycode_Read : Type := ByteArray → Option (Int × Int × Int × ByteArray × ByteArray × Int)
def ct_keycode_Read (g : G_keycode_Read) : Ct where
  nin := 0
  mv := []
  F := fun tvs blks {β} K => match tvs, blks with
    | [.v (.one (.d .str a0))], [] => (g a0).bind fun r => K ⟨.tup [(.agg [(.d (.int .i64) r.1), (.d (.int .i64) r.2.1), (.d (.int .u64) r.2.2.1), (.d .str r.2.2.2.1)]), (.one (.d .str r.2.2.2.2.1)), (.one (.d (.int .i64) r.2.2.2.2.2))], []⟩
    | _, _ => none
  legit := fun tvs blks K r h => by
    split at h
    · obtain ⟨x, hx, hk⟩ := Option.bind_eq_some_iff.1 h
      refine ⟨_, ?_, hk⟩
      simp only [hx, Option.bind_some]
    · simp at h
abbrev S_keycode_Read_0 : Type := ByteArray → ByteArray → Bool → Int → Int → Int → ByteArray → Int → Int → Int → ByteArray → Int → Int → Int → ByteArray → Option (Int × Int × Int × ByteArray × ByteArray × Int)
def seg_keycode_Read_0 (g : S_keycode_Read_0) : Seg where
  path := [1, 3, 1, 3, 1, 3, 1, 4, 1, 0, 1, 1, 1, 1, 1, 1, 1, 1, 1]
  prep := []
  keep := [0, 2, 5, 6, 9, 70]
  F := fun tvs blks {β} K => match tvs, blks with
    | [.v (.one (.d .str x0)), .v (.one (.ptr 0 0)), .v (.one (.ptr 1 0)), .v (.one (.ptr 2 0)), .v (.one (.d .str x1)), .v (.one (.d .bool x2))], [some (.box [(.d (.int .i64) x3), (.d (.int .i64) x4), (.d (.int .u64) x5), (.d .str x6)]), some (.box [(.d (.int .i64) x7), (.d (.int .i64) x8), (.d (.int .u64) x9), (.d .str x10)]), some (.box [(.d (.int .i64) x11), (.d (.int .i64) x12), (.d (.int .u64) x13), (.d .str x14)])] => (g x0 x1 x2 x3 x4 x5 x6 x7 x8 x9 x10 x11 x12 x13 x14).bind fun r => K ⟨.tup [(.agg [(.d (.int .i64) r.1), (.d (.int .i64) r.2.1), (.d (.int .u64) r.2.2.1), (.d .str r.2.2.2.1)]), (.one (.d .str r.2.2.2.2.1)), (.one (.d (.int .i64) r.2.2.2.2.2))], []⟩
    | _, _ => none
  legit := fun tvs blks K r h => by
    split at h
    · obtain ⟨x, hx, hk⟩ := Option.bind_eq_some_iff.1 h
      refine ⟨_, ?_, hk⟩
      simp only [hx, Option.bind_some]
    · simp at h
noncomputable def env_keycode_Read (g45 : G_values_Check) (g75 : G_keycode_need) (g76 : G_keycode_get8) (g77 : G_reals_Back) (g78 : G_keycode_plain) (s0 : S_keycode_Read_0) : FEnv := { P := Go.Proofs.Tryd.prog, ct := fun m => if m = 45 then some (ct_values_Check g45) else if m = 75 then some (ct_keycode_need g75) else if m = 76 then some (ct_keycode_get8 g76) else if m = 77 then some (ct_reals_Back g77) else if m = 78 then some (ct_keycode_plain g78) else none, N := 92, body := Go.Proofs.Tryd.f59.body.getD .skip, rvs := [.cell 2 31, .tmp 3, .tmp 4], rts := [31, 9, 27], nin := 0, rmv := [], segs := [seg_keycode_Read_0 s0] }
def keycode_Read.c {β : Type} (g45 : G_values_Check) (g75 : G_keycode_need) (g76 : G_keycode_get8) (g77 : G_reals_Back) (g78 : G_keycode_plain) (s0 : S_keycode_Read_0) (a0 : ByteArray) (ret : (Int × Int × Int × ByteArray × ByteArray × Int) → Option β) : Option β := (bif ((ByteArray.toList a0) == (ByteArray.toList (ByteArray.mk (List.toArray [])))) then (ret ((0 : Int), (0 : Int), (0 : Int), (ByteArray.mk (List.toArray [])), (ByteArray.mk (List.toArray [])), (3 : Int))) else (bif (true && (decide ((0 : Int) < ((ByteArray.size a0) : Int)))) then (bif (decide ((IntKind.wrap IntKind.i64 (bt a0 (0 : Int))) > (5 : Int))) then (ret ((0 : Int), (0 : Int), (0 : Int), (ByteArray.mk (List.toArray [])), (ByteArray.mk (List.toArray [])), (4 : Int))) else ((g75 (IntKind.wrap IntKind.i64 (bt a0 (0 : Int)))).bind fun r0 => (bif ((true && (decide ((1 : Int) ≤ ((ByteArray.size a0) : Int)))) && (decide (((ByteArray.size a0) : Int) ≤ ((ByteArray.size a0) : Int)))) then (bif (decide (((ByteArray.size (ByteArray.extract a0 (1 : Nat) (Int.toNat ((ByteArray.size a0) : Int)))) : Int) < r0)) then (ret ((0 : Int), (0 : Int), (0 : Int), (ByteArray.mk (List.toArray [])), (ByteArray.mk (List.toArray [])), (3 : Int))) else (bif ((true && (decide ((0 : Int) ≤ r0))) && (decide (r0 ≤ ((ByteArray.size (ByteArray.extract a0 (1 : Nat) (Int.toNat ((ByteArray.size a0) : Int)))) : Int)))) then (bif (((decide ((0 : Int) ≤ r0)) && (decide (r0 ≤ ((ByteArray.size (ByteArray.extract a0 (1 : Nat) (Int.toNat ((ByteArray.size a0) : Int)))) : Int)))) && (decide (((ByteArray.size (ByteArray.extract a0 (1 : Nat) (Int.toNat ((ByteArray.size a0) : Int)))) : Int) ≤ ((ByteArray.size (ByteArray.extract a0 (1 : Nat) (Int.toNat ((ByteArray.size a0) : Int)))) : Int)))) then (bif ((IntKind.wrap IntKind.i64 (bt a0 (0 : Int))) == (1 : Int)) then (bif (true && (decide ((0 : Int) < ((ByteArray.size (ByteArray.extract (ByteArray.extract a0 (1 : Nat) (Int.toNat ((ByteArray.size a0) : Int))) (0 : Nat) (Int.toNat r0))) : Int)))) then ((g45 (IntKind.wrap IntKind.i64 (bt a0 (0 : Int))) (IntKind.wrap IntKind.i64 (bt (ByteArray.extract (ByteArray.extract a0 (1 : Nat) (Int.toNat ((ByteArray.size a0) : Int))) (0 : Nat) (Int.toNat r0)) (0 : Int))) (0 : Int) (ByteArray.mk (List.toArray []))).bind fun r1 => (bif (r1 != (0 : Int)) then (ret ((0 : Int), (0 : Int), (0 : Int), (ByteArray.mk (List.toArray [])), (ByteArray.mk (List.toArray [])), (4 : Int))) else (ret ((IntKind.wrap IntKind.i64 (bt a0 (0 : Int))), (IntKind.wrap IntKind.i64 (bt (ByteArray.extract (ByteArray.extract a0 (1 : Nat) (Int.toNat ((ByteArray.size a0) : Int))) (0 : Nat) (Int.toNat r0)) (0 : Int))), (0 : Int), (ByteArray.mk (List.toArray [])), (ByteArray.extract (ByteArray.extract a0 (1 : Nat) (Int.toNat ((ByteArray.size a0) : Int))) (Int.toNat r0) (Int.toNat ((ByteArray.size (ByteArray.extract a0 (1 : Nat) (Int.toNat ((ByteArray.size a0) : Int)))) : Int))), (0 : Int))))) else none) else (bif ((IntKind.wrap IntKind.i64 (bt a0 (0 : Int))) == (2 : Int)) then ((g76 (ByteArray.extract (ByteArray.extract a0 (1 : Nat) (Int.toNat ((ByteArray.size a0) : Int))) (0 : Nat) (Int.toNat r0))).bind fun r2 => ((g45 (IntKind.wrap IntKind.i64 (bt a0 (0 : Int))) (IntKind.wrap IntKind.i64 (IntKind.wrap IntKind.u64 ((BitVec.toNat ((BitVec.ofInt (64 : Nat) r2) ^^^ (BitVec.ofInt (64 : Nat) (9223372036854775808 : Int)))) : Int))) (0 : Int) (ByteArray.mk (List.toArray []))).bind fun r3 => (bif (r3 != (0 : Int)) then (ret ((0 : Int), (0 : Int), (0 : Int), (ByteArray.mk (List.toArray [])), (ByteArray.mk (List.toArray [])), (4 : Int))) else (ret ((IntKind.wrap IntKind.i64 (bt a0 (0 : Int))), (IntKind.wrap IntKind.i64 (IntKind.wrap IntKind.u64 ((BitVec.toNat ((BitVec.ofInt (64 : Nat) r2) ^^^ (BitVec.ofInt (64 : Nat) (9223372036854775808 : Int)))) : Int))), (0 : Int), (ByteArray.mk (List.toArray [])), (ByteArray.extract (ByteArray.extract a0 (1 : Nat) (Int.toNat ((ByteArray.size a0) : Int))) (Int.toNat r0) (Int.toNat ((ByteArray.size (ByteArray.extract a0 (1 : Nat) (Int.toNat ((ByteArray.size a0) : Int)))) : Int))), (0 : Int)))))) else (bif ((IntKind.wrap IntKind.i64 (bt a0 (0 : Int))) == (3 : Int)) then ((g76 (ByteArray.extract (ByteArray.extract a0 (1 : Nat) (Int.toNat ((ByteArray.size a0) : Int))) (0 : Nat) (Int.toNat r0))).bind fun r4 => ((g77 r4).bind fun r5 => (bif (!r5.2) then (ret ((0 : Int), (0 : Int), (0 : Int), (ByteArray.mk (List.toArray [])), (ByteArray.mk (List.toArray [])), (4 : Int))) else ((g45 (IntKind.wrap IntKind.i64 (bt a0 (0 : Int))) (0 : Int) r5.1 (ByteArray.mk (List.toArray []))).bind fun r6 => (bif (r6 != (0 : Int)) then (ret ((0 : Int), (0 : Int), (0 : Int), (ByteArray.mk (List.toArray [])), (ByteArray.mk (List.toArray [])), (4 : Int))) else (ret ((IntKind.wrap IntKind.i64 (bt a0 (0 : Int))), (0 : Int), r5.1, (ByteArray.mk (List.toArray [])), (ByteArray.extract (ByteArray.extract a0 (1 : Nat) (Int.toNat ((ByteArray.size a0) : Int))) (Int.toNat r0) (Int.toNat ((ByteArray.size (ByteArray.extract a0 (1 : Nat) (Int.toNat ((ByteArray.size a0) : Int)))) : Int))), (0 : Int)))))))) else (bif ((IntKind.wrap IntKind.i64 (bt a0 (0 : Int))) == (4 : Int)) then ((s0 (ByteArray.extract a0 (1 : Nat) (Int.toNat ((ByteArray.size a0) : Int))) (ByteArray.extract (ByteArray.extract a0 (1 : Nat) (Int.toNat ((ByteArray.size a0) : Int))) (Int.toNat r0) (Int.toNat ((ByteArray.size (ByteArray.extract a0 (1 : Nat) (Int.toNat ((ByteArray.size a0) : Int)))) : Int))) ((IntKind.wrap IntKind.i64 (bt a0 (0 : Int))) == (4 : Int)) (0 : Int) (0 : Int) (0 : Int) (ByteArray.mk (List.toArray [])) (0 : Int) (0 : Int) (0 : Int) (ByteArray.mk (List.toArray [])) (IntKind.wrap IntKind.i64 (bt a0 (0 : Int))) (0 : Int) (0 : Int) (ByteArray.mk (List.toArray []))).bind ret) else ((s0 (ByteArray.extract a0 (1 : Nat) (Int.toNat ((ByteArray.size a0) : Int))) (ByteArray.extract (ByteArray.extract a0 (1 : Nat) (Int.toNat ((ByteArray.size a0) : Int))) (Int.toNat r0) (Int.toNat ((ByteArray.size (ByteArray.extract a0 (1 : Nat) (Int.toNat ((ByteArray.size a0) : Int)))) : Int))) ((IntKind.wrap IntKind.i64 (bt a0 (0 : Int))) == (5 : Int)) (0 : Int) (0 : Int) (0 : Int) (ByteArray.mk (List.toArray [])) (0 : Int) (0 : Int) (0 : Int) (ByteArray.mk (List.toArray [])) (IntKind.wrap IntKind.i64 (bt a0 (0 : Int))) (0 : Int) (0 : Int) (ByteArray.mk (List.toArray []))).bind ret))))) else none) else none)) else none))) else none))
def keycode_Read.s0c {β : Type} (g45 : G_values_Check) (g75 : G_keycode_need) (g76 : G_keycode_get8) (g77 : G_reals_Back) (g78 : G_keycode_plain) (s0 : S_keycode_Read_0) (x0 : ByteArray) (x1 : ByteArray) (x2 : Bool) (x3 : Int) (x4 : Int) (x5 : Int) (x6 : ByteArray) (x7 : Int) (x8 : Int) (x9 : Int) (x10 : ByteArray) (x11 : Int) (x12 : Int) (x13 : Int) (x14 : ByteArray) (ret : (Int × Int × Int × ByteArray × ByteArray × Int) → Option β) : Option β := (bif x2 then ((g78 x0).bind fun r0 => (bif (r0.2.2 != (0 : Int)) then (ret (x7, x8, x9, x10, (ByteArray.mk (List.toArray [])), r0.2.2)) else ((g45 x11 x12 x13 r0.1).bind fun r1 => (bif (r1 != (0 : Int)) then (ret (x7, x8, x9, x10, (ByteArray.mk (List.toArray [])), (4 : Int))) else (ret (x11, x12, x13, r0.1, r0.2.1, (0 : Int))))))) else ((g45 x11 x12 x13 x14).bind fun r2 => (bif (r2 != (0 : Int)) then (ret (x7, x8, x9, x10, (ByteArray.mk (List.toArray [])), (4 : Int))) else (ret (x11, x12, x13, x14, x1, (0 : Int))))))
theorem keycode_Read.c_bind {β : Type} {g45 : G_values_Check} {g75 : G_keycode_need} {g76 : G_keycode_get8} {g77 : G_reals_Back} {g78 : G_keycode_plain} {s0 : S_keycode_Read_0} {a0 : ByteArray} {ret : (Int × Int × Int × ByteArray × ByteArray × Int) → Option β} : keycode_Read.c g45 g75 g76 g77 g78 s0 a0 ret = (keycode_Read.c g45 g75 g76 g77 g78 s0 a0 some).bind ret := by
  simp only [keycode_Read.c, bif_bind, sum_bind, Option.bind_assoc, Option.bind_some, Option.bind_none, Option.bind_fun_some]
theorem keycode_Read.s0c_bind {β : Type} {g45 : G_values_Check} {g75 : G_keycode_need} {g76 : G_keycode_get8} {g77 : G_reals_Back} {g78 : G_keycode_plain} {s0 : S_keycode_Read_0} {x0 : ByteArray} {x1 : ByteArray} {x2 : Bool} {x3 : Int} {x4 : Int} {x5 : Int} {x6 : ByteArray} {x7 : Int} {x8 : Int} {x9 : Int} {x10 : ByteArray} {x11 : Int} {x12 : Int} {x13 : Int} {x14 : ByteArray} {ret : (Int × Int × Int × ByteArray × ByteArray × Int) → Option β} : keycode_Read.s0c g45 g75 g76 g77 g78 s0 x0 x1 x2 x3 x4 x5 x6 x7 x8 x9 x10 x11 x12 x13 x14 ret = (keycode_Read.s0c g45 g75 g76 g77 g78 s0 x0 x1 x2 x3 x4 x5 x6 x7 x8 x9 x10 x11 x12 x13 x14 some).bind ret := by
  simp only [keycode_Read.s0c, bif_bind, sum_bind, Option.bind_assoc, Option.bind_some, Option.bind_none, Option.bind_fun_some]
theorem keycode_Read.ev {g45 : G_values_Check} {g75 : G_keycode_need} {g76 : G_keycode_get8} {g77 : G_reals_Back} {g78 : G_keycode_plain} {s0 : S_keycode_Read_0} {a0 : ByteArray} : evAt (env_keycode_Read g45 g75 g76 g77 g78 s0) [] [0] [.v (.one (.d .str a0))] [] some = keycode_Read.c g45 g75 g76 g77 g78 s0 a0 (fun r => some ⟨.tup [(.agg [(.d (.int .i64) r.1), (.d (.int .i64) r.2.1), (.d (.int .u64) r.2.2.1), (.d .str r.2.2.2.1)]), (.one (.d .str r.2.2.2.2.1)), (.one (.d (.int .i64) r.2.2.2.2.2))], []⟩) := by
  kernel_rfl
theorem keycode_Read.s0_ev {g45 : G_values_Check} {g75 : G_keycode_need} {g76 : G_keycode_get8} {g77 : G_reals_Back} {g78 : G_keycode_plain} {s0 : S_keycode_Read_0} {x0 : ByteArray} {x1 : ByteArray} {x2 : Bool} {x3 : Int} {x4 : Int} {x5 : Int} {x6 : ByteArray} {x7 : Int} {x8 : Int} {x9 : Int} {x10 : ByteArray} {x11 : Int} {x12 : Int} {x13 : Int} {x14 : ByteArray} : evAt (env_keycode_Read g45 g75 g76 g77 g78 s0) [1, 3, 1, 3, 1, 3, 1, 4, 1, 0, 1, 1, 1, 1, 1, 1, 1, 1, 1] [0, 2, 5, 6, 9, 70] [.v (.one (.d .str x0)), .v (.one (.ptr 0 0)), .v (.one (.ptr 1 0)), .v (.one (.ptr 2 0)), .v (.one (.d .str x1)), .v (.one (.d .bool x2))] [some (.box [(.d (.int .i64) x3), (.d (.int .i64) x4), (.d (.int .u64) x5), (.d .str x6)]), some (.box [(.d (.int .i64) x7), (.d (.int .i64) x8), (.d (.int .u64) x9), (.d .str x10)]), some (.box [(.d (.int .i64) x11), (.d (.int .i64) x12), (.d (.int .u64) x13), (.d .str x14)])] some = keycode_Read.s0c g45 g75 g76 g77 g78 s0 x0 x1 x2 x3 x4 x5 x6 x7 x8 x9 x10 x11 x12 x13 x14 (fun r => some ⟨.tup [(.agg [(.d (.int .i64) r.1), (.d (.int .i64) r.2.1), (.d (.int .u64) r.2.2.1), (.d .str r.2.2.2.1)]), (.one (.d .str r.2.2.2.2.1)), (.one (.d (.int .i64) r.2.2.2.2.2))], []⟩) := by
  kernel_rfl
def keycode_Read.s0 : Nat → ByteArray → ByteArray → Bool → Int → Int → Int → ByteArray → Int → Int → Int → ByteArray → Int → Int → Int → ByteArray → Option (Int × Int × Int × ByteArray × ByteArray × Int)
  | 0, _, _, _, _, _, _, _, _, _, _, _, _, _, _, _ => none
  | k + 1, x0, x1, x2, x3, x4, x5, x6, x7, x8, x9, x10, x11, x12, x13, x14 => keycode_Read.s0c (values_Check.f k) (keycode_need.f k) (keycode_get8.f k) (reals_Back.f k) (keycode_plain.f k) (keycode_Read.s0 k) x0 x1 x2 x3 x4 x5 x6 x7 x8 x9 x10 x11 x12 x13 x14 some
def keycode_Read.f (k : Nat) (a0 : ByteArray) : Option (Int × Int × Int × ByteArray × ByteArray × Int) := keycode_Read.c (values_Check.f k) (keycode_need.f k) (keycode_get8.f k) (reals_Back.f k) (keycode_plain.f k) (keycode_Read.s0 k) a0 some
theorem keycode_Read.is {g45 : G_values_Check} {g75 : G_keycode_need} {g76 : G_keycode_get8} {g77 : G_reals_Back} {g78 : G_keycode_plain} {s0 : S_keycode_Read_0} : FnIs (env_keycode_Read g45 g75 g76 g77 g78 s0) 59 Go.Proofs.Tryd.f59 := ⟨Go.Proofs.Tryd.func59, rfl, rfl, rfl, by decide⟩
theorem keycode_Read.envok {g45 : G_values_Check} {g75 : G_keycode_need} {g76 : G_keycode_get8} {g77 : G_reals_Back} {g78 : G_keycode_plain} {s0 : S_keycode_Read_0} (h45 : CtOK Go.Proofs.Tryd.prog 45 (ct_values_Check g45)) (h75 : CtOK Go.Proofs.Tryd.prog 75 (ct_keycode_need g75)) (h76 : CtOK Go.Proofs.Tryd.prog 76 (ct_keycode_get8 g76)) (h77 : CtOK Go.Proofs.Tryd.prog 77 (ct_reals_Back g77)) (h78 : CtOK Go.Proofs.Tryd.prog 78 (ct_keycode_plain g78)) : EnvOK (env_keycode_Read g45 g75 g76 g77 g78 s0).toEnv := by
  intro f c h
  simp only [env_keycode_Read] at h
  split at h
  · rename_i e; subst e; cases h; exact h45
  split at h
  · rename_i e; subst e; cases h; exact h75
  split at h
  · rename_i e; subst e; cases h; exact h76
  split at h
  · rename_i e; subst e; cases h; exact h77
  split at h
  · rename_i e; subst e; cases h; exact h78
  simp at h
noncomputable abbrev keycode_Read.E (k : Nat) : FEnv := env_keycode_Read (values_Check.f k) (keycode_need.f k) (keycode_get8.f k) (reals_Back.f k) (keycode_plain.f k) (keycode_Read.s0 k)
theorem keycode_Read.hE (k : Nat) : EnvOK (keycode_Read.E k).toEnv := keycode_Read.envok (values_Check.ok k) (keycode_need.ok k) (keycode_get8.ok k) (reals_Back.ok k) (keycode_plain.ok k)
theorem keycode_Read.segs_ok : ∀ k, ∀ s ∈ (keycode_Read.E k).segs, SegOK (keycode_Read.E k) Go.Proofs.Tryd.f59 s
  | 0 => by
    intro s hs
    simp only [keycode_Read.E, env_keycode_Read, List.mem_cons, List.not_mem_nil, or_false] at hs
    rcases hs with rfl
    · intro tvs blks res h; exfalso; simp only [seg_keycode_Read_0] at h; split at h <;> simp [keycode_Read.s0] at h
  | k + 1 => by
    intro s hs
    simp only [keycode_Read.E, env_keycode_Read, List.mem_cons, List.not_mem_nil, or_false] at hs
    rcases hs with rfl
    · refine seg_of_ev (E := keycode_Read.E k) (keycode_Read.hE k) ⟨keycode_Read.is.rvs⟩ (keycode_Read.segs_ok k) ?_
      intro tvs blks res h
      simp only [seg_keycode_Read_0] at h
      split at h
      · exact (keycode_Read.s0_ev.trans keycode_Read.s0c_bind).trans h
      · simp at h
theorem keycode_Read.ok (k : Nat) : CtOK Go.Proofs.Tryd.prog 59 (ct_keycode_Read (keycode_Read.f k)) := by
  refine ct_of_ev (E := keycode_Read.E k) keycode_Read.is (keycode_Read.hE k) (keycode_Read.segs_ok k) rfl ?_
  intro tvs blks res h
  simp only [ct_keycode_Read] at h
  split at h
  · exact (keycode_Read.ev.trans keycode_Read.c_bind).trans h
  · simp at h

/-! ### schema_reader_value: function 41 -/
abbrev G_schema_reader_value : Type := ByteArray → Int → Option (Int × Int × Int × ByteArray × ByteArray × Int)
def ct_schema_reader_value (g : G_schema_reader_value) : Ct where
  nin := 1
  mv := []
  F := fun tvs blks {β} K => match tvs, blks with
    | [.v (.one (.ptr 0 0))], [.box [(.d .str a0), (.d (.int .i64) a1)]] => (g a0 a1).bind fun r => K ⟨.v (.agg [(.d (.int .i64) r.1), (.d (.int .i64) r.2.1), (.d (.int .u64) r.2.2.1), (.d .str r.2.2.2.1)]), [some (.box [(.d .str r.2.2.2.2.1), (.d (.int .i64) r.2.2.2.2.2)])]⟩
    | _, _ => none
  legit := fun tvs blks K r h => by
    split at h
    · obtain ⟨x, hx, hk⟩ := Option.bind_eq_some_iff.1 h
      refine ⟨_, ?_, hk⟩
      simp only [hx, Option.bind_some]
    · simp at h
noncomputable def env_schema_reader_value (g59 : G_keycode_Read)  : FEnv := { P := Go.Proofs.Tryd.prog, ct := fun m => if m = 59 then some (ct_keycode_Read g59) else none, N := 30, body := Go.Proofs.Tryd.f41.body.getD .skip, rvs := [.cell 2 31], rts := [31], nin := 1, rmv := [], segs := [] }
def schema_reader_value.c {β : Type} (g59 : G_keycode_Read)  (a0 : ByteArray) (a1 : Int) (ret : (Int × Int × Int × ByteArray × ByteArray × Int) → Option β) : Option β := (bif (a1 != (0 : Int)) then (ret ((0 : Int), (0 : Int), (0 : Int), (ByteArray.mk (List.toArray [])), a0, a1)) else ((g59 a0).bind fun r0 => (ret (r0.1, r0.2.1, r0.2.2.1, r0.2.2.2.1, r0.2.2.2.2.1, r0.2.2.2.2.2))))
theorem schema_reader_value.c_bind {β : Type} {g59 : G_keycode_Read}  {a0 : ByteArray} {a1 : Int} {ret : (Int × Int × Int × ByteArray × ByteArray × Int) → Option β} : schema_reader_value.c g59  a0 a1 ret = (schema_reader_value.c g59  a0 a1 some).bind ret := by
  simp only [schema_reader_value.c, bif_bind, sum_bind, Option.bind_assoc, Option.bind_some, Option.bind_none, Option.bind_fun_some]
theorem schema_reader_value.ev {g59 : G_keycode_Read}  {a0 : ByteArray} {a1 : Int} : evAt (env_schema_reader_value g59 ) [] [0] [.v (.one (.ptr 0 0))] [some (.box [(.d .str a0), (.d (.int .i64) a1)])] some = schema_reader_value.c g59  a0 a1 (fun r => some ⟨.v (.agg [(.d (.int .i64) r.1), (.d (.int .i64) r.2.1), (.d (.int .u64) r.2.2.1), (.d .str r.2.2.2.1)]), [some (.box [(.d .str r.2.2.2.2.1), (.d (.int .i64) r.2.2.2.2.2)])]⟩) := by
  kernel_rfl
def schema_reader_value.f (k : Nat) (a0 : ByteArray) (a1 : Int) : Option (Int × Int × Int × ByteArray × ByteArray × Int) := schema_reader_value.c (keycode_Read.f k)  a0 a1 some
theorem schema_reader_value.is {g59 : G_keycode_Read}  : FnIs (env_schema_reader_value g59 ) 41 Go.Proofs.Tryd.f41 := ⟨Go.Proofs.Tryd.func41, rfl, rfl, rfl, by decide⟩
theorem schema_reader_value.envok {g59 : G_keycode_Read}  (h59 : CtOK Go.Proofs.Tryd.prog 59 (ct_keycode_Read g59)) : EnvOK (env_schema_reader_value g59 ).toEnv := by
  intro f c h
  simp only [env_schema_reader_value] at h
  split at h
  · rename_i e; subst e; cases h; exact h59
  simp at h
noncomputable abbrev schema_reader_value.E (k : Nat) : FEnv := env_schema_reader_value (keycode_Read.f k) 
theorem schema_reader_value.hE (k : Nat) : EnvOK (schema_reader_value.E k).toEnv := schema_reader_value.envok (keycode_Read.ok k)
theorem schema_reader_value.ok (k : Nat) : CtOK Go.Proofs.Tryd.prog 41 (ct_schema_reader_value (schema_reader_value.f k)) := by
  refine ct_of_ev (E := schema_reader_value.E k) schema_reader_value.is (schema_reader_value.hE k) (fun s hs => by simp [schema_reader_value.E, env_schema_reader_value] at hs) rfl ?_
  intro tvs blks res h
  simp only [ct_schema_reader_value] at h
  split at h
  · exact (schema_reader_value.ev.trans schema_reader_value.c_bind).trans h
  · simp at h
end Go.Proofs.YtddlebbjaadbeaaDoor.Aev
