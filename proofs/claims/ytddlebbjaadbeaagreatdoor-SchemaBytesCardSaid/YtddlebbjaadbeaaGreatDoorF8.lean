/- By a program of this session (AEV): functions of the program as plain functions, and that the machine does what they say. -/
import Derived.Test.YtddlebbjaadbeaaGreatDoorTys
import Derived.Test.YtddlebbjaadbeaaGreatDoorProg
import Derived.Laws.Externs
import Derived.Lib.Bytealg
import Derived.Test.YtddlebbjaadbeaaGreatDoorF1
import Derived.Test.YtddlebbjaadbeaaGreatDoorF2
import Derived.Test.YtddlebbjaadbeaaGreatDoorF7
namespace Go.Proofs.YtddlebbjaadbeaaGreatDoor.Aev
set_option linter.unusedVariables false
set_option linter.unusedSimpArgs false
set_option maxRecDepth 100000
set_option maxHeartbeats 4000000
open Go Go.Proofs.Tryz
namespace reals_bytes
abbrev G : Type := Int → Option (Int × Int × Int × Int × Int × Int × Int × Int)
def ct (g : G) : Ct where
  nin := 0
  mv := []
  F := fun tvs blks {β} K => match tvs, blks with
    | [.v (.one (.d (.int .u64) a0))], [] => (g a0).bind fun r => K ⟨.v (.agg [(.d (.int .u8) r.1), (.d (.int .u8) r.2.1), (.d (.int .u8) r.2.2.1), (.d (.int .u8) r.2.2.2.1), (.d (.int .u8) r.2.2.2.2.1), (.d (.int .u8) r.2.2.2.2.2.1), (.d (.int .u8) r.2.2.2.2.2.2.1), (.d (.int .u8) r.2.2.2.2.2.2.2)]), []⟩
    | _, _ => none
  legit := fun _ _ K _ h => by split at h; exact (legit1 K h :); simp at h
noncomputable def env   : FEnv := { P := prog, ct := fun m => none, N := 18, body := f103.body.getD .skip, rvs := [.cell 2 141], rts := [141], nin := 0, rmv := [], segs := [] }
def c {β : Type}   (a0 : Int) (ret : (Int × Int × Int × Int × Int × Int × Int × Int) → Option β) : Option β := (ret ((IntKind.wrap IntKind.u8 (Int.fdiv a0 (72057594037927936 : Int))), (IntKind.wrap IntKind.u8 (Int.fdiv a0 (281474976710656 : Int))), (IntKind.wrap IntKind.u8 (Int.fdiv a0 (1099511627776 : Int))), (IntKind.wrap IntKind.u8 (Int.fdiv a0 (4294967296 : Int))), (IntKind.wrap IntKind.u8 (Int.fdiv a0 (16777216 : Int))), (IntKind.wrap IntKind.u8 (Int.fdiv a0 (65536 : Int))), (IntKind.wrap IntKind.u8 (Int.fdiv a0 (256 : Int))), (IntKind.wrap IntKind.u8 (Int.fdiv a0 (1 : Int)))))
theorem c_bind {β : Type}   {a0 : Int} {ret : (Int × Int × Int × Int × Int × Int × Int × Int) → Option β} : c   a0 ret = (c   a0 some).bind ret := by
  simp only [c, bif_bind, sum_bind, oa, os, on, ofs]
theorem ev   {a0 : Int} : evAt (env  ) [] [0] [.v (.one (.d (.int .u64) a0))] [] some = c   a0 (fun r => some ⟨.v (.agg [(.d (.int .u8) r.1), (.d (.int .u8) r.2.1), (.d (.int .u8) r.2.2.1), (.d (.int .u8) r.2.2.2.1), (.d (.int .u8) r.2.2.2.2.1), (.d (.int .u8) r.2.2.2.2.2.1), (.d (.int .u8) r.2.2.2.2.2.2.1), (.d (.int .u8) r.2.2.2.2.2.2.2)]), []⟩) := by
  kernel_rfl
def f (k : Nat) (a0 : Int) : Option (Int × Int × Int × Int × Int × Int × Int × Int) := c   a0 some
theorem is   : FnIs (env  ) 103 f103 := ⟨func103, rfl, rfl, rfl, by decide⟩
theorem envok    : EnvOK (env  ).toEnv := by
  intro f c h
  simp only [env] at h
  simp at h
noncomputable abbrev E (k : Nat) : FEnv := env  
theorem hE (k : Nat) : EnvOK (E k).toEnv := envok 
theorem ok (k : Nat) : CtOK prog 103 (ct (f k)) := by
  refine ct_of_ev (E := E k) is (hE k) (fun s hs => by simp [E, env] at hs) rfl ?_
  intro tvs blks res h
  simp only [ct] at h
  split at h
  · exact (ev.trans c_bind).trans h
  · simp at h
end reals_bytes
namespace reals_Back
abbrev G : Type := Int → Option (Int × Bool)
def ct (g : G) : Ct where
  nin := 0
  mv := []
  F := fun tvs blks {β} K => match tvs, blks with
    | [.v (.one (.d (.int .u64) a0))], [] => (g a0).bind fun r => K ⟨.tup [(.one (.d (.int .u64) r.1)), (.one (.d .bool r.2))], []⟩
    | _, _ => none
  legit := fun _ _ K _ h => by split at h; exact (legit1 K h :); simp at h
noncomputable def env (g74 : reals_Canon.G) (g103 : reals_bytes.G)  : FEnv := { P := prog, ct := fun m => if m = 74 then some (reals_Canon.ct g74) else if m = 103 then some (reals_bytes.ct g103) else none, N := 19, body := f85.body.getD .skip, rvs := [.tmp 2, .tmp 3], rts := [47, 4], nin := 0, rmv := [], segs := [] }
def c {β : Type} (g74 : reals_Canon.G) (g103 : reals_bytes.G)  (a0 : Int) (ret : (Int × Bool) → Option β) : Option β := (bif ((IntKind.wrap IntKind.u64 ((BitVec.toNat ((BitVec.ofInt (64 : Nat) a0) &&& (BitVec.ofInt (64 : Nat) (9223372036854775808 : Int)))) : Int)) == (0 : Int)) then ((g74 (IntKind.wrap IntKind.u64 ((BitVec.toNat ((BitVec.ofInt (64 : Nat) (18446744073709551615 : Int)) ^^^ (BitVec.ofInt (64 : Nat) a0))) : Int))).bind fun r0 => ((g103 r0).bind fun r1 => ((g103 (IntKind.wrap IntKind.u64 ((BitVec.toNat ((BitVec.ofInt (64 : Nat) (18446744073709551615 : Int)) ^^^ (BitVec.ofInt (64 : Nat) a0))) : Int))).bind fun r2 => (bif (!((r1.1 == r2.1) && ((r1.2.1 == r2.2.1) && ((r1.2.2.1 == r2.2.2.1) && ((r1.2.2.2.1 == r2.2.2.2.1) && ((r1.2.2.2.2.1 == r2.2.2.2.2.1) && ((r1.2.2.2.2.2.1 == r2.2.2.2.2.2.1) && ((r1.2.2.2.2.2.2.1 == r2.2.2.2.2.2.2.1) && ((r1.2.2.2.2.2.2.2 == r2.2.2.2.2.2.2.2) && true))))))))) then (ret ((0 : Int), false)) else (ret ((IntKind.wrap IntKind.u64 ((BitVec.toNat ((BitVec.ofInt (64 : Nat) (18446744073709551615 : Int)) ^^^ (BitVec.ofInt (64 : Nat) a0))) : Int)), true)))))) else ((g74 (IntKind.wrap IntKind.u64 ((BitVec.toNat ((BitVec.ofInt (64 : Nat) a0) &&& (Complement.complement (BitVec.ofInt (64 : Nat) (9223372036854775808 : Int))))) : Int))).bind fun r3 => ((g103 r3).bind fun r4 => ((g103 (IntKind.wrap IntKind.u64 ((BitVec.toNat ((BitVec.ofInt (64 : Nat) a0) &&& (Complement.complement (BitVec.ofInt (64 : Nat) (9223372036854775808 : Int))))) : Int))).bind fun r5 => (bif (!((r4.1 == r5.1) && ((r4.2.1 == r5.2.1) && ((r4.2.2.1 == r5.2.2.1) && ((r4.2.2.2.1 == r5.2.2.2.1) && ((r4.2.2.2.2.1 == r5.2.2.2.2.1) && ((r4.2.2.2.2.2.1 == r5.2.2.2.2.2.1) && ((r4.2.2.2.2.2.2.1 == r5.2.2.2.2.2.2.1) && ((r4.2.2.2.2.2.2.2 == r5.2.2.2.2.2.2.2) && true))))))))) then (ret ((0 : Int), false)) else (ret ((IntKind.wrap IntKind.u64 ((BitVec.toNat ((BitVec.ofInt (64 : Nat) a0) &&& (Complement.complement (BitVec.ofInt (64 : Nat) (9223372036854775808 : Int))))) : Int)), true)))))))
theorem c_bind {β : Type} {g74 : reals_Canon.G} {g103 : reals_bytes.G}  {a0 : Int} {ret : (Int × Bool) → Option β} : c g74 g103  a0 ret = (c g74 g103  a0 some).bind ret := by
  simp only [c, bif_bind, sum_bind, oa, os, on, ofs]
theorem ev {g74 : reals_Canon.G} {g103 : reals_bytes.G}  {a0 : Int} : evAt (env g74 g103 ) [] [0] [.v (.one (.d (.int .u64) a0))] [] some = c g74 g103  a0 (fun r => some ⟨.tup [(.one (.d (.int .u64) r.1)), (.one (.d .bool r.2))], []⟩) := by
  kernel_rfl
def f (k : Nat) (a0 : Int) : Option (Int × Bool) := c (reals_Canon.f k) (reals_bytes.f k)  a0 some
theorem is {g74 : reals_Canon.G} {g103 : reals_bytes.G}  : FnIs (env g74 g103 ) 85 f85 := ⟨func85, rfl, rfl, rfl, by decide⟩
theorem envok {g74 : reals_Canon.G} {g103 : reals_bytes.G}  (h74 : CtOK prog 74 (reals_Canon.ct g74)) (h103 : CtOK prog 103 (reals_bytes.ct g103)) : EnvOK (env g74 g103 ).toEnv := by
  intro f c h
  simp only [env] at h
  split at h
  · rename_i e; subst e; cases h; exact h74
  split at h
  · rename_i e; subst e; cases h; exact h103
  simp at h
noncomputable abbrev E (k : Nat) : FEnv := env (reals_Canon.f k) (reals_bytes.f k) 
theorem hE (k : Nat) : EnvOK (E k).toEnv := envok (reals_Canon.ok k) (reals_bytes.ok k)
theorem ok (k : Nat) : CtOK prog 85 (ct (f k)) := by
  refine ct_of_ev (E := E k) is (hE k) (fun s hs => by simp [E, env] at hs) rfl ?_
  intro tvs blks res h
  simp only [ct] at h
  split at h
  · exact (ev.trans c_bind).trans h
  · simp at h
end reals_Back
namespace keycode_plain
abbrev G : Type := ByteArray → Option (ByteArray × ByteArray × Int)
def ct (g : G) : Ct where
  nin := 0
  mv := []
  F := fun tvs blks {β} K => match tvs, blks with
    | [.v (.one (.d .str a0))], [] => (g a0).bind fun r => K ⟨.tup [(.one (.d .str r.1)), (.one (.d .str r.2.1)), (.one (.d (.int .i64) r.2.2))], []⟩
    | _, _ => none
  legit := fun _ _ K _ h => by split at h; exact (legit1 K h :); simp at h
abbrev S0 : Type := ByteArray → Int → (List Int) → Option (ByteArray × ByteArray × Int)
abbrev S1 : Type := ByteArray → Int → (List Int) → Option (ByteArray × ByteArray × Int)
def sg0 (g : S0) : Seg where
  path := [4, 1, 0, 1, 1]
  prep := [.own 5 (.int .u8)]
  keep := [0, 5, 6]
  F := fun tvs blks {β} K => match tvs, blks with
    | [.v (.one (.d .str x0)), .v (.one (.own 0)), .v (.one (.d (.int .i64) x1))], [some (.own (.int .u8) false x2)] => (g x0 x1 x2).bind fun r => K ⟨.tup [(.one (.d .str r.1)), (.one (.d .str r.2.1)), (.one (.d (.int .i64) r.2.2))], []⟩
    | _, _ => none
  legit := fun _ _ K _ h => by split at h; exact (legit1 K h :); simp at h
def sg1 (g : S1) : Seg where
  path := [1, 1, 5, 4, 1, 0, 1, 1]
  prep := []
  keep := [0, 5, 6]
  F := fun tvs blks {β} K => match tvs, blks with
    | [.v (.one (.d .str x0)), .v (.one (.own 0)), .v (.one (.d (.int .i64) x1))], [some (.own (.int .u8) false x2)] => (g x0 x1 x2).bind fun r => K ⟨.tup [(.one (.d .str r.1)), (.one (.d .str r.2.1)), (.one (.d (.int .i64) r.2.2))], []⟩
    | _, _ => none
  legit := fun _ _ K _ h => by split at h; exact (legit1 K h :); simp at h
noncomputable def env  (s0 : S0) (s1 : S1) : FEnv := { P := prog, ct := fun m => none, N := 53, body := f86.body.getD .skip, rvs := [.tmp 2, .tmp 3, .tmp 4], rts := [9, 9, 29], nin := 0, rmv := [], segs := [sg0 s0, sg1 s1] }
def c {β : Type}  (s0 : S0) (s1 : S1) (a0 : ByteArray) (ret : (ByteArray × ByteArray × Int) → Option β) : Option β := ((s0 a0 (0 : Int) []).bind ret)
def s0c {β : Type}  (s0 : S0) (s1 : S1) (x0 : ByteArray) (x1 : Int) (x2 : List Int) (ret : (ByteArray × ByteArray × Int) → Option β) : Option β := (bif (decide (x1 < ((ByteArray.size x0) : Int))) then (bif ((decide ((0 : Int) ≤ x1)) && (decide (x1 < ((ByteArray.size x0) : Int)))) then (bif ((bt x0 x1) != (0 : Int)) then (bif ((decide ((0 : Int) ≤ x1)) && (decide (x1 < ((ByteArray.size x0) : Int)))) then (bif (decide ((((List.length x2) + (1 : Nat)) * (1 : Nat)) ≤ (35184372088832 : Nat))) then ((s1 x0 x1 (x2 ++ [(bt x0 x1)])).bind ret) else none) else none) else (bif ((IntKind.wrap IntKind.i64 (x1 + (1 : Int))) == ((ByteArray.size x0) : Int)) then (ret ((ByteArray.mk (List.toArray [])), (ByteArray.mk (List.toArray [])), (3 : Int))) else (bif ((decide ((0 : Int) ≤ (IntKind.wrap IntKind.i64 (x1 + (1 : Int))))) && (decide ((IntKind.wrap IntKind.i64 (x1 + (1 : Int))) < ((ByteArray.size x0) : Int)))) then (bif ((bt x0 (IntKind.wrap IntKind.i64 (x1 + (1 : Int)))) == (0 : Int)) then (bif (((decide ((0 : Int) ≤ (IntKind.wrap IntKind.i64 (x1 + (2 : Int))))) && (decide ((IntKind.wrap IntKind.i64 (x1 + (2 : Int))) ≤ ((ByteArray.size x0) : Int)))) && (decide (((ByteArray.size x0) : Int) ≤ ((ByteArray.size x0) : Int)))) then (ret ((ByteArray.mk (List.toArray (List.map (fun n => (UInt8.ofNat (Int.toNat n))) x2))), (ByteArray.extract x0 (Int.toNat (IntKind.wrap IntKind.i64 (x1 + (2 : Int)))) (Int.toNat ((ByteArray.size x0) : Int))), (0 : Int))) else none) else (bif ((decide ((0 : Int) ≤ (IntKind.wrap IntKind.i64 (x1 + (1 : Int))))) && (decide ((IntKind.wrap IntKind.i64 (x1 + (1 : Int))) < ((ByteArray.size x0) : Int)))) then (bif ((bt x0 (IntKind.wrap IntKind.i64 (x1 + (1 : Int)))) != (255 : Int)) then (ret ((ByteArray.mk (List.toArray [])), (ByteArray.mk (List.toArray [])), (4 : Int))) else (bif (decide ((((List.length x2) + (1 : Nat)) * (1 : Nat)) ≤ (35184372088832 : Nat))) then ((s1 x0 (IntKind.wrap IntKind.i64 (x1 + (1 : Int))) (x2 ++ [(0 : Int)])).bind ret) else none)) else none)) else none))) else none) else (ret ((ByteArray.mk (List.toArray [])), (ByteArray.mk (List.toArray [])), (3 : Int))))
def s1c {β : Type}  (s0 : S0) (s1 : S1) (x0 : ByteArray) (x1 : Int) (x2 : List Int) (ret : (ByteArray × ByteArray × Int) → Option β) : Option β := ((s0 x0 (IntKind.wrap IntKind.i64 (x1 + (1 : Int))) x2).bind ret)
theorem c_bind {β : Type}  {s0 : S0} {s1 : S1} {a0 : ByteArray} {ret : (ByteArray × ByteArray × Int) → Option β} : c  s0 s1 a0 ret = (c  s0 s1 a0 some).bind ret := by
  simp only [c, bif_bind, sum_bind, oa, os, on, ofs]
theorem s0c_bind {β : Type}  {s0 : S0} {s1 : S1} {x0 : ByteArray} {x1 : Int} {x2 : List Int} {ret : (ByteArray × ByteArray × Int) → Option β} : s0c  s0 s1 x0 x1 x2 ret = (s0c  s0 s1 x0 x1 x2 some).bind ret := by
  simp only [s0c, bif_bind, sum_bind, oa, os, on, ofs]
theorem s1c_bind {β : Type}  {s0 : S0} {s1 : S1} {x0 : ByteArray} {x1 : Int} {x2 : List Int} {ret : (ByteArray × ByteArray × Int) → Option β} : s1c  s0 s1 x0 x1 x2 ret = (s1c  s0 s1 x0 x1 x2 some).bind ret := by
  simp only [s1c, bif_bind, sum_bind, oa, os, on, ofs]
theorem ev  {s0 : S0} {s1 : S1} {a0 : ByteArray} : evAt (env  s0 s1) [] [0] [.v (.one (.d .str a0))] [] some = c  s0 s1 a0 (fun r => some ⟨.tup [(.one (.d .str r.1)), (.one (.d .str r.2.1)), (.one (.d (.int .i64) r.2.2))], []⟩) := by
  kernel_rfl
theorem s0_ev  {s0 : S0} {s1 : S1} {x0 : ByteArray} {x1 : Int} {x2 : List Int} : evAt (env  s0 s1) [4, 1, 0, 1, 1] [0, 5, 6] [.v (.one (.d .str x0)), .v (.one (.own 0)), .v (.one (.d (.int .i64) x1))] [some (.own (.int .u8) false x2)] some = s0c  s0 s1 x0 x1 x2 (fun r => some ⟨.tup [(.one (.d .str r.1)), (.one (.d .str r.2.1)), (.one (.d (.int .i64) r.2.2))], []⟩) := by
  kernel_rfl
theorem s1_ev  {s0 : S0} {s1 : S1} {x0 : ByteArray} {x1 : Int} {x2 : List Int} : evAt (env  s0 s1) [1, 1, 5, 4, 1, 0, 1, 1] [0, 5, 6] [.v (.one (.d .str x0)), .v (.one (.own 0)), .v (.one (.d (.int .i64) x1))] [some (.own (.int .u8) false x2)] some = s1c  s0 s1 x0 x1 x2 (fun r => some ⟨.tup [(.one (.d .str r.1)), (.one (.d .str r.2.1)), (.one (.d (.int .i64) r.2.2))], []⟩) := by
  kernel_rfl
mutual
def s0 : Nat → ByteArray → Int → (List Int) → Option (ByteArray × ByteArray × Int)
  | 0, _, _, _ => none
  | k + 1, x0, x1, x2 => s0c  (s0 k) (s1 k) x0 x1 x2 some
def s1 : Nat → ByteArray → Int → (List Int) → Option (ByteArray × ByteArray × Int)
  | 0, _, _, _ => none
  | k + 1, x0, x1, x2 => s1c  (s0 k) (s1 k) x0 x1 x2 some
end
def f (k : Nat) (a0 : ByteArray) : Option (ByteArray × ByteArray × Int) := c  (s0 k) (s1 k) a0 some
theorem is  {s0 : S0} {s1 : S1} : FnIs (env  s0 s1) 86 f86 := ⟨func86, rfl, rfl, rfl, by decide⟩
theorem envok  {s0 : S0} {s1 : S1}  : EnvOK (env  s0 s1).toEnv := by
  intro f c h
  simp only [env] at h
  simp at h
noncomputable abbrev E (k : Nat) : FEnv := env  (s0 k) (s1 k)
theorem hE (k : Nat) : EnvOK (E k).toEnv := envok 
theorem segs_ok : ∀ k, ∀ s ∈ (E k).segs, SegOK (E k) f86 s
  | 0 => by
    intro s hs
    simp only [E, env, List.mem_cons, List.not_mem_nil, or_false] at hs
    rcases hs with rfl | rfl
    · intro tvs blks res h; exfalso; simp only [sg0] at h; split at h <;> simp [s0] at h
    · intro tvs blks res h; exfalso; simp only [sg1] at h; split at h <;> simp [s1] at h
  | k + 1 => by
    intro s hs
    simp only [E, env, List.mem_cons, List.not_mem_nil, or_false] at hs
    rcases hs with rfl | rfl
    · refine seg_of_ev (E := E k) (hE k) ⟨is.rvs⟩ (segs_ok k) ?_
      intro tvs blks res h
      simp only [sg0] at h
      split at h
      · exact (s0_ev.trans s0c_bind).trans h
      · simp at h
    · refine seg_of_ev (E := E k) (hE k) ⟨is.rvs⟩ (segs_ok k) ?_
      intro tvs blks res h
      simp only [sg1] at h
      split at h
      · exact (s1_ev.trans s1c_bind).trans h
      · simp at h
theorem ok (k : Nat) : CtOK prog 86 (ct (f k)) := by
  refine ct_of_ev (E := E k) is (hE k) (segs_ok k) rfl ?_
  intro tvs blks res h
  simp only [ct] at h
  split at h
  · exact (ev.trans c_bind).trans h
  · simp at h
end keycode_plain
namespace keycode_Read
abbrev G : Type := ByteArray → Option (Int × Int × Int × ByteArray × ByteArray × Int)
def ct (g : G) : Ct where
  nin := 0
  mv := []
  F := fun tvs blks {β} K => match tvs, blks with
    | [.v (.one (.d .str a0))], [] => (g a0).bind fun r => K ⟨.tup [(.agg [(.d (.int .i64) r.1), (.d (.int .i64) r.2.1), (.d (.int .u64) r.2.2.1), (.d .str r.2.2.2.1)]), (.one (.d .str r.2.2.2.2.1)), (.one (.d (.int .i64) r.2.2.2.2.2))], []⟩
    | _, _ => none
  legit := fun _ _ K _ h => by split at h; exact (legit1 K h :); simp at h
abbrev S0 : Type := ByteArray → ByteArray → Bool → Int → Int → Int → ByteArray → Int → Int → Int → ByteArray → Int → Int → Int → ByteArray → Option (Int × Int × Int × ByteArray × ByteArray × Int)
def sg0 (g : S0) : Seg where
  path := [1, 3, 1, 3, 1, 3, 1, 4, 1, 0, 1, 1, 1, 1, 1, 1, 1, 1, 1]
  prep := []
  keep := [0, 2, 5, 6, 9, 70]
  F := fun tvs blks {β} K => match tvs, blks with
    | [.v (.one (.d .str x0)), .v (.one (.ptr 0 0)), .v (.one (.ptr 1 0)), .v (.one (.ptr 2 0)), .v (.one (.d .str x1)), .v (.one (.d .bool x2))], [some (.box [(.d (.int .i64) x3), (.d (.int .i64) x4), (.d (.int .u64) x5), (.d .str x6)]), some (.box [(.d (.int .i64) x7), (.d (.int .i64) x8), (.d (.int .u64) x9), (.d .str x10)]), some (.box [(.d (.int .i64) x11), (.d (.int .i64) x12), (.d (.int .u64) x13), (.d .str x14)])] => (g x0 x1 x2 x3 x4 x5 x6 x7 x8 x9 x10 x11 x12 x13 x14).bind fun r => K ⟨.tup [(.agg [(.d (.int .i64) r.1), (.d (.int .i64) r.2.1), (.d (.int .u64) r.2.2.1), (.d .str r.2.2.2.1)]), (.one (.d .str r.2.2.2.2.1)), (.one (.d (.int .i64) r.2.2.2.2.2))], []⟩
    | _, _ => none
  legit := fun _ _ K _ h => by split at h; exact (legit1 K h :); simp at h
noncomputable def env (g52 : values_Check.G) (g83 : keycode_need.G) (g84 : keycode_get8.G) (g85 : reals_Back.G) (g86 : keycode_plain.G) (s0 : S0) : FEnv := { P := prog, ct := fun m => if m = 52 then some (values_Check.ct g52) else if m = 83 then some (keycode_need.ct g83) else if m = 84 then some (keycode_get8.ct g84) else if m = 85 then some (reals_Back.ct g85) else if m = 86 then some (keycode_plain.ct g86) else none, N := 92, body := f64.body.getD .skip, rvs := [.cell 2 49, .tmp 3, .tmp 4], rts := [49, 9, 29], nin := 0, rmv := [], segs := [sg0 s0] }
def c {β : Type} (g52 : values_Check.G) (g83 : keycode_need.G) (g84 : keycode_get8.G) (g85 : reals_Back.G) (g86 : keycode_plain.G) (s0 : S0) (a0 : ByteArray) (ret : (Int × Int × Int × ByteArray × ByteArray × Int) → Option β) : Option β := (bif ((ByteArray.toList a0) == (ByteArray.toList (ByteArray.mk (List.toArray [])))) then (ret ((0 : Int), (0 : Int), (0 : Int), (ByteArray.mk (List.toArray [])), (ByteArray.mk (List.toArray [])), (3 : Int))) else (bif (true && (decide ((0 : Int) < ((ByteArray.size a0) : Int)))) then (bif (decide ((IntKind.wrap IntKind.i64 (bt a0 (0 : Int))) > (5 : Int))) then (ret ((0 : Int), (0 : Int), (0 : Int), (ByteArray.mk (List.toArray [])), (ByteArray.mk (List.toArray [])), (4 : Int))) else ((g83 (IntKind.wrap IntKind.i64 (bt a0 (0 : Int)))).bind fun r0 => (bif ((true && (decide ((1 : Int) ≤ ((ByteArray.size a0) : Int)))) && (decide (((ByteArray.size a0) : Int) ≤ ((ByteArray.size a0) : Int)))) then (bif (decide (((ByteArray.size (ByteArray.extract a0 (1 : Nat) (Int.toNat ((ByteArray.size a0) : Int)))) : Int) < r0)) then (ret ((0 : Int), (0 : Int), (0 : Int), (ByteArray.mk (List.toArray [])), (ByteArray.mk (List.toArray [])), (3 : Int))) else (bif ((true && (decide ((0 : Int) ≤ r0))) && (decide (r0 ≤ ((ByteArray.size (ByteArray.extract a0 (1 : Nat) (Int.toNat ((ByteArray.size a0) : Int)))) : Int)))) then (bif (((decide ((0 : Int) ≤ r0)) && (decide (r0 ≤ ((ByteArray.size (ByteArray.extract a0 (1 : Nat) (Int.toNat ((ByteArray.size a0) : Int)))) : Int)))) && (decide (((ByteArray.size (ByteArray.extract a0 (1 : Nat) (Int.toNat ((ByteArray.size a0) : Int)))) : Int) ≤ ((ByteArray.size (ByteArray.extract a0 (1 : Nat) (Int.toNat ((ByteArray.size a0) : Int)))) : Int)))) then (bif ((IntKind.wrap IntKind.i64 (bt a0 (0 : Int))) == (1 : Int)) then (bif (true && (decide ((0 : Int) < ((ByteArray.size (ByteArray.extract (ByteArray.extract a0 (1 : Nat) (Int.toNat ((ByteArray.size a0) : Int))) (0 : Nat) (Int.toNat r0))) : Int)))) then ((g52 (IntKind.wrap IntKind.i64 (bt a0 (0 : Int))) (IntKind.wrap IntKind.i64 (bt (ByteArray.extract (ByteArray.extract a0 (1 : Nat) (Int.toNat ((ByteArray.size a0) : Int))) (0 : Nat) (Int.toNat r0)) (0 : Int))) (0 : Int) (ByteArray.mk (List.toArray []))).bind fun r1 => (bif (r1 != (0 : Int)) then (ret ((0 : Int), (0 : Int), (0 : Int), (ByteArray.mk (List.toArray [])), (ByteArray.mk (List.toArray [])), (4 : Int))) else (ret ((IntKind.wrap IntKind.i64 (bt a0 (0 : Int))), (IntKind.wrap IntKind.i64 (bt (ByteArray.extract (ByteArray.extract a0 (1 : Nat) (Int.toNat ((ByteArray.size a0) : Int))) (0 : Nat) (Int.toNat r0)) (0 : Int))), (0 : Int), (ByteArray.mk (List.toArray [])), (ByteArray.extract (ByteArray.extract a0 (1 : Nat) (Int.toNat ((ByteArray.size a0) : Int))) (Int.toNat r0) (Int.toNat ((ByteArray.size (ByteArray.extract a0 (1 : Nat) (Int.toNat ((ByteArray.size a0) : Int)))) : Int))), (0 : Int))))) else none) else (bif ((IntKind.wrap IntKind.i64 (bt a0 (0 : Int))) == (2 : Int)) then ((g84 (ByteArray.extract (ByteArray.extract a0 (1 : Nat) (Int.toNat ((ByteArray.size a0) : Int))) (0 : Nat) (Int.toNat r0))).bind fun r2 => ((g52 (IntKind.wrap IntKind.i64 (bt a0 (0 : Int))) (IntKind.wrap IntKind.i64 (IntKind.wrap IntKind.u64 ((BitVec.toNat ((BitVec.ofInt (64 : Nat) r2) ^^^ (BitVec.ofInt (64 : Nat) (9223372036854775808 : Int)))) : Int))) (0 : Int) (ByteArray.mk (List.toArray []))).bind fun r3 => (bif (r3 != (0 : Int)) then (ret ((0 : Int), (0 : Int), (0 : Int), (ByteArray.mk (List.toArray [])), (ByteArray.mk (List.toArray [])), (4 : Int))) else (ret ((IntKind.wrap IntKind.i64 (bt a0 (0 : Int))), (IntKind.wrap IntKind.i64 (IntKind.wrap IntKind.u64 ((BitVec.toNat ((BitVec.ofInt (64 : Nat) r2) ^^^ (BitVec.ofInt (64 : Nat) (9223372036854775808 : Int)))) : Int))), (0 : Int), (ByteArray.mk (List.toArray [])), (ByteArray.extract (ByteArray.extract a0 (1 : Nat) (Int.toNat ((ByteArray.size a0) : Int))) (Int.toNat r0) (Int.toNat ((ByteArray.size (ByteArray.extract a0 (1 : Nat) (Int.toNat ((ByteArray.size a0) : Int)))) : Int))), (0 : Int)))))) else (bif ((IntKind.wrap IntKind.i64 (bt a0 (0 : Int))) == (3 : Int)) then ((g84 (ByteArray.extract (ByteArray.extract a0 (1 : Nat) (Int.toNat ((ByteArray.size a0) : Int))) (0 : Nat) (Int.toNat r0))).bind fun r4 => ((g85 r4).bind fun r5 => (bif (!r5.2) then (ret ((0 : Int), (0 : Int), (0 : Int), (ByteArray.mk (List.toArray [])), (ByteArray.mk (List.toArray [])), (4 : Int))) else ((g52 (IntKind.wrap IntKind.i64 (bt a0 (0 : Int))) (0 : Int) r5.1 (ByteArray.mk (List.toArray []))).bind fun r6 => (bif (r6 != (0 : Int)) then (ret ((0 : Int), (0 : Int), (0 : Int), (ByteArray.mk (List.toArray [])), (ByteArray.mk (List.toArray [])), (4 : Int))) else (ret ((IntKind.wrap IntKind.i64 (bt a0 (0 : Int))), (0 : Int), r5.1, (ByteArray.mk (List.toArray [])), (ByteArray.extract (ByteArray.extract a0 (1 : Nat) (Int.toNat ((ByteArray.size a0) : Int))) (Int.toNat r0) (Int.toNat ((ByteArray.size (ByteArray.extract a0 (1 : Nat) (Int.toNat ((ByteArray.size a0) : Int)))) : Int))), (0 : Int)))))))) else (bif ((IntKind.wrap IntKind.i64 (bt a0 (0 : Int))) == (4 : Int)) then ((s0 (ByteArray.extract a0 (1 : Nat) (Int.toNat ((ByteArray.size a0) : Int))) (ByteArray.extract (ByteArray.extract a0 (1 : Nat) (Int.toNat ((ByteArray.size a0) : Int))) (Int.toNat r0) (Int.toNat ((ByteArray.size (ByteArray.extract a0 (1 : Nat) (Int.toNat ((ByteArray.size a0) : Int)))) : Int))) ((IntKind.wrap IntKind.i64 (bt a0 (0 : Int))) == (4 : Int)) (0 : Int) (0 : Int) (0 : Int) (ByteArray.mk (List.toArray [])) (0 : Int) (0 : Int) (0 : Int) (ByteArray.mk (List.toArray [])) (IntKind.wrap IntKind.i64 (bt a0 (0 : Int))) (0 : Int) (0 : Int) (ByteArray.mk (List.toArray []))).bind ret) else ((s0 (ByteArray.extract a0 (1 : Nat) (Int.toNat ((ByteArray.size a0) : Int))) (ByteArray.extract (ByteArray.extract a0 (1 : Nat) (Int.toNat ((ByteArray.size a0) : Int))) (Int.toNat r0) (Int.toNat ((ByteArray.size (ByteArray.extract a0 (1 : Nat) (Int.toNat ((ByteArray.size a0) : Int)))) : Int))) ((IntKind.wrap IntKind.i64 (bt a0 (0 : Int))) == (5 : Int)) (0 : Int) (0 : Int) (0 : Int) (ByteArray.mk (List.toArray [])) (0 : Int) (0 : Int) (0 : Int) (ByteArray.mk (List.toArray [])) (IntKind.wrap IntKind.i64 (bt a0 (0 : Int))) (0 : Int) (0 : Int) (ByteArray.mk (List.toArray []))).bind ret))))) else none) else none)) else none))) else none))
def s0c {β : Type} (g52 : values_Check.G) (g83 : keycode_need.G) (g84 : keycode_get8.G) (g85 : reals_Back.G) (g86 : keycode_plain.G) (s0 : S0) (x0 : ByteArray) (x1 : ByteArray) (x2 : Bool) (x3 : Int) (x4 : Int) (x5 : Int) (x6 : ByteArray) (x7 : Int) (x8 : Int) (x9 : Int) (x10 : ByteArray) (x11 : Int) (x12 : Int) (x13 : Int) (x14 : ByteArray) (ret : (Int × Int × Int × ByteArray × ByteArray × Int) → Option β) : Option β := (bif x2 then ((g86 x0).bind fun r0 => (bif (r0.2.2 != (0 : Int)) then (ret (x7, x8, x9, x10, (ByteArray.mk (List.toArray [])), r0.2.2)) else ((g52 x11 x12 x13 r0.1).bind fun r1 => (bif (r1 != (0 : Int)) then (ret (x7, x8, x9, x10, (ByteArray.mk (List.toArray [])), (4 : Int))) else (ret (x11, x12, x13, r0.1, r0.2.1, (0 : Int))))))) else ((g52 x11 x12 x13 x14).bind fun r2 => (bif (r2 != (0 : Int)) then (ret (x7, x8, x9, x10, (ByteArray.mk (List.toArray [])), (4 : Int))) else (ret (x11, x12, x13, x14, x1, (0 : Int))))))
theorem c_bind {β : Type} {g52 : values_Check.G} {g83 : keycode_need.G} {g84 : keycode_get8.G} {g85 : reals_Back.G} {g86 : keycode_plain.G} {s0 : S0} {a0 : ByteArray} {ret : (Int × Int × Int × ByteArray × ByteArray × Int) → Option β} : c g52 g83 g84 g85 g86 s0 a0 ret = (c g52 g83 g84 g85 g86 s0 a0 some).bind ret := by
  simp only [c, bif_bind, sum_bind, oa, os, on, ofs]
theorem s0c_bind {β : Type} {g52 : values_Check.G} {g83 : keycode_need.G} {g84 : keycode_get8.G} {g85 : reals_Back.G} {g86 : keycode_plain.G} {s0 : S0} {x0 : ByteArray} {x1 : ByteArray} {x2 : Bool} {x3 : Int} {x4 : Int} {x5 : Int} {x6 : ByteArray} {x7 : Int} {x8 : Int} {x9 : Int} {x10 : ByteArray} {x11 : Int} {x12 : Int} {x13 : Int} {x14 : ByteArray} {ret : (Int × Int × Int × ByteArray × ByteArray × Int) → Option β} : s0c g52 g83 g84 g85 g86 s0 x0 x1 x2 x3 x4 x5 x6 x7 x8 x9 x10 x11 x12 x13 x14 ret = (s0c g52 g83 g84 g85 g86 s0 x0 x1 x2 x3 x4 x5 x6 x7 x8 x9 x10 x11 x12 x13 x14 some).bind ret := by
  simp only [s0c, bif_bind, sum_bind, oa, os, on, ofs]
theorem ev {g52 : values_Check.G} {g83 : keycode_need.G} {g84 : keycode_get8.G} {g85 : reals_Back.G} {g86 : keycode_plain.G} {s0 : S0} {a0 : ByteArray} : evAt (env g52 g83 g84 g85 g86 s0) [] [0] [.v (.one (.d .str a0))] [] some = c g52 g83 g84 g85 g86 s0 a0 (fun r => some ⟨.tup [(.agg [(.d (.int .i64) r.1), (.d (.int .i64) r.2.1), (.d (.int .u64) r.2.2.1), (.d .str r.2.2.2.1)]), (.one (.d .str r.2.2.2.2.1)), (.one (.d (.int .i64) r.2.2.2.2.2))], []⟩) := by
  kernel_rfl
theorem s0_ev {g52 : values_Check.G} {g83 : keycode_need.G} {g84 : keycode_get8.G} {g85 : reals_Back.G} {g86 : keycode_plain.G} {s0 : S0} {x0 : ByteArray} {x1 : ByteArray} {x2 : Bool} {x3 : Int} {x4 : Int} {x5 : Int} {x6 : ByteArray} {x7 : Int} {x8 : Int} {x9 : Int} {x10 : ByteArray} {x11 : Int} {x12 : Int} {x13 : Int} {x14 : ByteArray} : evAt (env g52 g83 g84 g85 g86 s0) [1, 3, 1, 3, 1, 3, 1, 4, 1, 0, 1, 1, 1, 1, 1, 1, 1, 1, 1] [0, 2, 5, 6, 9, 70] [.v (.one (.d .str x0)), .v (.one (.ptr 0 0)), .v (.one (.ptr 1 0)), .v (.one (.ptr 2 0)), .v (.one (.d .str x1)), .v (.one (.d .bool x2))] [some (.box [(.d (.int .i64) x3), (.d (.int .i64) x4), (.d (.int .u64) x5), (.d .str x6)]), some (.box [(.d (.int .i64) x7), (.d (.int .i64) x8), (.d (.int .u64) x9), (.d .str x10)]), some (.box [(.d (.int .i64) x11), (.d (.int .i64) x12), (.d (.int .u64) x13), (.d .str x14)])] some = s0c g52 g83 g84 g85 g86 s0 x0 x1 x2 x3 x4 x5 x6 x7 x8 x9 x10 x11 x12 x13 x14 (fun r => some ⟨.tup [(.agg [(.d (.int .i64) r.1), (.d (.int .i64) r.2.1), (.d (.int .u64) r.2.2.1), (.d .str r.2.2.2.1)]), (.one (.d .str r.2.2.2.2.1)), (.one (.d (.int .i64) r.2.2.2.2.2))], []⟩) := by
  kernel_rfl
def s0 : Nat → ByteArray → ByteArray → Bool → Int → Int → Int → ByteArray → Int → Int → Int → ByteArray → Int → Int → Int → ByteArray → Option (Int × Int × Int × ByteArray × ByteArray × Int)
  | 0, _, _, _, _, _, _, _, _, _, _, _, _, _, _, _ => none
  | k + 1, x0, x1, x2, x3, x4, x5, x6, x7, x8, x9, x10, x11, x12, x13, x14 => s0c (values_Check.f k) (keycode_need.f k) (keycode_get8.f k) (reals_Back.f k) (keycode_plain.f k) (s0 k) x0 x1 x2 x3 x4 x5 x6 x7 x8 x9 x10 x11 x12 x13 x14 some
def f (k : Nat) (a0 : ByteArray) : Option (Int × Int × Int × ByteArray × ByteArray × Int) := c (values_Check.f k) (keycode_need.f k) (keycode_get8.f k) (reals_Back.f k) (keycode_plain.f k) (s0 k) a0 some
theorem is {g52 : values_Check.G} {g83 : keycode_need.G} {g84 : keycode_get8.G} {g85 : reals_Back.G} {g86 : keycode_plain.G} {s0 : S0} : FnIs (env g52 g83 g84 g85 g86 s0) 64 f64 := ⟨func64, rfl, rfl, rfl, by decide⟩
theorem envok {g52 : values_Check.G} {g83 : keycode_need.G} {g84 : keycode_get8.G} {g85 : reals_Back.G} {g86 : keycode_plain.G} {s0 : S0} (h52 : CtOK prog 52 (values_Check.ct g52)) (h83 : CtOK prog 83 (keycode_need.ct g83)) (h84 : CtOK prog 84 (keycode_get8.ct g84)) (h85 : CtOK prog 85 (reals_Back.ct g85)) (h86 : CtOK prog 86 (keycode_plain.ct g86)) : EnvOK (env g52 g83 g84 g85 g86 s0).toEnv := by
  intro f c h
  simp only [env] at h
  split at h
  · rename_i e; subst e; cases h; exact h52
  split at h
  · rename_i e; subst e; cases h; exact h83
  split at h
  · rename_i e; subst e; cases h; exact h84
  split at h
  · rename_i e; subst e; cases h; exact h85
  split at h
  · rename_i e; subst e; cases h; exact h86
  simp at h
noncomputable abbrev E (k : Nat) : FEnv := env (values_Check.f k) (keycode_need.f k) (keycode_get8.f k) (reals_Back.f k) (keycode_plain.f k) (s0 k)
theorem hE (k : Nat) : EnvOK (E k).toEnv := envok (values_Check.ok k) (keycode_need.ok k) (keycode_get8.ok k) (reals_Back.ok k) (keycode_plain.ok k)
theorem segs_ok : ∀ k, ∀ s ∈ (E k).segs, SegOK (E k) f64 s
  | 0 => by
    intro s hs
    simp only [E, env, List.mem_cons, List.not_mem_nil, or_false] at hs
    rcases hs with rfl
    · intro tvs blks res h; exfalso; simp only [sg0] at h; split at h <;> simp [s0] at h
  | k + 1 => by
    intro s hs
    simp only [E, env, List.mem_cons, List.not_mem_nil, or_false] at hs
    rcases hs with rfl
    · refine seg_of_ev (E := E k) (hE k) ⟨is.rvs⟩ (segs_ok k) ?_
      intro tvs blks res h
      simp only [sg0] at h
      split at h
      · exact (s0_ev.trans s0c_bind).trans h
      · simp at h
theorem ok (k : Nat) : CtOK prog 64 (ct (f k)) := by
  refine ct_of_ev (E := E k) is (hE k) (segs_ok k) rfl ?_
  intro tvs blks res h
  simp only [ct] at h
  split at h
  · exact (ev.trans c_bind).trans h
  · simp at h
end keycode_Read
namespace schema_reader_value
abbrev G : Type := ByteArray → Int → Option (Int × Int × Int × ByteArray × ByteArray × Int)
def ct (g : G) : Ct where
  nin := 1
  mv := []
  F := fun tvs blks {β} K => match tvs, blks with
    | [.v (.one (.ptr 0 0))], [.box [(.d .str a0), (.d (.int .i64) a1)]] => (g a0 a1).bind fun r => K ⟨.v (.agg [(.d (.int .i64) r.1), (.d (.int .i64) r.2.1), (.d (.int .u64) r.2.2.1), (.d .str r.2.2.2.1)]), [some (.box [(.d .str r.2.2.2.2.1), (.d (.int .i64) r.2.2.2.2.2)])]⟩
    | _, _ => none
  legit := fun _ _ K _ h => by split at h; exact (legit1 K h :); simp at h
noncomputable def env (g64 : keycode_Read.G)  : FEnv := { P := prog, ct := fun m => if m = 64 then some (keycode_Read.ct g64) else none, N := 30, body := f39.body.getD .skip, rvs := [.cell 2 49], rts := [49], nin := 1, rmv := [], segs := [] }
def c {β : Type} (g64 : keycode_Read.G)  (a0 : ByteArray) (a1 : Int) (ret : (Int × Int × Int × ByteArray × ByteArray × Int) → Option β) : Option β := (bif (a1 != (0 : Int)) then (ret ((0 : Int), (0 : Int), (0 : Int), (ByteArray.mk (List.toArray [])), a0, a1)) else ((g64 a0).bind fun r0 => (ret (r0.1, r0.2.1, r0.2.2.1, r0.2.2.2.1, r0.2.2.2.2.1, r0.2.2.2.2.2))))
theorem c_bind {β : Type} {g64 : keycode_Read.G}  {a0 : ByteArray} {a1 : Int} {ret : (Int × Int × Int × ByteArray × ByteArray × Int) → Option β} : c g64  a0 a1 ret = (c g64  a0 a1 some).bind ret := by
  simp only [c, bif_bind, sum_bind, oa, os, on, ofs]
theorem ev {g64 : keycode_Read.G}  {a0 : ByteArray} {a1 : Int} : evAt (env g64 ) [] [0] [.v (.one (.ptr 0 0))] [some (.box [(.d .str a0), (.d (.int .i64) a1)])] some = c g64  a0 a1 (fun r => some ⟨.v (.agg [(.d (.int .i64) r.1), (.d (.int .i64) r.2.1), (.d (.int .u64) r.2.2.1), (.d .str r.2.2.2.1)]), [some (.box [(.d .str r.2.2.2.2.1), (.d (.int .i64) r.2.2.2.2.2)])]⟩) := by
  kernel_rfl
def f (k : Nat) (a0 : ByteArray) (a1 : Int) : Option (Int × Int × Int × ByteArray × ByteArray × Int) := c (keycode_Read.f k)  a0 a1 some
theorem is {g64 : keycode_Read.G}  : FnIs (env g64 ) 39 f39 := ⟨func39, rfl, rfl, rfl, by decide⟩
theorem envok {g64 : keycode_Read.G}  (h64 : CtOK prog 64 (keycode_Read.ct g64)) : EnvOK (env g64 ).toEnv := by
  intro f c h
  simp only [env] at h
  split at h
  · rename_i e; subst e; cases h; exact h64
  simp at h
noncomputable abbrev E (k : Nat) : FEnv := env (keycode_Read.f k) 
theorem hE (k : Nat) : EnvOK (E k).toEnv := envok (keycode_Read.ok k)
theorem ok (k : Nat) : CtOK prog 39 (ct (f k)) := by
  refine ct_of_ev (E := E k) is (hE k) (fun s hs => by simp [E, env] at hs) rfl ?_
  intro tvs blks res h
  simp only [ct] at h
  split at h
  · exact (ev.trans c_bind).trans h
  · simp at h
end schema_reader_value
end Go.Proofs.YtddlebbjaadbeaaGreatDoor.Aev
