/- By a program of this session (AEV): functions of the program as plain functions, and that the machine does what they say. -/
import Derived.Test.YtdbbkmmillnaiaaGreatDoorTys
import Derived.Test.YtdbbkmmillnaiaaGreatDoorProg
import Derived.Laws.Externs
import Derived.Lib.Bytealg
import Derived.Test.YtdbbkmmillnaiaaGreatDoorF2
namespace Go.Proofs.YtdbbkmmillnaiaaGreatDoor.Aev
set_option linter.unusedVariables false
set_option linter.unusedSimpArgs false
set_option maxRecDepth 100000
set_option maxHeartbeats 4000000
open Go Go.Proofs.Tryz
namespace utf_Next
abbrev G : Type := ByteArray → Option (Int × Int × Int)
def ct (g : G) : Ct where
  nin := 0
  mv := []
  F := fun tvs blks {β} K => match tvs, blks with
    | [.v (.one (.d .str a0))], [] => (g a0).bind fun r => K ⟨.tup [(.one (.d (.int .i64) r.1)), (.one (.d (.int .i64) r.2.1)), (.one (.d (.int .i64) r.2.2))], []⟩
    | _, _ => none
  legit := fun _ _ K _ h => by split at h; exact (legit1 K h :); simp at h
abbrev S0 : Type := ByteArray → Int → Int → Int → Int → Int → Int → Option (Int × Int × Int)
abbrev S1 : Type := ByteArray → Int → Int → Int → Int → Bool → Option (Int × Int × Int)
abbrev S2 : Type := ByteArray → Int → Int → Int → Int → Option (Int × Int × Int)
abbrev S3 : Type := ByteArray → Int → Int → Int → Int → Int → Int → Option (Int × Int × Int)
def sg0 (g : S0) : Seg where
  path := [4, 1, 0, 1, 1, 1, 1, 1, 6, 1]
  prep := []
  keep := [0, 5, 6, 7, 8, 9, 10]
  F := fun tvs blks {β} K => match tvs, blks with
    | [.v (.one (.d .str x0)), .v (.one (.d (.int .i64) x1)), .v (.one (.d (.int .i64) x2)), .v (.one (.d (.int .u8) x3)), .v (.one (.d (.int .u8) x4)), .v (.one (.d (.int .i64) x5)), .v (.one (.d (.int .i64) x6))], [] => (g x0 x1 x2 x3 x4 x5 x6).bind fun r => K ⟨.tup [(.one (.d (.int .i64) r.1)), (.one (.d (.int .i64) r.2.1)), (.one (.d (.int .i64) r.2.2))], []⟩
    | _, _ => none
  legit := fun _ _ K _ h => by split at h; exact (legit1 K h :); simp at h
def sg1 (g : S1) : Seg where
  path := [1, 3, 1, 4, 0, 4, 0, 1, 5, 4, 1, 0, 1, 1, 1, 1, 1, 6, 1]
  prep := []
  keep := [0, 5, 6, 9, 10, 33]
  F := fun tvs blks {β} K => match tvs, blks with
    | [.v (.one (.d .str x0)), .v (.one (.d (.int .i64) x1)), .v (.one (.d (.int .i64) x2)), .v (.one (.d (.int .i64) x3)), .v (.one (.d (.int .i64) x4)), .v (.one (.d .bool x5))], [] => (g x0 x1 x2 x3 x4 x5).bind fun r => K ⟨.tup [(.one (.d (.int .i64) r.1)), (.one (.d (.int .i64) r.2.1)), (.one (.d (.int .i64) r.2.2))], []⟩
    | _, _ => none
  legit := fun _ _ K _ h => by split at h; exact (legit1 K h :); simp at h
def sg2 (g : S2) : Seg where
  path := [1, 4, 0, 1, 5, 4, 1, 0, 1, 1, 1, 1, 1, 6, 1]
  prep := []
  keep := [0, 5, 6, 9, 10]
  F := fun tvs blks {β} K => match tvs, blks with
    | [.v (.one (.d .str x0)), .v (.one (.d (.int .i64) x1)), .v (.one (.d (.int .i64) x2)), .v (.one (.d (.int .i64) x3)), .v (.one (.d (.int .i64) x4))], [] => (g x0 x1 x2 x3 x4).bind fun r => K ⟨.tup [(.one (.d (.int .i64) r.1)), (.one (.d (.int .i64) r.2.1)), (.one (.d (.int .i64) r.2.2))], []⟩
    | _, _ => none
  legit := fun _ _ K _ h => by split at h; exact (legit1 K h :); simp at h
def sg3 (g : S3) : Seg where
  path := [1, 1, 5, 4, 1, 0, 1, 1, 1, 1, 1, 6, 1]
  prep := []
  keep := [0, 5, 6, 7, 8, 9, 10]
  F := fun tvs blks {β} K => match tvs, blks with
    | [.v (.one (.d .str x0)), .v (.one (.d (.int .i64) x1)), .v (.one (.d (.int .i64) x2)), .v (.one (.d (.int .u8) x3)), .v (.one (.d (.int .u8) x4)), .v (.one (.d (.int .i64) x5)), .v (.one (.d (.int .i64) x6))], [] => (g x0 x1 x2 x3 x4 x5 x6).bind fun r => K ⟨.tup [(.one (.d (.int .i64) r.1)), (.one (.d (.int .i64) r.2.1)), (.one (.d (.int .i64) r.2.2))], []⟩
    | _, _ => none
  legit := fun _ _ K _ h => by split at h; exact (legit1 K h :); simp at h
noncomputable def env (g92 : utf_first.G) (s0 : S0) (s1 : S1) (s2 : S2) (s3 : S3) : FEnv := { P := prog, ct := fun m => if m = 92 then some (utf_first.ct g92) else none, N := 59, body := f89.body.getD .skip, rvs := [.tmp 2, .tmp 3, .tmp 4], rts := [3, 3, 32], nin := 0, rmv := [], segs := [sg0 s0, sg1 s1, sg2 s2, sg3 s3] }
def c {β : Type} (g92 : utf_first.G) (s0 : S0) (s1 : S1) (s2 : S2) (s3 : S3) (a0 : ByteArray) (ret : (Int × Int × Int) → Option β) : Option β := (bif ((ByteArray.toList a0) == (ByteArray.toList (ByteArray.mk (List.toArray [])))) then (ret ((0 : Int), (0 : Int), (3 : Int))) else (bif (true && (decide ((0 : Int) < ((ByteArray.size a0) : Int)))) then ((g92 (bt a0 (0 : Int))).bind fun r0 => (bif (r0.1 == (0 : Int)) then (ret ((0 : Int), (0 : Int), (7 : Int))) else ((s0 a0 r0.1 r0.2.1 r0.2.2.1 r0.2.2.2 (0 : Int) (1 : Int)).bind ret))) else none))
def s0c {β : Type} (g92 : utf_first.G) (s0 : S0) (s1 : S1) (s2 : S2) (s3 : S3) (x0 : ByteArray) (x1 : Int) (x2 : Int) (x3 : Int) (x4 : Int) (x5 : Int) (x6 : Int) (ret : (Int × Int × Int) → Option β) : Option β := (bif (decide (x6 < x1)) then (bif (decide (x6 ≥ ((ByteArray.size x0) : Int))) then (ret ((0 : Int), (0 : Int), (3 : Int))) else (bif ((decide ((0 : Int) ≤ x6)) && (decide (x6 < ((ByteArray.size x0) : Int)))) then (bif (decide ((bt x0 x6) < x3)) then ((s1 x0 x1 x2 x5 x6 true).bind ret) else (bif ((decide ((0 : Int) ≤ x6)) && (decide (x6 < ((ByteArray.size x0) : Int)))) then ((s1 x0 x1 x2 x5 x6 (decide ((bt x0 x6) > x4))).bind ret) else none)) else none)) else (bif (x5 != (0 : Int)) then (ret ((0 : Int), (0 : Int), x5)) else (ret (x2, x1, (0 : Int)))))
def s1c {β : Type} (g92 : utf_first.G) (s0 : S0) (s1 : S1) (s2 : S2) (s3 : S3) (x0 : ByteArray) (x1 : Int) (x2 : Int) (x3 : Int) (x4 : Int) (x5 : Bool) (ret : (Int × Int × Int) → Option β) : Option β := (bif x5 then (ret ((0 : Int), (0 : Int), (7 : Int))) else ((s2 x0 x1 x2 x3 x4).bind ret))
def s2c {β : Type} (g92 : utf_first.G) (s0 : S0) (s1 : S1) (s2 : S2) (s3 : S3) (x0 : ByteArray) (x1 : Int) (x2 : Int) (x3 : Int) (x4 : Int) (ret : (Int × Int × Int) → Option β) : Option β := (bif ((decide ((0 : Int) ≤ x4)) && (decide (x4 < ((ByteArray.size x0) : Int)))) then ((s3 x0 x1 (IntKind.wrap IntKind.i64 ((BitVec.toNat ((BitVec.ofInt (64 : Nat) (IntKind.wrap IntKind.i64 (x2 * (64 : Int)))) ||| (BitVec.ofInt (64 : Nat) (IntKind.wrap IntKind.i64 (IntKind.wrap IntKind.u8 ((BitVec.toNat ((BitVec.ofInt (8 : Nat) (bt x0 x4)) &&& (BitVec.ofInt (8 : Nat) (63 : Int)))) : Int)))))) : Int)) (128 : Int) (191 : Int) x3 x4).bind ret) else none)
def s3c {β : Type} (g92 : utf_first.G) (s0 : S0) (s1 : S1) (s2 : S2) (s3 : S3) (x0 : ByteArray) (x1 : Int) (x2 : Int) (x3 : Int) (x4 : Int) (x5 : Int) (x6 : Int) (ret : (Int × Int × Int) → Option β) : Option β := ((s0 x0 x1 x2 x3 x4 x5 (IntKind.wrap IntKind.i64 (x6 + (1 : Int)))).bind ret)
theorem c_bind {β : Type} {g92 : utf_first.G} {s0 : S0} {s1 : S1} {s2 : S2} {s3 : S3} {a0 : ByteArray} {ret : (Int × Int × Int) → Option β} : c g92 s0 s1 s2 s3 a0 ret = (c g92 s0 s1 s2 s3 a0 some).bind ret := by
  simp only [c, bif_bind, sum_bind, oa, os, on, ofs]
theorem s0c_bind {β : Type} {g92 : utf_first.G} {s0 : S0} {s1 : S1} {s2 : S2} {s3 : S3} {x0 : ByteArray} {x1 : Int} {x2 : Int} {x3 : Int} {x4 : Int} {x5 : Int} {x6 : Int} {ret : (Int × Int × Int) → Option β} : s0c g92 s0 s1 s2 s3 x0 x1 x2 x3 x4 x5 x6 ret = (s0c g92 s0 s1 s2 s3 x0 x1 x2 x3 x4 x5 x6 some).bind ret := by
  simp only [s0c, bif_bind, sum_bind, oa, os, on, ofs]
theorem s1c_bind {β : Type} {g92 : utf_first.G} {s0 : S0} {s1 : S1} {s2 : S2} {s3 : S3} {x0 : ByteArray} {x1 : Int} {x2 : Int} {x3 : Int} {x4 : Int} {x5 : Bool} {ret : (Int × Int × Int) → Option β} : s1c g92 s0 s1 s2 s3 x0 x1 x2 x3 x4 x5 ret = (s1c g92 s0 s1 s2 s3 x0 x1 x2 x3 x4 x5 some).bind ret := by
  simp only [s1c, bif_bind, sum_bind, oa, os, on, ofs]
theorem s2c_bind {β : Type} {g92 : utf_first.G} {s0 : S0} {s1 : S1} {s2 : S2} {s3 : S3} {x0 : ByteArray} {x1 : Int} {x2 : Int} {x3 : Int} {x4 : Int} {ret : (Int × Int × Int) → Option β} : s2c g92 s0 s1 s2 s3 x0 x1 x2 x3 x4 ret = (s2c g92 s0 s1 s2 s3 x0 x1 x2 x3 x4 some).bind ret := by
  simp only [s2c, bif_bind, sum_bind, oa, os, on, ofs]
theorem s3c_bind {β : Type} {g92 : utf_first.G} {s0 : S0} {s1 : S1} {s2 : S2} {s3 : S3} {x0 : ByteArray} {x1 : Int} {x2 : Int} {x3 : Int} {x4 : Int} {x5 : Int} {x6 : Int} {ret : (Int × Int × Int) → Option β} : s3c g92 s0 s1 s2 s3 x0 x1 x2 x3 x4 x5 x6 ret = (s3c g92 s0 s1 s2 s3 x0 x1 x2 x3 x4 x5 x6 some).bind ret := by
  simp only [s3c, bif_bind, sum_bind, oa, os, on, ofs]
theorem ev {g92 : utf_first.G} {s0 : S0} {s1 : S1} {s2 : S2} {s3 : S3} {a0 : ByteArray} : evAt (env g92 s0 s1 s2 s3) [] [0] [.v (.one (.d .str a0))] [] some = c g92 s0 s1 s2 s3 a0 (fun r => some ⟨.tup [(.one (.d (.int .i64) r.1)), (.one (.d (.int .i64) r.2.1)), (.one (.d (.int .i64) r.2.2))], []⟩) := by
  kernel_rfl
theorem s0_ev {g92 : utf_first.G} {s0 : S0} {s1 : S1} {s2 : S2} {s3 : S3} {x0 : ByteArray} {x1 : Int} {x2 : Int} {x3 : Int} {x4 : Int} {x5 : Int} {x6 : Int} : evAt (env g92 s0 s1 s2 s3) [4, 1, 0, 1, 1, 1, 1, 1, 6, 1] [0, 5, 6, 7, 8, 9, 10] [.v (.one (.d .str x0)), .v (.one (.d (.int .i64) x1)), .v (.one (.d (.int .i64) x2)), .v (.one (.d (.int .u8) x3)), .v (.one (.d (.int .u8) x4)), .v (.one (.d (.int .i64) x5)), .v (.one (.d (.int .i64) x6))] [] some = s0c g92 s0 s1 s2 s3 x0 x1 x2 x3 x4 x5 x6 (fun r => some ⟨.tup [(.one (.d (.int .i64) r.1)), (.one (.d (.int .i64) r.2.1)), (.one (.d (.int .i64) r.2.2))], []⟩) := by
  kernel_rfl
theorem s1_ev {g92 : utf_first.G} {s0 : S0} {s1 : S1} {s2 : S2} {s3 : S3} {x0 : ByteArray} {x1 : Int} {x2 : Int} {x3 : Int} {x4 : Int} {x5 : Bool} : evAt (env g92 s0 s1 s2 s3) [1, 3, 1, 4, 0, 4, 0, 1, 5, 4, 1, 0, 1, 1, 1, 1, 1, 6, 1] [0, 5, 6, 9, 10, 33] [.v (.one (.d .str x0)), .v (.one (.d (.int .i64) x1)), .v (.one (.d (.int .i64) x2)), .v (.one (.d (.int .i64) x3)), .v (.one (.d (.int .i64) x4)), .v (.one (.d .bool x5))] [] some = s1c g92 s0 s1 s2 s3 x0 x1 x2 x3 x4 x5 (fun r => some ⟨.tup [(.one (.d (.int .i64) r.1)), (.one (.d (.int .i64) r.2.1)), (.one (.d (.int .i64) r.2.2))], []⟩) := by
  kernel_rfl
theorem s2_ev {g92 : utf_first.G} {s0 : S0} {s1 : S1} {s2 : S2} {s3 : S3} {x0 : ByteArray} {x1 : Int} {x2 : Int} {x3 : Int} {x4 : Int} : evAt (env g92 s0 s1 s2 s3) [1, 4, 0, 1, 5, 4, 1, 0, 1, 1, 1, 1, 1, 6, 1] [0, 5, 6, 9, 10] [.v (.one (.d .str x0)), .v (.one (.d (.int .i64) x1)), .v (.one (.d (.int .i64) x2)), .v (.one (.d (.int .i64) x3)), .v (.one (.d (.int .i64) x4))] [] some = s2c g92 s0 s1 s2 s3 x0 x1 x2 x3 x4 (fun r => some ⟨.tup [(.one (.d (.int .i64) r.1)), (.one (.d (.int .i64) r.2.1)), (.one (.d (.int .i64) r.2.2))], []⟩) := by
  kernel_rfl
theorem s3_ev {g92 : utf_first.G} {s0 : S0} {s1 : S1} {s2 : S2} {s3 : S3} {x0 : ByteArray} {x1 : Int} {x2 : Int} {x3 : Int} {x4 : Int} {x5 : Int} {x6 : Int} : evAt (env g92 s0 s1 s2 s3) [1, 1, 5, 4, 1, 0, 1, 1, 1, 1, 1, 6, 1] [0, 5, 6, 7, 8, 9, 10] [.v (.one (.d .str x0)), .v (.one (.d (.int .i64) x1)), .v (.one (.d (.int .i64) x2)), .v (.one (.d (.int .u8) x3)), .v (.one (.d (.int .u8) x4)), .v (.one (.d (.int .i64) x5)), .v (.one (.d (.int .i64) x6))] [] some = s3c g92 s0 s1 s2 s3 x0 x1 x2 x3 x4 x5 x6 (fun r => some ⟨.tup [(.one (.d (.int .i64) r.1)), (.one (.d (.int .i64) r.2.1)), (.one (.d (.int .i64) r.2.2))], []⟩) := by
  kernel_rfl
mutual
def s0 : Nat → ByteArray → Int → Int → Int → Int → Int → Int → Option (Int × Int × Int)
  | 0, _, _, _, _, _, _, _ => none
  | k + 1, x0, x1, x2, x3, x4, x5, x6 => s0c (utf_first.f k) (s0 k) (s1 k) (s2 k) (s3 k) x0 x1 x2 x3 x4 x5 x6 some
def s1 : Nat → ByteArray → Int → Int → Int → Int → Bool → Option (Int × Int × Int)
  | 0, _, _, _, _, _, _ => none
  | k + 1, x0, x1, x2, x3, x4, x5 => s1c (utf_first.f k) (s0 k) (s1 k) (s2 k) (s3 k) x0 x1 x2 x3 x4 x5 some
def s2 : Nat → ByteArray → Int → Int → Int → Int → Option (Int × Int × Int)
  | 0, _, _, _, _, _ => none
  | k + 1, x0, x1, x2, x3, x4 => s2c (utf_first.f k) (s0 k) (s1 k) (s2 k) (s3 k) x0 x1 x2 x3 x4 some
def s3 : Nat → ByteArray → Int → Int → Int → Int → Int → Int → Option (Int × Int × Int)
  | 0, _, _, _, _, _, _, _ => none
  | k + 1, x0, x1, x2, x3, x4, x5, x6 => s3c (utf_first.f k) (s0 k) (s1 k) (s2 k) (s3 k) x0 x1 x2 x3 x4 x5 x6 some
end
def f (k : Nat) (a0 : ByteArray) : Option (Int × Int × Int) := c (utf_first.f k) (s0 k) (s1 k) (s2 k) (s3 k) a0 some
theorem is {g92 : utf_first.G} {s0 : S0} {s1 : S1} {s2 : S2} {s3 : S3} : FnIs (env g92 s0 s1 s2 s3) 89 f89 := ⟨func89, rfl, rfl, rfl, by decide⟩
theorem envok {g92 : utf_first.G} {s0 : S0} {s1 : S1} {s2 : S2} {s3 : S3} (h92 : CtOK prog 92 (utf_first.ct g92)) : EnvOK (env g92 s0 s1 s2 s3).toEnv := by
  intro f c h
  simp only [env] at h
  split at h
  · rename_i e; subst e; cases h; exact h92
  simp at h
noncomputable abbrev E (k : Nat) : FEnv := env (utf_first.f k) (s0 k) (s1 k) (s2 k) (s3 k)
theorem hE (k : Nat) : EnvOK (E k).toEnv := envok (utf_first.ok k)
theorem segs_ok : ∀ k, ∀ s ∈ (E k).segs, SegOK (E k) f89 s
  | 0 => by
    intro s hs
    simp only [E, env, List.mem_cons, List.not_mem_nil, or_false] at hs
    rcases hs with rfl | rfl | rfl | rfl
    · intro tvs blks res h; exfalso; simp only [sg0] at h; split at h <;> simp [s0] at h
    · intro tvs blks res h; exfalso; simp only [sg1] at h; split at h <;> simp [s1] at h
    · intro tvs blks res h; exfalso; simp only [sg2] at h; split at h <;> simp [s2] at h
    · intro tvs blks res h; exfalso; simp only [sg3] at h; split at h <;> simp [s3] at h
  | k + 1 => by
    intro s hs
    simp only [E, env, List.mem_cons, List.not_mem_nil, or_false] at hs
    rcases hs with rfl | rfl | rfl | rfl
    · refine seg_of_ev (E := E k) (hE k) ⟨is.rvs⟩ (segs_ok k) ?_
      intro tvs blks res h
      simp only [sg0] at h
      split at h
      · exact (s0_ev.trans s0c_bind).trans h
      · simp at h
    · refine seg_of_ev (E := E k) (hE k) ⟨is.rvs⟩ (segs_ok k) ?_
      intro tvs blks res h
      simp only [sg1] at h
      split at h
      · exact (s1_ev.trans s1c_bind).trans h
      · simp at h
    · refine seg_of_ev (E := E k) (hE k) ⟨is.rvs⟩ (segs_ok k) ?_
      intro tvs blks res h
      simp only [sg2] at h
      split at h
      · exact (s2_ev.trans s2c_bind).trans h
      · simp at h
    · refine seg_of_ev (E := E k) (hE k) ⟨is.rvs⟩ (segs_ok k) ?_
      intro tvs blks res h
      simp only [sg3] at h
      split at h
      · exact (s3_ev.trans s3c_bind).trans h
      · simp at h
theorem ok (k : Nat) : CtOK prog 89 (ct (f k)) := by
  refine ct_of_ev (E := E k) is (hE k) (segs_ok k) rfl ?_
  intro tvs blks res h
  simp only [ct] at h
  split at h
  · exact (ev.trans c_bind).trans h
  · simp at h
end utf_Next
namespace utf_Count
abbrev G : Type := ByteArray → Option Int
def ct (g : G) : Ct where
  nin := 0
  mv := []
  F := fun tvs blks {β} K => match tvs, blks with
    | [.v (.one (.d .str a0))], [] => (g a0).bind fun r => K ⟨.v (.one (.d (.int .i64) r)), []⟩
    | _, _ => none
  legit := fun _ _ K _ h => by split at h; exact (legit1 K h :); simp at h
abbrev S0 : Type := ByteArray → Int → Option Int
def sg0 (g : S0) : Seg where
  path := [4, 0, 1, 1]
  prep := []
  keep := [0, 3]
  F := fun tvs blks {β} K => match tvs, blks with
    | [.v (.one (.d .str x0)), .v (.one (.d (.int .i64) x1))], [] => (g x0 x1).bind fun r => K ⟨.v (.one (.d (.int .i64) r)), []⟩
    | _, _ => none
  legit := fun _ _ K _ h => by split at h; exact (legit1 K h :); simp at h
noncomputable def env (g89 : utf_Next.G) (s0 : S0) : FEnv := { P := prog, ct := fun m => if m = 89 then some (utf_Next.ct g89) else none, N := 23, body := f80.body.getD .skip, rvs := [.tmp 2], rts := [3], nin := 0, rmv := [], segs := [sg0 s0] }
def c {β : Type} (g89 : utf_Next.G) (s0 : S0) (a0 : ByteArray) (ret : Int → Option β) : Option β := ((s0 a0 (0 : Int)).bind ret)
def s0c {β : Type} (g89 : utf_Next.G) (s0 : S0) (x0 : ByteArray) (x1 : Int) (ret : Int → Option β) : Option β := (bif (!((ByteArray.toList x0) == (ByteArray.toList (ByteArray.mk (List.toArray []))))) then ((g89 x0).bind fun r0 => (bif (r0.2.2 != (0 : Int)) then (ret ((-1 : Int))) else (bif (((decide ((0 : Int) ≤ r0.2.1)) && (decide (r0.2.1 ≤ ((ByteArray.size x0) : Int)))) && (decide (((ByteArray.size x0) : Int) ≤ ((ByteArray.size x0) : Int)))) then ((s0 (ByteArray.extract x0 (Int.toNat r0.2.1) (Int.toNat ((ByteArray.size x0) : Int))) (IntKind.wrap IntKind.i64 (x1 + (1 : Int)))).bind ret) else none))) else (ret (x1)))
theorem c_bind {β : Type} {g89 : utf_Next.G} {s0 : S0} {a0 : ByteArray} {ret : Int → Option β} : c g89 s0 a0 ret = (c g89 s0 a0 some).bind ret := by
  simp only [c, bif_bind, sum_bind, oa, os, on, ofs]
theorem s0c_bind {β : Type} {g89 : utf_Next.G} {s0 : S0} {x0 : ByteArray} {x1 : Int} {ret : Int → Option β} : s0c g89 s0 x0 x1 ret = (s0c g89 s0 x0 x1 some).bind ret := by
  simp only [s0c, bif_bind, sum_bind, oa, os, on, ofs]
theorem ev {g89 : utf_Next.G} {s0 : S0} {a0 : ByteArray} : evAt (env g89 s0) [] [0] [.v (.one (.d .str a0))] [] some = c g89 s0 a0 (fun r => some ⟨.v (.one (.d (.int .i64) r)), []⟩) := by
  kernel_rfl
theorem s0_ev {g89 : utf_Next.G} {s0 : S0} {x0 : ByteArray} {x1 : Int} : evAt (env g89 s0) [4, 0, 1, 1] [0, 3] [.v (.one (.d .str x0)), .v (.one (.d (.int .i64) x1))] [] some = s0c g89 s0 x0 x1 (fun r => some ⟨.v (.one (.d (.int .i64) r)), []⟩) := by
  kernel_rfl
def s0 : Nat → ByteArray → Int → Option Int
  | 0, _, _ => none
  | k + 1, x0, x1 => s0c (utf_Next.f k) (s0 k) x0 x1 some
def f (k : Nat) (a0 : ByteArray) : Option Int := c (utf_Next.f k) (s0 k) a0 some
theorem is {g89 : utf_Next.G} {s0 : S0} : FnIs (env g89 s0) 80 f80 := ⟨func80, rfl, rfl, rfl, by decide⟩
theorem envok {g89 : utf_Next.G} {s0 : S0} (h89 : CtOK prog 89 (utf_Next.ct g89)) : EnvOK (env g89 s0).toEnv := by
  intro f c h
  simp only [env] at h
  split at h
  · rename_i e; subst e; cases h; exact h89
  simp at h
noncomputable abbrev E (k : Nat) : FEnv := env (utf_Next.f k) (s0 k)
theorem hE (k : Nat) : EnvOK (E k).toEnv := envok (utf_Next.ok k)
theorem segs_ok : ∀ k, ∀ s ∈ (E k).segs, SegOK (E k) f80 s
  | 0 => by
    intro s hs
    simp only [E, env, List.mem_cons, List.not_mem_nil, or_false] at hs
    rcases hs with rfl
    · intro tvs blks res h; exfalso; simp only [sg0] at h; split at h <;> simp [s0] at h
  | k + 1 => by
    intro s hs
    simp only [E, env, List.mem_cons, List.not_mem_nil, or_false] at hs
    rcases hs with rfl
    · refine seg_of_ev (E := E k) (hE k) ⟨is.rvs⟩ (segs_ok k) ?_
      intro tvs blks res h
      simp only [sg0] at h
      split at h
      · exact (s0_ev.trans s0c_bind).trans h
      · simp at h
theorem ok (k : Nat) : CtOK prog 80 (ct (f k)) := by
  refine ct_of_ev (E := E k) is (hE k) (segs_ok k) rfl ?_
  intro tvs blks res h
  simp only [ct] at h
  split at h
  · exact (ev.trans c_bind).trans h
  · simp at h
end utf_Count
namespace utf_Valid
abbrev G : Type := ByteArray → Option Bool
def ct (g : G) : Ct where
  nin := 0
  mv := []
  F := fun tvs blks {β} K => match tvs, blks with
    | [.v (.one (.d .str a0))], [] => (g a0).bind fun r => K ⟨.v (.one (.d .bool r)), []⟩
    | _, _ => none
  legit := fun _ _ K _ h => by split at h; exact (legit1 K h :); simp at h
noncomputable def env (g80 : utf_Count.G)  : FEnv := { P := prog, ct := fun m => if m = 80 then some (utf_Count.ct g80) else none, N := 6, body := f59.body.getD .skip, rvs := [.tmp 2], rts := [4], nin := 0, rmv := [], segs := [] }
def c {β : Type} (g80 : utf_Count.G)  (a0 : ByteArray) (ret : Bool → Option β) : Option β := ((g80 a0).bind fun r0 => (ret ((decide (r0 ≥ (0 : Int))))))
theorem c_bind {β : Type} {g80 : utf_Count.G}  {a0 : ByteArray} {ret : Bool → Option β} : c g80  a0 ret = (c g80  a0 some).bind ret := by
  simp only [c, bif_bind, sum_bind, oa, os, on, ofs]
theorem ev {g80 : utf_Count.G}  {a0 : ByteArray} : evAt (env g80 ) [] [0] [.v (.one (.d .str a0))] [] some = c g80  a0 (fun r => some ⟨.v (.one (.d .bool r)), []⟩) := by
  kernel_rfl
def f (k : Nat) (a0 : ByteArray) : Option Bool := c (utf_Count.f k)  a0 some
theorem is {g80 : utf_Count.G}  : FnIs (env g80 ) 59 f59 := ⟨func59, rfl, rfl, rfl, by decide⟩
theorem envok {g80 : utf_Count.G}  (h80 : CtOK prog 80 (utf_Count.ct g80)) : EnvOK (env g80 ).toEnv := by
  intro f c h
  simp only [env] at h
  split at h
  · rename_i e; subst e; cases h; exact h80
  simp at h
noncomputable abbrev E (k : Nat) : FEnv := env (utf_Count.f k) 
theorem hE (k : Nat) : EnvOK (E k).toEnv := envok (utf_Count.ok k)
theorem ok (k : Nat) : CtOK prog 59 (ct (f k)) := by
  refine ct_of_ev (E := E k) is (hE k) (fun s hs => by simp [E, env] at hs) rfl ?_
  intro tvs blks res h
  simp only [ct] at h
  split at h
  · exact (ev.trans c_bind).trans h
  · simp at h
end utf_Valid
namespace values_Check
abbrev G : Type := Int → Int → Int → ByteArray → Option Int
def ct (g : G) : Ct where
  nin := 0
  mv := []
  F := fun tvs blks {β} K => match tvs, blks with
    | [.v (.agg [(.d (.int .i64) a0), (.d (.int .i64) a1), (.d (.int .u64) a2), (.d .str a3)])], [] => (g a0 a1 a2 a3).bind fun r => K ⟨.v (.one (.d (.int .i64) r)), []⟩
    | _, _ => none
  legit := fun _ _ K _ h => by split at h; exact (legit1 K h :); simp at h
abbrev S0 : Type := Bool → Int → Int → Int → ByteArray → Option Int
abbrev S1 : Type := Bool → Int → Int → Int → ByteArray → Option Int
def sg0 (g : S0) : Seg where
  path := [1, 4, 0, 1]
  prep := []
  keep := [1, 3]
  F := fun tvs blks {β} K => match tvs, blks with
    | [.v (.one (.ptr 0 0)), .v (.one (.d .bool x0))], [some (.box [(.d (.int .i64) x1), (.d (.int .i64) x2), (.d (.int .u64) x3), (.d .str x4)])] => (g x0 x1 x2 x3 x4).bind fun r => K ⟨.v (.one (.d (.int .i64) r)), []⟩
    | _, _ => none
  legit := fun _ _ K _ h => by split at h; exact (legit1 K h :); simp at h
def sg1 (g : S1) : Seg where
  path := [1, 3, 1, 3, 1, 4, 0, 1]
  prep := []
  keep := [1, 17]
  F := fun tvs blks {β} K => match tvs, blks with
    | [.v (.one (.ptr 0 0)), .v (.one (.d .bool x0))], [some (.box [(.d (.int .i64) x1), (.d (.int .i64) x2), (.d (.int .u64) x3), (.d .str x4)])] => (g x0 x1 x2 x3 x4).bind fun r => K ⟨.v (.one (.d (.int .i64) r)), []⟩
    | _, _ => none
  legit := fun _ _ K _ h => by split at h; exact (legit1 K h :); simp at h
noncomputable def env (g57 : values_only.G) (g58 : reals_Canon.G) (g59 : utf_Valid.G) (s0 : S0) (s1 : S1) : FEnv := { P := prog, ct := fun m => if m = 57 then some (values_only.ct g57) else if m = 58 then some (reals_Canon.ct g58) else if m = 59 then some (utf_Valid.ct g59) else none, N := 53, body := f42.body.getD .skip, rvs := [.tmp 2], rts := [32], nin := 0, rmv := [], segs := [sg0 s0, sg1 s1] }
def c {β : Type} (g57 : values_only.G) (g58 : reals_Canon.G) (g59 : utf_Valid.G) (s0 : S0) (s1 : S1) (a0 : Int) (a1 : Int) (a2 : Int) (a3 : ByteArray) (ret : Int → Option β) : Option β := (bif (decide (a0 < (0 : Int))) then ((s0 true a0 a1 a2 a3).bind ret) else ((s0 (decide (a0 ≥ (6 : Int))) a0 a1 a2 a3).bind ret))
def s0c {β : Type} (g57 : values_only.G) (g58 : reals_Canon.G) (g59 : utf_Valid.G) (s0 : S0) (s1 : S1) (x0 : Bool) (x1 : Int) (x2 : Int) (x3 : Int) (x4 : ByteArray) (ret : Int → Option β) : Option β := (bif x0 then (ret ((5 : Int))) else ((g57 x1 x2 x3 x4).bind fun r0 => (bif (!((r0.1 == x1) && ((r0.2.1 == x2) && ((r0.2.2.1 == x3) && (((ByteArray.toList r0.2.2.2) == (ByteArray.toList x4)) && true))))) then (ret ((4 : Int))) else (bif (x1 == (1 : Int)) then (bif (x2 != (0 : Int)) then ((s1 (x2 != (1 : Int)) x1 x2 x3 x4).bind ret) else ((s1 false x1 x2 x3 x4).bind ret)) else ((s1 false x1 x2 x3 x4).bind ret)))))
def s1c {β : Type} (g57 : values_only.G) (g58 : reals_Canon.G) (g59 : utf_Valid.G) (s0 : S0) (s1 : S1) (x0 : Bool) (x1 : Int) (x2 : Int) (x3 : Int) (x4 : ByteArray) (ret : Int → Option β) : Option β := (bif x0 then (ret ((6 : Int))) else ((g58 x3).bind fun r0 => (bif (r0 != x3) then (ret ((4 : Int))) else (bif (decide (((ByteArray.size x4) : Int) > (64 : Int))) then (ret ((2 : Int))) else (bif (x1 == (5 : Int)) then ((g59 x4).bind fun r1 => (bif (!r1) then (ret ((7 : Int))) else (ret ((0 : Int))))) else (ret ((0 : Int))))))))
theorem c_bind {β : Type} {g57 : values_only.G} {g58 : reals_Canon.G} {g59 : utf_Valid.G} {s0 : S0} {s1 : S1} {a0 : Int} {a1 : Int} {a2 : Int} {a3 : ByteArray} {ret : Int → Option β} : c g57 g58 g59 s0 s1 a0 a1 a2 a3 ret = (c g57 g58 g59 s0 s1 a0 a1 a2 a3 some).bind ret := by
  simp only [c, bif_bind, sum_bind, oa, os, on, ofs]
theorem s0c_bind {β : Type} {g57 : values_only.G} {g58 : reals_Canon.G} {g59 : utf_Valid.G} {s0 : S0} {s1 : S1} {x0 : Bool} {x1 : Int} {x2 : Int} {x3 : Int} {x4 : ByteArray} {ret : Int → Option β} : s0c g57 g58 g59 s0 s1 x0 x1 x2 x3 x4 ret = (s0c g57 g58 g59 s0 s1 x0 x1 x2 x3 x4 some).bind ret := by
  simp only [s0c, bif_bind, sum_bind, oa, os, on, ofs]
theorem s1c_bind {β : Type} {g57 : values_only.G} {g58 : reals_Canon.G} {g59 : utf_Valid.G} {s0 : S0} {s1 : S1} {x0 : Bool} {x1 : Int} {x2 : Int} {x3 : Int} {x4 : ByteArray} {ret : Int → Option β} : s1c g57 g58 g59 s0 s1 x0 x1 x2 x3 x4 ret = (s1c g57 g58 g59 s0 s1 x0 x1 x2 x3 x4 some).bind ret := by
  simp only [s1c, bif_bind, sum_bind, oa, os, on, ofs]
theorem ev {g57 : values_only.G} {g58 : reals_Canon.G} {g59 : utf_Valid.G} {s0 : S0} {s1 : S1} {a0 : Int} {a1 : Int} {a2 : Int} {a3 : ByteArray} : evAt (env g57 g58 g59 s0 s1) [] [0] [.v (.agg [(.d (.int .i64) a0), (.d (.int .i64) a1), (.d (.int .u64) a2), (.d .str a3)])] [] some = c g57 g58 g59 s0 s1 a0 a1 a2 a3 (fun r => some ⟨.v (.one (.d (.int .i64) r)), []⟩) := by
  kernel_rfl
theorem s0_ev {g57 : values_only.G} {g58 : reals_Canon.G} {g59 : utf_Valid.G} {s0 : S0} {s1 : S1} {x0 : Bool} {x1 : Int} {x2 : Int} {x3 : Int} {x4 : ByteArray} : evAt (env g57 g58 g59 s0 s1) [1, 4, 0, 1] [1, 3] [.v (.one (.ptr 0 0)), .v (.one (.d .bool x0))] [some (.box [(.d (.int .i64) x1), (.d (.int .i64) x2), (.d (.int .u64) x3), (.d .str x4)])] some = s0c g57 g58 g59 s0 s1 x0 x1 x2 x3 x4 (fun r => some ⟨.v (.one (.d (.int .i64) r)), []⟩) := by
  kernel_rfl
theorem s1_ev {g57 : values_only.G} {g58 : reals_Canon.G} {g59 : utf_Valid.G} {s0 : S0} {s1 : S1} {x0 : Bool} {x1 : Int} {x2 : Int} {x3 : Int} {x4 : ByteArray} : evAt (env g57 g58 g59 s0 s1) [1, 3, 1, 3, 1, 4, 0, 1] [1, 17] [.v (.one (.ptr 0 0)), .v (.one (.d .bool x0))] [some (.box [(.d (.int .i64) x1), (.d (.int .i64) x2), (.d (.int .u64) x3), (.d .str x4)])] some = s1c g57 g58 g59 s0 s1 x0 x1 x2 x3 x4 (fun r => some ⟨.v (.one (.d (.int .i64) r)), []⟩) := by
  kernel_rfl
mutual
def s0 : Nat → Bool → Int → Int → Int → ByteArray → Option Int
  | 0, _, _, _, _, _ => none
  | k + 1, x0, x1, x2, x3, x4 => s0c (values_only.f k) (reals_Canon.f k) (utf_Valid.f k) (s0 k) (s1 k) x0 x1 x2 x3 x4 some
def s1 : Nat → Bool → Int → Int → Int → ByteArray → Option Int
  | 0, _, _, _, _, _ => none
  | k + 1, x0, x1, x2, x3, x4 => s1c (values_only.f k) (reals_Canon.f k) (utf_Valid.f k) (s0 k) (s1 k) x0 x1 x2 x3 x4 some
end
def f (k : Nat) (a0 : Int) (a1 : Int) (a2 : Int) (a3 : ByteArray) : Option Int := c (values_only.f k) (reals_Canon.f k) (utf_Valid.f k) (s0 k) (s1 k) a0 a1 a2 a3 some
theorem is {g57 : values_only.G} {g58 : reals_Canon.G} {g59 : utf_Valid.G} {s0 : S0} {s1 : S1} : FnIs (env g57 g58 g59 s0 s1) 42 f42 := ⟨func42, rfl, rfl, rfl, by decide⟩
theorem envok {g57 : values_only.G} {g58 : reals_Canon.G} {g59 : utf_Valid.G} {s0 : S0} {s1 : S1} (h57 : CtOK prog 57 (values_only.ct g57)) (h58 : CtOK prog 58 (reals_Canon.ct g58)) (h59 : CtOK prog 59 (utf_Valid.ct g59)) : EnvOK (env g57 g58 g59 s0 s1).toEnv := by
  intro f c h
  simp only [env] at h
  split at h
  · rename_i e; subst e; cases h; exact h57
  split at h
  · rename_i e; subst e; cases h; exact h58
  split at h
  · rename_i e; subst e; cases h; exact h59
  simp at h
noncomputable abbrev E (k : Nat) : FEnv := env (values_only.f k) (reals_Canon.f k) (utf_Valid.f k) (s0 k) (s1 k)
theorem hE (k : Nat) : EnvOK (E k).toEnv := envok (values_only.ok k) (reals_Canon.ok k) (utf_Valid.ok k)
theorem segs_ok : ∀ k, ∀ s ∈ (E k).segs, SegOK (E k) f42 s
  | 0 => by
    intro s hs
    simp only [E, env, List.mem_cons, List.not_mem_nil, or_false] at hs
    rcases hs with rfl | rfl
    · intro tvs blks res h; exfalso; simp only [sg0] at h; split at h <;> simp [s0] at h
    · intro tvs blks res h; exfalso; simp only [sg1] at h; split at h <;> simp [s1] at h
  | k + 1 => by
    intro s hs
    simp only [E, env, List.mem_cons, List.not_mem_nil, or_false] at hs
    rcases hs with rfl | rfl
    · refine seg_of_ev (E := E k) (hE k) ⟨is.rvs⟩ (segs_ok k) ?_
      intro tvs blks res h
      simp only [sg0] at h
      split at h
      · exact (s0_ev.trans s0c_bind).trans h
      · simp at h
    · refine seg_of_ev (E := E k) (hE k) ⟨is.rvs⟩ (segs_ok k) ?_
      intro tvs blks res h
      simp only [sg1] at h
      split at h
      · exact (s1_ev.trans s1c_bind).trans h
      · simp at h
theorem ok (k : Nat) : CtOK prog 42 (ct (f k)) := by
  refine ct_of_ev (E := E k) is (hE k) (segs_ok k) rfl ?_
  intro tvs blks res h
  simp only [ct] at h
  split at h
  · exact (ev.trans c_bind).trans h
  · simp at h
end values_Check
namespace schema_col
abbrev G : Type := ByteArray → Int → Bool → Int → Int → Int → ByteArray → Option (((Int × Unit)) ⊕ Unit)
def ct (g : G) : Ct where
  nin := 0
  mv := []
  F := fun tvs blks {β} K => match tvs, blks with
    | [.v (.agg [(.d .str a0), (.d (.int .i64) a1), (.d .bool a2), (.d (.int .i64) a3), (.d (.int .i64) a4), (.d (.int .u64) a5), (.d .str a6)])], [] => (g a0 a1 a2 a3 a4 a5 a6).bind fun r => Sum.elim (fun r => K ⟨.v (.one (.ifc 89 true (.pair (.int .i64) .unit) r)), []⟩) (fun r => K ⟨.v (.one (.raw (.nilIface))), []⟩) r
    | _, _ => none
  legit := fun tvs blks K r h => by
    split at h
    · obtain ⟨x, hx, hk⟩ := Option.bind_eq_some_iff.1 h
      rcases x with x | x <;> (simp only [Sum.elim_inl, Sum.elim_inr] at hk; exact ⟨_, by simp only [hx, Option.bind_some, Sum.elim_inl, Sum.elim_inr], hk⟩)
    · simp at h
abbrev S0 : Type := Bool → ByteArray → Int → Bool → Int → Int → Int → ByteArray → Option (((Int × Unit)) ⊕ Unit)
abbrev S1 : Type := ByteArray → Int → Bool → Int → Int → Int → ByteArray → Option (((Int × Unit)) ⊕ Unit)
def sg0 (g : S0) : Seg where
  path := [1, 0, 1, 1]
  prep := []
  keep := [1, 21]
  F := fun tvs blks {β} K => match tvs, blks with
    | [.v (.one (.ptr 0 0)), .v (.one (.d .bool x0))], [some (.box [(.d .str x1), (.d (.int .i64) x2), (.d .bool x3), (.d (.int .i64) x4), (.d (.int .i64) x5), (.d (.int .u64) x6), (.d .str x7)])] => (g x0 x1 x2 x3 x4 x5 x6 x7).bind fun r => Sum.elim (fun r => K ⟨.v (.one (.ifc 89 true (.pair (.int .i64) .unit) r)), []⟩) (fun r => K ⟨.v (.one (.raw (.nilIface))), []⟩) r
    | _, _ => none
  legit := fun tvs blks K r h => by
    split at h
    · obtain ⟨x, hx, hk⟩ := Option.bind_eq_some_iff.1 h
      rcases x with x | x <;> (simp only [Sum.elim_inl, Sum.elim_inr] at hk; exact ⟨_, by simp only [hx, Option.bind_some, Sum.elim_inl, Sum.elim_inr], hk⟩)
    · simp at h
def sg1 (g : S1) : Seg where
  path := [1, 1, 1]
  prep := []
  keep := [1]
  F := fun tvs blks {β} K => match tvs, blks with
    | [.v (.one (.ptr 0 0))], [some (.box [(.d .str x0), (.d (.int .i64) x1), (.d .bool x2), (.d (.int .i64) x3), (.d (.int .i64) x4), (.d (.int .u64) x5), (.d .str x6)])] => (g x0 x1 x2 x3 x4 x5 x6).bind fun r => Sum.elim (fun r => K ⟨.v (.one (.ifc 89 true (.pair (.int .i64) .unit) r)), []⟩) (fun r => K ⟨.v (.one (.raw (.nilIface))), []⟩) r
    | _, _ => none
  legit := fun tvs blks K r h => by
    split at h
    · obtain ⟨x, hx, hk⟩ := Option.bind_eq_some_iff.1 h
      rcases x with x | x <;> (simp only [Sum.elim_inl, Sum.elim_inr] at hk; exact ⟨_, by simp only [hx, Option.bind_some, Sum.elim_inl, Sum.elim_inr], hk⟩)
    · simp at h
noncomputable def env (g42 : values_Check.G) (g51 : names_Check.G) (s0 : S0) (s1 : S1) : FEnv := { P := prog, ct := fun m => if m = 42 then some (values_Check.ct g42) else if m = 51 then some (names_Check.ct g51) else none, N := 45, body := f52.body.getD .skip, rvs := [.tmp 2], rts := [80], nin := 0, rmv := [], segs := [sg0 s0, sg1 s1] }
def c {β : Type} (g42 : values_Check.G) (g51 : names_Check.G) (s0 : S0) (s1 : S1) (a0 : ByteArray) (a1 : Int) (a2 : Bool) (a3 : Int) (a4 : Int) (a5 : Int) (a6 : ByteArray) (ret : (((Int × Unit)) ⊕ Unit) → Option β) : Option β := ((g51 a0).bind fun r0 => (bif (r0 != (0 : Int)) then (ret (.inl ((r0, ())))) else (bif (decide (a1 < (1 : Int))) then ((s0 true a0 a1 a2 a3 a4 a5 a6).bind ret) else ((s0 (decide (a1 > (5 : Int))) a0 a1 a2 a3 a4 a5 a6).bind ret))))
def s0c {β : Type} (g42 : values_Check.G) (g51 : names_Check.G) (s0 : S0) (s1 : S1) (x0 : Bool) (x1 : ByteArray) (x2 : Int) (x3 : Bool) (x4 : Int) (x5 : Int) (x6 : Int) (x7 : ByteArray) (ret : (((Int × Unit)) ⊕ Unit) → Option β) : Option β := (bif x0 then (ret (.inl (((5 : Int), ())))) else ((s1 x1 x2 x3 x4 x5 x6 x7).bind ret))
def s1c {β : Type} (g42 : values_Check.G) (g51 : names_Check.G) (s0 : S0) (s1 : S1) (x0 : ByteArray) (x1 : Int) (x2 : Bool) (x3 : Int) (x4 : Int) (x5 : Int) (x6 : ByteArray) (ret : (((Int × Unit)) ⊕ Unit) → Option β) : Option β := ((g42 x3 x4 x5 x6).bind fun r0 => (bif (r0 != (0 : Int)) then (ret (.inl ((r0, ())))) else (bif (x3 != (0 : Int)) then (bif (x3 != x1) then (ret (.inl (((11 : Int), ())))) else (ret (.inr ()))) else (ret (.inr ())))))
theorem c_bind {β : Type} {g42 : values_Check.G} {g51 : names_Check.G} {s0 : S0} {s1 : S1} {a0 : ByteArray} {a1 : Int} {a2 : Bool} {a3 : Int} {a4 : Int} {a5 : Int} {a6 : ByteArray} {ret : (((Int × Unit)) ⊕ Unit) → Option β} : c g42 g51 s0 s1 a0 a1 a2 a3 a4 a5 a6 ret = (c g42 g51 s0 s1 a0 a1 a2 a3 a4 a5 a6 some).bind ret := by
  simp only [c, bif_bind, sum_bind, oa, os, on, ofs]
theorem s0c_bind {β : Type} {g42 : values_Check.G} {g51 : names_Check.G} {s0 : S0} {s1 : S1} {x0 : Bool} {x1 : ByteArray} {x2 : Int} {x3 : Bool} {x4 : Int} {x5 : Int} {x6 : Int} {x7 : ByteArray} {ret : (((Int × Unit)) ⊕ Unit) → Option β} : s0c g42 g51 s0 s1 x0 x1 x2 x3 x4 x5 x6 x7 ret = (s0c g42 g51 s0 s1 x0 x1 x2 x3 x4 x5 x6 x7 some).bind ret := by
  simp only [s0c, bif_bind, sum_bind, oa, os, on, ofs]
theorem s1c_bind {β : Type} {g42 : values_Check.G} {g51 : names_Check.G} {s0 : S0} {s1 : S1} {x0 : ByteArray} {x1 : Int} {x2 : Bool} {x3 : Int} {x4 : Int} {x5 : Int} {x6 : ByteArray} {ret : (((Int × Unit)) ⊕ Unit) → Option β} : s1c g42 g51 s0 s1 x0 x1 x2 x3 x4 x5 x6 ret = (s1c g42 g51 s0 s1 x0 x1 x2 x3 x4 x5 x6 some).bind ret := by
  simp only [s1c, bif_bind, sum_bind, oa, os, on, ofs]
theorem ev {g42 : values_Check.G} {g51 : names_Check.G} {s0 : S0} {s1 : S1} {a0 : ByteArray} {a1 : Int} {a2 : Bool} {a3 : Int} {a4 : Int} {a5 : Int} {a6 : ByteArray} : evAt (env g42 g51 s0 s1) [] [0] [.v (.agg [(.d .str a0), (.d (.int .i64) a1), (.d .bool a2), (.d (.int .i64) a3), (.d (.int .i64) a4), (.d (.int .u64) a5), (.d .str a6)])] [] some = c g42 g51 s0 s1 a0 a1 a2 a3 a4 a5 a6 (fun r => Sum.elim (fun r => some ⟨.v (.one (.ifc 89 true (.pair (.int .i64) .unit) r)), []⟩) (fun r => some ⟨.v (.one (.raw (.nilIface))), []⟩) r) := by
  kernel_rfl
theorem s0_ev {g42 : values_Check.G} {g51 : names_Check.G} {s0 : S0} {s1 : S1} {x0 : Bool} {x1 : ByteArray} {x2 : Int} {x3 : Bool} {x4 : Int} {x5 : Int} {x6 : Int} {x7 : ByteArray} : evAt (env g42 g51 s0 s1) [1, 0, 1, 1] [1, 21] [.v (.one (.ptr 0 0)), .v (.one (.d .bool x0))] [some (.box [(.d .str x1), (.d (.int .i64) x2), (.d .bool x3), (.d (.int .i64) x4), (.d (.int .i64) x5), (.d (.int .u64) x6), (.d .str x7)])] some = s0c g42 g51 s0 s1 x0 x1 x2 x3 x4 x5 x6 x7 (fun r => Sum.elim (fun r => some ⟨.v (.one (.ifc 89 true (.pair (.int .i64) .unit) r)), []⟩) (fun r => some ⟨.v (.one (.raw (.nilIface))), []⟩) r) := by
  kernel_rfl
theorem s1_ev {g42 : values_Check.G} {g51 : names_Check.G} {s0 : S0} {s1 : S1} {x0 : ByteArray} {x1 : Int} {x2 : Bool} {x3 : Int} {x4 : Int} {x5 : Int} {x6 : ByteArray} : evAt (env g42 g51 s0 s1) [1, 1, 1] [1] [.v (.one (.ptr 0 0))] [some (.box [(.d .str x0), (.d (.int .i64) x1), (.d .bool x2), (.d (.int .i64) x3), (.d (.int .i64) x4), (.d (.int .u64) x5), (.d .str x6)])] some = s1c g42 g51 s0 s1 x0 x1 x2 x3 x4 x5 x6 (fun r => Sum.elim (fun r => some ⟨.v (.one (.ifc 89 true (.pair (.int .i64) .unit) r)), []⟩) (fun r => some ⟨.v (.one (.raw (.nilIface))), []⟩) r) := by
  kernel_rfl
mutual
def s0 : Nat → Bool → ByteArray → Int → Bool → Int → Int → Int → ByteArray → Option (((Int × Unit)) ⊕ Unit)
  | 0, _, _, _, _, _, _, _, _ => none
  | k + 1, x0, x1, x2, x3, x4, x5, x6, x7 => s0c (values_Check.f k) (names_Check.f k) (s0 k) (s1 k) x0 x1 x2 x3 x4 x5 x6 x7 some
def s1 : Nat → ByteArray → Int → Bool → Int → Int → Int → ByteArray → Option (((Int × Unit)) ⊕ Unit)
  | 0, _, _, _, _, _, _, _ => none
  | k + 1, x0, x1, x2, x3, x4, x5, x6 => s1c (values_Check.f k) (names_Check.f k) (s0 k) (s1 k) x0 x1 x2 x3 x4 x5 x6 some
end
def f (k : Nat) (a0 : ByteArray) (a1 : Int) (a2 : Bool) (a3 : Int) (a4 : Int) (a5 : Int) (a6 : ByteArray) : Option (((Int × Unit)) ⊕ Unit) := c (values_Check.f k) (names_Check.f k) (s0 k) (s1 k) a0 a1 a2 a3 a4 a5 a6 some
theorem is {g42 : values_Check.G} {g51 : names_Check.G} {s0 : S0} {s1 : S1} : FnIs (env g42 g51 s0 s1) 52 f52 := ⟨func52, rfl, rfl, rfl, by decide⟩
theorem envok {g42 : values_Check.G} {g51 : names_Check.G} {s0 : S0} {s1 : S1} (h42 : CtOK prog 42 (values_Check.ct g42)) (h51 : CtOK prog 51 (names_Check.ct g51)) : EnvOK (env g42 g51 s0 s1).toEnv := by
  intro f c h
  simp only [env] at h
  split at h
  · rename_i e; subst e; cases h; exact h42
  split at h
  · rename_i e; subst e; cases h; exact h51
  simp at h
noncomputable abbrev E (k : Nat) : FEnv := env (values_Check.f k) (names_Check.f k) (s0 k) (s1 k)
theorem hE (k : Nat) : EnvOK (E k).toEnv := envok (values_Check.ok k) (names_Check.ok k)
theorem segs_ok : ∀ k, ∀ s ∈ (E k).segs, SegOK (E k) f52 s
  | 0 => by
    intro s hs
    simp only [E, env, List.mem_cons, List.not_mem_nil, or_false] at hs
    rcases hs with rfl | rfl
    · intro tvs blks res h; exfalso; simp only [sg0] at h; split at h <;> simp [s0] at h
    · intro tvs blks res h; exfalso; simp only [sg1] at h; split at h <;> simp [s1] at h
  | k + 1 => by
    intro s hs
    simp only [E, env, List.mem_cons, List.not_mem_nil, or_false] at hs
    rcases hs with rfl | rfl
    · refine seg_of_ev (E := E k) (hE k) ⟨is.rvs⟩ (segs_ok k) ?_
      intro tvs blks res h
      simp only [sg0] at h
      split at h
      · exact (s0_ev.trans s0c_bind).trans h
      · simp at h
    · refine seg_of_ev (E := E k) (hE k) ⟨is.rvs⟩ (segs_ok k) ?_
      intro tvs blks res h
      simp only [sg1] at h
      split at h
      · exact (s1_ev.trans s1c_bind).trans h
      · simp at h
theorem ok (k : Nat) : CtOK prog 52 (ct (f k)) := by
  refine ct_of_ev (E := E k) is (hE k) (segs_ok k) rfl ?_
  intro tvs blks res h
  simp only [ct] at h
  split at h
  · exact (ev.trans c_bind).trans h
  · simp at h
end schema_col
end Go.Proofs.YtdbbkmmillnaiaaGreatDoor.Aev
