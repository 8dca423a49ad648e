/- By a program of this session (AEV): functions of the program as plain functions, and that the machine does what they say. -/
import Derived.Test.YtddlebbjaadbeaaGreatDoorTys
import Derived.Test.YtddlebbjaadbeaaGreatDoorProg
import Derived.Laws.Externs
import Derived.Lib.Bytealg
import Derived.Test.YtddlebbjaadbeaaGreatDoorF1
namespace Go.Proofs.YtddlebbjaadbeaaGreatDoor.Aev
set_option linter.unusedVariables false
set_option linter.unusedSimpArgs false
set_option maxRecDepth 100000
set_option maxHeartbeats 4000000
open Go Go.Proofs.Tryz
namespace values_Check
abbrev G : Type := Int → Int → Int → ByteArray → Option Int
def ct (g : G) : Ct where
  nin := 0
  mv := []
  F := fun tvs blks {β} K => match tvs, blks with
    | [.v (.agg [(.d (.int .i64) a0), (.d (.int .i64) a1), (.d (.int .u64) a2), (.d .str a3)])], [] => (g a0 a1 a2 a3).bind fun r => K ⟨.v (.one (.d (.int .i64) r)), []⟩
    | _, _ => none
  legit := fun _ _ K _ h => by split at h; exact (legit1 K h :); simp at h
abbrev S0 : Type := Bool → Int → Int → Int → ByteArray → Option Int
abbrev S1 : Type := Bool → Int → Int → Int → ByteArray → Option Int
def sg0 (g : S0) : Seg where
  path := [1, 4, 0, 1]
  prep := []
  keep := [1, 3]
  F := fun tvs blks {β} K => match tvs, blks with
    | [.v (.one (.ptr 0 0)), .v (.one (.d .bool x0))], [some (.box [(.d (.int .i64) x1), (.d (.int .i64) x2), (.d (.int .u64) x3), (.d .str x4)])] => (g x0 x1 x2 x3 x4).bind fun r => K ⟨.v (.one (.d (.int .i64) r)), []⟩
    | _, _ => none
  legit := fun _ _ K _ h => by split at h; exact (legit1 K h :); simp at h
def sg1 (g : S1) : Seg where
  path := [1, 3, 1, 3, 1, 4, 0, 1]
  prep := []
  keep := [1, 17]
  F := fun tvs blks {β} K => match tvs, blks with
    | [.v (.one (.ptr 0 0)), .v (.one (.d .bool x0))], [some (.box [(.d (.int .i64) x1), (.d (.int .i64) x2), (.d (.int .u64) x3), (.d .str x4)])] => (g x0 x1 x2 x3 x4).bind fun r => K ⟨.v (.one (.d (.int .i64) r)), []⟩
    | _, _ => none
  legit := fun _ _ K _ h => by split at h; exact (legit1 K h :); simp at h
noncomputable def env (g73 : values_only.G) (g74 : reals_Canon.G) (g75 : utf_Valid.G) (s0 : S0) (s1 : S1) : FEnv := { P := prog, ct := fun m => if m = 73 then some (values_only.ct g73) else if m = 74 then some (reals_Canon.ct g74) else if m = 75 then some (utf_Valid.ct g75) else none, N := 53, body := f52.body.getD .skip, rvs := [.tmp 2], rts := [29], nin := 0, rmv := [], segs := [sg0 s0, sg1 s1] }
def c {β : Type} (g73 : values_only.G) (g74 : reals_Canon.G) (g75 : utf_Valid.G) (s0 : S0) (s1 : S1) (a0 : Int) (a1 : Int) (a2 : Int) (a3 : ByteArray) (ret : Int → Option β) : Option β := (bif (decide (a0 < (0 : Int))) then ((s0 true a0 a1 a2 a3).bind ret) else ((s0 (decide (a0 ≥ (6 : Int))) a0 a1 a2 a3).bind ret))
def s0c {β : Type} (g73 : values_only.G) (g74 : reals_Canon.G) (g75 : utf_Valid.G) (s0 : S0) (s1 : S1) (x0 : Bool) (x1 : Int) (x2 : Int) (x3 : Int) (x4 : ByteArray) (ret : Int → Option β) : Option β := (bif x0 then (ret ((5 : Int))) else ((g73 x1 x2 x3 x4).bind fun r0 => (bif (!((r0.1 == x1) && ((r0.2.1 == x2) && ((r0.2.2.1 == x3) && (((ByteArray.toList r0.2.2.2) == (ByteArray.toList x4)) && true))))) then (ret ((4 : Int))) else (bif (x1 == (1 : Int)) then (bif (x2 != (0 : Int)) then ((s1 (x2 != (1 : Int)) x1 x2 x3 x4).bind ret) else ((s1 false x1 x2 x3 x4).bind ret)) else ((s1 false x1 x2 x3 x4).bind ret)))))
def s1c {β : Type} (g73 : values_only.G) (g74 : reals_Canon.G) (g75 : utf_Valid.G) (s0 : S0) (s1 : S1) (x0 : Bool) (x1 : Int) (x2 : Int) (x3 : Int) (x4 : ByteArray) (ret : Int → Option β) : Option β := (bif x0 then (ret ((6 : Int))) else ((g74 x3).bind fun r0 => (bif (r0 != x3) then (ret ((4 : Int))) else (bif (decide (((ByteArray.size x4) : Int) > (64 : Int))) then (ret ((2 : Int))) else (bif (x1 == (5 : Int)) then ((g75 x4).bind fun r1 => (bif (!r1) then (ret ((7 : Int))) else (ret ((0 : Int))))) else (ret ((0 : Int))))))))
theorem c_bind {β : Type} {g73 : values_only.G} {g74 : reals_Canon.G} {g75 : utf_Valid.G} {s0 : S0} {s1 : S1} {a0 : Int} {a1 : Int} {a2 : Int} {a3 : ByteArray} {ret : Int → Option β} : c g73 g74 g75 s0 s1 a0 a1 a2 a3 ret = (c g73 g74 g75 s0 s1 a0 a1 a2 a3 some).bind ret := by
  simp only [c, bif_bind, sum_bind, oa, os, on, ofs]
theorem s0c_bind {β : Type} {g73 : values_only.G} {g74 : reals_Canon.G} {g75 : utf_Valid.G} {s0 : S0} {s1 : S1} {x0 : Bool} {x1 : Int} {x2 : Int} {x3 : Int} {x4 : ByteArray} {ret : Int → Option β} : s0c g73 g74 g75 s0 s1 x0 x1 x2 x3 x4 ret = (s0c g73 g74 g75 s0 s1 x0 x1 x2 x3 x4 some).bind ret := by
  simp only [s0c, bif_bind, sum_bind, oa, os, on, ofs]
theorem s1c_bind {β : Type} {g73 : values_only.G} {g74 : reals_Canon.G} {g75 : utf_Valid.G} {s0 : S0} {s1 : S1} {x0 : Bool} {x1 : Int} {x2 : Int} {x3 : Int} {x4 : ByteArray} {ret : Int → Option β} : s1c g73 g74 g75 s0 s1 x0 x1 x2 x3 x4 ret = (s1c g73 g74 g75 s0 s1 x0 x1 x2 x3 x4 some).bind ret := by
  simp only [s1c, bif_bind, sum_bind, oa, os, on, ofs]
theorem ev {g73 : values_only.G} {g74 : reals_Canon.G} {g75 : utf_Valid.G} {s0 : S0} {s1 : S1} {a0 : Int} {a1 : Int} {a2 : Int} {a3 : ByteArray} : evAt (env g73 g74 g75 s0 s1) [] [0] [.v (.agg [(.d (.int .i64) a0), (.d (.int .i64) a1), (.d (.int .u64) a2), (.d .str a3)])] [] some = c g73 g74 g75 s0 s1 a0 a1 a2 a3 (fun r => some ⟨.v (.one (.d (.int .i64) r)), []⟩) := by
  kernel_rfl
theorem s0_ev {g73 : values_only.G} {g74 : reals_Canon.G} {g75 : utf_Valid.G} {s0 : S0} {s1 : S1} {x0 : Bool} {x1 : Int} {x2 : Int} {x3 : Int} {x4 : ByteArray} : evAt (env g73 g74 g75 s0 s1) [1, 4, 0, 1] [1, 3] [.v (.one (.ptr 0 0)), .v (.one (.d .bool x0))] [some (.box [(.d (.int .i64) x1), (.d (.int .i64) x2), (.d (.int .u64) x3), (.d .str x4)])] some = s0c g73 g74 g75 s0 s1 x0 x1 x2 x3 x4 (fun r => some ⟨.v (.one (.d (.int .i64) r)), []⟩) := by
  kernel_rfl
theorem s1_ev {g73 : values_only.G} {g74 : reals_Canon.G} {g75 : utf_Valid.G} {s0 : S0} {s1 : S1} {x0 : Bool} {x1 : Int} {x2 : Int} {x3 : Int} {x4 : ByteArray} : evAt (env g73 g74 g75 s0 s1) [1, 3, 1, 3, 1, 4, 0, 1] [1, 17] [.v (.one (.ptr 0 0)), .v (.one (.d .bool x0))] [some (.box [(.d (.int .i64) x1), (.d (.int .i64) x2), (.d (.int .u64) x3), (.d .str x4)])] some = s1c g73 g74 g75 s0 s1 x0 x1 x2 x3 x4 (fun r => some ⟨.v (.one (.d (.int .i64) r)), []⟩) := by
  kernel_rfl
mutual
def s0 : Nat → Bool → Int → Int → Int → ByteArray → Option Int
  | 0, _, _, _, _, _ => none
  | k + 1, x0, x1, x2, x3, x4 => s0c (values_only.f k) (reals_Canon.f k) (utf_Valid.f k) (s0 k) (s1 k) x0 x1 x2 x3 x4 some
def s1 : Nat → Bool → Int → Int → Int → ByteArray → Option Int
  | 0, _, _, _, _, _ => none
  | k + 1, x0, x1, x2, x3, x4 => s1c (values_only.f k) (reals_Canon.f k) (utf_Valid.f k) (s0 k) (s1 k) x0 x1 x2 x3 x4 some
end
def f (k : Nat) (a0 : Int) (a1 : Int) (a2 : Int) (a3 : ByteArray) : Option Int := c (values_only.f k) (reals_Canon.f k) (utf_Valid.f k) (s0 k) (s1 k) a0 a1 a2 a3 some
theorem is {g73 : values_only.G} {g74 : reals_Canon.G} {g75 : utf_Valid.G} {s0 : S0} {s1 : S1} : FnIs (env g73 g74 g75 s0 s1) 52 f52 := ⟨func52, rfl, rfl, rfl, by decide⟩
theorem envok {g73 : values_only.G} {g74 : reals_Canon.G} {g75 : utf_Valid.G} {s0 : S0} {s1 : S1} (h73 : CtOK prog 73 (values_only.ct g73)) (h74 : CtOK prog 74 (reals_Canon.ct g74)) (h75 : CtOK prog 75 (utf_Valid.ct g75)) : EnvOK (env g73 g74 g75 s0 s1).toEnv := by
  intro f c h
  simp only [env] at h
  split at h
  · rename_i e; subst e; cases h; exact h73
  split at h
  · rename_i e; subst e; cases h; exact h74
  split at h
  · rename_i e; subst e; cases h; exact h75
  simp at h
noncomputable abbrev E (k : Nat) : FEnv := env (values_only.f k) (reals_Canon.f k) (utf_Valid.f k) (s0 k) (s1 k)
theorem hE (k : Nat) : EnvOK (E k).toEnv := envok (values_only.ok k) (reals_Canon.ok k) (utf_Valid.ok k)
theorem segs_ok : ∀ k, ∀ s ∈ (E k).segs, SegOK (E k) f52 s
  | 0 => by
    intro s hs
    simp only [E, env, List.mem_cons, List.not_mem_nil, or_false] at hs
    rcases hs with rfl | rfl
    · intro tvs blks res h; exfalso; simp only [sg0] at h; split at h <;> simp [s0] at h
    · intro tvs blks res h; exfalso; simp only [sg1] at h; split at h <;> simp [s1] at h
  | k + 1 => by
    intro s hs
    simp only [E, env, List.mem_cons, List.not_mem_nil, or_false] at hs
    rcases hs with rfl | rfl
    · refine seg_of_ev (E := E k) (hE k) ⟨is.rvs⟩ (segs_ok k) ?_
      intro tvs blks res h
      simp only [sg0] at h
      split at h
      · exact (s0_ev.trans s0c_bind).trans h
      · simp at h
    · refine seg_of_ev (E := E k) (hE k) ⟨is.rvs⟩ (segs_ok k) ?_
      intro tvs blks res h
      simp only [sg1] at h
      split at h
      · exact (s1_ev.trans s1c_bind).trans h
      · simp at h
theorem ok (k : Nat) : CtOK prog 52 (ct (f k)) := by
  refine ct_of_ev (E := E k) is (hE k) (segs_ok k) rfl ?_
  intro tvs blks res h
  simp only [ct] at h
  split at h
  · exact (ev.trans c_bind).trans h
  · simp at h
end values_Check
namespace names_Check
abbrev G : Type := ByteArray → Option Int
def ct (g : G) : Ct where
  nin := 0
  mv := []
  F := fun tvs blks {β} K => match tvs, blks with
    | [.v (.one (.d .str a0))], [] => (g a0).bind fun r => K ⟨.v (.one (.d (.int .i64) r)), []⟩
    | _, _ => none
  legit := fun _ _ K _ h => by split at h; exact (legit1 K h :); simp at h
abbrev S0 : Type := ByteArray → Bool → Option Int
abbrev S1 : Type := ByteArray → Option Int
abbrev S2 : Type := (List Int) → Int → Int → Option Int
abbrev S3 : Type := Int → Int → Bool → (List Int) → Int → Int → Option Int
abbrev S4 : Type := Int → Bool → Bool → (List Int) → Int → Int → Option Int
abbrev S5 : Type := (List Int) → Int → Int → Bool → Option Int
abbrev S6 : Type := (List Int) → Int → Int → Option Int
def sg0 (g : S0) : Seg where
  path := [1, 0, 1]
  prep := []
  keep := [0, 13]
  F := fun tvs blks {β} K => match tvs, blks with
    | [.v (.one (.d .str x0)), .v (.one (.d .bool x1))], [] => (g x0 x1).bind fun r => K ⟨.v (.one (.d (.int .i64) r)), []⟩
    | _, _ => none
  legit := fun _ _ K _ h => by split at h; exact (legit1 K h :); simp at h
def sg1 (g : S1) : Seg where
  path := [1, 1]
  prep := []
  keep := [0]
  F := fun tvs blks {β} K => match tvs, blks with
    | [.v (.one (.d .str x0))], [] => (g x0).bind fun r => K ⟨.v (.one (.d (.int .i64) r)), []⟩
    | _, _ => none
  legit := fun _ _ K _ h => by split at h; exact (legit1 K h :); simp at h
def sg2 (g : S2) : Seg where
  path := [4, 1, 0, 1, 1]
  prep := []
  keep := [15, 16, 17]
  F := fun tvs blks {β} K => match tvs, blks with
    | [.v (.one (.d (.sl (.int .u8)) x0)), .v (.one (.d (.int .i64) x1)), .v (.one (.d (.int .i64) x2))], [] => (g x0 x1 x2).bind fun r => K ⟨.v (.one (.d (.int .i64) r)), []⟩
    | _, _ => none
  legit := fun _ _ K _ h => by split at h; exact (legit1 K h :); simp at h
def sg3 (g : S3) : Seg where
  path := [1, 1, 4, 0, 1, 1, 5, 4, 1, 0, 1, 1]
  prep := []
  keep := [3, 4, 5, 15, 16, 17]
  F := fun tvs blks {β} K => match tvs, blks with
    | [.v (.one (.d (.int .i64) x0)), .v (.one (.d (.int .u8) x1)), .v (.one (.d .bool x2)), .v (.one (.d (.sl (.int .u8)) x3)), .v (.one (.d (.int .i64) x4)), .v (.one (.d (.int .i64) x5))], [] => (g x0 x1 x2 x3 x4 x5).bind fun r => K ⟨.v (.one (.d (.int .i64) r)), []⟩
    | _, _ => none
  legit := fun _ _ K _ h => by split at h; exact (legit1 K h :); simp at h
def sg4 (g : S4) : Seg where
  path := [1, 1, 1, 4, 0, 1, 1, 5, 4, 1, 0, 1, 1]
  prep := []
  keep := [3, 5, 6, 15, 16, 17]
  F := fun tvs blks {β} K => match tvs, blks with
    | [.v (.one (.d (.int .i64) x0)), .v (.one (.d .bool x1)), .v (.one (.d .bool x2)), .v (.one (.d (.sl (.int .u8)) x3)), .v (.one (.d (.int .i64) x4)), .v (.one (.d (.int .i64) x5))], [] => (g x0 x1 x2 x3 x4 x5).bind fun r => K ⟨.v (.one (.d (.int .i64) r)), []⟩
    | _, _ => none
  legit := fun _ _ K _ h => by split at h; exact (legit1 K h :); simp at h
def sg5 (g : S5) : Seg where
  path := [1, 1, 1, 1, 4, 0, 1, 1, 5, 4, 1, 0, 1, 1]
  prep := []
  keep := [15, 16, 17, 47]
  F := fun tvs blks {β} K => match tvs, blks with
    | [.v (.one (.d (.sl (.int .u8)) x0)), .v (.one (.d (.int .i64) x1)), .v (.one (.d (.int .i64) x2)), .v (.one (.d .bool x3))], [] => (g x0 x1 x2 x3).bind fun r => K ⟨.v (.one (.d (.int .i64) r)), []⟩
    | _, _ => none
  legit := fun _ _ K _ h => by split at h; exact (legit1 K h :); simp at h
def sg6 (g : S6) : Seg where
  path := [1, 1, 1, 5, 4, 1, 0, 1, 1]
  prep := []
  keep := [15, 16, 17]
  F := fun tvs blks {β} K => match tvs, blks with
    | [.v (.one (.d (.sl (.int .u8)) x0)), .v (.one (.d (.int .i64) x1)), .v (.one (.d (.int .i64) x2))], [] => (g x0 x1 x2).bind fun r => K ⟨.v (.one (.d (.int .i64) r)), []⟩
    | _, _ => none
  legit := fun _ _ K _ h => by split at h; exact (legit1 K h :); simp at h
noncomputable def env  (s0 : S0) (s1 : S1) (s2 : S2) (s3 : S3) (s4 : S4) (s5 : S5) (s6 : S6) : FEnv := { P := prog, ct := fun m => none, N := 49, body := f68.body.getD .skip, rvs := [.tmp 2], rts := [29], nin := 0, rmv := [], segs := [sg0 s0, sg1 s1, sg2 s2, sg3 s3, sg4 s4, sg5 s5, sg6 s6] }
def c {β : Type}  (s0 : S0) (s1 : S1) (s2 : S2) (s3 : S3) (s4 : S4) (s5 : S5) (s6 : S6) (a0 : ByteArray) (ret : Int → Option β) : Option β := (bif ((ByteArray.toList a0) == (ByteArray.toList (ByteArray.mk (List.toArray [])))) then ((s0 a0 true).bind ret) else ((s0 a0 (decide (((ByteArray.size a0) : Int) > (16 : Int)))).bind ret))
def s0c {β : Type}  (s0 : S0) (s1 : S1) (s2 : S2) (s3 : S3) (s4 : S4) (s5 : S5) (s6 : S6) (x0 : ByteArray) (x1 : Bool) (ret : Int → Option β) : Option β := (bif x1 then (ret ((8 : Int))) else ((s1 x0).bind ret))
def s1c {β : Type}  (s0 : S0) (s1 : S1) (s2 : S2) (s3 : S3) (s4 : S4) (s5 : S5) (s6 : S6) (x0 : ByteArray) (ret : Int → Option β) : Option β := ((s2 (List.map (fun b => ((UInt8.toNat b) : Int)) (Array.toList (ByteArray.data x0))) ((List.length (List.map (fun b => ((UInt8.toNat b) : Int)) (Array.toList (ByteArray.data x0)))) : Int) (0 : Int)).bind ret)
def s2c {β : Type}  (s0 : S0) (s1 : S1) (s2 : S2) (s3 : S3) (s4 : S4) (s5 : S5) (s6 : S6) (x0 : List Int) (x1 : Int) (x2 : Int) (ret : Int → Option β) : Option β := (bif (decide (x2 < x1)) then (bif ((decide ((0 : Int) ≤ x2)) && (decide (x2 < ((List.length x0) : Int)))) then (bif (decide ((elem (Ty.int IntKind.u8) x0 x2) ≥ (97 : Int))) then ((s3 x2 (elem (Ty.int IntKind.u8) x0 x2) (decide ((elem (Ty.int IntKind.u8) x0 x2) ≤ (122 : Int))) x0 x1 x2).bind ret) else ((s3 x2 (elem (Ty.int IntKind.u8) x0 x2) false x0 x1 x2).bind ret)) else none) else (ret ((0 : Int))))
def s3c {β : Type}  (s0 : S0) (s1 : S1) (s2 : S2) (s3 : S3) (s4 : S4) (s5 : S5) (s6 : S6) (x0 : Int) (x1 : Int) (x2 : Bool) (x3 : List Int) (x4 : Int) (x5 : Int) (ret : Int → Option β) : Option β := (bif (decide (x1 ≥ (48 : Int))) then (bif (decide (x1 ≤ (57 : Int))) then ((s4 x0 x2 true x3 x4 x5).bind ret) else ((s4 x0 x2 (x1 == (95 : Int)) x3 x4 x5).bind ret)) else ((s4 x0 x2 (x1 == (95 : Int)) x3 x4 x5).bind ret))
def s4c {β : Type}  (s0 : S0) (s1 : S1) (s2 : S2) (s3 : S3) (s4 : S4) (s5 : S5) (s6 : S6) (x0 : Int) (x1 : Bool) (x2 : Bool) (x3 : List Int) (x4 : Int) (x5 : Int) (ret : Int → Option β) : Option β := (bif (!x1) then (bif (x0 == (0 : Int)) then ((s5 x3 x4 x5 true).bind ret) else ((s5 x3 x4 x5 (!x2)).bind ret)) else ((s5 x3 x4 x5 false).bind ret))
def s5c {β : Type}  (s0 : S0) (s1 : S1) (s2 : S2) (s3 : S3) (s4 : S4) (s5 : S5) (s6 : S6) (x0 : List Int) (x1 : Int) (x2 : Int) (x3 : Bool) (ret : Int → Option β) : Option β := (bif x3 then (ret ((8 : Int))) else ((s6 x0 x1 x2).bind ret))
def s6c {β : Type}  (s0 : S0) (s1 : S1) (s2 : S2) (s3 : S3) (s4 : S4) (s5 : S5) (s6 : S6) (x0 : List Int) (x1 : Int) (x2 : Int) (ret : Int → Option β) : Option β := ((s2 x0 x1 (IntKind.wrap IntKind.i64 (x2 + (1 : Int)))).bind ret)
theorem c_bind {β : Type}  {s0 : S0} {s1 : S1} {s2 : S2} {s3 : S3} {s4 : S4} {s5 : S5} {s6 : S6} {a0 : ByteArray} {ret : Int → Option β} : c  s0 s1 s2 s3 s4 s5 s6 a0 ret = (c  s0 s1 s2 s3 s4 s5 s6 a0 some).bind ret := by
  simp only [c, bif_bind, sum_bind, oa, os, on, ofs]
theorem s0c_bind {β : Type}  {s0 : S0} {s1 : S1} {s2 : S2} {s3 : S3} {s4 : S4} {s5 : S5} {s6 : S6} {x0 : ByteArray} {x1 : Bool} {ret : Int → Option β} : s0c  s0 s1 s2 s3 s4 s5 s6 x0 x1 ret = (s0c  s0 s1 s2 s3 s4 s5 s6 x0 x1 some).bind ret := by
  simp only [s0c, bif_bind, sum_bind, oa, os, on, ofs]
theorem s1c_bind {β : Type}  {s0 : S0} {s1 : S1} {s2 : S2} {s3 : S3} {s4 : S4} {s5 : S5} {s6 : S6} {x0 : ByteArray} {ret : Int → Option β} : s1c  s0 s1 s2 s3 s4 s5 s6 x0 ret = (s1c  s0 s1 s2 s3 s4 s5 s6 x0 some).bind ret := by
  simp only [s1c, bif_bind, sum_bind, oa, os, on, ofs]
theorem s2c_bind {β : Type}  {s0 : S0} {s1 : S1} {s2 : S2} {s3 : S3} {s4 : S4} {s5 : S5} {s6 : S6} {x0 : List Int} {x1 : Int} {x2 : Int} {ret : Int → Option β} : s2c  s0 s1 s2 s3 s4 s5 s6 x0 x1 x2 ret = (s2c  s0 s1 s2 s3 s4 s5 s6 x0 x1 x2 some).bind ret := by
  simp only [s2c, bif_bind, sum_bind, oa, os, on, ofs]
theorem s3c_bind {β : Type}  {s0 : S0} {s1 : S1} {s2 : S2} {s3 : S3} {s4 : S4} {s5 : S5} {s6 : S6} {x0 : Int} {x1 : Int} {x2 : Bool} {x3 : List Int} {x4 : Int} {x5 : Int} {ret : Int → Option β} : s3c  s0 s1 s2 s3 s4 s5 s6 x0 x1 x2 x3 x4 x5 ret = (s3c  s0 s1 s2 s3 s4 s5 s6 x0 x1 x2 x3 x4 x5 some).bind ret := by
  simp only [s3c, bif_bind, sum_bind, oa, os, on, ofs]
theorem s4c_bind {β : Type}  {s0 : S0} {s1 : S1} {s2 : S2} {s3 : S3} {s4 : S4} {s5 : S5} {s6 : S6} {x0 : Int} {x1 : Bool} {x2 : Bool} {x3 : List Int} {x4 : Int} {x5 : Int} {ret : Int → Option β} : s4c  s0 s1 s2 s3 s4 s5 s6 x0 x1 x2 x3 x4 x5 ret = (s4c  s0 s1 s2 s3 s4 s5 s6 x0 x1 x2 x3 x4 x5 some).bind ret := by
  simp only [s4c, bif_bind, sum_bind, oa, os, on, ofs]
theorem s5c_bind {β : Type}  {s0 : S0} {s1 : S1} {s2 : S2} {s3 : S3} {s4 : S4} {s5 : S5} {s6 : S6} {x0 : List Int} {x1 : Int} {x2 : Int} {x3 : Bool} {ret : Int → Option β} : s5c  s0 s1 s2 s3 s4 s5 s6 x0 x1 x2 x3 ret = (s5c  s0 s1 s2 s3 s4 s5 s6 x0 x1 x2 x3 some).bind ret := by
  simp only [s5c, bif_bind, sum_bind, oa, os, on, ofs]
theorem s6c_bind {β : Type}  {s0 : S0} {s1 : S1} {s2 : S2} {s3 : S3} {s4 : S4} {s5 : S5} {s6 : S6} {x0 : List Int} {x1 : Int} {x2 : Int} {ret : Int → Option β} : s6c  s0 s1 s2 s3 s4 s5 s6 x0 x1 x2 ret = (s6c  s0 s1 s2 s3 s4 s5 s6 x0 x1 x2 some).bind ret := by
  simp only [s6c, bif_bind, sum_bind, oa, os, on, ofs]
theorem ev  {s0 : S0} {s1 : S1} {s2 : S2} {s3 : S3} {s4 : S4} {s5 : S5} {s6 : S6} {a0 : ByteArray} : evAt (env  s0 s1 s2 s3 s4 s5 s6) [] [0] [.v (.one (.d .str a0))] [] some = c  s0 s1 s2 s3 s4 s5 s6 a0 (fun r => some ⟨.v (.one (.d (.int .i64) r)), []⟩) := by
  kernel_rfl
theorem s0_ev  {s0 : S0} {s1 : S1} {s2 : S2} {s3 : S3} {s4 : S4} {s5 : S5} {s6 : S6} {x0 : ByteArray} {x1 : Bool} : evAt (env  s0 s1 s2 s3 s4 s5 s6) [1, 0, 1] [0, 13] [.v (.one (.d .str x0)), .v (.one (.d .bool x1))] [] some = s0c  s0 s1 s2 s3 s4 s5 s6 x0 x1 (fun r => some ⟨.v (.one (.d (.int .i64) r)), []⟩) := by
  kernel_rfl
theorem s1_ev  {s0 : S0} {s1 : S1} {s2 : S2} {s3 : S3} {s4 : S4} {s5 : S5} {s6 : S6} {x0 : ByteArray} : evAt (env  s0 s1 s2 s3 s4 s5 s6) [1, 1] [0] [.v (.one (.d .str x0))] [] some = s1c  s0 s1 s2 s3 s4 s5 s6 x0 (fun r => some ⟨.v (.one (.d (.int .i64) r)), []⟩) := by
  kernel_rfl
theorem s2_ev  {s0 : S0} {s1 : S1} {s2 : S2} {s3 : S3} {s4 : S4} {s5 : S5} {s6 : S6} {x0 : List Int} {x1 : Int} {x2 : Int} : evAt (env  s0 s1 s2 s3 s4 s5 s6) [4, 1, 0, 1, 1] [15, 16, 17] [.v (.one (.d (.sl (.int .u8)) x0)), .v (.one (.d (.int .i64) x1)), .v (.one (.d (.int .i64) x2))] [] some = s2c  s0 s1 s2 s3 s4 s5 s6 x0 x1 x2 (fun r => some ⟨.v (.one (.d (.int .i64) r)), []⟩) := by
  kernel_rfl
theorem s3_ev  {s0 : S0} {s1 : S1} {s2 : S2} {s3 : S3} {s4 : S4} {s5 : S5} {s6 : S6} {x0 : Int} {x1 : Int} {x2 : Bool} {x3 : List Int} {x4 : Int} {x5 : Int} : evAt (env  s0 s1 s2 s3 s4 s5 s6) [1, 1, 4, 0, 1, 1, 5, 4, 1, 0, 1, 1] [3, 4, 5, 15, 16, 17] [.v (.one (.d (.int .i64) x0)), .v (.one (.d (.int .u8) x1)), .v (.one (.d .bool x2)), .v (.one (.d (.sl (.int .u8)) x3)), .v (.one (.d (.int .i64) x4)), .v (.one (.d (.int .i64) x5))] [] some = s3c  s0 s1 s2 s3 s4 s5 s6 x0 x1 x2 x3 x4 x5 (fun r => some ⟨.v (.one (.d (.int .i64) r)), []⟩) := by
  kernel_rfl
theorem s4_ev  {s0 : S0} {s1 : S1} {s2 : S2} {s3 : S3} {s4 : S4} {s5 : S5} {s6 : S6} {x0 : Int} {x1 : Bool} {x2 : Bool} {x3 : List Int} {x4 : Int} {x5 : Int} : evAt (env  s0 s1 s2 s3 s4 s5 s6) [1, 1, 1, 4, 0, 1, 1, 5, 4, 1, 0, 1, 1] [3, 5, 6, 15, 16, 17] [.v (.one (.d (.int .i64) x0)), .v (.one (.d .bool x1)), .v (.one (.d .bool x2)), .v (.one (.d (.sl (.int .u8)) x3)), .v (.one (.d (.int .i64) x4)), .v (.one (.d (.int .i64) x5))] [] some = s4c  s0 s1 s2 s3 s4 s5 s6 x0 x1 x2 x3 x4 x5 (fun r => some ⟨.v (.one (.d (.int .i64) r)), []⟩) := by
  kernel_rfl
theorem s5_ev  {s0 : S0} {s1 : S1} {s2 : S2} {s3 : S3} {s4 : S4} {s5 : S5} {s6 : S6} {x0 : List Int} {x1 : Int} {x2 : Int} {x3 : Bool} : evAt (env  s0 s1 s2 s3 s4 s5 s6) [1, 1, 1, 1, 4, 0, 1, 1, 5, 4, 1, 0, 1, 1] [15, 16, 17, 47] [.v (.one (.d (.sl (.int .u8)) x0)), .v (.one (.d (.int .i64) x1)), .v (.one (.d (.int .i64) x2)), .v (.one (.d .bool x3))] [] some = s5c  s0 s1 s2 s3 s4 s5 s6 x0 x1 x2 x3 (fun r => some ⟨.v (.one (.d (.int .i64) r)), []⟩) := by
  kernel_rfl
theorem s6_ev  {s0 : S0} {s1 : S1} {s2 : S2} {s3 : S3} {s4 : S4} {s5 : S5} {s6 : S6} {x0 : List Int} {x1 : Int} {x2 : Int} : evAt (env  s0 s1 s2 s3 s4 s5 s6) [1, 1, 1, 5, 4, 1, 0, 1, 1] [15, 16, 17] [.v (.one (.d (.sl (.int .u8)) x0)), .v (.one (.d (.int .i64) x1)), .v (.one (.d (.int .i64) x2))] [] some = s6c  s0 s1 s2 s3 s4 s5 s6 x0 x1 x2 (fun r => some ⟨.v (.one (.d (.int .i64) r)), []⟩) := by
  kernel_rfl
mutual
def s0 : Nat → ByteArray → Bool → Option Int
  | 0, _, _ => none
  | k + 1, x0, x1 => s0c  (s0 k) (s1 k) (s2 k) (s3 k) (s4 k) (s5 k) (s6 k) x0 x1 some
def s1 : Nat → ByteArray → Option Int
  | 0, _ => none
  | k + 1, x0 => s1c  (s0 k) (s1 k) (s2 k) (s3 k) (s4 k) (s5 k) (s6 k) x0 some
def s2 : Nat → (List Int) → Int → Int → Option Int
  | 0, _, _, _ => none
  | k + 1, x0, x1, x2 => s2c  (s0 k) (s1 k) (s2 k) (s3 k) (s4 k) (s5 k) (s6 k) x0 x1 x2 some
def s3 : Nat → Int → Int → Bool → (List Int) → Int → Int → Option Int
  | 0, _, _, _, _, _, _ => none
  | k + 1, x0, x1, x2, x3, x4, x5 => s3c  (s0 k) (s1 k) (s2 k) (s3 k) (s4 k) (s5 k) (s6 k) x0 x1 x2 x3 x4 x5 some
def s4 : Nat → Int → Bool → Bool → (List Int) → Int → Int → Option Int
  | 0, _, _, _, _, _, _ => none
  | k + 1, x0, x1, x2, x3, x4, x5 => s4c  (s0 k) (s1 k) (s2 k) (s3 k) (s4 k) (s5 k) (s6 k) x0 x1 x2 x3 x4 x5 some
def s5 : Nat → (List Int) → Int → Int → Bool → Option Int
  | 0, _, _, _, _ => none
  | k + 1, x0, x1, x2, x3 => s5c  (s0 k) (s1 k) (s2 k) (s3 k) (s4 k) (s5 k) (s6 k) x0 x1 x2 x3 some
def s6 : Nat → (List Int) → Int → Int → Option Int
  | 0, _, _, _ => none
  | k + 1, x0, x1, x2 => s6c  (s0 k) (s1 k) (s2 k) (s3 k) (s4 k) (s5 k) (s6 k) x0 x1 x2 some
end
def f (k : Nat) (a0 : ByteArray) : Option Int := c  (s0 k) (s1 k) (s2 k) (s3 k) (s4 k) (s5 k) (s6 k) a0 some
theorem is  {s0 : S0} {s1 : S1} {s2 : S2} {s3 : S3} {s4 : S4} {s5 : S5} {s6 : S6} : FnIs (env  s0 s1 s2 s3 s4 s5 s6) 68 f68 := ⟨func68, rfl, rfl, rfl, by decide⟩
theorem envok  {s0 : S0} {s1 : S1} {s2 : S2} {s3 : S3} {s4 : S4} {s5 : S5} {s6 : S6}  : EnvOK (env  s0 s1 s2 s3 s4 s5 s6).toEnv := by
  intro f c h
  simp only [env] at h
  simp at h
noncomputable abbrev E (k : Nat) : FEnv := env  (s0 k) (s1 k) (s2 k) (s3 k) (s4 k) (s5 k) (s6 k)
theorem hE (k : Nat) : EnvOK (E k).toEnv := envok 
theorem segs_ok : ∀ k, ∀ s ∈ (E k).segs, SegOK (E k) f68 s
  | 0 => by
    intro s hs
    simp only [E, env, List.mem_cons, List.not_mem_nil, or_false] at hs
    rcases hs with rfl | rfl | rfl | rfl | rfl | rfl | rfl
    · intro tvs blks res h; exfalso; simp only [sg0] at h; split at h <;> simp [s0] at h
    · intro tvs blks res h; exfalso; simp only [sg1] at h; split at h <;> simp [s1] at h
    · intro tvs blks res h; exfalso; simp only [sg2] at h; split at h <;> simp [s2] at h
    · intro tvs blks res h; exfalso; simp only [sg3] at h; split at h <;> simp [s3] at h
    · intro tvs blks res h; exfalso; simp only [sg4] at h; split at h <;> simp [s4] at h
    · intro tvs blks res h; exfalso; simp only [sg5] at h; split at h <;> simp [s5] at h
    · intro tvs blks res h; exfalso; simp only [sg6] at h; split at h <;> simp [s6] at h
  | k + 1 => by
    intro s hs
    simp only [E, env, List.mem_cons, List.not_mem_nil, or_false] at hs
    rcases hs with rfl | rfl | rfl | rfl | rfl | rfl | rfl
    · refine seg_of_ev (E := E k) (hE k) ⟨is.rvs⟩ (segs_ok k) ?_
      intro tvs blks res h
      simp only [sg0] at h
      split at h
      · exact (s0_ev.trans s0c_bind).trans h
      · simp at h
    · refine seg_of_ev (E := E k) (hE k) ⟨is.rvs⟩ (segs_ok k) ?_
      intro tvs blks res h
      simp only [sg1] at h
      split at h
      · exact (s1_ev.trans s1c_bind).trans h
      · simp at h
    · refine seg_of_ev (E := E k) (hE k) ⟨is.rvs⟩ (segs_ok k) ?_
      intro tvs blks res h
      simp only [sg2] at h
      split at h
      · exact (s2_ev.trans s2c_bind).trans h
      · simp at h
    · refine seg_of_ev (E := E k) (hE k) ⟨is.rvs⟩ (segs_ok k) ?_
      intro tvs blks res h
      simp only [sg3] at h
      split at h
      · exact (s3_ev.trans s3c_bind).trans h
      · simp at h
    · refine seg_of_ev (E := E k) (hE k) ⟨is.rvs⟩ (segs_ok k) ?_
      intro tvs blks res h
      simp only [sg4] at h
      split at h
      · exact (s4_ev.trans s4c_bind).trans h
      · simp at h
    · refine seg_of_ev (E := E k) (hE k) ⟨is.rvs⟩ (segs_ok k) ?_
      intro tvs blks res h
      simp only [sg5] at h
      split at h
      · exact (s5_ev.trans s5c_bind).trans h
      · simp at h
    · refine seg_of_ev (E := E k) (hE k) ⟨is.rvs⟩ (segs_ok k) ?_
      intro tvs blks res h
      simp only [sg6] at h
      split at h
      · exact (s6_ev.trans s6c_bind).trans h
      · simp at h
theorem ok (k : Nat) : CtOK prog 68 (ct (f k)) := by
  refine ct_of_ev (E := E k) is (hE k) (segs_ok k) rfl ?_
  intro tvs blks res h
  simp only [ct] at h
  split at h
  · exact (ev.trans c_bind).trans h
  · simp at h
end names_Check
namespace schema_col
abbrev G : Type := ByteArray → Int → Bool → Int → Int → Int → ByteArray → Option (((Int × Unit)) ⊕ Unit)
def ct (g : G) : Ct where
  nin := 0
  mv := []
  F := fun tvs blks {β} K => match tvs, blks with
    | [.v (.agg [(.d .str a0), (.d (.int .i64) a1), (.d .bool a2), (.d (.int .i64) a3), (.d (.int .i64) a4), (.d (.int .u64) a5), (.d .str a6)])], [] => (g a0 a1 a2 a3 a4 a5 a6).bind fun r => Sum.elim (fun r => K ⟨.v (.one (.ifc 105 true (.pair (.int .i64) .unit) r)), []⟩) (fun r => K ⟨.v (.one (.raw (.nilIface))), []⟩) r
    | _, _ => none
  legit := fun tvs blks K r h => by
    split at h
    · obtain ⟨x, hx, hk⟩ := Option.bind_eq_some_iff.1 h
      rcases x with x | x <;> (simp only [Sum.elim_inl, Sum.elim_inr] at hk; exact ⟨_, by simp only [hx, Option.bind_some, Sum.elim_inl, Sum.elim_inr], hk⟩)
    · simp at h
abbrev S0 : Type := Bool → ByteArray → Int → Bool → Int → Int → Int → ByteArray → Option (((Int × Unit)) ⊕ Unit)
abbrev S1 : Type := ByteArray → Int → Bool → Int → Int → Int → ByteArray → Option (((Int × Unit)) ⊕ Unit)
def sg0 (g : S0) : Seg where
  path := [1, 0, 1, 1]
  prep := []
  keep := [1, 21]
  F := fun tvs blks {β} K => match tvs, blks with
    | [.v (.one (.ptr 0 0)), .v (.one (.d .bool x0))], [some (.box [(.d .str x1), (.d (.int .i64) x2), (.d .bool x3), (.d (.int .i64) x4), (.d (.int .i64) x5), (.d (.int .u64) x6), (.d .str x7)])] => (g x0 x1 x2 x3 x4 x5 x6 x7).bind fun r => Sum.elim (fun r => K ⟨.v (.one (.ifc 105 true (.pair (.int .i64) .unit) r)), []⟩) (fun r => K ⟨.v (.one (.raw (.nilIface))), []⟩) r
    | _, _ => none
  legit := fun tvs blks K r h => by
    split at h
    · obtain ⟨x, hx, hk⟩ := Option.bind_eq_some_iff.1 h
      rcases x with x | x <;> (simp only [Sum.elim_inl, Sum.elim_inr] at hk; exact ⟨_, by simp only [hx, Option.bind_some, Sum.elim_inl, Sum.elim_inr], hk⟩)
    · simp at h
def sg1 (g : S1) : Seg where
  path := [1, 1, 1]
  prep := []
  keep := [1]
  F := fun tvs blks {β} K => match tvs, blks with
    | [.v (.one (.ptr 0 0))], [some (.box [(.d .str x0), (.d (.int .i64) x1), (.d .bool x2), (.d (.int .i64) x3), (.d (.int .i64) x4), (.d (.int .u64) x5), (.d .str x6)])] => (g x0 x1 x2 x3 x4 x5 x6).bind fun r => Sum.elim (fun r => K ⟨.v (.one (.ifc 105 true (.pair (.int .i64) .unit) r)), []⟩) (fun r => K ⟨.v (.one (.raw (.nilIface))), []⟩) r
    | _, _ => none
  legit := fun tvs blks K r h => by
    split at h
    · obtain ⟨x, hx, hk⟩ := Option.bind_eq_some_iff.1 h
      rcases x with x | x <;> (simp only [Sum.elim_inl, Sum.elim_inr] at hk; exact ⟨_, by simp only [hx, Option.bind_some, Sum.elim_inl, Sum.elim_inr], hk⟩)
    · simp at h
noncomputable def env (g52 : values_Check.G) (g68 : names_Check.G) (s0 : S0) (s1 : S1) : FEnv := { P := prog, ct := fun m => if m = 52 then some (values_Check.ct g52) else if m = 68 then some (names_Check.ct g68) else none, N := 45, body := f51.body.getD .skip, rvs := [.tmp 2], rts := [82], nin := 0, rmv := [], segs := [sg0 s0, sg1 s1] }
def c {β : Type} (g52 : values_Check.G) (g68 : names_Check.G) (s0 : S0) (s1 : S1) (a0 : ByteArray) (a1 : Int) (a2 : Bool) (a3 : Int) (a4 : Int) (a5 : Int) (a6 : ByteArray) (ret : (((Int × Unit)) ⊕ Unit) → Option β) : Option β := ((g68 a0).bind fun r0 => (bif (r0 != (0 : Int)) then (ret (.inl ((r0, ())))) else (bif (decide (a1 < (1 : Int))) then ((s0 true a0 a1 a2 a3 a4 a5 a6).bind ret) else ((s0 (decide (a1 > (5 : Int))) a0 a1 a2 a3 a4 a5 a6).bind ret))))
def s0c {β : Type} (g52 : values_Check.G) (g68 : names_Check.G) (s0 : S0) (s1 : S1) (x0 : Bool) (x1 : ByteArray) (x2 : Int) (x3 : Bool) (x4 : Int) (x5 : Int) (x6 : Int) (x7 : ByteArray) (ret : (((Int × Unit)) ⊕ Unit) → Option β) : Option β := (bif x0 then (ret (.inl (((5 : Int), ())))) else ((s1 x1 x2 x3 x4 x5 x6 x7).bind ret))
def s1c {β : Type} (g52 : values_Check.G) (g68 : names_Check.G) (s0 : S0) (s1 : S1) (x0 : ByteArray) (x1 : Int) (x2 : Bool) (x3 : Int) (x4 : Int) (x5 : Int) (x6 : ByteArray) (ret : (((Int × Unit)) ⊕ Unit) → Option β) : Option β := ((g52 x3 x4 x5 x6).bind fun r0 => (bif (r0 != (0 : Int)) then (ret (.inl ((r0, ())))) else (bif (x3 != (0 : Int)) then (bif (x3 != x1) then (ret (.inl (((11 : Int), ())))) else (ret (.inr ()))) else (ret (.inr ())))))
theorem c_bind {β : Type} {g52 : values_Check.G} {g68 : names_Check.G} {s0 : S0} {s1 : S1} {a0 : ByteArray} {a1 : Int} {a2 : Bool} {a3 : Int} {a4 : Int} {a5 : Int} {a6 : ByteArray} {ret : (((Int × Unit)) ⊕ Unit) → Option β} : c g52 g68 s0 s1 a0 a1 a2 a3 a4 a5 a6 ret = (c g52 g68 s0 s1 a0 a1 a2 a3 a4 a5 a6 some).bind ret := by
  simp only [c, bif_bind, sum_bind, oa, os, on, ofs]
theorem s0c_bind {β : Type} {g52 : values_Check.G} {g68 : names_Check.G} {s0 : S0} {s1 : S1} {x0 : Bool} {x1 : ByteArray} {x2 : Int} {x3 : Bool} {x4 : Int} {x5 : Int} {x6 : Int} {x7 : ByteArray} {ret : (((Int × Unit)) ⊕ Unit) → Option β} : s0c g52 g68 s0 s1 x0 x1 x2 x3 x4 x5 x6 x7 ret = (s0c g52 g68 s0 s1 x0 x1 x2 x3 x4 x5 x6 x7 some).bind ret := by
  simp only [s0c, bif_bind, sum_bind, oa, os, on, ofs]
theorem s1c_bind {β : Type} {g52 : values_Check.G} {g68 : names_Check.G} {s0 : S0} {s1 : S1} {x0 : ByteArray} {x1 : Int} {x2 : Bool} {x3 : Int} {x4 : Int} {x5 : Int} {x6 : ByteArray} {ret : (((Int × Unit)) ⊕ Unit) → Option β} : s1c g52 g68 s0 s1 x0 x1 x2 x3 x4 x5 x6 ret = (s1c g52 g68 s0 s1 x0 x1 x2 x3 x4 x5 x6 some).bind ret := by
  simp only [s1c, bif_bind, sum_bind, oa, os, on, ofs]
theorem ev {g52 : values_Check.G} {g68 : names_Check.G} {s0 : S0} {s1 : S1} {a0 : ByteArray} {a1 : Int} {a2 : Bool} {a3 : Int} {a4 : Int} {a5 : Int} {a6 : ByteArray} : evAt (env g52 g68 s0 s1) [] [0] [.v (.agg [(.d .str a0), (.d (.int .i64) a1), (.d .bool a2), (.d (.int .i64) a3), (.d (.int .i64) a4), (.d (.int .u64) a5), (.d .str a6)])] [] some = c g52 g68 s0 s1 a0 a1 a2 a3 a4 a5 a6 (fun r => Sum.elim (fun r => some ⟨.v (.one (.ifc 105 true (.pair (.int .i64) .unit) r)), []⟩) (fun r => some ⟨.v (.one (.raw (.nilIface))), []⟩) r) := by
  kernel_rfl
theorem s0_ev {g52 : values_Check.G} {g68 : names_Check.G} {s0 : S0} {s1 : S1} {x0 : Bool} {x1 : ByteArray} {x2 : Int} {x3 : Bool} {x4 : Int} {x5 : Int} {x6 : Int} {x7 : ByteArray} : evAt (env g52 g68 s0 s1) [1, 0, 1, 1] [1, 21] [.v (.one (.ptr 0 0)), .v (.one (.d .bool x0))] [some (.box [(.d .str x1), (.d (.int .i64) x2), (.d .bool x3), (.d (.int .i64) x4), (.d (.int .i64) x5), (.d (.int .u64) x6), (.d .str x7)])] some = s0c g52 g68 s0 s1 x0 x1 x2 x3 x4 x5 x6 x7 (fun r => Sum.elim (fun r => some ⟨.v (.one (.ifc 105 true (.pair (.int .i64) .unit) r)), []⟩) (fun r => some ⟨.v (.one (.raw (.nilIface))), []⟩) r) := by
  kernel_rfl
theorem s1_ev {g52 : values_Check.G} {g68 : names_Check.G} {s0 : S0} {s1 : S1} {x0 : ByteArray} {x1 : Int} {x2 : Bool} {x3 : Int} {x4 : Int} {x5 : Int} {x6 : ByteArray} : evAt (env g52 g68 s0 s1) [1, 1, 1] [1] [.v (.one (.ptr 0 0))] [some (.box [(.d .str x0), (.d (.int .i64) x1), (.d .bool x2), (.d (.int .i64) x3), (.d (.int .i64) x4), (.d (.int .u64) x5), (.d .str x6)])] some = s1c g52 g68 s0 s1 x0 x1 x2 x3 x4 x5 x6 (fun r => Sum.elim (fun r => some ⟨.v (.one (.ifc 105 true (.pair (.int .i64) .unit) r)), []⟩) (fun r => some ⟨.v (.one (.raw (.nilIface))), []⟩) r) := by
  kernel_rfl
mutual
def s0 : Nat → Bool → ByteArray → Int → Bool → Int → Int → Int → ByteArray → Option (((Int × Unit)) ⊕ Unit)
  | 0, _, _, _, _, _, _, _, _ => none
  | k + 1, x0, x1, x2, x3, x4, x5, x6, x7 => s0c (values_Check.f k) (names_Check.f k) (s0 k) (s1 k) x0 x1 x2 x3 x4 x5 x6 x7 some
def s1 : Nat → ByteArray → Int → Bool → Int → Int → Int → ByteArray → Option (((Int × Unit)) ⊕ Unit)
  | 0, _, _, _, _, _, _, _ => none
  | k + 1, x0, x1, x2, x3, x4, x5, x6 => s1c (values_Check.f k) (names_Check.f k) (s0 k) (s1 k) x0 x1 x2 x3 x4 x5 x6 some
end
def f (k : Nat) (a0 : ByteArray) (a1 : Int) (a2 : Bool) (a3 : Int) (a4 : Int) (a5 : Int) (a6 : ByteArray) : Option (((Int × Unit)) ⊕ Unit) := c (values_Check.f k) (names_Check.f k) (s0 k) (s1 k) a0 a1 a2 a3 a4 a5 a6 some
theorem is {g52 : values_Check.G} {g68 : names_Check.G} {s0 : S0} {s1 : S1} : FnIs (env g52 g68 s0 s1) 51 f51 := ⟨func51, rfl, rfl, rfl, by decide⟩
theorem envok {g52 : values_Check.G} {g68 : names_Check.G} {s0 : S0} {s1 : S1} (h52 : CtOK prog 52 (values_Check.ct g52)) (h68 : CtOK prog 68 (names_Check.ct g68)) : EnvOK (env g52 g68 s0 s1).toEnv := by
  intro f c h
  simp only [env] at h
  split at h
  · rename_i e; subst e; cases h; exact h52
  split at h
  · rename_i e; subst e; cases h; exact h68
  simp at h
noncomputable abbrev E (k : Nat) : FEnv := env (values_Check.f k) (names_Check.f k) (s0 k) (s1 k)
theorem hE (k : Nat) : EnvOK (E k).toEnv := envok (values_Check.ok k) (names_Check.ok k)
theorem segs_ok : ∀ k, ∀ s ∈ (E k).segs, SegOK (E k) f51 s
  | 0 => by
    intro s hs
    simp only [E, env, List.mem_cons, List.not_mem_nil, or_false] at hs
    rcases hs with rfl | rfl
    · intro tvs blks res h; exfalso; simp only [sg0] at h; split at h <;> simp [s0] at h
    · intro tvs blks res h; exfalso; simp only [sg1] at h; split at h <;> simp [s1] at h
  | k + 1 => by
    intro s hs
    simp only [E, env, List.mem_cons, List.not_mem_nil, or_false] at hs
    rcases hs with rfl | rfl
    · refine seg_of_ev (E := E k) (hE k) ⟨is.rvs⟩ (segs_ok k) ?_
      intro tvs blks res h
      simp only [sg0] at h
      split at h
      · exact (s0_ev.trans s0c_bind).trans h
      · simp at h
    · refine seg_of_ev (E := E k) (hE k) ⟨is.rvs⟩ (segs_ok k) ?_
      intro tvs blks res h
      simp only [sg1] at h
      split at h
      · exact (s1_ev.trans s1c_bind).trans h
      · simp at h
theorem ok (k : Nat) : CtOK prog 51 (ct (f k)) := by
  refine ct_of_ev (E := E k) is (hE k) (segs_ok k) rfl ?_
  intro tvs blks res h
  simp only [ct] at h
  split at h
  · exact (ev.trans c_bind).trans h
  · simp at h
end schema_col
end Go.Proofs.YtddlebbjaadbeaaGreatDoor.Aev
