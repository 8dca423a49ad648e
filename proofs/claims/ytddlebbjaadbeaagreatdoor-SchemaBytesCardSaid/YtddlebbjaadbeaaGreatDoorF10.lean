/- By a program of this session (AEV): functions of the program as plain functions, and that the machine does what they say. -/
import Derived.Test.YtddlebbjaadbeaaGreatDoorTys
import Derived.Test.YtddlebbjaadbeaaGreatDoorProg
import Derived.Laws.Externs
import Derived.Lib.Bytealg
import Derived.Test.YtddlebbjaadbeaaGreatDoorF4
import Derived.Test.YtddlebbjaadbeaaGreatDoorF5
import Derived.Test.YtddlebbjaadbeaaGreatDoorF6
import Derived.Test.YtddlebbjaadbeaaGreatDoorF9
namespace Go.Proofs.YtddlebbjaadbeaaGreatDoor.Aev
set_option linter.unusedVariables false
set_option linter.unusedSimpArgs false
set_option maxRecDepth 100000
set_option maxHeartbeats 4000000
open Go Go.Proofs.Tryz
namespace transomlaw09_awake
abbrev G : Type := Option Bool
def ct (g : G) : Ct where
  nin := 0
  mv := []
  F := fun tvs blks {β} K => match tvs, blks with
    | [], [] => (g ).bind fun r => K ⟨.v (.one (.d .bool r)), []⟩
    | _, _ => none
  legit := fun _ _ K _ h => by split at h; exact (legit1 K h :); simp at h
noncomputable def env (g8 : schema_Key.G) (g10 : schema_Fits.G) (g12 : schema_FitsKey.G) (g14 : schema_Put.G) (g16 : schema_Read.G) (g20 : transomlaw09_Plain.G) (g21 : schema_Same.G) (g22 : schema_Check.G) (g23 : schema_Find.G) (g24 : schema_CheckCol.G)  : FEnv := { P := prog, ct := fun m => if m = 8 then some (schema_Key.ct g8) else if m = 10 then some (schema_Fits.ct g10) else if m = 12 then some (schema_FitsKey.ct g12) else if m = 14 then some (schema_Put.ct g14) else if m = 16 then some (schema_Read.ct g16) else if m = 20 then some (transomlaw09_Plain.ct g20) else if m = 21 then some (schema_Same.ct g21) else if m = 22 then some (schema_Check.ct g22) else if m = 23 then some (schema_Find.ct g23) else if m = 24 then some (schema_CheckCol.ct g24) else none, N := 93, body := f7.body.getD .skip, rvs := [.tmp 0], rts := [4], nin := 0, rmv := [], segs := [] }
def c {β : Type} (g8 : schema_Key.G) (g10 : schema_Fits.G) (g12 : schema_FitsKey.G) (g14 : schema_Put.G) (g16 : schema_Read.G) (g20 : transomlaw09_Plain.G) (g21 : schema_Same.G) (g22 : schema_Check.G) (g23 : schema_Find.G) (g24 : schema_CheckCol.G)   (ret : Bool → Option β) : Option β := (g20.bind fun r0 => ((g8 r0.1 r0.2.1 r0.2.2 [((2 : Int), ((1 : Int), ((0 : Int), ((ByteArray.mk (List.toArray [])), ())))), ((0 : Int), ((0 : Int), ((0 : Int), ((ByteArray.mk (List.toArray [])), ()))))]).bind fun r1 => ((g14 r0.1 r0.2.1 r0.2.2).bind fun r2 => (bif ((decide ((ByteArray.size r2.1) ≤ (4611686018427387903 : Nat))) && true) then ((g16 (r2.1 ++ (ByteArray.mk (List.toArray [(122 : UInt8)])))).bind fun r3 => (bif (true && (decide ((0 : Int) < ((List.length r0.2.2) : Int)))) then (bif (((ByteArray.size r1.1) : Int) == (9 : Int)) then (bif (r1.2 == (0 : Int)) then (bif (r2.2 == (0 : Int)) then (g20.bind fun r4 => ((g21 r3.1 r3.2.1 r3.2.2.1 r4.1 r4.2.1 r4.2.2).bind fun r5 => (bif r5 then (bif ((ByteArray.toList r3.2.2.2.1) == (ByteArray.toList (ByteArray.mk (List.toArray [(122 : UInt8)])))) then (bif (r3.2.2.2.2 == (0 : Int)) then ((g22 r0.1 r0.2.1 (List.set r0.2.2 (0 : Nat) ((elem T_api_Col r0.2.2 (0 : Int)).1, ((elem T_api_Col r0.2.2 (0 : Int)).2.1, (true, (((elem T_api_Col r0.2.2 (0 : Int)).2.2.2.1.1, ((elem T_api_Col r0.2.2 (0 : Int)).2.2.2.1.2.1, ((elem T_api_Col r0.2.2 (0 : Int)).2.2.2.1.2.2.1, ((elem T_api_Col r0.2.2 (0 : Int)).2.2.2.1.2.2.2.1, ())))), ())))))).bind fun r6 => (bif (r6 == (11 : Int)) then ((g10 r3.1 r3.2.1 r3.2.2.1 [((0 : Int), ((0 : Int), ((0 : Int), ((ByteArray.mk (List.toArray [])), ())))), ((0 : Int), ((0 : Int), ((0 : Int), ((ByteArray.mk (List.toArray [])), ()))))]).bind fun r7 => (bif (r7 == (11 : Int)) then ((g12 r3.1 r3.2.1 r3.2.2.1 [] false).bind fun r8 => (bif (r8 == (0 : Int)) then ((g12 r3.1 r3.2.1 r3.2.2.1 [] true).bind fun r9 => (bif (r9 == (11 : Int)) then ((g23 r3.1 r3.2.1 r3.2.2.1 (ByteArray.mk (List.toArray [(118 : UInt8)]))).bind fun r10 => (bif (r10 == (1 : Int)) then ((g24 (ByteArray.mk (List.toArray [(97 : UInt8)])) (6 : Int) false (0 : Int) (0 : Int) (0 : Int) (ByteArray.mk (List.toArray []))).bind fun r11 => (ret ((r11 == (5 : Int))))) else (ret (false)))) else (ret (false)))) else (ret (false)))) else (ret (false)))) else (ret (false)))) else (ret (false))) else (ret (false))) else (ret (false))))) else (ret (false))) else (ret (false))) else (ret (false))) else none)) else none))))
theorem c_bind {β : Type} {g8 : schema_Key.G} {g10 : schema_Fits.G} {g12 : schema_FitsKey.G} {g14 : schema_Put.G} {g16 : schema_Read.G} {g20 : transomlaw09_Plain.G} {g21 : schema_Same.G} {g22 : schema_Check.G} {g23 : schema_Find.G} {g24 : schema_CheckCol.G}   {ret : Bool → Option β} : c g8 g10 g12 g14 g16 g20 g21 g22 g23 g24   ret = (c g8 g10 g12 g14 g16 g20 g21 g22 g23 g24   some).bind ret := by
  simp only [c, bif_bind, sum_bind, oa, os, on, ofs]
theorem ev {g8 : schema_Key.G} {g10 : schema_Fits.G} {g12 : schema_FitsKey.G} {g14 : schema_Put.G} {g16 : schema_Read.G} {g20 : transomlaw09_Plain.G} {g21 : schema_Same.G} {g22 : schema_Check.G} {g23 : schema_Find.G} {g24 : schema_CheckCol.G}   : evAt (env g8 g10 g12 g14 g16 g20 g21 g22 g23 g24 ) [] [] [] [] some = c g8 g10 g12 g14 g16 g20 g21 g22 g23 g24   (fun r => some ⟨.v (.one (.d .bool r)), []⟩) := by
  kernel_rfl
def f (k : Nat)  : Option Bool := c (schema_Key.f k) (schema_Fits.f k) (schema_FitsKey.f k) (schema_Put.f k) (schema_Read.f k) (transomlaw09_Plain.f k) (schema_Same.f k) (schema_Check.f k) (schema_Find.f k) (schema_CheckCol.f k)   some
theorem is {g8 : schema_Key.G} {g10 : schema_Fits.G} {g12 : schema_FitsKey.G} {g14 : schema_Put.G} {g16 : schema_Read.G} {g20 : transomlaw09_Plain.G} {g21 : schema_Same.G} {g22 : schema_Check.G} {g23 : schema_Find.G} {g24 : schema_CheckCol.G}  : FnIs (env g8 g10 g12 g14 g16 g20 g21 g22 g23 g24 ) 7 f7 := ⟨func7, rfl, rfl, rfl, by decide⟩
theorem envok {g8 : schema_Key.G} {g10 : schema_Fits.G} {g12 : schema_FitsKey.G} {g14 : schema_Put.G} {g16 : schema_Read.G} {g20 : transomlaw09_Plain.G} {g21 : schema_Same.G} {g22 : schema_Check.G} {g23 : schema_Find.G} {g24 : schema_CheckCol.G}  (h8 : CtOK prog 8 (schema_Key.ct g8)) (h10 : CtOK prog 10 (schema_Fits.ct g10)) (h12 : CtOK prog 12 (schema_FitsKey.ct g12)) (h14 : CtOK prog 14 (schema_Put.ct g14)) (h16 : CtOK prog 16 (schema_Read.ct g16)) (h20 : CtOK prog 20 (transomlaw09_Plain.ct g20)) (h21 : CtOK prog 21 (schema_Same.ct g21)) (h22 : CtOK prog 22 (schema_Check.ct g22)) (h23 : CtOK prog 23 (schema_Find.ct g23)) (h24 : CtOK prog 24 (schema_CheckCol.ct g24)) : EnvOK (env g8 g10 g12 g14 g16 g20 g21 g22 g23 g24 ).toEnv := by
  intro f c h
  simp only [env] at h
  split at h
  · rename_i e; subst e; cases h; exact h8
  split at h
  · rename_i e; subst e; cases h; exact h10
  split at h
  · rename_i e; subst e; cases h; exact h12
  split at h
  · rename_i e; subst e; cases h; exact h14
  split at h
  · rename_i e; subst e; cases h; exact h16
  split at h
  · rename_i e; subst e; cases h; exact h20
  split at h
  · rename_i e; subst e; cases h; exact h21
  split at h
  · rename_i e; subst e; cases h; exact h22
  split at h
  · rename_i e; subst e; cases h; exact h23
  split at h
  · rename_i e; subst e; cases h; exact h24
  simp at h
noncomputable abbrev E (k : Nat) : FEnv := env (schema_Key.f k) (schema_Fits.f k) (schema_FitsKey.f k) (schema_Put.f k) (schema_Read.f k) (transomlaw09_Plain.f k) (schema_Same.f k) (schema_Check.f k) (schema_Find.f k) (schema_CheckCol.f k) 
theorem hE (k : Nat) : EnvOK (E k).toEnv := envok (schema_Key.ok k) (schema_Fits.ok k) (schema_FitsKey.ok k) (schema_Put.ok k) (schema_Read.ok k) (transomlaw09_Plain.ok k) (schema_Same.ok k) (schema_Check.ok k) (schema_Find.ok k) (schema_CheckCol.ok k)
theorem ok (k : Nat) : CtOK prog 7 (ct (f k)) := by
  refine ct_of_ev (E := E k) is (hE k) (fun s hs => by simp [E, env] at hs) rfl ?_
  intro tvs blks res h
  simp only [ct] at h
  split at h
  · exact (ev.trans c_bind).trans h
  · simp at h
end transomlaw09_awake
namespace transomref08_letter
abbrev G : Type := Int → Option Bool
def ct (g : G) : Ct where
  nin := 0
  mv := []
  F := fun tvs blks {β} K => match tvs, blks with
    | [.v (.one (.d (.int .u8) a0))], [] => (g a0).bind fun r => K ⟨.v (.one (.d .bool r)), []⟩
    | _, _ => none
  legit := fun _ _ K _ h => by split at h; exact (legit1 K h :); simp at h
noncomputable def env   : FEnv := { P := prog, ct := fun m => none, N := 9, body := f79.body.getD .skip, rvs := [.tmp 2], rts := [4], nin := 0, rmv := [], segs := [] }
def c {β : Type}   (a0 : Int) (ret : Bool → Option β) : Option β := (bif (decide (a0 ≥ (97 : Int))) then (ret ((decide (a0 ≤ (122 : Int))))) else (ret (false)))
theorem c_bind {β : Type}   {a0 : Int} {ret : Bool → Option β} : c   a0 ret = (c   a0 some).bind ret := by
  simp only [c, bif_bind, sum_bind, oa, os, on, ofs]
theorem ev   {a0 : Int} : evAt (env  ) [] [0] [.v (.one (.d (.int .u8) a0))] [] some = c   a0 (fun r => some ⟨.v (.one (.d .bool r)), []⟩) := by
  kernel_rfl
def f (k : Nat) (a0 : Int) : Option Bool := c   a0 some
theorem is   : FnIs (env  ) 79 f79 := ⟨func79, rfl, rfl, rfl, by decide⟩
theorem envok    : EnvOK (env  ).toEnv := by
  intro f c h
  simp only [env] at h
  simp at h
noncomputable abbrev E (k : Nat) : FEnv := env  
theorem hE (k : Nat) : EnvOK (E k).toEnv := envok 
theorem ok (k : Nat) : CtOK prog 79 (ct (f k)) := by
  refine ct_of_ev (E := E k) is (hE k) (fun s hs => by simp [E, env] at hs) rfl ?_
  intro tvs blks res h
  simp only [ct] at h
  split at h
  · exact (ev.trans c_bind).trans h
  · simp at h
end transomref08_letter
namespace transomref08_Check
abbrev G : Type := ByteArray → Option Int
def ct (g : G) : Ct where
  nin := 0
  mv := []
  F := fun tvs blks {β} K => match tvs, blks with
    | [.v (.one (.d .str a0))], [] => (g a0).bind fun r => K ⟨.v (.one (.d (.int .i64) r)), []⟩
    | _, _ => none
  legit := fun _ _ K _ h => by split at h; exact (legit1 K h :); simp at h
abbrev S0 : Type := ByteArray → Bool → Option Int
abbrev S1 : Type := ByteArray → Option Int
abbrev S2 : Type := ByteArray → Int → Option Int
abbrev S3 : Type := ByteArray → Int → Bool → Option Int
abbrev S4 : Type := ByteArray → Int → Option Int
def sg0 (g : S0) : Seg where
  path := [1, 0, 1]
  prep := []
  keep := [0, 17]
  F := fun tvs blks {β} K => match tvs, blks with
    | [.v (.one (.d .str x0)), .v (.one (.d .bool x1))], [] => (g x0 x1).bind fun r => K ⟨.v (.one (.d (.int .i64) r)), []⟩
    | _, _ => none
  legit := fun _ _ K _ h => by split at h; exact (legit1 K h :); simp at h
def sg1 (g : S1) : Seg where
  path := [1, 1]
  prep := []
  keep := [0]
  F := fun tvs blks {β} K => match tvs, blks with
    | [.v (.one (.d .str x0))], [] => (g x0).bind fun r => K ⟨.v (.one (.d (.int .i64) r)), []⟩
    | _, _ => none
  legit := fun _ _ K _ h => by split at h; exact (legit1 K h :); simp at h
def sg2 (g : S2) : Seg where
  path := [4, 1, 0, 1, 1]
  prep := []
  keep := [0, 3]
  F := fun tvs blks {β} K => match tvs, blks with
    | [.v (.one (.d .str x0)), .v (.one (.d (.int .i64) x1))], [] => (g x0 x1).bind fun r => K ⟨.v (.one (.d (.int .i64) r)), []⟩
    | _, _ => none
  legit := fun _ _ K _ h => by split at h; exact (legit1 K h :); simp at h
def sg3 (g : S3) : Seg where
  path := [1, 4, 0, 1, 5, 4, 1, 0, 1, 1]
  prep := []
  keep := [0, 3, 46]
  F := fun tvs blks {β} K => match tvs, blks with
    | [.v (.one (.d .str x0)), .v (.one (.d (.int .i64) x1)), .v (.one (.d .bool x2))], [] => (g x0 x1 x2).bind fun r => K ⟨.v (.one (.d (.int .i64) r)), []⟩
    | _, _ => none
  legit := fun _ _ K _ h => by split at h; exact (legit1 K h :); simp at h
def sg4 (g : S4) : Seg where
  path := [1, 1, 5, 4, 1, 0, 1, 1]
  prep := []
  keep := [0, 3]
  F := fun tvs blks {β} K => match tvs, blks with
    | [.v (.one (.d .str x0)), .v (.one (.d (.int .i64) x1))], [] => (g x0 x1).bind fun r => K ⟨.v (.one (.d (.int .i64) r)), []⟩
    | _, _ => none
  legit := fun _ _ K _ h => by split at h; exact (legit1 K h :); simp at h
noncomputable def env (g79 : transomref08_letter.G) (s0 : S0) (s1 : S1) (s2 : S2) (s3 : S3) (s4 : S4) : FEnv := { P := prog, ct := fun m => if m = 79 then some (transomref08_letter.ct g79) else none, N := 47, body := f54.body.getD .skip, rvs := [.tmp 2], rts := [3], nin := 0, rmv := [], segs := [sg0 s0, sg1 s1, sg2 s2, sg3 s3, sg4 s4] }
def c {β : Type} (g79 : transomref08_letter.G) (s0 : S0) (s1 : S1) (s2 : S2) (s3 : S3) (s4 : S4) (a0 : ByteArray) (ret : Int → Option β) : Option β := (bif (decide (((ByteArray.size a0) : Int) < (1 : Int))) then ((s0 a0 true).bind ret) else (bif (decide (((ByteArray.size a0) : Int) > (16 : Int))) then ((s0 a0 true).bind ret) else (bif (true && (decide ((0 : Int) < ((ByteArray.size a0) : Int)))) then ((g79 (bt a0 (0 : Int))).bind fun r0 => ((s0 a0 (!r0)).bind ret)) else none)))
def s0c {β : Type} (g79 : transomref08_letter.G) (s0 : S0) (s1 : S1) (s2 : S2) (s3 : S3) (s4 : S4) (x0 : ByteArray) (x1 : Bool) (ret : Int → Option β) : Option β := (bif x1 then (ret ((8 : Int))) else ((s1 x0).bind ret))
def s1c {β : Type} (g79 : transomref08_letter.G) (s0 : S0) (s1 : S1) (s2 : S2) (s3 : S3) (s4 : S4) (x0 : ByteArray) (ret : Int → Option β) : Option β := ((s2 x0 (1 : Int)).bind ret)
def s2c {β : Type} (g79 : transomref08_letter.G) (s0 : S0) (s1 : S1) (s2 : S2) (s3 : S3) (s4 : S4) (x0 : ByteArray) (x1 : Int) (ret : Int → Option β) : Option β := (bif (decide (x1 < ((ByteArray.size x0) : Int))) then (bif ((decide ((0 : Int) ≤ x1)) && (decide (x1 < ((ByteArray.size x0) : Int)))) then ((g79 (bt x0 x1)).bind fun r0 => (bif (!r0) then (bif ((decide ((0 : Int) ≤ x1)) && (decide (x1 < ((ByteArray.size x0) : Int)))) then (bif ((bt x0 x1) != (95 : Int)) then (bif ((decide ((0 : Int) ≤ x1)) && (decide (x1 < ((ByteArray.size x0) : Int)))) then (bif (decide ((bt x0 x1) < (48 : Int))) then ((s3 x0 x1 true).bind ret) else (bif ((decide ((0 : Int) ≤ x1)) && (decide (x1 < ((ByteArray.size x0) : Int)))) then ((s3 x0 x1 (decide ((bt x0 x1) > (57 : Int)))).bind ret) else none)) else none) else ((s3 x0 x1 false).bind ret)) else none) else ((s3 x0 x1 false).bind ret))) else none) else (ret ((0 : Int))))
def s3c {β : Type} (g79 : transomref08_letter.G) (s0 : S0) (s1 : S1) (s2 : S2) (s3 : S3) (s4 : S4) (x0 : ByteArray) (x1 : Int) (x2 : Bool) (ret : Int → Option β) : Option β := (bif x2 then (ret ((8 : Int))) else ((s4 x0 x1).bind ret))
def s4c {β : Type} (g79 : transomref08_letter.G) (s0 : S0) (s1 : S1) (s2 : S2) (s3 : S3) (s4 : S4) (x0 : ByteArray) (x1 : Int) (ret : Int → Option β) : Option β := ((s2 x0 (IntKind.wrap IntKind.i64 (x1 + (1 : Int)))).bind ret)
theorem c_bind {β : Type} {g79 : transomref08_letter.G} {s0 : S0} {s1 : S1} {s2 : S2} {s3 : S3} {s4 : S4} {a0 : ByteArray} {ret : Int → Option β} : c g79 s0 s1 s2 s3 s4 a0 ret = (c g79 s0 s1 s2 s3 s4 a0 some).bind ret := by
  simp only [c, bif_bind, sum_bind, oa, os, on, ofs]
theorem s0c_bind {β : Type} {g79 : transomref08_letter.G} {s0 : S0} {s1 : S1} {s2 : S2} {s3 : S3} {s4 : S4} {x0 : ByteArray} {x1 : Bool} {ret : Int → Option β} : s0c g79 s0 s1 s2 s3 s4 x0 x1 ret = (s0c g79 s0 s1 s2 s3 s4 x0 x1 some).bind ret := by
  simp only [s0c, bif_bind, sum_bind, oa, os, on, ofs]
theorem s1c_bind {β : Type} {g79 : transomref08_letter.G} {s0 : S0} {s1 : S1} {s2 : S2} {s3 : S3} {s4 : S4} {x0 : ByteArray} {ret : Int → Option β} : s1c g79 s0 s1 s2 s3 s4 x0 ret = (s1c g79 s0 s1 s2 s3 s4 x0 some).bind ret := by
  simp only [s1c, bif_bind, sum_bind, oa, os, on, ofs]
theorem s2c_bind {β : Type} {g79 : transomref08_letter.G} {s0 : S0} {s1 : S1} {s2 : S2} {s3 : S3} {s4 : S4} {x0 : ByteArray} {x1 : Int} {ret : Int → Option β} : s2c g79 s0 s1 s2 s3 s4 x0 x1 ret = (s2c g79 s0 s1 s2 s3 s4 x0 x1 some).bind ret := by
  simp only [s2c, bif_bind, sum_bind, oa, os, on, ofs]
theorem s3c_bind {β : Type} {g79 : transomref08_letter.G} {s0 : S0} {s1 : S1} {s2 : S2} {s3 : S3} {s4 : S4} {x0 : ByteArray} {x1 : Int} {x2 : Bool} {ret : Int → Option β} : s3c g79 s0 s1 s2 s3 s4 x0 x1 x2 ret = (s3c g79 s0 s1 s2 s3 s4 x0 x1 x2 some).bind ret := by
  simp only [s3c, bif_bind, sum_bind, oa, os, on, ofs]
theorem s4c_bind {β : Type} {g79 : transomref08_letter.G} {s0 : S0} {s1 : S1} {s2 : S2} {s3 : S3} {s4 : S4} {x0 : ByteArray} {x1 : Int} {ret : Int → Option β} : s4c g79 s0 s1 s2 s3 s4 x0 x1 ret = (s4c g79 s0 s1 s2 s3 s4 x0 x1 some).bind ret := by
  simp only [s4c, bif_bind, sum_bind, oa, os, on, ofs]
theorem ev {g79 : transomref08_letter.G} {s0 : S0} {s1 : S1} {s2 : S2} {s3 : S3} {s4 : S4} {a0 : ByteArray} : evAt (env g79 s0 s1 s2 s3 s4) [] [0] [.v (.one (.d .str a0))] [] some = c g79 s0 s1 s2 s3 s4 a0 (fun r => some ⟨.v (.one (.d (.int .i64) r)), []⟩) := by
  kernel_rfl
theorem s0_ev {g79 : transomref08_letter.G} {s0 : S0} {s1 : S1} {s2 : S2} {s3 : S3} {s4 : S4} {x0 : ByteArray} {x1 : Bool} : evAt (env g79 s0 s1 s2 s3 s4) [1, 0, 1] [0, 17] [.v (.one (.d .str x0)), .v (.one (.d .bool x1))] [] some = s0c g79 s0 s1 s2 s3 s4 x0 x1 (fun r => some ⟨.v (.one (.d (.int .i64) r)), []⟩) := by
  kernel_rfl
theorem s1_ev {g79 : transomref08_letter.G} {s0 : S0} {s1 : S1} {s2 : S2} {s3 : S3} {s4 : S4} {x0 : ByteArray} : evAt (env g79 s0 s1 s2 s3 s4) [1, 1] [0] [.v (.one (.d .str x0))] [] some = s1c g79 s0 s1 s2 s3 s4 x0 (fun r => some ⟨.v (.one (.d (.int .i64) r)), []⟩) := by
  kernel_rfl
theorem s2_ev {g79 : transomref08_letter.G} {s0 : S0} {s1 : S1} {s2 : S2} {s3 : S3} {s4 : S4} {x0 : ByteArray} {x1 : Int} : evAt (env g79 s0 s1 s2 s3 s4) [4, 1, 0, 1, 1] [0, 3] [.v (.one (.d .str x0)), .v (.one (.d (.int .i64) x1))] [] some = s2c g79 s0 s1 s2 s3 s4 x0 x1 (fun r => some ⟨.v (.one (.d (.int .i64) r)), []⟩) := by
  kernel_rfl
theorem s3_ev {g79 : transomref08_letter.G} {s0 : S0} {s1 : S1} {s2 : S2} {s3 : S3} {s4 : S4} {x0 : ByteArray} {x1 : Int} {x2 : Bool} : evAt (env g79 s0 s1 s2 s3 s4) [1, 4, 0, 1, 5, 4, 1, 0, 1, 1] [0, 3, 46] [.v (.one (.d .str x0)), .v (.one (.d (.int .i64) x1)), .v (.one (.d .bool x2))] [] some = s3c g79 s0 s1 s2 s3 s4 x0 x1 x2 (fun r => some ⟨.v (.one (.d (.int .i64) r)), []⟩) := by
  kernel_rfl
theorem s4_ev {g79 : transomref08_letter.G} {s0 : S0} {s1 : S1} {s2 : S2} {s3 : S3} {s4 : S4} {x0 : ByteArray} {x1 : Int} : evAt (env g79 s0 s1 s2 s3 s4) [1, 1, 5, 4, 1, 0, 1, 1] [0, 3] [.v (.one (.d .str x0)), .v (.one (.d (.int .i64) x1))] [] some = s4c g79 s0 s1 s2 s3 s4 x0 x1 (fun r => some ⟨.v (.one (.d (.int .i64) r)), []⟩) := by
  kernel_rfl
mutual
def s0 : Nat → ByteArray → Bool → Option Int
  | 0, _, _ => none
  | k + 1, x0, x1 => s0c (transomref08_letter.f k) (s0 k) (s1 k) (s2 k) (s3 k) (s4 k) x0 x1 some
def s1 : Nat → ByteArray → Option Int
  | 0, _ => none
  | k + 1, x0 => s1c (transomref08_letter.f k) (s0 k) (s1 k) (s2 k) (s3 k) (s4 k) x0 some
def s2 : Nat → ByteArray → Int → Option Int
  | 0, _, _ => none
  | k + 1, x0, x1 => s2c (transomref08_letter.f k) (s0 k) (s1 k) (s2 k) (s3 k) (s4 k) x0 x1 some
def s3 : Nat → ByteArray → Int → Bool → Option Int
  | 0, _, _, _ => none
  | k + 1, x0, x1, x2 => s3c (transomref08_letter.f k) (s0 k) (s1 k) (s2 k) (s3 k) (s4 k) x0 x1 x2 some
def s4 : Nat → ByteArray → Int → Option Int
  | 0, _, _ => none
  | k + 1, x0, x1 => s4c (transomref08_letter.f k) (s0 k) (s1 k) (s2 k) (s3 k) (s4 k) x0 x1 some
end
def f (k : Nat) (a0 : ByteArray) : Option Int := c (transomref08_letter.f k) (s0 k) (s1 k) (s2 k) (s3 k) (s4 k) a0 some
theorem is {g79 : transomref08_letter.G} {s0 : S0} {s1 : S1} {s2 : S2} {s3 : S3} {s4 : S4} : FnIs (env g79 s0 s1 s2 s3 s4) 54 f54 := ⟨func54, rfl, rfl, rfl, by decide⟩
theorem envok {g79 : transomref08_letter.G} {s0 : S0} {s1 : S1} {s2 : S2} {s3 : S3} {s4 : S4} (h79 : CtOK prog 79 (transomref08_letter.ct g79)) : EnvOK (env g79 s0 s1 s2 s3 s4).toEnv := by
  intro f c h
  simp only [env] at h
  split at h
  · rename_i e; subst e; cases h; exact h79
  simp at h
noncomputable abbrev E (k : Nat) : FEnv := env (transomref08_letter.f k) (s0 k) (s1 k) (s2 k) (s3 k) (s4 k)
theorem hE (k : Nat) : EnvOK (E k).toEnv := envok (transomref08_letter.ok k)
theorem segs_ok : ∀ k, ∀ s ∈ (E k).segs, SegOK (E k) f54 s
  | 0 => by
    intro s hs
    simp only [E, env, List.mem_cons, List.not_mem_nil, or_false] at hs
    rcases hs with rfl | rfl | rfl | rfl | rfl
    · intro tvs blks res h; exfalso; simp only [sg0] at h; split at h <;> simp [s0] at h
    · intro tvs blks res h; exfalso; simp only [sg1] at h; split at h <;> simp [s1] at h
    · intro tvs blks res h; exfalso; simp only [sg2] at h; split at h <;> simp [s2] at h
    · intro tvs blks res h; exfalso; simp only [sg3] at h; split at h <;> simp [s3] at h
    · intro tvs blks res h; exfalso; simp only [sg4] at h; split at h <;> simp [s4] at h
  | k + 1 => by
    intro s hs
    simp only [E, env, List.mem_cons, List.not_mem_nil, or_false] at hs
    rcases hs with rfl | rfl | rfl | rfl | rfl
    · refine seg_of_ev (E := E k) (hE k) ⟨is.rvs⟩ (segs_ok k) ?_
      intro tvs blks res h
      simp only [sg0] at h
      split at h
      · exact (s0_ev.trans s0c_bind).trans h
      · simp at h
    · refine seg_of_ev (E := E k) (hE k) ⟨is.rvs⟩ (segs_ok k) ?_
      intro tvs blks res h
      simp only [sg1] at h
      split at h
      · exact (s1_ev.trans s1c_bind).trans h
      · simp at h
    · refine seg_of_ev (E := E k) (hE k) ⟨is.rvs⟩ (segs_ok k) ?_
      intro tvs blks res h
      simp only [sg2] at h
      split at h
      · exact (s2_ev.trans s2c_bind).trans h
      · simp at h
    · refine seg_of_ev (E := E k) (hE k) ⟨is.rvs⟩ (segs_ok k) ?_
      intro tvs blks res h
      simp only [sg3] at h
      split at h
      · exact (s3_ev.trans s3c_bind).trans h
      · simp at h
    · refine seg_of_ev (E := E k) (hE k) ⟨is.rvs⟩ (segs_ok k) ?_
      intro tvs blks res h
      simp only [sg4] at h
      split at h
      · exact (s4_ev.trans s4c_bind).trans h
      · simp at h
theorem ok (k : Nat) : CtOK prog 54 (ct (f k)) := by
  refine ct_of_ev (E := E k) is (hE k) (segs_ok k) rfl ?_
  intro tvs blks res h
  simp only [ct] at h
  split at h
  · exact (ev.trans c_bind).trans h
  · simp at h
end transomref08_Check
namespace transomref02_exponent
abbrev G : Type := Int → Option Int
def ct (g : G) : Ct where
  nin := 0
  mv := []
  F := fun tvs blks {β} K => match tvs, blks with
    | [.v (.one (.d (.int .u64) a0))], [] => (g a0).bind fun r => K ⟨.v (.one (.d (.int .i64) r)), []⟩
    | _, _ => none
  legit := fun _ _ K _ h => by split at h; exact (legit1 K h :); simp at h
noncomputable def env   : FEnv := { P := prog, ct := fun m => none, N := 7, body := f108.body.getD .skip, rvs := [.tmp 2], rts := [3], nin := 0, rmv := [], segs := [] }
def c {β : Type}   (a0 : Int) (ret : Int → Option β) : Option β := (ret ((IntKind.wrap IntKind.i64 (IntKind.wrap IntKind.u64 ((BitVec.toNat ((BitVec.ofInt (64 : Nat) (Int.fdiv a0 (4503599627370496 : Int))) &&& (BitVec.ofInt (64 : Nat) (2047 : Int)))) : Int)))))
theorem c_bind {β : Type}   {a0 : Int} {ret : Int → Option β} : c   a0 ret = (c   a0 some).bind ret := by
  simp only [c, bif_bind, sum_bind, oa, os, on, ofs]
theorem ev   {a0 : Int} : evAt (env  ) [] [0] [.v (.one (.d (.int .u64) a0))] [] some = c   a0 (fun r => some ⟨.v (.one (.d (.int .i64) r)), []⟩) := by
  kernel_rfl
def f (k : Nat) (a0 : Int) : Option Int := c   a0 some
theorem is   : FnIs (env  ) 108 f108 := ⟨func108, rfl, rfl, rfl, by decide⟩
theorem envok    : EnvOK (env  ).toEnv := by
  intro f c h
  simp only [env] at h
  simp at h
noncomputable abbrev E (k : Nat) : FEnv := env  
theorem hE (k : Nat) : EnvOK (E k).toEnv := envok 
theorem ok (k : Nat) : CtOK prog 108 (ct (f k)) := by
  refine ct_of_ev (E := E k) is (hE k) (fun s hs => by simp [E, env] at hs) rfl ?_
  intro tvs blks res h
  simp only [ct] at h
  split at h
  · exact (ev.trans c_bind).trans h
  · simp at h
end transomref02_exponent
namespace transomref02_fraction
abbrev G : Type := Int → Option Int
def ct (g : G) : Ct where
  nin := 0
  mv := []
  F := fun tvs blks {β} K => match tvs, blks with
    | [.v (.one (.d (.int .u64) a0))], [] => (g a0).bind fun r => K ⟨.v (.one (.d (.int .u64) r)), []⟩
    | _, _ => none
  legit := fun _ _ K _ h => by split at h; exact (legit1 K h :); simp at h
noncomputable def env   : FEnv := { P := prog, ct := fun m => none, N := 5, body := f109.body.getD .skip, rvs := [.tmp 2], rts := [47], nin := 0, rmv := [], segs := [] }
def c {β : Type}   (a0 : Int) (ret : Int → Option β) : Option β := (ret ((IntKind.wrap IntKind.u64 ((BitVec.toNat ((BitVec.ofInt (64 : Nat) a0) &&& (BitVec.ofInt (64 : Nat) (4503599627370495 : Int)))) : Int))))
theorem c_bind {β : Type}   {a0 : Int} {ret : Int → Option β} : c   a0 ret = (c   a0 some).bind ret := by
  simp only [c, bif_bind, sum_bind, oa, os, on, ofs]
theorem ev   {a0 : Int} : evAt (env  ) [] [0] [.v (.one (.d (.int .u64) a0))] [] some = c   a0 (fun r => some ⟨.v (.one (.d (.int .u64) r)), []⟩) := by
  kernel_rfl
def f (k : Nat) (a0 : Int) : Option Int := c   a0 some
theorem is   : FnIs (env  ) 109 f109 := ⟨func109, rfl, rfl, rfl, by decide⟩
theorem envok    : EnvOK (env  ).toEnv := by
  intro f c h
  simp only [env] at h
  simp at h
noncomputable abbrev E (k : Nat) : FEnv := env  
theorem hE (k : Nat) : EnvOK (E k).toEnv := envok 
theorem ok (k : Nat) : CtOK prog 109 (ct (f k)) := by
  refine ct_of_ev (E := E k) is (hE k) (fun s hs => by simp [E, env] at hs) rfl ?_
  intro tvs blks res h
  simp only [ct] at h
  split at h
  · exact (ev.trans c_bind).trans h
  · simp at h
end transomref02_fraction
namespace transomref02_Class
abbrev G : Type := Int → Option Int
def ct (g : G) : Ct where
  nin := 0
  mv := []
  F := fun tvs blks {β} K => match tvs, blks with
    | [.v (.one (.d (.int .u64) a0))], [] => (g a0).bind fun r => K ⟨.v (.one (.d (.int .i64) r)), []⟩
    | _, _ => none
  legit := fun _ _ K _ h => by split at h; exact (legit1 K h :); simp at h
abbrev S0 : Type := Int → Bool → Option Int
def sg0 (g : S0) : Seg where
  path := [1, 4, 0, 1]
  prep := []
  keep := [0, 3]
  F := fun tvs blks {β} K => match tvs, blks with
    | [.v (.one (.d (.int .u64) x0)), .v (.one (.d .bool x1))], [] => (g x0 x1).bind fun r => K ⟨.v (.one (.d (.int .i64) r)), []⟩
    | _, _ => none
  legit := fun _ _ K _ h => by split at h; exact (legit1 K h :); simp at h
noncomputable def env (g108 : transomref02_exponent.G) (g109 : transomref02_fraction.G) (s0 : S0) : FEnv := { P := prog, ct := fun m => if m = 108 then some (transomref02_exponent.ct g108) else if m = 109 then some (transomref02_fraction.ct g109) else none, N := 29, body := f101.body.getD .skip, rvs := [.tmp 2], rts := [3], nin := 0, rmv := [], segs := [sg0 s0] }
def c {β : Type} (g108 : transomref02_exponent.G) (g109 : transomref02_fraction.G) (s0 : S0) (a0 : Int) (ret : Int → Option β) : Option β := ((g108 a0).bind fun r0 => (bif (r0 == (2047 : Int)) then ((g109 a0).bind fun r1 => ((s0 a0 (r1 != (0 : Int))).bind ret)) else ((s0 a0 false).bind ret)))
def s0c {β : Type} (g108 : transomref02_exponent.G) (g109 : transomref02_fraction.G) (s0 : S0) (x0 : Int) (x1 : Bool) (ret : Int → Option β) : Option β := (bif x1 then (ret ((1 : Int))) else ((g108 x0).bind fun r0 => (bif (r0 == (2047 : Int)) then (ret ((2 : Int))) else ((g108 x0).bind fun r1 => (bif (r1 == (0 : Int)) then ((g109 x0).bind fun r2 => (bif (r2 == (0 : Int)) then (ret ((3 : Int))) else ((g108 x0).bind fun r3 => (bif (r3 == (0 : Int)) then (ret ((4 : Int))) else (ret ((5 : Int))))))) else ((g108 x0).bind fun r4 => (bif (r4 == (0 : Int)) then (ret ((4 : Int))) else (ret ((5 : Int))))))))))
theorem c_bind {β : Type} {g108 : transomref02_exponent.G} {g109 : transomref02_fraction.G} {s0 : S0} {a0 : Int} {ret : Int → Option β} : c g108 g109 s0 a0 ret = (c g108 g109 s0 a0 some).bind ret := by
  simp only [c, bif_bind, sum_bind, oa, os, on, ofs]
theorem s0c_bind {β : Type} {g108 : transomref02_exponent.G} {g109 : transomref02_fraction.G} {s0 : S0} {x0 : Int} {x1 : Bool} {ret : Int → Option β} : s0c g108 g109 s0 x0 x1 ret = (s0c g108 g109 s0 x0 x1 some).bind ret := by
  simp only [s0c, bif_bind, sum_bind, oa, os, on, ofs]
theorem ev {g108 : transomref02_exponent.G} {g109 : transomref02_fraction.G} {s0 : S0} {a0 : Int} : evAt (env g108 g109 s0) [] [0] [.v (.one (.d (.int .u64) a0))] [] some = c g108 g109 s0 a0 (fun r => some ⟨.v (.one (.d (.int .i64) r)), []⟩) := by
  kernel_rfl
theorem s0_ev {g108 : transomref02_exponent.G} {g109 : transomref02_fraction.G} {s0 : S0} {x0 : Int} {x1 : Bool} : evAt (env g108 g109 s0) [1, 4, 0, 1] [0, 3] [.v (.one (.d (.int .u64) x0)), .v (.one (.d .bool x1))] [] some = s0c g108 g109 s0 x0 x1 (fun r => some ⟨.v (.one (.d (.int .i64) r)), []⟩) := by
  kernel_rfl
def s0 : Nat → Int → Bool → Option Int
  | 0, _, _ => none
  | k + 1, x0, x1 => s0c (transomref02_exponent.f k) (transomref02_fraction.f k) (s0 k) x0 x1 some
def f (k : Nat) (a0 : Int) : Option Int := c (transomref02_exponent.f k) (transomref02_fraction.f k) (s0 k) a0 some
theorem is {g108 : transomref02_exponent.G} {g109 : transomref02_fraction.G} {s0 : S0} : FnIs (env g108 g109 s0) 101 f101 := ⟨func101, rfl, rfl, rfl, by decide⟩
theorem envok {g108 : transomref02_exponent.G} {g109 : transomref02_fraction.G} {s0 : S0} (h108 : CtOK prog 108 (transomref02_exponent.ct g108)) (h109 : CtOK prog 109 (transomref02_fraction.ct g109)) : EnvOK (env g108 g109 s0).toEnv := by
  intro f c h
  simp only [env] at h
  split at h
  · rename_i e; subst e; cases h; exact h108
  split at h
  · rename_i e; subst e; cases h; exact h109
  simp at h
noncomputable abbrev E (k : Nat) : FEnv := env (transomref02_exponent.f k) (transomref02_fraction.f k) (s0 k)
theorem hE (k : Nat) : EnvOK (E k).toEnv := envok (transomref02_exponent.ok k) (transomref02_fraction.ok k)
theorem segs_ok : ∀ k, ∀ s ∈ (E k).segs, SegOK (E k) f101 s
  | 0 => by
    intro s hs
    simp only [E, env, List.mem_cons, List.not_mem_nil, or_false] at hs
    rcases hs with rfl
    · intro tvs blks res h; exfalso; simp only [sg0] at h; split at h <;> simp [s0] at h
  | k + 1 => by
    intro s hs
    simp only [E, env, List.mem_cons, List.not_mem_nil, or_false] at hs
    rcases hs with rfl
    · refine seg_of_ev (E := E k) (hE k) ⟨is.rvs⟩ (segs_ok k) ?_
      intro tvs blks res h
      simp only [sg0] at h
      split at h
      · exact (s0_ev.trans s0c_bind).trans h
      · simp at h
theorem ok (k : Nat) : CtOK prog 101 (ct (f k)) := by
  refine ct_of_ev (E := E k) is (hE k) (segs_ok k) rfl ?_
  intro tvs blks res h
  simp only [ct] at h
  split at h
  · exact (ev.trans c_bind).trans h
  · simp at h
end transomref02_Class
namespace transomref02_Canon
abbrev G : Type := Int → Option Int
def ct (g : G) : Ct where
  nin := 0
  mv := []
  F := fun tvs blks {β} K => match tvs, blks with
    | [.v (.one (.d (.int .u64) a0))], [] => (g a0).bind fun r => K ⟨.v (.one (.d (.int .u64) r)), []⟩
    | _, _ => none
  legit := fun _ _ K _ h => by split at h; exact (legit1 K h :); simp at h
noncomputable def env (g101 : transomref02_Class.G)  : FEnv := { P := prog, ct := fun m => if m = 101 then some (transomref02_Class.ct g101) else none, N := 7, body := f81.body.getD .skip, rvs := [.tmp 2], rts := [47], nin := 0, rmv := [], segs := [] }
def c {β : Type} (g101 : transomref02_Class.G)  (a0 : Int) (ret : Int → Option β) : Option β := ((g101 a0).bind fun r0 => (bif (r0 == (1 : Int)) then (ret ((9221120237041090560 : Int))) else (ret (a0))))
theorem c_bind {β : Type} {g101 : transomref02_Class.G}  {a0 : Int} {ret : Int → Option β} : c g101  a0 ret = (c g101  a0 some).bind ret := by
  simp only [c, bif_bind, sum_bind, oa, os, on, ofs]
theorem ev {g101 : transomref02_Class.G}  {a0 : Int} : evAt (env g101 ) [] [0] [.v (.one (.d (.int .u64) a0))] [] some = c g101  a0 (fun r => some ⟨.v (.one (.d (.int .u64) r)), []⟩) := by
  kernel_rfl
def f (k : Nat) (a0 : Int) : Option Int := c (transomref02_Class.f k)  a0 some
theorem is {g101 : transomref02_Class.G}  : FnIs (env g101 ) 81 f81 := ⟨func81, rfl, rfl, rfl, by decide⟩
theorem envok {g101 : transomref02_Class.G}  (h101 : CtOK prog 101 (transomref02_Class.ct g101)) : EnvOK (env g101 ).toEnv := by
  intro f c h
  simp only [env] at h
  split at h
  · rename_i e; subst e; cases h; exact h101
  simp at h
noncomputable abbrev E (k : Nat) : FEnv := env (transomref02_Class.f k) 
theorem hE (k : Nat) : EnvOK (E k).toEnv := envok (transomref02_Class.ok k)
theorem ok (k : Nat) : CtOK prog 81 (ct (f k)) := by
  refine ct_of_ev (E := E k) is (hE k) (fun s hs => by simp [E, env] at hs) rfl ?_
  intro tvs blks res h
  simp only [ct] at h
  split at h
  · exact (ev.trans c_bind).trans h
  · simp at h
end transomref02_Canon
end Go.Proofs.YtddlebbjaadbeaaGreatDoor.Aev
