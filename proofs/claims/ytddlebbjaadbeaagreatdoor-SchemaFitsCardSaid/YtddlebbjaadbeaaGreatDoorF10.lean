/- By a program of this session (AEV): functions of the program as plain functions, and that the machine does what they say. -/
import Derived.Test.YtddlebbjaadbeaaGreatDoorTys
import Derived.Test.YtddlebbjaadbeaaGreatDoorProg
import Derived.Laws.Externs
import Derived.Lib.Bytealg
import Derived.Test.YtddlebbjaadbeaaGreatDoorF4
import Derived.Test.YtddlebbjaadbeaaGreatDoorF5
import Derived.Test.YtddlebbjaadbeaaGreatDoorF6
import Derived.Test.YtddlebbjaadbeaaGreatDoorF9
namespace Go.Proofs.YtddlebbjaadbeaaGreatDoor.Aev
set_option linter.unusedVariables false
set_option linter.unusedSimpArgs false
set_option maxRecDepth 100000
set_option maxHeartbeats 4000000
open Go
/-! ### transomlaw09_awake: function 7 -/
abbrev G_transomlaw09_awake : Type := Option Bool
def ct_transomlaw09_awake (g : G_transomlaw09_awake) : Ct where
  nin := 0
  mv := []
  F := fun tvs blks {β} K => match tvs, blks with
    | [], [] => (g ).bind fun r => K ⟨.v (.one (.d .bool r)), []⟩
    | _, _ => none
  legit := fun tvs blks K r h => by
    split at h
    · obtain ⟨x, hx, hk⟩ := Option.bind_eq_some_iff.1 h
      refine ⟨_, ?_, hk⟩
      simp only [hx, Option.bind_some]
    · simp at h
noncomputable def env_transomlaw09_awake (g8 : G_schema_Key) (g10 : G_schema_Fits) (g12 : G_schema_FitsKey) (g14 : G_schema_Put) (g16 : G_schema_Read) (g20 : G_transomlaw09_Plain) (g21 : G_schema_Same) (g22 : G_schema_Check) (g23 : G_schema_Find) (g24 : G_schema_CheckCol)  : FEnv := { P := Go.Proofs.Tryz.prog, ct := fun m => if m = 8 then some (ct_schema_Key g8) else if m = 10 then some (ct_schema_Fits g10) else if m = 12 then some (ct_schema_FitsKey g12) else if m = 14 then some (ct_schema_Put g14) else if m = 16 then some (ct_schema_Read g16) else if m = 20 then some (ct_transomlaw09_Plain g20) else if m = 21 then some (ct_schema_Same g21) else if m = 22 then some (ct_schema_Check g22) else if m = 23 then some (ct_schema_Find g23) else if m = 24 then some (ct_schema_CheckCol g24) else none, N := 93, body := Go.Proofs.Tryz.f7.body.getD .skip, rvs := [.tmp 0], rts := [4], nin := 0, rmv := [], segs := [] }
def transomlaw09_awake.c {β : Type} (g8 : G_schema_Key) (g10 : G_schema_Fits) (g12 : G_schema_FitsKey) (g14 : G_schema_Put) (g16 : G_schema_Read) (g20 : G_transomlaw09_Plain) (g21 : G_schema_Same) (g22 : G_schema_Check) (g23 : G_schema_Find) (g24 : G_schema_CheckCol)   (ret : Bool → Option β) : Option β := (g20.bind fun r0 => ((g8 r0.1 r0.2.1 r0.2.2 [((2 : Int), ((1 : Int), ((0 : Int), ((ByteArray.mk (List.toArray [])), ())))), ((0 : Int), ((0 : Int), ((0 : Int), ((ByteArray.mk (List.toArray [])), ()))))]).bind fun r1 => ((g14 r0.1 r0.2.1 r0.2.2).bind fun r2 => (bif ((decide ((ByteArray.size r2.1) ≤ (4611686018427387903 : Nat))) && true) then ((g16 (r2.1 ++ (ByteArray.mk (List.toArray [(122 : UInt8)])))).bind fun r3 => (bif (true && (decide ((0 : Int) < ((List.length r0.2.2) : Int)))) then (bif (((ByteArray.size r1.1) : Int) == (9 : Int)) then (bif (r1.2 == (0 : Int)) then (bif (r2.2 == (0 : Int)) then (g20.bind fun r4 => ((g21 r3.1 r3.2.1 r3.2.2.1 r4.1 r4.2.1 r4.2.2).bind fun r5 => (bif r5 then (bif ((ByteArray.toList r3.2.2.2.1) == (ByteArray.toList (ByteArray.mk (List.toArray [(122 : UInt8)])))) then (bif (r3.2.2.2.2 == (0 : Int)) then ((g22 r0.1 r0.2.1 (List.set r0.2.2 (0 : Nat) ((elem T_api_Col r0.2.2 (0 : Int)).1, ((elem T_api_Col r0.2.2 (0 : Int)).2.1, (true, (((elem T_api_Col r0.2.2 (0 : Int)).2.2.2.1.1, ((elem T_api_Col r0.2.2 (0 : Int)).2.2.2.1.2.1, ((elem T_api_Col r0.2.2 (0 : Int)).2.2.2.1.2.2.1, ((elem T_api_Col r0.2.2 (0 : Int)).2.2.2.1.2.2.2.1, ())))), ())))))).bind fun r6 => (bif (r6 == (11 : Int)) then ((g10 r3.1 r3.2.1 r3.2.2.1 [((0 : Int), ((0 : Int), ((0 : Int), ((ByteArray.mk (List.toArray [])), ())))), ((0 : Int), ((0 : Int), ((0 : Int), ((ByteArray.mk (List.toArray [])), ()))))]).bind fun r7 => (bif (r7 == (11 : Int)) then ((g12 r3.1 r3.2.1 r3.2.2.1 [] false).bind fun r8 => (bif (r8 == (0 : Int)) then ((g12 r3.1 r3.2.1 r3.2.2.1 [] true).bind fun r9 => (bif (r9 == (11 : Int)) then ((g23 r3.1 r3.2.1 r3.2.2.1 (ByteArray.mk (List.toArray [(118 : UInt8)]))).bind fun r10 => (bif (r10 == (1 : Int)) then ((g24 (ByteArray.mk (List.toArray [(97 : UInt8)])) (6 : Int) false (0 : Int) (0 : Int) (0 : Int) (ByteArray.mk (List.toArray []))).bind fun r11 => (ret ((r11 == (5 : Int))))) else (ret (false)))) else (ret (false)))) else (ret (false)))) else (ret (false)))) else (ret (false)))) else (ret (false))) else (ret (false))) else (ret (false))))) else (ret (false))) else (ret (false))) else (ret (false))) else none)) else none))))
theorem transomlaw09_awake.c_bind {β : Type} {g8 : G_schema_Key} {g10 : G_schema_Fits} {g12 : G_schema_FitsKey} {g14 : G_schema_Put} {g16 : G_schema_Read} {g20 : G_transomlaw09_Plain} {g21 : G_schema_Same} {g22 : G_schema_Check} {g23 : G_schema_Find} {g24 : G_schema_CheckCol}   {ret : Bool → Option β} : transomlaw09_awake.c g8 g10 g12 g14 g16 g20 g21 g22 g23 g24   ret = (transomlaw09_awake.c g8 g10 g12 g14 g16 g20 g21 g22 g23 g24   some).bind ret := by
  simp only [transomlaw09_awake.c, bif_bind, sum_bind, Option.bind_assoc, Option.bind_some, Option.bind_none, Option.bind_fun_some]
theorem transomlaw09_awake.ev {g8 : G_schema_Key} {g10 : G_schema_Fits} {g12 : G_schema_FitsKey} {g14 : G_schema_Put} {g16 : G_schema_Read} {g20 : G_transomlaw09_Plain} {g21 : G_schema_Same} {g22 : G_schema_Check} {g23 : G_schema_Find} {g24 : G_schema_CheckCol}   : evAt (env_transomlaw09_awake g8 g10 g12 g14 g16 g20 g21 g22 g23 g24 ) [] [] [] [] some = transomlaw09_awake.c g8 g10 g12 g14 g16 g20 g21 g22 g23 g24   (fun r => some ⟨.v (.one (.d .bool r)), []⟩) := by
  kernel_rfl
def transomlaw09_awake.f (k : Nat)  : Option Bool := transomlaw09_awake.c (schema_Key.f k) (schema_Fits.f k) (schema_FitsKey.f k) (schema_Put.f k) (schema_Read.f k) (transomlaw09_Plain.f k) (schema_Same.f k) (schema_Check.f k) (schema_Find.f k) (schema_CheckCol.f k)   some
theorem transomlaw09_awake.is {g8 : G_schema_Key} {g10 : G_schema_Fits} {g12 : G_schema_FitsKey} {g14 : G_schema_Put} {g16 : G_schema_Read} {g20 : G_transomlaw09_Plain} {g21 : G_schema_Same} {g22 : G_schema_Check} {g23 : G_schema_Find} {g24 : G_schema_CheckCol}  : FnIs (env_transomlaw09_awake g8 g10 g12 g14 g16 g20 g21 g22 g23 g24 ) 7 Go.Proofs.Tryz.f7 := ⟨Go.Proofs.Tryz.func7, rfl, rfl, rfl, by decide⟩
theorem transomlaw09_awake.envok {g8 : G_schema_Key} {g10 : G_schema_Fits} {g12 : G_schema_FitsKey} {g14 : G_schema_Put} {g16 : G_schema_Read} {g20 : G_transomlaw09_Plain} {g21 : G_schema_Same} {g22 : G_schema_Check} {g23 : G_schema_Find} {g24 : G_schema_CheckCol}  (h8 : CtOK Go.Proofs.Tryz.prog 8 (ct_schema_Key g8)) (h10 : CtOK Go.Proofs.Tryz.prog 10 (ct_schema_Fits g10)) (h12 : CtOK Go.Proofs.Tryz.prog 12 (ct_schema_FitsKey g12)) (h14 : CtOK Go.Proofs.Tryz.prog 14 (ct_schema_Put g14)) (h16 : CtOK Go.Proofs.Tryz.prog 16 (ct_schema_Read g16)) (h20 : CtOK Go.Proofs.Tryz.prog 20 (ct_transomlaw09_Plain g20)) (h21 : CtOK Go.Proofs.Tryz.prog 21 (ct_schema_Same g21)) (h22 : CtOK Go.Proofs.Tryz.prog 22 (ct_schema_Check g22)) (h23 : CtOK Go.Proofs.Tryz.prog 23 (ct_schema_Find g23)) (h24 : CtOK Go.Proofs.Tryz.prog 24 (ct_schema_CheckCol g24)) : EnvOK (env_transomlaw09_awake g8 g10 g12 g14 g16 g20 g21 g22 g23 g24 ).toEnv := by
  intro f c h
  simp only [env_transomlaw09_awake] at h
  split at h
  · rename_i e; subst e; cases h; exact h8
  split at h
  · rename_i e; subst e; cases h; exact h10
  split at h
  · rename_i e; subst e; cases h; exact h12
  split at h
  · rename_i e; subst e; cases h; exact h14
  split at h
  · rename_i e; subst e; cases h; exact h16
  split at h
  · rename_i e; subst e; cases h; exact h20
  split at h
  · rename_i e; subst e; cases h; exact h21
  split at h
  · rename_i e; subst e; cases h; exact h22
  split at h
  · rename_i e; subst e; cases h; exact h23
  split at h
  · rename_i e; subst e; cases h; exact h24
  simp at h
noncomputable abbrev transomlaw09_awake.E (k : Nat) : FEnv := env_transomlaw09_awake (schema_Key.f k) (schema_Fits.f k) (schema_FitsKey.f k) (schema_Put.f k) (schema_Read.f k) (transomlaw09_Plain.f k) (schema_Same.f k) (schema_Check.f k) (schema_Find.f k) (schema_CheckCol.f k) 
theorem transomlaw09_awake.hE (k : Nat) : EnvOK (transomlaw09_awake.E k).toEnv := transomlaw09_awake.envok (schema_Key.ok k) (schema_Fits.ok k) (schema_FitsKey.ok k) (schema_Put.ok k) (schema_Read.ok k) (transomlaw09_Plain.ok k) (schema_Same.ok k) (schema_Check.ok k) (schema_Find.ok k) (schema_CheckCol.ok k)
theorem transomlaw09_awake.ok (k : Nat) : CtOK Go.Proofs.Tryz.prog 7 (ct_transomlaw09_awake (transomlaw09_awake.f k)) := by
  refine ct_of_ev (E := transomlaw09_awake.E k) transomlaw09_awake.is (transomlaw09_awake.hE k) (fun s hs => by simp [transomlaw09_awake.E, env_transomlaw09_awake] at hs) rfl ?_
  intro tvs blks res h
  simp only [ct_transomlaw09_awake] at h
  split at h
  · exact (transomlaw09_awake.ev.trans transomlaw09_awake.c_bind).trans h
  · simp at h

/-! ### transomref08_letter: function 79 -/
abbrev G_transomref08_letter : Type := Int → Option Bool
def ct_transomref08_letter (g : G_transomref08_letter) : Ct where
  nin := 0
  mv := []
  F := fun tvs blks {β} K => match tvs, blks with
    | [.v (.one (.d (.int .u8) a0))], [] => (g a0).bind fun r => K ⟨.v (.one (.d .bool r)), []⟩
    | _, _ => none
  legit := fun tvs blks K r h => by
    split at h
    · obtain ⟨x, hx, hk⟩ := Option.bind_eq_some_iff.1 h
      refine ⟨_, ?_, hk⟩
      simp only [hx, Option.bind_some]
    · simp at h
noncomputable def env_transomref08_letter   : FEnv := { P := Go.Proofs.Tryz.prog, ct := fun m => none, N := 9, body := Go.Proofs.Tryz.f79.body.getD .skip, rvs := [.tmp 2], rts := [4], nin := 0, rmv := [], segs := [] }
def transomref08_letter.c {β : Type}   (a0 : Int) (ret : Bool → Option β) : Option β := (bif (decide (a0 ≥ (97 : Int))) then (ret ((decide (a0 ≤ (122 : Int))))) else (ret (false)))
theorem transomref08_letter.c_bind {β : Type}   {a0 : Int} {ret : Bool → Option β} : transomref08_letter.c   a0 ret = (transomref08_letter.c   a0 some).bind ret := by
  simp only [transomref08_letter.c, bif_bind, sum_bind, Option.bind_assoc, Option.bind_some, Option.bind_none, Option.bind_fun_some]
theorem transomref08_letter.ev   {a0 : Int} : evAt (env_transomref08_letter  ) [] [0] [.v (.one (.d (.int .u8) a0))] [] some = transomref08_letter.c   a0 (fun r => some ⟨.v (.one (.d .bool r)), []⟩) := by
  kernel_rfl
def transomref08_letter.f (k : Nat) (a0 : Int) : Option Bool := transomref08_letter.c   a0 some
theorem transomref08_letter.is   : FnIs (env_transomref08_letter  ) 79 Go.Proofs.Tryz.f79 := ⟨Go.Proofs.Tryz.func79, rfl, rfl, rfl, by decide⟩
theorem transomref08_letter.envok    : EnvOK (env_transomref08_letter  ).toEnv := by
  intro f c h
  simp only [env_transomref08_letter] at h
  simp at h
noncomputable abbrev transomref08_letter.E (k : Nat) : FEnv := env_transomref08_letter  
theorem transomref08_letter.hE (k : Nat) : EnvOK (transomref08_letter.E k).toEnv := transomref08_letter.envok 
theorem transomref08_letter.ok (k : Nat) : CtOK Go.Proofs.Tryz.prog 79 (ct_transomref08_letter (transomref08_letter.f k)) := by
  refine ct_of_ev (E := transomref08_letter.E k) transomref08_letter.is (transomref08_letter.hE k) (fun s hs => by simp [transomref08_letter.E, env_transomref08_letter] at hs) rfl ?_
  intro tvs blks res h
  simp only [ct_transomref08_letter] at h
  split at h
  · exact (transomref08_letter.ev.trans transomref08_letter.c_bind).trans h
  · simp at h

/-! ### transomref08_Check: function 54 -/
abbrev G_transomref08_Check : Type := ByteArray → Option Int
def ct_transomref08_Check (g : G_transomref08_Check) : Ct where
  nin := 0
  mv := []
  F := fun tvs blks {β} K => match tvs, blks with
    | [.v (.one (.d .str a0))], [] => (g a0).bind fun r => K ⟨.v (.one (.d (.int .i64) r)), []⟩
    | _, _ => none
  legit := fun tvs blks K r h => by
    split at h
    · obtain ⟨x, hx, hk⟩ := Option.bind_eq_some_iff.1 h
      refine ⟨_, ?_, hk⟩
      simp only [hx, Option.bind_some]
    · simp at h
abbrev S_transomref08_Check_0 : Type := ByteArray → Bool → Option Int
abbrev S_transomref08_Check_1 : Type := ByteArray → Option Int
abbrev S_transomref08_Check_2 : Type := ByteArray → Int → Option Int
abbrev S_transomref08_Check_3 : Type := ByteArray → Int → Bool → Option Int
abbrev S_transomref08_Check_4 : Type := ByteArray → Int → Option Int
def seg_transomref08_Check_0 (g : S_transomref08_Check_0) : Seg where
  path := [1, 0, 1]
  prep := []
  keep := [0, 17]
  F := fun tvs blks {β} K => match tvs, blks with
    | [.v (.one (.d .str x0)), .v (.one (.d .bool x1))], [] => (g x0 x1).bind fun r => K ⟨.v (.one (.d (.int .i64) r)), []⟩
    | _, _ => none
  legit := fun tvs blks K r h => by
    split at h
    · obtain ⟨x, hx, hk⟩ := Option.bind_eq_some_iff.1 h
      refine ⟨_, ?_, hk⟩
      simp only [hx, Option.bind_some]
    · simp at h
def seg_transomref08_Check_1 (g : S_transomref08_Check_1) : Seg where
  path := [1, 1]
  prep := []
  keep := [0]
  F := fun tvs blks {β} K => match tvs, blks with
    | [.v (.one (.d .str x0))], [] => (g x0).bind fun r => K ⟨.v (.one (.d (.int .i64) r)), []⟩
    | _, _ => none
  legit := fun tvs blks K r h => by
    split at h
    · obtain ⟨x, hx, hk⟩ := Option.bind_eq_some_iff.1 h
      refine ⟨_, ?_, hk⟩
      simp only [hx, Option.bind_some]
    · simp at h
def seg_transomref08_Check_2 (g : S_transomref08_Check_2) : Seg where
  path := [4, 1, 0, 1, 1]
  prep := []
  keep := [0, 3]
  F := fun tvs blks {β} K => match tvs, blks with
    | [.v (.one (.d .str x0)), .v (.one (.d (.int .i64) x1))], [] => (g x0 x1).bind fun r => K ⟨.v (.one (.d (.int .i64) r)), []⟩
    | _, _ => none
  legit := fun tvs blks K r h => by
    split at h
    · obtain ⟨x, hx, hk⟩ := Option.bind_eq_some_iff.1 h
      refine ⟨_, ?_, hk⟩
      simp only [hx, Option.bind_some]
    · simp at h
def seg_transomref08_Check_3 (g : S_transomref08_Check_3) : Seg where
  path := [1, 4, 0, 1, 5, 4, 1, 0, 1, 1]
  prep := []
  keep := [0, 3, 46]
  F := fun tvs blks {β} K => match tvs, blks with
    | [.v (.one (.d .str x0)), .v (.one (.d (.int .i64) x1)), .v (.one (.d .bool x2))], [] => (g x0 x1 x2).bind fun r => K ⟨.v (.one (.d (.int .i64) r)), []⟩
    | _, _ => none
  legit := fun tvs blks K r h => by
    split at h
    · obtain ⟨x, hx, hk⟩ := Option.bind_eq_some_iff.1 h
      refine ⟨_, ?_, hk⟩
      simp only [hx, Option.bind_some]
    · simp at h
def seg_transomref08_Check_4 (g : S_transomref08_Check_4) : Seg where
  path := [1, 1, 5, 4, 1, 0, 1, 1]
  prep := []
  keep := [0, 3]
  F := fun tvs blks {β} K => match tvs, blks with
    | [.v (.one (.d .str x0)), .v (.one (.d (.int .i64) x1))], [] => (g x0 x1).bind fun r => K ⟨.v (.one (.d (.int .i64) r)), []⟩
    | _, _ => none
  legit := fun tvs blks K r h => by
    split at h
    · obtain ⟨x, hx, hk⟩ := Option.bind_eq_some_iff.1 h
      refine ⟨_, ?_, hk⟩
      simp only [hx, Option.bind_some]
    · simp at h
noncomputable def env_transomref08_Check (g79 : G_transomref08_letter) (s0 : S_transomref08_Check_0) (s1 : S_transomref08_Check_1) (s2 : S_transomref08_Check_2) (s3 : S_transomref08_Check_3) (s4 : S_transomref08_Check_4) : FEnv := { P := Go.Proofs.Tryz.prog, ct := fun m => if m = 79 then some (ct_transomref08_letter g79) else none, N := 47, body := Go.Proofs.Tryz.f54.body.getD .skip, rvs := [.tmp 2], rts := [3], nin := 0, rmv := [], segs := [seg_transomref08_Check_0 s0, seg_transomref08_Check_1 s1, seg_transomref08_Check_2 s2, seg_transomref08_Check_3 s3, seg_transomref08_Check_4 s4] }
def transomref08_Check.c {β : Type} (g79 : G_transomref08_letter) (s0 : S_transomref08_Check_0) (s1 : S_transomref08_Check_1) (s2 : S_transomref08_Check_2) (s3 : S_transomref08_Check_3) (s4 : S_transomref08_Check_4) (a0 : ByteArray) (ret : Int → Option β) : Option β := (bif (decide (((ByteArray.size a0) : Int) < (1 : Int))) then ((s0 a0 true).bind ret) else (bif (decide (((ByteArray.size a0) : Int) > (16 : Int))) then ((s0 a0 true).bind ret) else (bif (true && (decide ((0 : Int) < ((ByteArray.size a0) : Int)))) then ((g79 (bt a0 (0 : Int))).bind fun r0 => ((s0 a0 (!r0)).bind ret)) else none)))
def transomref08_Check.s0c {β : Type} (g79 : G_transomref08_letter) (s0 : S_transomref08_Check_0) (s1 : S_transomref08_Check_1) (s2 : S_transomref08_Check_2) (s3 : S_transomref08_Check_3) (s4 : S_transomref08_Check_4) (x0 : ByteArray) (x1 : Bool) (ret : Int → Option β) : Option β := (bif x1 then (ret ((8 : Int))) else ((s1 x0).bind ret))
def transomref08_Check.s1c {β : Type} (g79 : G_transomref08_letter) (s0 : S_transomref08_Check_0) (s1 : S_transomref08_Check_1) (s2 : S_transomref08_Check_2) (s3 : S_transomref08_Check_3) (s4 : S_transomref08_Check_4) (x0 : ByteArray) (ret : Int → Option β) : Option β := ((s2 x0 (1 : Int)).bind ret)
def transomref08_Check.s2c {β : Type} (g79 : G_transomref08_letter) (s0 : S_transomref08_Check_0) (s1 : S_transomref08_Check_1) (s2 : S_transomref08_Check_2) (s3 : S_transomref08_Check_3) (s4 : S_transomref08_Check_4) (x0 : ByteArray) (x1 : Int) (ret : Int → Option β) : Option β := (bif (decide (x1 < ((ByteArray.size x0) : Int))) then (bif ((decide ((0 : Int) ≤ x1)) && (decide (x1 < ((ByteArray.size x0) : Int)))) then ((g79 (bt x0 x1)).bind fun r0 => (bif (!r0) then (bif ((decide ((0 : Int) ≤ x1)) && (decide (x1 < ((ByteArray.size x0) : Int)))) then (bif ((bt x0 x1) != (95 : Int)) then (bif ((decide ((0 : Int) ≤ x1)) && (decide (x1 < ((ByteArray.size x0) : Int)))) then (bif (decide ((bt x0 x1) < (48 : Int))) then ((s3 x0 x1 true).bind ret) else (bif ((decide ((0 : Int) ≤ x1)) && (decide (x1 < ((ByteArray.size x0) : Int)))) then ((s3 x0 x1 (decide ((bt x0 x1) > (57 : Int)))).bind ret) else none)) else none) else ((s3 x0 x1 false).bind ret)) else none) else ((s3 x0 x1 false).bind ret))) else none) else (ret ((0 : Int))))
def transomref08_Check.s3c {β : Type} (g79 : G_transomref08_letter) (s0 : S_transomref08_Check_0) (s1 : S_transomref08_Check_1) (s2 : S_transomref08_Check_2) (s3 : S_transomref08_Check_3) (s4 : S_transomref08_Check_4) (x0 : ByteArray) (x1 : Int) (x2 : Bool) (ret : Int → Option β) : Option β := (bif x2 then (ret ((8 : Int))) else ((s4 x0 x1).bind ret))
def transomref08_Check.s4c {β : Type} (g79 : G_transomref08_letter) (s0 : S_transomref08_Check_0) (s1 : S_transomref08_Check_1) (s2 : S_transomref08_Check_2) (s3 : S_transomref08_Check_3) (s4 : S_transomref08_Check_4) (x0 : ByteArray) (x1 : Int) (ret : Int → Option β) : Option β := ((s2 x0 (IntKind.wrap IntKind.i64 (x1 + (1 : Int)))).bind ret)
theorem transomref08_Check.c_bind {β : Type} {g79 : G_transomref08_letter} {s0 : S_transomref08_Check_0} {s1 : S_transomref08_Check_1} {s2 : S_transomref08_Check_2} {s3 : S_transomref08_Check_3} {s4 : S_transomref08_Check_4} {a0 : ByteArray} {ret : Int → Option β} : transomref08_Check.c g79 s0 s1 s2 s3 s4 a0 ret = (transomref08_Check.c g79 s0 s1 s2 s3 s4 a0 some).bind ret := by
  simp only [transomref08_Check.c, bif_bind, sum_bind, Option.bind_assoc, Option.bind_some, Option.bind_none, Option.bind_fun_some]
theorem transomref08_Check.s0c_bind {β : Type} {g79 : G_transomref08_letter} {s0 : S_transomref08_Check_0} {s1 : S_transomref08_Check_1} {s2 : S_transomref08_Check_2} {s3 : S_transomref08_Check_3} {s4 : S_transomref08_Check_4} {x0 : ByteArray} {x1 : Bool} {ret : Int → Option β} : transomref08_Check.s0c g79 s0 s1 s2 s3 s4 x0 x1 ret = (transomref08_Check.s0c g79 s0 s1 s2 s3 s4 x0 x1 some).bind ret := by
  simp only [transomref08_Check.s0c, bif_bind, sum_bind, Option.bind_assoc, Option.bind_some, Option.bind_none, Option.bind_fun_some]
theorem transomref08_Check.s1c_bind {β : Type} {g79 : G_transomref08_letter} {s0 : S_transomref08_Check_0} {s1 : S_transomref08_Check_1} {s2 : S_transomref08_Check_2} {s3 : S_transomref08_Check_3} {s4 : S_transomref08_Check_4} {x0 : ByteArray} {ret : Int → Option β} : transomref08_Check.s1c g79 s0 s1 s2 s3 s4 x0 ret = (transomref08_Check.s1c g79 s0 s1 s2 s3 s4 x0 some).bind ret := by
  simp only [transomref08_Check.s1c, bif_bind, sum_bind, Option.bind_assoc, Option.bind_some, Option.bind_none, Option.bind_fun_some]
theorem transomref08_Check.s2c_bind {β : Type} {g79 : G_transomref08_letter} {s0 : S_transomref08_Check_0} {s1 : S_transomref08_Check_1} {s2 : S_transomref08_Check_2} {s3 : S_transomref08_Check_3} {s4 : S_transomref08_Check_4} {x0 : ByteArray} {x1 : Int} {ret : Int → Option β} : transomref08_Check.s2c g79 s0 s1 s2 s3 s4 x0 x1 ret = (transomref08_Check.s2c g79 s0 s1 s2 s3 s4 x0 x1 some).bind ret := by
  simp only [transomref08_Check.s2c, bif_bind, sum_bind, Option.bind_assoc, Option.bind_some, Option.bind_none, Option.bind_fun_some]
theorem transomref08_Check.s3c_bind {β : Type} {g79 : G_transomref08_letter} {s0 : S_transomref08_Check_0} {s1 : S_transomref08_Check_1} {s2 : S_transomref08_Check_2} {s3 : S_transomref08_Check_3} {s4 : S_transomref08_Check_4} {x0 : ByteArray} {x1 : Int} {x2 : Bool} {ret : Int → Option β} : transomref08_Check.s3c g79 s0 s1 s2 s3 s4 x0 x1 x2 ret = (transomref08_Check.s3c g79 s0 s1 s2 s3 s4 x0 x1 x2 some).bind ret := by
  simp only [transomref08_Check.s3c, bif_bind, sum_bind, Option.bind_assoc, Option.bind_some, Option.bind_none, Option.bind_fun_some]
theorem transomref08_Check.s4c_bind {β : Type} {g79 : G_transomref08_letter} {s0 : S_transomref08_Check_0} {s1 : S_transomref08_Check_1} {s2 : S_transomref08_Check_2} {s3 : S_transomref08_Check_3} {s4 : S_transomref08_Check_4} {x0 : ByteArray} {x1 : Int} {ret : Int → Option β} : transomref08_Check.s4c g79 s0 s1 s2 s3 s4 x0 x1 ret = (transomref08_Check.s4c g79 s0 s1 s2 s3 s4 x0 x1 some).bind ret := by
  simp only [transomref08_Check.s4c, bif_bind, sum_bind, Option.bind_assoc, Option.bind_some, Option.bind_none, Option.bind_fun_some]
theorem transomref08_Check.ev {g79 : G_transomref08_letter} {s0 : S_transomref08_Check_0} {s1 : S_transomref08_Check_1} {s2 : S_transomref08_Check_2} {s3 : S_transomref08_Check_3} {s4 : S_transomref08_Check_4} {a0 : ByteArray} : evAt (env_transomref08_Check g79 s0 s1 s2 s3 s4) [] [0] [.v (.one (.d .str a0))] [] some = transomref08_Check.c g79 s0 s1 s2 s3 s4 a0 (fun r => some ⟨.v (.one (.d (.int .i64) r)), []⟩) := by
  kernel_rfl
theorem transomref08_Check.s0_ev {g79 : G_transomref08_letter} {s0 : S_transomref08_Check_0} {s1 : S_transomref08_Check_1} {s2 : S_transomref08_Check_2} {s3 : S_transomref08_Check_3} {s4 : S_transomref08_Check_4} {x0 : ByteArray} {x1 : Bool} : evAt (env_transomref08_Check g79 s0 s1 s2 s3 s4) [1, 0, 1] [0, 17] [.v (.one (.d .str x0)), .v (.one (.d .bool x1))] [] some = transomref08_Check.s0c g79 s0 s1 s2 s3 s4 x0 x1 (fun r => some ⟨.v (.one (.d (.int .i64) r)), []⟩) := by
  kernel_rfl
theorem transomref08_Check.s1_ev {g79 : G_transomref08_letter} {s0 : S_transomref08_Check_0} {s1 : S_transomref08_Check_1} {s2 : S_transomref08_Check_2} {s3 : S_transomref08_Check_3} {s4 : S_transomref08_Check_4} {x0 : ByteArray} : evAt (env_transomref08_Check g79 s0 s1 s2 s3 s4) [1, 1] [0] [.v (.one (.d .str x0))] [] some = transomref08_Check.s1c g79 s0 s1 s2 s3 s4 x0 (fun r => some ⟨.v (.one (.d (.int .i64) r)), []⟩) := by
  kernel_rfl
theorem transomref08_Check.s2_ev {g79 : G_transomref08_letter} {s0 : S_transomref08_Check_0} {s1 : S_transomref08_Check_1} {s2 : S_transomref08_Check_2} {s3 : S_transomref08_Check_3} {s4 : S_transomref08_Check_4} {x0 : ByteArray} {x1 : Int} : evAt (env_transomref08_Check g79 s0 s1 s2 s3 s4) [4, 1, 0, 1, 1] [0, 3] [.v (.one (.d .str x0)), .v (.one (.d (.int .i64) x1))] [] some = transomref08_Check.s2c g79 s0 s1 s2 s3 s4 x0 x1 (fun r => some ⟨.v (.one (.d (.int .i64) r)), []⟩) := by
  kernel_rfl
theorem transomref08_Check.s3_ev {g79 : G_transomref08_letter} {s0 : S_transomref08_Check_0} {s1 : S_transomref08_Check_1} {s2 : S_transomref08_Check_2} {s3 : S_transomref08_Check_3} {s4 : S_transomref08_Check_4} {x0 : ByteArray} {x1 : Int} {x2 : Bool} : evAt (env_transomref08_Check g79 s0 s1 s2 s3 s4) [1, 4, 0, 1, 5, 4, 1, 0, 1, 1] [0, 3, 46] [.v (.one (.d .str x0)), .v (.one (.d (.int .i64) x1)), .v (.one (.d .bool x2))] [] some = transomref08_Check.s3c g79 s0 s1 s2 s3 s4 x0 x1 x2 (fun r => some ⟨.v (.one (.d (.int .i64) r)), []⟩) := by
  kernel_rfl
theorem transomref08_Check.s4_ev {g79 : G_transomref08_letter} {s0 : S_transomref08_Check_0} {s1 : S_transomref08_Check_1} {s2 : S_transomref08_Check_2} {s3 : S_transomref08_Check_3} {s4 : S_transomref08_Check_4} {x0 : ByteArray} {x1 : Int} : evAt (env_transomref08_Check g79 s0 s1 s2 s3 s4) [1, 1, 5, 4, 1, 0, 1, 1] [0, 3] [.v (.one (.d .str x0)), .v (.one (.d (.int .i64) x1))] [] some = transomref08_Check.s4c g79 s0 s1 s2 s3 s4 x0 x1 (fun r => some ⟨.v (.one (.d (.int .i64) r)), []⟩) := by
  kernel_rfl
mutual
def transomref08_Check.s0 : Nat → ByteArray → Bool → Option Int
  | 0, _, _ => none
  | k + 1, x0, x1 => transomref08_Check.s0c (transomref08_letter.f k) (transomref08_Check.s0 k) (transomref08_Check.s1 k) (transomref08_Check.s2 k) (transomref08_Check.s3 k) (transomref08_Check.s4 k) x0 x1 some
def transomref08_Check.s1 : Nat → ByteArray → Option Int
  | 0, _ => none
  | k + 1, x0 => transomref08_Check.s1c (transomref08_letter.f k) (transomref08_Check.s0 k) (transomref08_Check.s1 k) (transomref08_Check.s2 k) (transomref08_Check.s3 k) (transomref08_Check.s4 k) x0 some
def transomref08_Check.s2 : Nat → ByteArray → Int → Option Int
  | 0, _, _ => none
  | k + 1, x0, x1 => transomref08_Check.s2c (transomref08_letter.f k) (transomref08_Check.s0 k) (transomref08_Check.s1 k) (transomref08_Check.s2 k) (transomref08_Check.s3 k) (transomref08_Check.s4 k) x0 x1 some
def transomref08_Check.s3 : Nat → ByteArray → Int → Bool → Option Int
  | 0, _, _, _ => none
  | k + 1, x0, x1, x2 => transomref08_Check.s3c (transomref08_letter.f k) (transomref08_Check.s0 k) (transomref08_Check.s1 k) (transomref08_Check.s2 k) (transomref08_Check.s3 k) (transomref08_Check.s4 k) x0 x1 x2 some
def transomref08_Check.s4 : Nat → ByteArray → Int → Option Int
  | 0, _, _ => none
  | k + 1, x0, x1 => transomref08_Check.s4c (transomref08_letter.f k) (transomref08_Check.s0 k) (transomref08_Check.s1 k) (transomref08_Check.s2 k) (transomref08_Check.s3 k) (transomref08_Check.s4 k) x0 x1 some
end
def transomref08_Check.f (k : Nat) (a0 : ByteArray) : Option Int := transomref08_Check.c (transomref08_letter.f k) (transomref08_Check.s0 k) (transomref08_Check.s1 k) (transomref08_Check.s2 k) (transomref08_Check.s3 k) (transomref08_Check.s4 k) a0 some
theorem transomref08_Check.is {g79 : G_transomref08_letter} {s0 : S_transomref08_Check_0} {s1 : S_transomref08_Check_1} {s2 : S_transomref08_Check_2} {s3 : S_transomref08_Check_3} {s4 : S_transomref08_Check_4} : FnIs (env_transomref08_Check g79 s0 s1 s2 s3 s4) 54 Go.Proofs.Tryz.f54 := ⟨Go.Proofs.Tryz.func54, rfl, rfl, rfl, by decide⟩
theorem transomref08_Check.envok {g79 : G_transomref08_letter} {s0 : S_transomref08_Check_0} {s1 : S_transomref08_Check_1} {s2 : S_transomref08_Check_2} {s3 : S_transomref08_Check_3} {s4 : S_transomref08_Check_4} (h79 : CtOK Go.Proofs.Tryz.prog 79 (ct_transomref08_letter g79)) : EnvOK (env_transomref08_Check g79 s0 s1 s2 s3 s4).toEnv := by
  intro f c h
  simp only [env_transomref08_Check] at h
  split at h
  · rename_i e; subst e; cases h; exact h79
  simp at h
noncomputable abbrev transomref08_Check.E (k : Nat) : FEnv := env_transomref08_Check (transomref08_letter.f k) (transomref08_Check.s0 k) (transomref08_Check.s1 k) (transomref08_Check.s2 k) (transomref08_Check.s3 k) (transomref08_Check.s4 k)
theorem transomref08_Check.hE (k : Nat) : EnvOK (transomref08_Check.E k).toEnv := transomref08_Check.envok (transomref08_letter.ok k)
theorem transomref08_Check.segs_ok : ∀ k, ∀ s ∈ (transomref08_Check.E k).segs, SegOK (transomref08_Check.E k) Go.Proofs.Tryz.f54 s
  | 0 => by
    intro s hs
    simp only [transomref08_Check.E, env_transomref08_Check, List.mem_cons, List.not_mem_nil, or_false] at hs
    rcases hs with rfl | rfl | rfl | rfl | rfl
    · intro tvs blks res h; exfalso; simp only [seg_transomref08_Check_0] at h; split at h <;> simp [transomref08_Check.s0] at h
    · intro tvs blks res h; exfalso; simp only [seg_transomref08_Check_1] at h; split at h <;> simp [transomref08_Check.s1] at h
    · intro tvs blks res h; exfalso; simp only [seg_transomref08_Check_2] at h; split at h <;> simp [transomref08_Check.s2] at h
    · intro tvs blks res h; exfalso; simp only [seg_transomref08_Check_3] at h; split at h <;> simp [transomref08_Check.s3] at h
    · intro tvs blks res h; exfalso; simp only [seg_transomref08_Check_4] at h; split at h <;> simp [transomref08_Check.s4] at h
  | k + 1 => by
    intro s hs
    simp only [transomref08_Check.E, env_transomref08_Check, List.mem_cons, List.not_mem_nil, or_false] at hs
    rcases hs with rfl | rfl | rfl | rfl | rfl
    · refine seg_of_ev (E := transomref08_Check.E k) (transomref08_Check.hE k) ⟨transomref08_Check.is.rvs⟩ (transomref08_Check.segs_ok k) ?_
      intro tvs blks res h
      simp only [seg_transomref08_Check_0] at h
      split at h
      · exact (transomref08_Check.s0_ev.trans transomref08_Check.s0c_bind).trans h
      · simp at h
    · refine seg_of_ev (E := transomref08_Check.E k) (transomref08_Check.hE k) ⟨transomref08_Check.is.rvs⟩ (transomref08_Check.segs_ok k) ?_
      intro tvs blks res h
      simp only [seg_transomref08_Check_1] at h
      split at h
      · exact (transomref08_Check.s1_ev.trans transomref08_Check.s1c_bind).trans h
      · simp at h
    · refine seg_of_ev (E := transomref08_Check.E k) (transomref08_Check.hE k) ⟨transomref08_Check.is.rvs⟩ (transomref08_Check.segs_ok k) ?_
      intro tvs blks res h
      simp only [seg_transomref08_Check_2] at h
      split at h
      · exact (transomref08_Check.s2_ev.trans transomref08_Check.s2c_bind).trans h
      · simp at h
    · refine seg_of_ev (E := transomref08_Check.E k) (transomref08_Check.hE k) ⟨transomref08_Check.is.rvs⟩ (transomref08_Check.segs_ok k) ?_
      intro tvs blks res h
      simp only [seg_transomref08_Check_3] at h
      split at h
      · exact (transomref08_Check.s3_ev.trans transomref08_Check.s3c_bind).trans h
      · simp at h
    · refine seg_of_ev (E := transomref08_Check.E k) (transomref08_Check.hE k) ⟨transomref08_Check.is.rvs⟩ (transomref08_Check.segs_ok k) ?_
      intro tvs blks res h
      simp only [seg_transomref08_Check_4] at h
      split at h
      · exact (transomref08_Check.s4_ev.trans transomref08_Check.s4c_bind).trans h
      · simp at h
theorem transomref08_Check.ok (k : Nat) : CtOK Go.Proofs.Tryz.prog 54 (ct_transomref08_Check (transomref08_Check.f k)) := by
  refine ct_of_ev (E := transomref08_Check.E k) transomref08_Check.is (transomref08_Check.hE k) (transomref08_Check.segs_ok k) rfl ?_
  intro tvs blks res h
  simp only [ct_transomref08_Check] at h
  split at h
  · exact (transomref08_Check.ev.trans transomref08_Check.c_bind).trans h
  · simp at h

/-! ### transomref02_exponent: function 108 -/
abbrev G_transomref02_exponent : Type := Int → Option Int
def ct_transomref02_exponent (g : G_transomref02_exponent) : Ct where
  nin := 0
  mv := []
  F := fun tvs blks {β} K => match tvs, blks with
    | [.v (.one (.d (.int .u64) a0))], [] => (g a0).bind fun r => K ⟨.v (.one (.d (.int .i64) r)), []⟩
    | _, _ => none
  legit := fun tvs blks K r h => by
    split at h
    · obtain ⟨x, hx, hk⟩ := Option.bind_eq_some_iff.1 h
      refine ⟨_, ?_, hk⟩
      simp only [hx, Option.bind_some]
    · simp at h
noncomputable def env_transomref02_exponent   : FEnv := { P := Go.Proofs.Tryz.prog, ct := fun m => none, N := 7, body := Go.Proofs.Tryz.f108.body.getD .skip, rvs := [.tmp 2], rts := [3], nin := 0, rmv := [], segs := [] }
def transomref02_exponent.c {β : Type}   (a0 : Int) (ret : Int → Option β) : Option β := (ret ((IntKind.wrap IntKind.i64 (IntKind.wrap IntKind.u64 ((BitVec.toNat ((BitVec.ofInt (64 : Nat) (Int.fdiv a0 (4503599627370496 : Int))) &&& (BitVec.ofInt (64 : Nat) (2047 : Int)))) : Int)))))
theorem transomref02_exponent.c_bind {β : Type}   {a0 : Int} {ret : Int → Option β} : transomref02_exponent.c   a0 ret = (transomref02_exponent.c   a0 some).bind ret := by
  simp only [transomref02_exponent.c, bif_bind, sum_bind, Option.bind_assoc, Option.bind_some, Option.bind_none, Option.bind_fun_some]
theorem transomref02_exponent.ev   {a0 : Int} : evAt (env_transomref02_exponent  ) [] [0] [.v (.one (.d (.int .u64) a0))] [] some = transomref02_exponent.c   a0 (fun r => some ⟨.v (.one (.d (.int .i64) r)), []⟩) := by
  kernel_rfl
def transomref02_exponent.f (k : Nat) (a0 : Int) : Option Int := transomref02_exponent.c   a0 some
theorem transomref02_exponent.is   : FnIs (env_transomref02_exponent  ) 108 Go.Proofs.Tryz.f108 := ⟨Go.Proofs.Tryz.func108, rfl, rfl, rfl, by decide⟩
theorem transomref02_exponent.envok    : EnvOK (env_transomref02_exponent  ).toEnv := by
  intro f c h
  simp only [env_transomref02_exponent] at h
  simp at h
noncomputable abbrev transomref02_exponent.E (k : Nat) : FEnv := env_transomref02_exponent  
theorem transomref02_exponent.hE (k : Nat) : EnvOK (transomref02_exponent.E k).toEnv := transomref02_exponent.envok 
theorem transomref02_exponent.ok (k : Nat) : CtOK Go.Proofs.Tryz.prog 108 (ct_transomref02_exponent (transomref02_exponent.f k)) := by
  refine ct_of_ev (E := transomref02_exponent.E k) transomref02_exponent.is (transomref02_exponent.hE k) (fun s hs => by simp [transomref02_exponent.E, env_transomref02_exponent] at hs) rfl ?_
  intro tvs blks res h
  simp only [ct_transomref02_exponent] at h
  split at h
  · exact (transomref02_exponent.ev.trans transomref02_exponent.c_bind).trans h
  · simp at h

/-! ### transomref02_fraction: function 109 -/
abbrev G_transomref02_fraction : Type := Int → Option Int
def ct_transomref02_fraction (g : G_transomref02_fraction) : Ct where
  nin := 0
  mv := []
  F := fun tvs blks {β} K => match tvs, blks with
    | [.v (.one (.d (.int .u64) a0))], [] => (g a0).bind fun r => K ⟨.v (.one (.d (.int .u64) r)), []⟩
    | _, _ => none
  legit := fun tvs blks K r h => by
    split at h
    · obtain ⟨x, hx, hk⟩ := Option.bind_eq_some_iff.1 h
      refine ⟨_, ?_, hk⟩
      simp only [hx, Option.bind_some]
    · simp at h
noncomputable def env_transomref02_fraction   : FEnv := { P := Go.Proofs.Tryz.prog, ct := fun m => none, N := 5, body := Go.Proofs.Tryz.f109.body.getD .skip, rvs := [.tmp 2], rts := [47], nin := 0, rmv := [], segs := [] }
def transomref02_fraction.c {β : Type}   (a0 : Int) (ret : Int → Option β) : Option β := (ret ((IntKind.wrap IntKind.u64 ((BitVec.toNat ((BitVec.ofInt (64 : Nat) a0) &&& (BitVec.ofInt (64 : Nat) (4503599627370495 : Int)))) : Int))))
theorem transomref02_fraction.c_bind {β : Type}   {a0 : Int} {ret : Int → Option β} : transomref02_fraction.c   a0 ret = (transomref02_fraction.c   a0 some).bind ret := by
  simp only [transomref02_fraction.c, bif_bind, sum_bind, Option.bind_assoc, Option.bind_some, Option.bind_none, Option.bind_fun_some]
theorem transomref02_fraction.ev   {a0 : Int} : evAt (env_transomref02_fraction  ) [] [0] [.v (.one (.d (.int .u64) a0))] [] some = transomref02_fraction.c   a0 (fun r => some ⟨.v (.one (.d (.int .u64) r)), []⟩) := by
  kernel_rfl
def transomref02_fraction.f (k : Nat) (a0 : Int) : Option Int := transomref02_fraction.c   a0 some
theorem transomref02_fraction.is   : FnIs (env_transomref02_fraction  ) 109 Go.Proofs.Tryz.f109 := ⟨Go.Proofs.Tryz.func109, rfl, rfl, rfl, by decide⟩
theorem transomref02_fraction.envok    : EnvOK (env_transomref02_fraction  ).toEnv := by
  intro f c h
  simp only [env_transomref02_fraction] at h
  simp at h
noncomputable abbrev transomref02_fraction.E (k : Nat) : FEnv := env_transomref02_fraction  
theorem transomref02_fraction.hE (k : Nat) : EnvOK (transomref02_fraction.E k).toEnv := transomref02_fraction.envok 
theorem transomref02_fraction.ok (k : Nat) : CtOK Go.Proofs.Tryz.prog 109 (ct_transomref02_fraction (transomref02_fraction.f k)) := by
  refine ct_of_ev (E := transomref02_fraction.E k) transomref02_fraction.is (transomref02_fraction.hE k) (fun s hs => by simp [transomref02_fraction.E, env_transomref02_fraction] at hs) rfl ?_
  intro tvs blks res h
  simp only [ct_transomref02_fraction] at h
  split at h
  · exact (transomref02_fraction.ev.trans transomref02_fraction.c_bind).trans h
  · simp at h

/-! ### transomref02_Class: function 101 -/
abbrev G_transomref02_Class : Type := Int → Option Int
def ct_transomref02_Class (g : G_transomref02_Class) : Ct where
  nin := 0
  mv := []
  F := fun tvs blks {β} K => match tvs, blks with
    | [.v (.one (.d (.int .u64) a0))], [] => (g a0).bind fun r => K ⟨.v (.one (.d (.int .i64) r)), []⟩
    | _, _ => none
  legit := fun tvs blks K r h => by
    split at h
    · obtain ⟨x, hx, hk⟩ := Option.bind_eq_some_iff.1 h
      refine ⟨_, ?_, hk⟩
      simp only [hx, Option.bind_some]
    · simp at h
abbrev S_transomref02_Class_0 : Type := Int → Bool → Option Int
def seg_transomref02_Class_0 (g : S_transomref02_Class_0) : Seg where
  path := [1, 4, 0, 1]
  prep := []
  keep := [0, 3]
  F := fun tvs blks {β} K => match tvs, blks with
    | [.v (.one (.d (.int .u64) x0)), .v (.one (.d .bool x1))], [] => (g x0 x1).bind fun r => K ⟨.v (.one (.d (.int .i64) r)), []⟩
    | _, _ => none
  legit := fun tvs blks K r h => by
    split at h
    · obtain ⟨x, hx, hk⟩ := Option.bind_eq_some_iff.1 h
      refine ⟨_, ?_, hk⟩
      simp only [hx, Option.bind_some]
    · simp at h
noncomputable def env_transomref02_Class (g108 : G_transomref02_exponent) (g109 : G_transomref02_fraction) (s0 : S_transomref02_Class_0) : FEnv := { P := Go.Proofs.Tryz.prog, ct := fun m => if m = 108 then some (ct_transomref02_exponent g108) else if m = 109 then some (ct_transomref02_fraction g109) else none, N := 29, body := Go.Proofs.Tryz.f101.body.getD .skip, rvs := [.tmp 2], rts := [3], nin := 0, rmv := [], segs := [seg_transomref02_Class_0 s0] }
def transomref02_Class.c {β : Type} (g108 : G_transomref02_exponent) (g109 : G_transomref02_fraction) (s0 : S_transomref02_Class_0) (a0 : Int) (ret : Int → Option β) : Option β := ((g108 a0).bind fun r0 => (bif (r0 == (2047 : Int)) then ((g109 a0).bind fun r1 => ((s0 a0 (r1 != (0 : Int))).bind ret)) else ((s0 a0 false).bind ret)))
def transomref02_Class.s0c {β : Type} (g108 : G_transomref02_exponent) (g109 : G_transomref02_fraction) (s0 : S_transomref02_Class_0) (x0 : Int) (x1 : Bool) (ret : Int → Option β) : Option β := (bif x1 then (ret ((1 : Int))) else ((g108 x0).bind fun r0 => (bif (r0 == (2047 : Int)) then (ret ((2 : Int))) else ((g108 x0).bind fun r1 => (bif (r1 == (0 : Int)) then ((g109 x0).bind fun r2 => (bif (r2 == (0 : Int)) then (ret ((3 : Int))) else ((g108 x0).bind fun r3 => (bif (r3 == (0 : Int)) then (ret ((4 : Int))) else (ret ((5 : Int))))))) else ((g108 x0).bind fun r4 => (bif (r4 == (0 : Int)) then (ret ((4 : Int))) else (ret ((5 : Int))))))))))
theorem transomref02_Class.c_bind {β : Type} {g108 : G_transomref02_exponent} {g109 : G_transomref02_fraction} {s0 : S_transomref02_Class_0} {a0 : Int} {ret : Int → Option β} : transomref02_Class.c g108 g109 s0 a0 ret = (transomref02_Class.c g108 g109 s0 a0 some).bind ret := by
  simp only [transomref02_Class.c, bif_bind, sum_bind, Option.bind_assoc, Option.bind_some, Option.bind_none, Option.bind_fun_some]
theorem transomref02_Class.s0c_bind {β : Type} {g108 : G_transomref02_exponent} {g109 : G_transomref02_fraction} {s0 : S_transomref02_Class_0} {x0 : Int} {x1 : Bool} {ret : Int → Option β} : transomref02_Class.s0c g108 g109 s0 x0 x1 ret = (transomref02_Class.s0c g108 g109 s0 x0 x1 some).bind ret := by
  simp only [transomref02_Class.s0c, bif_bind, sum_bind, Option.bind_assoc, Option.bind_some, Option.bind_none, Option.bind_fun_some]
theorem transomref02_Class.ev {g108 : G_transomref02_exponent} {g109 : G_transomref02_fraction} {s0 : S_transomref02_Class_0} {a0 : Int} : evAt (env_transomref02_Class g108 g109 s0) [] [0] [.v (.one (.d (.int .u64) a0))] [] some = transomref02_Class.c g108 g109 s0 a0 (fun r => some ⟨.v (.one (.d (.int .i64) r)), []⟩) := by
  kernel_rfl
theorem transomref02_Class.s0_ev {g108 : G_transomref02_exponent} {g109 : G_transomref02_fraction} {s0 : S_transomref02_Class_0} {x0 : Int} {x1 : Bool} : evAt (env_transomref02_Class g108 g109 s0) [1, 4, 0, 1] [0, 3] [.v (.one (.d (.int .u64) x0)), .v (.one (.d .bool x1))] [] some = transomref02_Class.s0c g108 g109 s0 x0 x1 (fun r => some ⟨.v (.one (.d (.int .i64) r)), []⟩) := by
  kernel_rfl
def transomref02_Class.s0 : Nat → Int → Bool → Option Int
  | 0, _, _ => none
  | k + 1, x0, x1 => transomref02_Class.s0c (transomref02_exponent.f k) (transomref02_fraction.f k) (transomref02_Class.s0 k) x0 x1 some
def transomref02_Class.f (k : Nat) (a0 : Int) : Option Int := transomref02_Class.c (transomref02_exponent.f k) (transomref02_fraction.f k) (transomref02_Class.s0 k) a0 some
theorem transomref02_Class.is {g108 : G_transomref02_exponent} {g109 : G_transomref02_fraction} {s0 : S_transomref02_Class_0} : FnIs (env_transomref02_Class g108 g109 s0) 101 Go.Proofs.Tryz.f101 := ⟨Go.Proofs.Tryz.func101, rfl, rfl, rfl, by decide⟩
theorem transomref02_Class.envok {g108 : G_transomref02_exponent} {g109 : G_transomref02_fraction} {s0 : S_transomref02_Class_0} (h108 : CtOK Go.Proofs.Tryz.prog 108 (ct_transomref02_exponent g108)) (h109 : CtOK Go.Proofs.Tryz.prog 109 (ct_transomref02_fraction g109)) : EnvOK (env_transomref02_Class g108 g109 s0).toEnv := by
  intro f c h
  simp only [env_transomref02_Class] at h
  split at h
  · rename_i e; subst e; cases h; exact h108
  split at h
  · rename_i e; subst e; cases h; exact h109
  simp at h
noncomputable abbrev transomref02_Class.E (k : Nat) : FEnv := env_transomref02_Class (transomref02_exponent.f k) (transomref02_fraction.f k) (transomref02_Class.s0 k)
theorem transomref02_Class.hE (k : Nat) : EnvOK (transomref02_Class.E k).toEnv := transomref02_Class.envok (transomref02_exponent.ok k) (transomref02_fraction.ok k)
theorem transomref02_Class.segs_ok : ∀ k, ∀ s ∈ (transomref02_Class.E k).segs, SegOK (transomref02_Class.E k) Go.Proofs.Tryz.f101 s
  | 0 => by
    intro s hs
    simp only [transomref02_Class.E, env_transomref02_Class, List.mem_cons, List.not_mem_nil, or_false] at hs
    rcases hs with rfl
    · intro tvs blks res h; exfalso; simp only [seg_transomref02_Class_0] at h; split at h <;> simp [transomref02_Class.s0] at h
  | k + 1 => by
    intro s hs
    simp only [transomref02_Class.E, env_transomref02_Class, List.mem_cons, List.not_mem_nil, or_false] at hs
    rcases hs with rfl
    · refine seg_of_ev (E := transomref02_Class.E k) (transomref02_Class.hE k) ⟨transomref02_Class.is.rvs⟩ (transomref02_Class.segs_ok k) ?_
      intro tvs blks res h
      simp only [seg_transomref02_Class_0] at h
      split at h
      · exact (transomref02_Class.s0_ev.trans transomref02_Class.s0c_bind).trans h
      · simp at h
theorem transomref02_Class.ok (k : Nat) : CtOK Go.Proofs.Tryz.prog 101 (ct_transomref02_Class (transomref02_Class.f k)) := by
  refine ct_of_ev (E := transomref02_Class.E k) transomref02_Class.is (transomref02_Class.hE k) (transomref02_Class.segs_ok k) rfl ?_
  intro tvs blks res h
  simp only [ct_transomref02_Class] at h
  split at h
  · exact (transomref02_Class.ev.trans transomref02_Class.c_bind).trans h
  · simp at h

/-! ### transomref02_Canon: function 81 -/
abbrev G_transomref02_Canon : Type := Int → Option Int
def ct_transomref02_Canon (g : G_transomref02_Canon) : Ct where
  nin := 0
  mv := []
  F := fun tvs blks {β} K => match tvs, blks with
    | [.v (.one (.d (.int .u64) a0))], [] => (g a0).bind fun r => K ⟨.v (.one (.d (.int .u64) r)), []⟩
    | _, _ => none
  legit := fun tvs blks K r h => by
    split at h
    · obtain ⟨x, hx, hk⟩ := Option.bind_eq_some_iff.1 h
      refine ⟨_, ?_, hk⟩
      simp only [hx, Option.bind_some]
    · simp at h
noncomputable def env_transomref02_Canon (g101 : G_transomref02_Class)  : FEnv := { P := Go.Proofs.Tryz.prog, ct := fun m => if m = 101 then some (ct_transomref02_Class g101) else none, N := 7, body := Go.Proofs.Tryz.f81.body.getD .skip, rvs := [.tmp 2], rts := [47], nin := 0, rmv := [], segs := [] }
def transomref02_Canon.c {β : Type} (g101 : G_transomref02_Class)  (a0 : Int) (ret : Int → Option β) : Option β := ((g101 a0).bind fun r0 => (bif (r0 == (1 : Int)) then (ret ((9221120237041090560 : Int))) else (ret (a0))))
theorem transomref02_Canon.c_bind {β : Type} {g101 : G_transomref02_Class}  {a0 : Int} {ret : Int → Option β} : transomref02_Canon.c g101  a0 ret = (transomref02_Canon.c g101  a0 some).bind ret := by
  simp only [transomref02_Canon.c, bif_bind, sum_bind, Option.bind_assoc, Option.bind_some, Option.bind_none, Option.bind_fun_some]
theorem transomref02_Canon.ev {g101 : G_transomref02_Class}  {a0 : Int} : evAt (env_transomref02_Canon g101 ) [] [0] [.v (.one (.d (.int .u64) a0))] [] some = transomref02_Canon.c g101  a0 (fun r => some ⟨.v (.one (.d (.int .u64) r)), []⟩) := by
  kernel_rfl
def transomref02_Canon.f (k : Nat) (a0 : Int) : Option Int := transomref02_Canon.c (transomref02_Class.f k)  a0 some
theorem transomref02_Canon.is {g101 : G_transomref02_Class}  : FnIs (env_transomref02_Canon g101 ) 81 Go.Proofs.Tryz.f81 := ⟨Go.Proofs.Tryz.func81, rfl, rfl, rfl, by decide⟩
theorem transomref02_Canon.envok {g101 : G_transomref02_Class}  (h101 : CtOK Go.Proofs.Tryz.prog 101 (ct_transomref02_Class g101)) : EnvOK (env_transomref02_Canon g101 ).toEnv := by
  intro f c h
  simp only [env_transomref02_Canon] at h
  split at h
  · rename_i e; subst e; cases h; exact h101
  simp at h
noncomputable abbrev transomref02_Canon.E (k : Nat) : FEnv := env_transomref02_Canon (transomref02_Class.f k) 
theorem transomref02_Canon.hE (k : Nat) : EnvOK (transomref02_Canon.E k).toEnv := transomref02_Canon.envok (transomref02_Class.ok k)
theorem transomref02_Canon.ok (k : Nat) : CtOK Go.Proofs.Tryz.prog 81 (ct_transomref02_Canon (transomref02_Canon.f k)) := by
  refine ct_of_ev (E := transomref02_Canon.E k) transomref02_Canon.is (transomref02_Canon.hE k) (fun s hs => by simp [transomref02_Canon.E, env_transomref02_Canon] at hs) rfl ?_
  intro tvs blks res h
  simp only [ct_transomref02_Canon] at h
  split at h
  · exact (transomref02_Canon.ev.trans transomref02_Canon.c_bind).trans h
  · simp at h
end Go.Proofs.YtddlebbjaadbeaaGreatDoor.Aev
