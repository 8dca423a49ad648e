/- By a program of this session (AEV): functions of the program as plain functions, and that the machine does what they say. -/
import Derived.Test.YtdbbkmmillnaiaaDoorTys
import Derived.Test.YtdbbkmmillnaiaaDoorProg
import Derived.Laws.Externs
import Derived.Lib.Bytealg
import Derived.Test.YtdbbkmmillnaiaaDoorF5
import Derived.Test.YtdbbkmmillnaiaaDoorF6
namespace Go.Proofs.YtdbbkmmillnaiaaDoor.Aev
set_option linter.unusedVariables false
set_option linter.unusedSimpArgs false
set_option maxRecDepth 100000
set_option maxHeartbeats 4000000
open Go Go.Proofs.Tryd
namespace sheet_Check
abbrev G : Type := ByteArray → Int → (List D_api_Col) → (List D_api_Line) → Option Int
def ct (g : G) : Ct where
  nin := 0
  mv := []
  F := fun tvs blks {β} K => match tvs, blks with
    | [.v (.agg [(.d .str a0), (.d (.int .i64) a1), (.d (.sl (.pair .str (.pair (.int .i64) (.pair .bool (.pair (.pair (.int .i64) (.pair (.int .i64) (.pair (.int .u64) (.pair .str .unit)))) .unit))))) a2), (.d (.sl (.pair .str (.pair (.sl (.pair (.int .i64) (.pair (.int .i64) (.pair (.int .u64) (.pair .str .unit))))) .unit))) a3)])], [] => (g a0 a1 a2 a3).bind fun r => K ⟨.v (.one (.d (.int .i64) r)), []⟩
    | _, _ => none
  legit := fun _ _ K _ h => by split at h; exact (legit1 K h :); simp at h
abbrev S0 : Type := (List D_api_Line) → Int → Int → ByteArray → Int → (List D_api_Col) → (List D_api_Line) → Option Int
abbrev S1 : Type := (List D_api_Line) → Int → Int → Bool → ByteArray → Int → (List D_api_Col) → (List D_api_Line) → Option Int
abbrev S2 : Type := (List D_api_Line) → Int → Int → ByteArray → Int → (List D_api_Col) → (List D_api_Line) → Option Int
def sg0 (g : S0) : Seg where
  path := [4, 1, 0, 1, 1]
  prep := []
  keep := [1, 15, 16, 17]
  F := fun tvs blks {β} K => match tvs, blks with
    | [.v (.one (.ptr 0 0)), .v (.one (.d (.sl (.pair .str (.pair (.sl (.pair (.int .i64) (.pair (.int .i64) (.pair (.int .u64) (.pair .str .unit))))) .unit))) x0)), .v (.one (.d (.int .i64) x1)), .v (.one (.d (.int .i64) x2))], [some (.box [(.d .str x3), (.d (.int .i64) x4), (.d (.sl (.pair .str (.pair (.int .i64) (.pair .bool (.pair (.pair (.int .i64) (.pair (.int .i64) (.pair (.int .u64) (.pair .str .unit)))) .unit))))) x5), (.d (.sl (.pair .str (.pair (.sl (.pair (.int .i64) (.pair (.int .i64) (.pair (.int .u64) (.pair .str .unit))))) .unit))) x6)])] => (g x0 x1 x2 x3 x4 x5 x6).bind fun r => K ⟨.v (.one (.d (.int .i64) r)), []⟩
    | _, _ => none
  legit := fun _ _ K _ h => by split at h; exact (legit1 K h :); simp at h
def sg1 (g : S1) : Seg where
  path := [1, 3, 1, 3, 1, 4, 1, 1, 4, 0, 1, 1, 5, 4, 1, 0, 1, 1]
  prep := []
  keep := [1, 15, 16, 17, 39]
  F := fun tvs blks {β} K => match tvs, blks with
    | [.v (.one (.ptr 0 0)), .v (.one (.d (.sl (.pair .str (.pair (.sl (.pair (.int .i64) (.pair (.int .i64) (.pair (.int .u64) (.pair .str .unit))))) .unit))) x0)), .v (.one (.d (.int .i64) x1)), .v (.one (.d (.int .i64) x2)), .v (.one (.d .bool x3))], [some (.box [(.d .str x4), (.d (.int .i64) x5), (.d (.sl (.pair .str (.pair (.int .i64) (.pair .bool (.pair (.pair (.int .i64) (.pair (.int .i64) (.pair (.int .u64) (.pair .str .unit)))) .unit))))) x6), (.d (.sl (.pair .str (.pair (.sl (.pair (.int .i64) (.pair (.int .i64) (.pair (.int .u64) (.pair .str .unit))))) .unit))) x7)])] => (g x0 x1 x2 x3 x4 x5 x6 x7).bind fun r => K ⟨.v (.one (.d (.int .i64) r)), []⟩
    | _, _ => none
  legit := fun _ _ K _ h => by split at h; exact (legit1 K h :); simp at h
def sg2 (g : S2) : Seg where
  path := [1, 1, 1, 5, 4, 1, 0, 1, 1]
  prep := []
  keep := [1, 15, 16, 17]
  F := fun tvs blks {β} K => match tvs, blks with
    | [.v (.one (.ptr 0 0)), .v (.one (.d (.sl (.pair .str (.pair (.sl (.pair (.int .i64) (.pair (.int .i64) (.pair (.int .u64) (.pair .str .unit))))) .unit))) x0)), .v (.one (.d (.int .i64) x1)), .v (.one (.d (.int .i64) x2))], [some (.box [(.d .str x3), (.d (.int .i64) x4), (.d (.sl (.pair .str (.pair (.int .i64) (.pair .bool (.pair (.pair (.int .i64) (.pair (.int .i64) (.pair (.int .u64) (.pair .str .unit)))) .unit))))) x5), (.d (.sl (.pair .str (.pair (.sl (.pair (.int .i64) (.pair (.int .i64) (.pair (.int .u64) (.pair .str .unit))))) .unit))) x6)])] => (g x0 x1 x2 x3 x4 x5 x6).bind fun r => K ⟨.v (.one (.d (.int .i64) r)), []⟩
    | _, _ => none
  legit := fun _ _ K _ h => by split at h; exact (legit1 K h :); simp at h
noncomputable def env (g21 : schema_Key.G) (g26 : schema_Check.G) (s0 : S0) (s1 : S1) (s2 : S2) : FEnv := { P := prog, ct := fun m => if m = 21 then some (schema_Key.ct g21) else if m = 26 then some (schema_Check.ct g26) else none, N := 54, body := f8.body.getD .skip, rvs := [.tmp 2], rts := [29], nin := 0, rmv := [], segs := [sg0 s0, sg1 s1, sg2 s2] }
def c {β : Type} (g21 : schema_Key.G) (g26 : schema_Check.G) (s0 : S0) (s1 : S1) (s2 : S2) (a0 : ByteArray) (a1 : Int) (a2 : List D_api_Col) (a3 : List D_api_Line) (ret : Int → Option β) : Option β := ((g26 a0 a1 a2).bind fun r0 => (bif (r0 != (0 : Int)) then (ret (r0)) else ((s0 a3 ((List.length a3) : Int) (0 : Int) a0 a1 a2 a3).bind ret)))
def s0c {β : Type} (g21 : schema_Key.G) (g26 : schema_Check.G) (s0 : S0) (s1 : S1) (s2 : S2) (x0 : List D_api_Line) (x1 : Int) (x2 : Int) (x3 : ByteArray) (x4 : Int) (x5 : List D_api_Col) (x6 : List D_api_Line) (ret : Int → Option β) : Option β := (bif (decide (x2 < x1)) then (bif ((decide ((0 : Int) ≤ x2)) && (decide (x2 < ((List.length x0) : Int)))) then ((g21 x3 x4 x5 (elem T_api_Line x0 x2).2.1).bind fun r0 => (bif (r0.2 != (0 : Int)) then (ret (r0.2)) else (bif (!((ByteArray.toList r0.1) == (ByteArray.toList (elem T_api_Line x0 x2).1))) then (ret ((4 : Int))) else (bif (decide (x2 > (0 : Int))) then (bif ((decide ((0 : Int) ≤ (IntKind.wrap IntKind.i64 (x2 - (1 : Int))))) && (decide ((IntKind.wrap IntKind.i64 (x2 - (1 : Int))) < ((List.length x6) : Int)))) then ((s1 x0 x1 x2 ((Op.bytesLess (ByteArray.toList r0.1) (ByteArray.toList (elem T_api_Line x6 (IntKind.wrap IntKind.i64 (x2 - (1 : Int)))).1)) || ((ByteArray.toList r0.1) == (ByteArray.toList (elem T_api_Line x6 (IntKind.wrap IntKind.i64 (x2 - (1 : Int)))).1))) x3 x4 x5 x6).bind ret) else none) else ((s1 x0 x1 x2 false x3 x4 x5 x6).bind ret))))) else none) else (ret ((0 : Int))))
def s1c {β : Type} (g21 : schema_Key.G) (g26 : schema_Check.G) (s0 : S0) (s1 : S1) (s2 : S2) (x0 : List D_api_Line) (x1 : Int) (x2 : Int) (x3 : Bool) (x4 : ByteArray) (x5 : Int) (x6 : List D_api_Col) (x7 : List D_api_Line) (ret : Int → Option β) : Option β := (bif x3 then (ret ((13 : Int))) else ((s2 x0 x1 x2 x4 x5 x6 x7).bind ret))
def s2c {β : Type} (g21 : schema_Key.G) (g26 : schema_Check.G) (s0 : S0) (s1 : S1) (s2 : S2) (x0 : List D_api_Line) (x1 : Int) (x2 : Int) (x3 : ByteArray) (x4 : Int) (x5 : List D_api_Col) (x6 : List D_api_Line) (ret : Int → Option β) : Option β := ((s0 x0 x1 (IntKind.wrap IntKind.i64 (x2 + (1 : Int))) x3 x4 x5 x6).bind ret)
theorem c_bind {β : Type} {g21 : schema_Key.G} {g26 : schema_Check.G} {s0 : S0} {s1 : S1} {s2 : S2} {a0 : ByteArray} {a1 : Int} {a2 : List D_api_Col} {a3 : List D_api_Line} {ret : Int → Option β} : c g21 g26 s0 s1 s2 a0 a1 a2 a3 ret = (c g21 g26 s0 s1 s2 a0 a1 a2 a3 some).bind ret := by
  simp only [c, bif_bind, sum_bind, oa, os, on, ofs]
theorem s0c_bind {β : Type} {g21 : schema_Key.G} {g26 : schema_Check.G} {s0 : S0} {s1 : S1} {s2 : S2} {x0 : List D_api_Line} {x1 : Int} {x2 : Int} {x3 : ByteArray} {x4 : Int} {x5 : List D_api_Col} {x6 : List D_api_Line} {ret : Int → Option β} : s0c g21 g26 s0 s1 s2 x0 x1 x2 x3 x4 x5 x6 ret = (s0c g21 g26 s0 s1 s2 x0 x1 x2 x3 x4 x5 x6 some).bind ret := by
  simp only [s0c, bif_bind, sum_bind, oa, os, on, ofs]
theorem s1c_bind {β : Type} {g21 : schema_Key.G} {g26 : schema_Check.G} {s0 : S0} {s1 : S1} {s2 : S2} {x0 : List D_api_Line} {x1 : Int} {x2 : Int} {x3 : Bool} {x4 : ByteArray} {x5 : Int} {x6 : List D_api_Col} {x7 : List D_api_Line} {ret : Int → Option β} : s1c g21 g26 s0 s1 s2 x0 x1 x2 x3 x4 x5 x6 x7 ret = (s1c g21 g26 s0 s1 s2 x0 x1 x2 x3 x4 x5 x6 x7 some).bind ret := by
  simp only [s1c, bif_bind, sum_bind, oa, os, on, ofs]
theorem s2c_bind {β : Type} {g21 : schema_Key.G} {g26 : schema_Check.G} {s0 : S0} {s1 : S1} {s2 : S2} {x0 : List D_api_Line} {x1 : Int} {x2 : Int} {x3 : ByteArray} {x4 : Int} {x5 : List D_api_Col} {x6 : List D_api_Line} {ret : Int → Option β} : s2c g21 g26 s0 s1 s2 x0 x1 x2 x3 x4 x5 x6 ret = (s2c g21 g26 s0 s1 s2 x0 x1 x2 x3 x4 x5 x6 some).bind ret := by
  simp only [s2c, bif_bind, sum_bind, oa, os, on, ofs]
theorem ev {g21 : schema_Key.G} {g26 : schema_Check.G} {s0 : S0} {s1 : S1} {s2 : S2} {a0 : ByteArray} {a1 : Int} {a2 : List D_api_Col} {a3 : List D_api_Line} : evAt (env g21 g26 s0 s1 s2) [] [0] [.v (.agg [(.d .str a0), (.d (.int .i64) a1), (.d (.sl T_api_Col) a2), (.d (.sl T_api_Line) a3)])] [] some = c g21 g26 s0 s1 s2 a0 a1 a2 a3 (fun r => some ⟨.v (.one (.d (.int .i64) r)), []⟩) := by
  kernel_rfl
theorem s0_ev {g21 : schema_Key.G} {g26 : schema_Check.G} {s0 : S0} {s1 : S1} {s2 : S2} {x0 : List D_api_Line} {x1 : Int} {x2 : Int} {x3 : ByteArray} {x4 : Int} {x5 : List D_api_Col} {x6 : List D_api_Line} : evAt (env g21 g26 s0 s1 s2) [4, 1, 0, 1, 1] [1, 15, 16, 17] [.v (.one (.ptr 0 0)), .v (.one (.d (.sl T_api_Line) x0)), .v (.one (.d (.int .i64) x1)), .v (.one (.d (.int .i64) x2))] [some (.box [(.d .str x3), (.d (.int .i64) x4), (.d (.sl T_api_Col) x5), (.d (.sl T_api_Line) x6)])] some = s0c g21 g26 s0 s1 s2 x0 x1 x2 x3 x4 x5 x6 (fun r => some ⟨.v (.one (.d (.int .i64) r)), []⟩) := by
  kernel_rfl
theorem s1_ev {g21 : schema_Key.G} {g26 : schema_Check.G} {s0 : S0} {s1 : S1} {s2 : S2} {x0 : List D_api_Line} {x1 : Int} {x2 : Int} {x3 : Bool} {x4 : ByteArray} {x5 : Int} {x6 : List D_api_Col} {x7 : List D_api_Line} : evAt (env g21 g26 s0 s1 s2) [1, 3, 1, 3, 1, 4, 1, 1, 4, 0, 1, 1, 5, 4, 1, 0, 1, 1] [1, 15, 16, 17, 39] [.v (.one (.ptr 0 0)), .v (.one (.d (.sl T_api_Line) x0)), .v (.one (.d (.int .i64) x1)), .v (.one (.d (.int .i64) x2)), .v (.one (.d .bool x3))] [some (.box [(.d .str x4), (.d (.int .i64) x5), (.d (.sl T_api_Col) x6), (.d (.sl T_api_Line) x7)])] some = s1c g21 g26 s0 s1 s2 x0 x1 x2 x3 x4 x5 x6 x7 (fun r => some ⟨.v (.one (.d (.int .i64) r)), []⟩) := by
  kernel_rfl
theorem s2_ev {g21 : schema_Key.G} {g26 : schema_Check.G} {s0 : S0} {s1 : S1} {s2 : S2} {x0 : List D_api_Line} {x1 : Int} {x2 : Int} {x3 : ByteArray} {x4 : Int} {x5 : List D_api_Col} {x6 : List D_api_Line} : evAt (env g21 g26 s0 s1 s2) [1, 1, 1, 5, 4, 1, 0, 1, 1] [1, 15, 16, 17] [.v (.one (.ptr 0 0)), .v (.one (.d (.sl T_api_Line) x0)), .v (.one (.d (.int .i64) x1)), .v (.one (.d (.int .i64) x2))] [some (.box [(.d .str x3), (.d (.int .i64) x4), (.d (.sl T_api_Col) x5), (.d (.sl T_api_Line) x6)])] some = s2c g21 g26 s0 s1 s2 x0 x1 x2 x3 x4 x5 x6 (fun r => some ⟨.v (.one (.d (.int .i64) r)), []⟩) := by
  kernel_rfl
mutual
def s0 : Nat → (List D_api_Line) → Int → Int → ByteArray → Int → (List D_api_Col) → (List D_api_Line) → Option Int
  | 0, _, _, _, _, _, _, _ => none
  | k + 1, x0, x1, x2, x3, x4, x5, x6 => s0c (schema_Key.f k) (schema_Check.f k) (s0 k) (s1 k) (s2 k) x0 x1 x2 x3 x4 x5 x6 some
def s1 : Nat → (List D_api_Line) → Int → Int → Bool → ByteArray → Int → (List D_api_Col) → (List D_api_Line) → Option Int
  | 0, _, _, _, _, _, _, _, _ => none
  | k + 1, x0, x1, x2, x3, x4, x5, x6, x7 => s1c (schema_Key.f k) (schema_Check.f k) (s0 k) (s1 k) (s2 k) x0 x1 x2 x3 x4 x5 x6 x7 some
def s2 : Nat → (List D_api_Line) → Int → Int → ByteArray → Int → (List D_api_Col) → (List D_api_Line) → Option Int
  | 0, _, _, _, _, _, _, _ => none
  | k + 1, x0, x1, x2, x3, x4, x5, x6 => s2c (schema_Key.f k) (schema_Check.f k) (s0 k) (s1 k) (s2 k) x0 x1 x2 x3 x4 x5 x6 some
end
def f (k : Nat) (a0 : ByteArray) (a1 : Int) (a2 : List D_api_Col) (a3 : List D_api_Line) : Option Int := c (schema_Key.f k) (schema_Check.f k) (s0 k) (s1 k) (s2 k) a0 a1 a2 a3 some
theorem is {g21 : schema_Key.G} {g26 : schema_Check.G} {s0 : S0} {s1 : S1} {s2 : S2} : FnIs (env g21 g26 s0 s1 s2) 8 f8 := ⟨func8, rfl, rfl, rfl, by decide⟩
theorem envok {g21 : schema_Key.G} {g26 : schema_Check.G} {s0 : S0} {s1 : S1} {s2 : S2} (h21 : CtOK prog 21 (schema_Key.ct g21)) (h26 : CtOK prog 26 (schema_Check.ct g26)) : EnvOK (env g21 g26 s0 s1 s2).toEnv := by
  intro f c h
  simp only [env] at h
  split at h
  · rename_i e; subst e; cases h; exact h21
  split at h
  · rename_i e; subst e; cases h; exact h26
  simp at h
noncomputable abbrev E (k : Nat) : FEnv := env (schema_Key.f k) (schema_Check.f k) (s0 k) (s1 k) (s2 k)
theorem hE (k : Nat) : EnvOK (E k).toEnv := envok (schema_Key.ok k) (schema_Check.ok k)
theorem segs_ok : ∀ k, ∀ s ∈ (E k).segs, SegOK (E k) f8 s
  | 0 => by
    intro s hs
    simp only [E, env, List.mem_cons, List.not_mem_nil, or_false] at hs
    rcases hs with rfl | rfl | rfl
    · intro tvs blks res h; exfalso; simp only [sg0] at h; split at h <;> simp [s0] at h
    · intro tvs blks res h; exfalso; simp only [sg1] at h; split at h <;> simp [s1] at h
    · intro tvs blks res h; exfalso; simp only [sg2] at h; split at h <;> simp [s2] at h
  | k + 1 => by
    intro s hs
    simp only [E, env, List.mem_cons, List.not_mem_nil, or_false] at hs
    rcases hs with rfl | rfl | rfl
    · refine seg_of_ev (E := E k) (hE k) ⟨is.rvs⟩ (segs_ok k) ?_
      intro tvs blks res h
      simp only [sg0] at h
      split at h
      · exact (s0_ev.trans s0c_bind).trans h
      · simp at h
    · refine seg_of_ev (E := E k) (hE k) ⟨is.rvs⟩ (segs_ok k) ?_
      intro tvs blks res h
      simp only [sg1] at h
      split at h
      · exact (s1_ev.trans s1c_bind).trans h
      · simp at h
    · refine seg_of_ev (E := E k) (hE k) ⟨is.rvs⟩ (segs_ok k) ?_
      intro tvs blks res h
      simp only [sg2] at h
      split at h
      · exact (s2_ev.trans s2c_bind).trans h
      · simp at h
theorem ok (k : Nat) : CtOK prog 8 (ct (f k)) := by
  refine ct_of_ev (E := E k) is (hE k) (segs_ok k) rfl ?_
  intro tvs blks res h
  simp only [ct] at h
  split at h
  · exact (ev.trans c_bind).trans h
  · simp at h
end sheet_Check
/-! ### bytealg_abigen_runtime_cmpstring: function 86 (no body) -/
def bytealg_abigen_runtime_cmpstring.ct (g : ByteArray → ByteArray → Option Int) : Ct where
  nin := 0
  mv := []
  F := fun tvs blks {β} K => match tvs, blks with
    | [.v (.one (.d .str a0)), .v (.one (.d .str a1))], [] => (g a0 a1).bind fun r => K ⟨.v (.one (.d (.int .i64) r)), []⟩
    | _, _ => none
  legit := fun _ _ K _ h => by split at h; exact (legit1 K h :); simp at h
def bytealg_abigen_runtime_cmpstring.f (k : Nat) (a0 : ByteArray) (a1 : ByteArray) : Option Int := some (Lib.compareBytes a0.data.toList a1.data.toList)
theorem bytealg_abigen_runtime_cmpstring.ok (k : Nat) : CtOK Go.Proofs.Tryd.prog 86 (bytealg_abigen_runtime_cmpstring.ct (bytealg_abigen_runtime_cmpstring.f k)) := by
  refine ct_extern ?_
  intro tvs blks res h
  simp only [bytealg_abigen_runtime_cmpstring.ct] at h
  split at h
  · simp only [bytealg_abigen_runtime_cmpstring.f, Option.bind_some, Option.some.injEq] at h; subst h
    rename_i a0 a1
    refine ⟨.int .i64 (Lib.compareBytes a0.data.toList a1.data.toList), ?_, rfl, rfl⟩
    intro w S ρ H vals hm hv
    obtain ⟨v0, m0, rfl, h0, hv⟩ := All2.cons_left hv
    obtain ⟨v1, m1, rfl, h1, hv⟩ := All2.cons_left hv
    cases All2.nil_left hv
    simp only [RepTV, RepVV, RepAV, Rd, List.cons.injEq, and_true] at h0 h1
    subst h0; subst h1
    exact ⟨(run_callFunc_extern (e := Extern.BytealgCompare.compare) Go.Proofs.Tryd.func86 (by kernel_rfl) (by kernel_rfl) (by kernel_rfl) (by kernel_rfl) #[.string a0, .string a1] w).trans (by rw [Lib.run_compareString]; rfl), rfl⟩
  · simp at h

namespace bytealg_CompareString
abbrev G : Type := ByteArray → ByteArray → Option Int
def ct (g : G) : Ct where
  nin := 0
  mv := []
  F := fun tvs blks {β} K => match tvs, blks with
    | [.v (.one (.d .str a0)), .v (.one (.d .str a1))], [] => (g a0 a1).bind fun r => K ⟨.v (.one (.d (.int .i64) r)), []⟩
    | _, _ => none
  legit := fun _ _ K _ h => by split at h; exact (legit1 K h :); simp at h
noncomputable def env (g86 : ByteArray → ByteArray → Option Int)  : FEnv := { P := prog, ct := fun m => if m = 86 then some (bytealg_abigen_runtime_cmpstring.ct g86) else none, N := 8, body := f67.body.getD .skip, rvs := [.tmp 4], rts := [3], nin := 0, rmv := [], segs := [] }
def c {β : Type} (g86 : ByteArray → ByteArray → Option Int)  (a0 : ByteArray) (a1 : ByteArray) (ret : Int → Option β) : Option β := ((g86 a0 a1).bind fun r0 => (ret (r0)))
theorem c_bind {β : Type} {g86 : ByteArray → ByteArray → Option Int}  {a0 : ByteArray} {a1 : ByteArray} {ret : Int → Option β} : c g86  a0 a1 ret = (c g86  a0 a1 some).bind ret := by
  simp only [c, bif_bind, sum_bind, oa, os, on, ofs]
theorem ev {g86 : ByteArray → ByteArray → Option Int}  {a0 : ByteArray} {a1 : ByteArray} : evAt (env g86 ) [] [0, 1] [.v (.one (.d .str a0)), .v (.one (.d .str a1))] [] some = c g86  a0 a1 (fun r => some ⟨.v (.one (.d (.int .i64) r)), []⟩) := by
  kernel_rfl
def f (k : Nat) (a0 : ByteArray) (a1 : ByteArray) : Option Int := c (bytealg_abigen_runtime_cmpstring.f k)  a0 a1 some
theorem is {g86 : ByteArray → ByteArray → Option Int}  : FnIs (env g86 ) 67 f67 := ⟨func67, rfl, rfl, rfl, by decide⟩
theorem envok {g86 : ByteArray → ByteArray → Option Int}  (h86 : CtOK prog 86 (bytealg_abigen_runtime_cmpstring.ct g86)) : EnvOK (env g86 ).toEnv := by
  intro f c h
  simp only [env] at h
  split at h
  · rename_i e; subst e; cases h; exact h86
  simp at h
noncomputable abbrev E (k : Nat) : FEnv := env (bytealg_abigen_runtime_cmpstring.f k) 
theorem hE (k : Nat) : EnvOK (E k).toEnv := envok (bytealg_abigen_runtime_cmpstring.ok k)
theorem ok (k : Nat) : CtOK prog 67 (ct (f k)) := by
  refine ct_of_ev (E := E k) is (hE k) (fun s hs => by simp [E, env] at hs) rfl ?_
  intro tvs blks res h
  simp only [ct] at h
  split at h
  · exact (ev.trans c_bind).trans h
  · simp at h
end bytealg_CompareString
namespace strings_Compare
abbrev G : Type := ByteArray → ByteArray → Option Int
def ct (g : G) : Ct where
  nin := 0
  mv := []
  F := fun tvs blks {β} K => match tvs, blks with
    | [.v (.one (.d .str a0)), .v (.one (.d .str a1))], [] => (g a0 a1).bind fun r => K ⟨.v (.one (.d (.int .i64) r)), []⟩
    | _, _ => none
  legit := fun _ _ K _ h => by split at h; exact (legit1 K h :); simp at h
noncomputable def env (g67 : bytealg_CompareString.G)  : FEnv := { P := prog, ct := fun m => if m = 67 then some (bytealg_CompareString.ct g67) else none, N := 8, body := f49.body.getD .skip, rvs := [.tmp 4], rts := [3], nin := 0, rmv := [], segs := [] }
def c {β : Type} (g67 : bytealg_CompareString.G)  (a0 : ByteArray) (a1 : ByteArray) (ret : Int → Option β) : Option β := ((g67 a0 a1).bind fun r0 => (ret (r0)))
theorem c_bind {β : Type} {g67 : bytealg_CompareString.G}  {a0 : ByteArray} {a1 : ByteArray} {ret : Int → Option β} : c g67  a0 a1 ret = (c g67  a0 a1 some).bind ret := by
  simp only [c, bif_bind, sum_bind, oa, os, on, ofs]
theorem ev {g67 : bytealg_CompareString.G}  {a0 : ByteArray} {a1 : ByteArray} : evAt (env g67 ) [] [0, 1] [.v (.one (.d .str a0)), .v (.one (.d .str a1))] [] some = c g67  a0 a1 (fun r => some ⟨.v (.one (.d (.int .i64) r)), []⟩) := by
  kernel_rfl
def f (k : Nat) (a0 : ByteArray) (a1 : ByteArray) : Option Int := c (bytealg_CompareString.f k)  a0 a1 some
theorem is {g67 : bytealg_CompareString.G}  : FnIs (env g67 ) 49 f49 := ⟨func49, rfl, rfl, rfl, by decide⟩
theorem envok {g67 : bytealg_CompareString.G}  (h67 : CtOK prog 67 (bytealg_CompareString.ct g67)) : EnvOK (env g67 ).toEnv := by
  intro f c h
  simp only [env] at h
  split at h
  · rename_i e; subst e; cases h; exact h67
  simp at h
noncomputable abbrev E (k : Nat) : FEnv := env (bytealg_CompareString.f k) 
theorem hE (k : Nat) : EnvOK (E k).toEnv := envok (bytealg_CompareString.ok k)
theorem ok (k : Nat) : CtOK prog 49 (ct (f k)) := by
  refine ct_of_ev (E := E k) is (hE k) (fun s hs => by simp [E, env] at hs) rfl ?_
  intro tvs blks res h
  simp only [ct] at h
  split at h
  · exact (ev.trans c_bind).trans h
  · simp at h
end strings_Compare
namespace sheet_at_1
abbrev G : Type := ByteArray → (List D_api_Value) → ByteArray → Option Int
def ct (g : G) : Ct where
  nin := 0
  mv := []
  F := fun tvs blks {β} K => match tvs, blks with
    | [.v (.agg [(.d .str a0), (.d (.sl (.pair (.int .i64) (.pair (.int .i64) (.pair (.int .u64) (.pair .str .unit))))) a1)]), .v (.one (.d .str a2))], [] => (g a0 a1 a2).bind fun r => K ⟨.v (.one (.d (.int .i64) r)), []⟩
    | _, _ => none
  legit := fun _ _ K _ h => by split at h; exact (legit1 K h :); simp at h
noncomputable def env (g49 : strings_Compare.G)  : FEnv := { P := prog, ct := fun m => if m = 49 then some (strings_Compare.ct g49) else none, N := 9, body := f48.body.getD .skip, rvs := [.tmp 4], rts := [3], nin := 0, rmv := [], segs := [] }
def c {β : Type} (g49 : strings_Compare.G)  (a0 : ByteArray) (a1 : List D_api_Value) (a2 : ByteArray) (ret : Int → Option β) : Option β := ((g49 a0 a2).bind fun r0 => (ret (r0)))
theorem c_bind {β : Type} {g49 : strings_Compare.G}  {a0 : ByteArray} {a1 : List D_api_Value} {a2 : ByteArray} {ret : Int → Option β} : c g49  a0 a1 a2 ret = (c g49  a0 a1 a2 some).bind ret := by
  simp only [c, bif_bind, sum_bind, oa, os, on, ofs]
theorem ev {g49 : strings_Compare.G}  {a0 : ByteArray} {a1 : List D_api_Value} {a2 : ByteArray} : evAt (env g49 ) [] [0, 1] [.v (.agg [(.d .str a0), (.d (.sl T_api_Value) a1)]), .v (.one (.d .str a2))] [] some = c g49  a0 a1 a2 (fun r => some ⟨.v (.one (.d (.int .i64) r)), []⟩) := by
  kernel_rfl
def f (k : Nat) (a0 : ByteArray) (a1 : List D_api_Value) (a2 : ByteArray) : Option Int := c (strings_Compare.f k)  a0 a1 a2 some
theorem is {g49 : strings_Compare.G}  : FnIs (env g49 ) 48 f48 := ⟨func48, rfl, rfl, rfl, by decide⟩
theorem envok {g49 : strings_Compare.G}  (h49 : CtOK prog 49 (strings_Compare.ct g49)) : EnvOK (env g49 ).toEnv := by
  intro f c h
  simp only [env] at h
  split at h
  · rename_i e; subst e; cases h; exact h49
  simp at h
noncomputable abbrev E (k : Nat) : FEnv := env (strings_Compare.f k) 
theorem hE (k : Nat) : EnvOK (E k).toEnv := envok (strings_Compare.ok k)
theorem ok (k : Nat) : CtOK prog 48 (ct (f k)) := by
  refine ct_of_ev (E := E k) is (hE k) (fun s hs => by simp [E, env] at hs) rfl ?_
  intro tvs blks res h
  simp only [ct] at h
  split at h
  · exact (ev.trans c_bind).trans h
  · simp at h
end sheet_at_1
namespace api_Line_string
abbrev G : Type := (List D_api_Line) → ByteArray → Option (Int × Bool)
def ct (g : G) : Ct where
  nin := 0
  mv := []
  F := fun tvs blks {β} K => match tvs, blks with
    | [.v (.one (.d (.sl (.pair .str (.pair (.sl (.pair (.int .i64) (.pair (.int .i64) (.pair (.int .u64) (.pair .str .unit))))) .unit))) a0)), .v (.one (.d .str a1)), .v (.one (.fn 48 []))], [] => (g a0 a1).bind fun r => K ⟨.tup [(.one (.d (.int .i64) r.1)), (.one (.d .bool r.2))], []⟩
    | _, _ => none
  legit := fun _ _ K _ h => by split at h; exact (legit1 K h :); simp at h
abbrev S0 : Type := (List D_api_Line) → ByteArray → Int → Int → Int → Option (Int × Bool)
def sg0 (g : S0) : Seg where
  path := [4, 0, 1, 1, 1]
  prep := []
  keep := [0, 1, 2, 8, 9, 10]
  F := fun tvs blks {β} K => match tvs, blks with
    | [.v (.one (.d (.sl (.pair .str (.pair (.sl (.pair (.int .i64) (.pair (.int .i64) (.pair (.int .u64) (.pair .str .unit))))) .unit))) x0)), .v (.one (.d .str x1)), .v (.one (.fn 48 [])), .v (.one (.d (.int .i64) x2)), .v (.one (.d (.int .i64) x3)), .v (.one (.d (.int .i64) x4))], [] => (g x0 x1 x2 x3 x4).bind fun r => K ⟨.tup [(.one (.d (.int .i64) r.1)), (.one (.d .bool r.2))], []⟩
    | _, _ => none
  legit := fun _ _ K _ h => by split at h; exact (legit1 K h :); simp at h
noncomputable def env (g48 : sheet_at_1.G) (s0 : S0) : FEnv := { P := prog, ct := fun m => if m = 48 then some (sheet_at_1.ct g48) else none, N := 49, body := f47.body.getD .skip, rvs := [.tmp 6, .tmp 7], rts := [3, 4], nin := 0, rmv := [], segs := [sg0 s0] }
def c {β : Type} (g48 : sheet_at_1.G) (s0 : S0) (a0 : List D_api_Line) (a1 : ByteArray) (ret : (Int × Bool) → Option β) : Option β := ((s0 a0 a1 ((List.length a0) : Int) (0 : Int) ((List.length a0) : Int)).bind ret)
def s0c {β : Type} (g48 : sheet_at_1.G) (s0 : S0) (x0 : List D_api_Line) (x1 : ByteArray) (x2 : Int) (x3 : Int) (x4 : Int) (ret : (Int × Bool) → Option β) : Option β := (bif (decide (x3 < x4)) then (bif ((decide ((0 : Int) ≤ (IntKind.wrap IntKind.i64 (Int.fdiv (IntKind.wrap IntKind.u64 (IntKind.wrap IntKind.i64 (x3 + x4))) (2 : Int))))) && (decide ((IntKind.wrap IntKind.i64 (Int.fdiv (IntKind.wrap IntKind.u64 (IntKind.wrap IntKind.i64 (x3 + x4))) (2 : Int))) < ((List.length x0) : Int)))) then ((g48 (elem T_api_Line x0 (IntKind.wrap IntKind.i64 (Int.fdiv (IntKind.wrap IntKind.u64 (IntKind.wrap IntKind.i64 (x3 + x4))) (2 : Int)))).1 (elem T_api_Line x0 (IntKind.wrap IntKind.i64 (Int.fdiv (IntKind.wrap IntKind.u64 (IntKind.wrap IntKind.i64 (x3 + x4))) (2 : Int)))).2.1 x1).bind fun r0 => (bif (decide (r0 < (0 : Int))) then ((s0 x0 x1 x2 (IntKind.wrap IntKind.i64 ((IntKind.wrap IntKind.i64 (Int.fdiv (IntKind.wrap IntKind.u64 (IntKind.wrap IntKind.i64 (x3 + x4))) (2 : Int))) + (1 : Int))) x4).bind ret) else ((s0 x0 x1 x2 x3 (IntKind.wrap IntKind.i64 (Int.fdiv (IntKind.wrap IntKind.u64 (IntKind.wrap IntKind.i64 (x3 + x4))) (2 : Int)))).bind ret))) else none) else (bif (decide (x3 < x2)) then (bif ((decide ((0 : Int) ≤ x3)) && (decide (x3 < ((List.length x0) : Int)))) then ((g48 (elem T_api_Line x0 x3).1 (elem T_api_Line x0 x3).2.1 x1).bind fun r1 => (ret (x3, (r1 == (0 : Int))))) else none) else (ret (x3, false))))
theorem c_bind {β : Type} {g48 : sheet_at_1.G} {s0 : S0} {a0 : List D_api_Line} {a1 : ByteArray} {ret : (Int × Bool) → Option β} : c g48 s0 a0 a1 ret = (c g48 s0 a0 a1 some).bind ret := by
  simp only [c, bif_bind, sum_bind, oa, os, on, ofs]
theorem s0c_bind {β : Type} {g48 : sheet_at_1.G} {s0 : S0} {x0 : List D_api_Line} {x1 : ByteArray} {x2 : Int} {x3 : Int} {x4 : Int} {ret : (Int × Bool) → Option β} : s0c g48 s0 x0 x1 x2 x3 x4 ret = (s0c g48 s0 x0 x1 x2 x3 x4 some).bind ret := by
  simp only [s0c, bif_bind, sum_bind, oa, os, on, ofs]
theorem ev {g48 : sheet_at_1.G} {s0 : S0} {a0 : List D_api_Line} {a1 : ByteArray} : evAt (env g48 s0) [] [0, 1, 2] [.v (.one (.d (.sl T_api_Line) a0)), .v (.one (.d .str a1)), .v (.one (.fn 48 []))] [] some = c g48 s0 a0 a1 (fun r => some ⟨.tup [(.one (.d (.int .i64) r.1)), (.one (.d .bool r.2))], []⟩) := by
  kernel_rfl
theorem s0_ev {g48 : sheet_at_1.G} {s0 : S0} {x0 : List D_api_Line} {x1 : ByteArray} {x2 : Int} {x3 : Int} {x4 : Int} : evAt (env g48 s0) [4, 0, 1, 1, 1] [0, 1, 2, 8, 9, 10] [.v (.one (.d (.sl T_api_Line) x0)), .v (.one (.d .str x1)), .v (.one (.fn 48 [])), .v (.one (.d (.int .i64) x2)), .v (.one (.d (.int .i64) x3)), .v (.one (.d (.int .i64) x4))] [] some = s0c g48 s0 x0 x1 x2 x3 x4 (fun r => some ⟨.tup [(.one (.d (.int .i64) r.1)), (.one (.d .bool r.2))], []⟩) := by
  kernel_rfl
def s0 : Nat → (List D_api_Line) → ByteArray → Int → Int → Int → Option (Int × Bool)
  | 0, _, _, _, _, _ => none
  | k + 1, x0, x1, x2, x3, x4 => s0c (sheet_at_1.f k) (s0 k) x0 x1 x2 x3 x4 some
def f (k : Nat) (a0 : List D_api_Line) (a1 : ByteArray) : Option (Int × Bool) := c (sheet_at_1.f k) (s0 k) a0 a1 some
theorem is {g48 : sheet_at_1.G} {s0 : S0} : FnIs (env g48 s0) 47 f47 := ⟨func47, rfl, rfl, rfl, by decide⟩
theorem envok {g48 : sheet_at_1.G} {s0 : S0} (h48 : CtOK prog 48 (sheet_at_1.ct g48)) : EnvOK (env g48 s0).toEnv := by
  intro f c h
  simp only [env] at h
  split at h
  · rename_i e; subst e; cases h; exact h48
  simp at h
noncomputable abbrev E (k : Nat) : FEnv := env (sheet_at_1.f k) (s0 k)
theorem hE (k : Nat) : EnvOK (E k).toEnv := envok (sheet_at_1.ok k)
theorem segs_ok : ∀ k, ∀ s ∈ (E k).segs, SegOK (E k) f47 s
  | 0 => by
    intro s hs
    simp only [E, env, List.mem_cons, List.not_mem_nil, or_false] at hs
    rcases hs with rfl
    · intro tvs blks res h; exfalso; simp only [sg0] at h; split at h <;> simp [s0] at h
  | k + 1 => by
    intro s hs
    simp only [E, env, List.mem_cons, List.not_mem_nil, or_false] at hs
    rcases hs with rfl
    · refine seg_of_ev (E := E k) (hE k) ⟨is.rvs⟩ (segs_ok k) ?_
      intro tvs blks res h
      simp only [sg0] at h
      split at h
      · exact (s0_ev.trans s0c_bind).trans h
      · simp at h
theorem ok (k : Nat) : CtOK prog 47 (ct (f k)) := by
  refine ct_of_ev (E := E k) is (hE k) (segs_ok k) rfl ?_
  intro tvs blks res h
  simp only [ct] at h
  split at h
  · exact (ev.trans c_bind).trans h
  · simp at h
end api_Line_string
namespace sheet_at
abbrev G : Type := (List D_api_Line) → ByteArray → Option (Int × Bool)
def ct (g : G) : Ct where
  nin := 0
  mv := []
  F := fun tvs blks {β} K => match tvs, blks with
    | [.v (.one (.d (.sl (.pair .str (.pair (.sl (.pair (.int .i64) (.pair (.int .i64) (.pair (.int .u64) (.pair .str .unit))))) .unit))) a0)), .v (.one (.d .str a1))], [] => (g a0 a1).bind fun r => K ⟨.tup [(.one (.d (.int .i64) r.1)), (.one (.d .bool r.2))], []⟩
    | _, _ => none
  legit := fun _ _ K _ h => by split at h; exact (legit1 K h :); simp at h
noncomputable def env (g47 : api_Line_string.G) (g48 : sheet_at_1.G)  : FEnv := { P := prog, ct := fun m => if m = 47 then some (api_Line_string.ct g47) else if m = 48 then some (sheet_at_1.ct g48) else none, N := 11, body := f31.body.getD .skip, rvs := [.tmp 4, .tmp 5], rts := [3, 4], nin := 0, rmv := [], segs := [] }
def c {β : Type} (g47 : api_Line_string.G) (g48 : sheet_at_1.G)  (a0 : List D_api_Line) (a1 : ByteArray) (ret : (Int × Bool) → Option β) : Option β := ((g47 a0 a1).bind fun r0 => (ret (r0.1, r0.2)))
theorem c_bind {β : Type} {g47 : api_Line_string.G} {g48 : sheet_at_1.G}  {a0 : List D_api_Line} {a1 : ByteArray} {ret : (Int × Bool) → Option β} : c g47 g48  a0 a1 ret = (c g47 g48  a0 a1 some).bind ret := by
  simp only [c, bif_bind, sum_bind, oa, os, on, ofs]
theorem ev {g47 : api_Line_string.G} {g48 : sheet_at_1.G}  {a0 : List D_api_Line} {a1 : ByteArray} : evAt (env g47 g48 ) [] [0, 1] [.v (.one (.d (.sl T_api_Line) a0)), .v (.one (.d .str a1))] [] some = c g47 g48  a0 a1 (fun r => some ⟨.tup [(.one (.d (.int .i64) r.1)), (.one (.d .bool r.2))], []⟩) := by
  kernel_rfl
def f (k : Nat) (a0 : List D_api_Line) (a1 : ByteArray) : Option (Int × Bool) := c (api_Line_string.f k) (sheet_at_1.f k)  a0 a1 some
theorem is {g47 : api_Line_string.G} {g48 : sheet_at_1.G}  : FnIs (env g47 g48 ) 31 f31 := ⟨func31, rfl, rfl, rfl, by decide⟩
theorem envok {g47 : api_Line_string.G} {g48 : sheet_at_1.G}  (h47 : CtOK prog 47 (api_Line_string.ct g47)) (h48 : CtOK prog 48 (sheet_at_1.ct g48)) : EnvOK (env g47 g48 ).toEnv := by
  intro f c h
  simp only [env] at h
  split at h
  · rename_i e; subst e; cases h; exact h47
  split at h
  · rename_i e; subst e; cases h; exact h48
  simp at h
noncomputable abbrev E (k : Nat) : FEnv := env (api_Line_string.f k) (sheet_at_1.f k) 
theorem hE (k : Nat) : EnvOK (E k).toEnv := envok (api_Line_string.ok k) (sheet_at_1.ok k)
theorem ok (k : Nat) : CtOK prog 31 (ct (f k)) := by
  refine ct_of_ev (E := E k) is (hE k) (fun s hs => by simp [E, env] at hs) rfl ?_
  intro tvs blks res h
  simp only [ct] at h
  split at h
  · exact (ev.trans c_bind).trans h
  · simp at h
end sheet_at
end Go.Proofs.YtdbbkmmillnaiaaDoor.Aev
