/- By a program of this session (AEV): functions of the program as plain functions, and that the machine does what they say. -/
import Derived.Test.YtchlbajnmhffpaaAevW
import Derived.Test.YtchlbajnmhffpaaProg
import Derived.Laws.Externs
import Derived.Lib.Bytealg
import Derived.Test.YtchlbajnmhffpaaF1
import Derived.Test.YtchlbajnmhffpaaF2
import Derived.Test.YtchlbajnmhffpaaF3
namespace Go.Proofs.Ytchlbajnmhffpaa.Aev
set_option linter.unusedVariables false
set_option linter.unusedSimpArgs false
set_option maxRecDepth 100000
set_option maxHeartbeats 4000000
open Go
/-! ### values_Check: function 25 -/
def ct_values_Check (g : Int → Int → Int → ByteArray → Option Int) : Ct where
  nin := 0
  mv := []
  F := fun tvs blks {β} K => match tvs, blks with
    | [.v (.agg [(.d (.int .i64) a0), (.d (.int .i64) a1), (.d (.int .u64) a2), (.d .str a3)])], [] => (g a0 a1 a2 a3).bind fun r => K ⟨.v (.one (.d (.int .i64) r)), []⟩
    | _, _ => none
  legit := fun tvs blks K r h => by
    split at h
    · obtain ⟨x, hx, hk⟩ := Option.bind_eq_some_iff.1 h
      refine ⟨_, ?_, hk⟩
      simp only [hx, Option.bind_some]
    · simp at h
def seg_values_Check_0 (g : Bool → Int → Int → Int → ByteArray → Option Int) : Seg where
  path := [1, 4, 0, 1]
  prep := []
  keep := [1, 3]
  F := fun tvs blks {β} K => match tvs, blks with
    | [.v (.one (.ptr 0 0)), .v (.one (.d .bool x0))], [some (.box [(.d (.int .i64) x1), (.d (.int .i64) x2), (.d (.int .u64) x3), (.d .str x4)])] => (g x0 x1 x2 x3 x4).bind fun r => K ⟨.v (.one (.d (.int .i64) r)), []⟩
    | _, _ => none
  legit := fun tvs blks K r h => by
    split at h
    · obtain ⟨x, hx, hk⟩ := Option.bind_eq_some_iff.1 h
      refine ⟨_, ?_, hk⟩
      simp only [hx, Option.bind_some]
    · simp at h
def seg_values_Check_1 (g : Bool → Int → Int → Int → ByteArray → Option Int) : Seg where
  path := [1, 3, 1, 3, 1, 4, 0, 1]
  prep := []
  keep := [1, 17]
  F := fun tvs blks {β} K => match tvs, blks with
    | [.v (.one (.ptr 0 0)), .v (.one (.d .bool x0))], [some (.box [(.d (.int .i64) x1), (.d (.int .i64) x2), (.d (.int .u64) x3), (.d .str x4)])] => (g x0 x1 x2 x3 x4).bind fun r => K ⟨.v (.one (.d (.int .i64) r)), []⟩
    | _, _ => none
  legit := fun tvs blks K r h => by
    split at h
    · obtain ⟨x, hx, hk⟩ := Option.bind_eq_some_iff.1 h
      refine ⟨_, ?_, hk⟩
      simp only [hx, Option.bind_some]
    · simp at h
noncomputable def env_values_Check (g31 : Int → Int → Int → ByteArray → Option (Int × Int × Int × ByteArray)) (g32 : Int → Option Int) (g33 : ByteArray → Option Bool) (s0 : Bool → Int → Int → Int → ByteArray → Option Int) (s1 : Bool → Int → Int → Int → ByteArray → Option Int) : FEnv := { P := Go.Proofs.Try.prog, ct := fun m => if m = 31 then some (ct_values_only g31) else if m = 32 then some (ct_reals_Canon g32) else if m = 33 then some (ct_utf_Valid g33) else none, N := 53, body := Go.Proofs.Try.f25.body.getD .skip, rvs := [.tmp 2], rts := [24], nin := 0, rmv := [], segs := [seg_values_Check_0 s0, seg_values_Check_1 s1] }
def values_Check.c {β : Type} (g31 : Int → Int → Int → ByteArray → Option (Int × Int × Int × ByteArray)) (g32 : Int → Option Int) (g33 : ByteArray → Option Bool) (s0 : Bool → Int → Int → Int → ByteArray → Option Int) (s1 : Bool → Int → Int → Int → ByteArray → Option Int) (a0 : Int) (a1 : Int) (a2 : Int) (a3 : ByteArray) (ret : Int → Option β) : Option β := (bif (decide (a0 < (0 : Int))) then ((s0 true a0 a1 a2 a3).bind ret) else ((s0 (decide (a0 ≥ (6 : Int))) a0 a1 a2 a3).bind ret))
def values_Check.s0c {β : Type} (g31 : Int → Int → Int → ByteArray → Option (Int × Int × Int × ByteArray)) (g32 : Int → Option Int) (g33 : ByteArray → Option Bool) (s0 : Bool → Int → Int → Int → ByteArray → Option Int) (s1 : Bool → Int → Int → Int → ByteArray → Option Int) (x0 : Bool) (x1 : Int) (x2 : Int) (x3 : Int) (x4 : ByteArray) (ret : Int → Option β) : Option β := (bif x0 then (ret ((5 : Int))) else ((g31 x1 x2 x3 x4).bind fun r0 => (bif (!((r0.1 == x1) && ((r0.2.1 == x2) && ((r0.2.2.1 == x3) && (((ByteArray.toList r0.2.2.2) == (ByteArray.toList x4)) && true))))) then (ret ((4 : Int))) else (bif (x1 == (1 : Int)) then (bif (x2 != (0 : Int)) then ((s1 (x2 != (1 : Int)) x1 x2 x3 x4).bind ret) else ((s1 false x1 x2 x3 x4).bind ret)) else ((s1 false x1 x2 x3 x4).bind ret)))))
def values_Check.s1c {β : Type} (g31 : Int → Int → Int → ByteArray → Option (Int × Int × Int × ByteArray)) (g32 : Int → Option Int) (g33 : ByteArray → Option Bool) (s0 : Bool → Int → Int → Int → ByteArray → Option Int) (s1 : Bool → Int → Int → Int → ByteArray → Option Int) (x0 : Bool) (x1 : Int) (x2 : Int) (x3 : Int) (x4 : ByteArray) (ret : Int → Option β) : Option β := (bif x0 then (ret ((6 : Int))) else ((g32 x3).bind fun r0 => (bif (r0 != x3) then (ret ((4 : Int))) else (bif (decide (((ByteArray.size x4) : Int) > (64 : Int))) then (ret ((2 : Int))) else (bif (x1 == (5 : Int)) then ((g33 x4).bind fun r1 => (bif (!r1) then (ret ((7 : Int))) else (ret ((0 : Int))))) else (ret ((0 : Int))))))))
theorem values_Check.c_bind {β : Type} (g31 : Int → Int → Int → ByteArray → Option (Int × Int × Int × ByteArray)) (g32 : Int → Option Int) (g33 : ByteArray → Option Bool) (s0 : Bool → Int → Int → Int → ByteArray → Option Int) (s1 : Bool → Int → Int → Int → ByteArray → Option Int) (a0 : Int) (a1 : Int) (a2 : Int) (a3 : ByteArray) (ret : Int → Option β) : values_Check.c g31 g32 g33 s0 s1 a0 a1 a2 a3 ret = (values_Check.c g31 g32 g33 s0 s1 a0 a1 a2 a3 some).bind ret := by
  simp only [values_Check.c, bif_bind, sum_bind, Option.bind_assoc, Option.bind_some, Option.bind_none, Option.bind_fun_some]
theorem values_Check.s0c_bind {β : Type} (g31 : Int → Int → Int → ByteArray → Option (Int × Int × Int × ByteArray)) (g32 : Int → Option Int) (g33 : ByteArray → Option Bool) (s0 : Bool → Int → Int → Int → ByteArray → Option Int) (s1 : Bool → Int → Int → Int → ByteArray → Option Int) (x0 : Bool) (x1 : Int) (x2 : Int) (x3 : Int) (x4 : ByteArray) (ret : Int → Option β) : values_Check.s0c g31 g32 g33 s0 s1 x0 x1 x2 x3 x4 ret = (values_Check.s0c g31 g32 g33 s0 s1 x0 x1 x2 x3 x4 some).bind ret := by
  simp only [values_Check.s0c, bif_bind, sum_bind, Option.bind_assoc, Option.bind_some, Option.bind_none, Option.bind_fun_some]
theorem values_Check.s1c_bind {β : Type} (g31 : Int → Int → Int → ByteArray → Option (Int × Int × Int × ByteArray)) (g32 : Int → Option Int) (g33 : ByteArray → Option Bool) (s0 : Bool → Int → Int → Int → ByteArray → Option Int) (s1 : Bool → Int → Int → Int → ByteArray → Option Int) (x0 : Bool) (x1 : Int) (x2 : Int) (x3 : Int) (x4 : ByteArray) (ret : Int → Option β) : values_Check.s1c g31 g32 g33 s0 s1 x0 x1 x2 x3 x4 ret = (values_Check.s1c g31 g32 g33 s0 s1 x0 x1 x2 x3 x4 some).bind ret := by
  simp only [values_Check.s1c, bif_bind, sum_bind, Option.bind_assoc, Option.bind_some, Option.bind_none, Option.bind_fun_some]
theorem values_Check.ev (g31 : Int → Int → Int → ByteArray → Option (Int × Int × Int × ByteArray)) (g32 : Int → Option Int) (g33 : ByteArray → Option Bool) (s0 : Bool → Int → Int → Int → ByteArray → Option Int) (s1 : Bool → Int → Int → Int → ByteArray → Option Int) (a0 : Int) (a1 : Int) (a2 : Int) (a3 : ByteArray) : evAt (env_values_Check g31 g32 g33 s0 s1) [] [0] [.v (.agg [(.d (.int .i64) a0), (.d (.int .i64) a1), (.d (.int .u64) a2), (.d .str a3)])] [] some = values_Check.c g31 g32 g33 s0 s1 a0 a1 a2 a3 (fun r => some ⟨.v (.one (.d (.int .i64) r)), []⟩) := by
  kernel_rfl
theorem values_Check.s0_ev (g31 : Int → Int → Int → ByteArray → Option (Int × Int × Int × ByteArray)) (g32 : Int → Option Int) (g33 : ByteArray → Option Bool) (s0 : Bool → Int → Int → Int → ByteArray → Option Int) (s1 : Bool → Int → Int → Int → ByteArray → Option Int) (x0 : Bool) (x1 : Int) (x2 : Int) (x3 : Int) (x4 : ByteArray) : evAt (env_values_Check g31 g32 g33 s0 s1) [1, 4, 0, 1] [1, 3] [.v (.one (.ptr 0 0)), .v (.one (.d .bool x0))] [some (.box [(.d (.int .i64) x1), (.d (.int .i64) x2), (.d (.int .u64) x3), (.d .str x4)])] some = values_Check.s0c g31 g32 g33 s0 s1 x0 x1 x2 x3 x4 (fun r => some ⟨.v (.one (.d (.int .i64) r)), []⟩) := by
  kernel_rfl
theorem values_Check.s1_ev (g31 : Int → Int → Int → ByteArray → Option (Int × Int × Int × ByteArray)) (g32 : Int → Option Int) (g33 : ByteArray → Option Bool) (s0 : Bool → Int → Int → Int → ByteArray → Option Int) (s1 : Bool → Int → Int → Int → ByteArray → Option Int) (x0 : Bool) (x1 : Int) (x2 : Int) (x3 : Int) (x4 : ByteArray) : evAt (env_values_Check g31 g32 g33 s0 s1) [1, 3, 1, 3, 1, 4, 0, 1] [1, 17] [.v (.one (.ptr 0 0)), .v (.one (.d .bool x0))] [some (.box [(.d (.int .i64) x1), (.d (.int .i64) x2), (.d (.int .u64) x3), (.d .str x4)])] some = values_Check.s1c g31 g32 g33 s0 s1 x0 x1 x2 x3 x4 (fun r => some ⟨.v (.one (.d (.int .i64) r)), []⟩) := by
  kernel_rfl
mutual
def values_Check.s0 : Nat → Bool → Int → Int → Int → ByteArray → Option Int
  | 0, _, _, _, _, _ => none
  | k + 1, x0, x1, x2, x3, x4 => values_Check.s0c (values_only.f k) (reals_Canon.f k) (utf_Valid.f k) (values_Check.s0 k) (values_Check.s1 k) x0 x1 x2 x3 x4 some
def values_Check.s1 : Nat → Bool → Int → Int → Int → ByteArray → Option Int
  | 0, _, _, _, _, _ => none
  | k + 1, x0, x1, x2, x3, x4 => values_Check.s1c (values_only.f k) (reals_Canon.f k) (utf_Valid.f k) (values_Check.s0 k) (values_Check.s1 k) x0 x1 x2 x3 x4 some
end
def values_Check.f (k : Nat) (a0 : Int) (a1 : Int) (a2 : Int) (a3 : ByteArray) : Option Int := values_Check.c (values_only.f k) (reals_Canon.f k) (utf_Valid.f k) (values_Check.s0 k) (values_Check.s1 k) a0 a1 a2 a3 some
theorem values_Check.is (g31 : Int → Int → Int → ByteArray → Option (Int × Int × Int × ByteArray)) (g32 : Int → Option Int) (g33 : ByteArray → Option Bool) (s0 : Bool → Int → Int → Int → ByteArray → Option Int) (s1 : Bool → Int → Int → Int → ByteArray → Option Int) : FnIs (env_values_Check g31 g32 g33 s0 s1) 25 Go.Proofs.Try.f25 := ⟨Go.Proofs.Try.func25, rfl, rfl, rfl, by decide⟩
theorem values_Check.envok (g31 : Int → Int → Int → ByteArray → Option (Int × Int × Int × ByteArray)) (g32 : Int → Option Int) (g33 : ByteArray → Option Bool) (s0 : Bool → Int → Int → Int → ByteArray → Option Int) (s1 : Bool → Int → Int → Int → ByteArray → Option Int) (h31 : CtOK Go.Proofs.Try.prog 31 (ct_values_only g31)) (h32 : CtOK Go.Proofs.Try.prog 32 (ct_reals_Canon g32)) (h33 : CtOK Go.Proofs.Try.prog 33 (ct_utf_Valid g33)) : EnvOK (env_values_Check g31 g32 g33 s0 s1).toEnv := by
  intro f c h
  simp only [env_values_Check] at h
  split at h
  · rename_i e; subst e; cases h; exact h31
  split at h
  · rename_i e; subst e; cases h; exact h32
  split at h
  · rename_i e; subst e; cases h; exact h33
  simp at h
theorem values_Check.segs_ok : ∀ k, ∀ s ∈ (env_values_Check (values_only.f k) (reals_Canon.f k) (utf_Valid.f k) (values_Check.s0 k) (values_Check.s1 k)).segs, SegOK (env_values_Check (values_only.f k) (reals_Canon.f k) (utf_Valid.f k) (values_Check.s0 k) (values_Check.s1 k)) Go.Proofs.Try.f25 s
  | 0 => by
    intro s hs
    simp only [env_values_Check, List.mem_cons, List.not_mem_nil, or_false] at hs
    rcases hs with rfl | rfl
    · intro tvs blks res h; exfalso; simp only [seg_values_Check_0] at h; split at h <;> simp [values_Check.s0] at h
    · intro tvs blks res h; exfalso; simp only [seg_values_Check_1] at h; split at h <;> simp [values_Check.s1] at h
  | k + 1 => by
    have ih := values_Check.segs_ok k
    intro s hs
    simp only [env_values_Check, List.mem_cons, List.not_mem_nil, or_false] at hs
    rcases hs with rfl | rfl
    · refine seg_of_ev (E := env_values_Check (values_only.f k) (reals_Canon.f k) (utf_Valid.f k) (values_Check.s0 k) (values_Check.s1 k)) (values_Check.envok _ _ _ _ _  (values_only.ok k) (reals_Canon.ok k) (utf_Valid.ok k)) ⟨(values_Check.is (values_only.f k) (reals_Canon.f k) (utf_Valid.f k) (values_Check.s0 k) (values_Check.s1 k)).rvs⟩ ih ?_
      intro tvs blks res h
      simp only [seg_values_Check_0] at h
      split at h
      · refine (values_Check.s0_ev (values_only.f k) (reals_Canon.f k) (utf_Valid.f k) (values_Check.s0 k) (values_Check.s1 k) _ _ _ _ _ ).trans ?_
        rw [values_Check.s0c_bind]
        exact h
      · simp at h
    · refine seg_of_ev (E := env_values_Check (values_only.f k) (reals_Canon.f k) (utf_Valid.f k) (values_Check.s0 k) (values_Check.s1 k)) (values_Check.envok _ _ _ _ _  (values_only.ok k) (reals_Canon.ok k) (utf_Valid.ok k)) ⟨(values_Check.is (values_only.f k) (reals_Canon.f k) (utf_Valid.f k) (values_Check.s0 k) (values_Check.s1 k)).rvs⟩ ih ?_
      intro tvs blks res h
      simp only [seg_values_Check_1] at h
      split at h
      · refine (values_Check.s1_ev (values_only.f k) (reals_Canon.f k) (utf_Valid.f k) (values_Check.s0 k) (values_Check.s1 k) _ _ _ _ _ ).trans ?_
        rw [values_Check.s1c_bind]
        exact h
      · simp at h
theorem values_Check.ok (k : Nat) : CtOK Go.Proofs.Try.prog 25 (ct_values_Check (values_Check.f k)) := by
  refine ct_of_ev (E := env_values_Check (values_only.f k) (reals_Canon.f k) (utf_Valid.f k) (values_Check.s0 k) (values_Check.s1 k)) (values_Check.is _ _ _ _ _ ) (values_Check.envok _ _ _ _ _  (values_only.ok k) (reals_Canon.ok k) (utf_Valid.ok k)) (values_Check.segs_ok k) rfl ?_
  intro tvs blks res h
  simp only [ct_values_Check] at h
  split at h
  · refine (values_Check.ev (values_only.f k) (reals_Canon.f k) (utf_Valid.f k) (values_Check.s0 k) (values_Check.s1 k) _ _ _ _ ).trans ?_
    rw [values_Check.c_bind]
    exact h
  · simp at h

/-! ### convert_Digits: function 26 -/
def ct_convert_Digits (g : Int → Option ByteArray) : Ct where
  nin := 0
  mv := []
  F := fun tvs blks {β} K => match tvs, blks with
    | [.v (.one (.d (.int .i64) a0))], [] => (g a0).bind fun r => K ⟨.v (.one (.d .str r)), []⟩
    | _, _ => none
  legit := fun tvs blks K r h => by
    split at h
    · obtain ⟨x, hx, hk⟩ := Option.bind_eq_some_iff.1 h
      refine ⟨_, ?_, hk⟩
      simp only [hx, Option.bind_some]
    · simp at h
def seg_convert_Digits_0 (g : Int → Int → Option ByteArray) : Seg where
  path := [1, 1, 1]
  prep := []
  keep := [0, 3]
  F := fun tvs blks {β} K => match tvs, blks with
    | [.v (.one (.d (.int .i64) x0)), .v (.one (.d (.int .u64) x1))], [] => (g x0 x1).bind fun r => K ⟨.v (.one (.d .str r)), []⟩
    | _, _ => none
  legit := fun tvs blks K r h => by
    split at h
    · obtain ⟨x, hx, hk⟩ := Option.bind_eq_some_iff.1 h
      refine ⟨_, ?_, hk⟩
      simp only [hx, Option.bind_some]
    · simp at h
def seg_convert_Digits_1 (g : Int → Int → Int → (List Int) → Option ByteArray) : Seg where
  path := [4, 0, 1, 1, 1, 1, 1]
  prep := []
  keep := [0, 3, 4, 5]
  F := fun tvs blks {β} K => match tvs, blks with
    | [.v (.one (.d (.int .i64) x0)), .v (.one (.d (.int .u64) x1)), .v (.one (.arr 0 20)), .v (.one (.d (.int .i64) x2))], [some (.own (.int .u8) true x3)] => (g x0 x1 x2 x3).bind fun r => K ⟨.v (.one (.d .str r)), []⟩
    | _, _ => none
  legit := fun tvs blks K r h => by
    split at h
    · obtain ⟨x, hx, hk⟩ := Option.bind_eq_some_iff.1 h
      refine ⟨_, ?_, hk⟩
      simp only [hx, Option.bind_some]
    · simp at h
def seg_convert_Digits_2 (g : Int → Int → Int → Bool → (List Int) → Option ByteArray) : Seg where
  path := [1, 0, 5, 4, 0, 1, 1, 1, 1, 1]
  prep := []
  keep := [0, 3, 4, 5, 17]
  F := fun tvs blks {β} K => match tvs, blks with
    | [.v (.one (.d (.int .i64) x0)), .v (.one (.d (.int .u64) x1)), .v (.one (.arr 0 20)), .v (.one (.d (.int .i64) x2)), .v (.one (.d .bool x3))], [some (.own (.int .u8) true x4)] => (g x0 x1 x2 x3 x4).bind fun r => K ⟨.v (.one (.d .str r)), []⟩
    | _, _ => none
  legit := fun tvs blks K r h => by
    split at h
    · obtain ⟨x, hx, hk⟩ := Option.bind_eq_some_iff.1 h
      refine ⟨_, ?_, hk⟩
      simp only [hx, Option.bind_some]
    · simp at h
def seg_convert_Digits_3 (g : Int → Int → Int → (List Int) → Option ByteArray) : Seg where
  path := [1, 5, 4, 0, 1, 1, 1, 1, 1]
  prep := []
  keep := [0, 3, 4, 5]
  F := fun tvs blks {β} K => match tvs, blks with
    | [.v (.one (.d (.int .i64) x0)), .v (.one (.d (.int .u64) x1)), .v (.one (.arr 0 20)), .v (.one (.d (.int .i64) x2))], [some (.own (.int .u8) true x3)] => (g x0 x1 x2 x3).bind fun r => K ⟨.v (.one (.d .str r)), []⟩
    | _, _ => none
  legit := fun tvs blks K r h => by
    split at h
    · obtain ⟨x, hx, hk⟩ := Option.bind_eq_some_iff.1 h
      refine ⟨_, ?_, hk⟩
      simp only [hx, Option.bind_some]
    · simp at h
noncomputable def env_convert_Digits  (s0 : Int → Int → Option ByteArray) (s1 : Int → Int → Int → (List Int) → Option ByteArray) (s2 : Int → Int → Int → Bool → (List Int) → Option ByteArray) (s3 : Int → Int → Int → (List Int) → Option ByteArray) : FEnv := { P := Go.Proofs.Try.prog, ct := fun m => none, N := 37, body := Go.Proofs.Try.f26.body.getD .skip, rvs := [.tmp 2], rts := [9], nin := 0, rmv := [], segs := [seg_convert_Digits_0 s0, seg_convert_Digits_1 s1, seg_convert_Digits_2 s2, seg_convert_Digits_3 s3] }
def convert_Digits.c {β : Type}  (s0 : Int → Int → Option ByteArray) (s1 : Int → Int → Int → (List Int) → Option ByteArray) (s2 : Int → Int → Int → Bool → (List Int) → Option ByteArray) (s3 : Int → Int → Int → (List Int) → Option ByteArray) (a0 : Int) (ret : ByteArray → Option β) : Option β := (bif (decide (a0 < (0 : Int))) then ((s0 a0 (IntKind.wrap IntKind.u64 ((0 : Int) - (IntKind.wrap IntKind.u64 a0)))).bind ret) else ((s0 a0 (IntKind.wrap IntKind.u64 a0)).bind ret))
def convert_Digits.s0c {β : Type}  (s0 : Int → Int → Option ByteArray) (s1 : Int → Int → Int → (List Int) → Option ByteArray) (s2 : Int → Int → Int → Bool → (List Int) → Option ByteArray) (s3 : Int → Int → Int → (List Int) → Option ByteArray) (x0 : Int) (x1 : Int) (ret : ByteArray → Option β) : Option β := ((s1 x0 x1 (20 : Int) [(0 : Int), (0 : Int), (0 : Int), (0 : Int), (0 : Int), (0 : Int), (0 : Int), (0 : Int), (0 : Int), (0 : Int), (0 : Int), (0 : Int), (0 : Int), (0 : Int), (0 : Int), (0 : Int), (0 : Int), (0 : Int), (0 : Int), (0 : Int)]).bind ret)
def convert_Digits.s1c {β : Type}  (s0 : Int → Int → Option ByteArray) (s1 : Int → Int → Int → (List Int) → Option ByteArray) (s2 : Int → Int → Int → Bool → (List Int) → Option ByteArray) (s3 : Int → Int → Int → (List Int) → Option ByteArray) (x0 : Int) (x1 : Int) (x2 : Int) (x3 : List Int) (ret : ByteArray → Option β) : Option β := (bif (x2 == (20 : Int)) then ((s2 x0 x1 x2 true x3).bind ret) else ((s2 x0 x1 x2 (decide (x1 > (0 : Int))) x3).bind ret))
def convert_Digits.s2c {β : Type}  (s0 : Int → Int → Option ByteArray) (s1 : Int → Int → Int → (List Int) → Option ByteArray) (s2 : Int → Int → Int → Bool → (List Int) → Option ByteArray) (s3 : Int → Int → Int → (List Int) → Option ByteArray) (x0 : Int) (x1 : Int) (x2 : Int) (x3 : Bool) (x4 : List Int) (ret : ByteArray → Option β) : Option β := (bif x3 then ((s3 x0 x1 x2 x4).bind ret) else (bif (decide (x0 < (0 : Int))) then (bif ((decide ((0 : Int) ≤ (IntKind.wrap IntKind.i64 (x2 - (1 : Int))))) && (decide ((IntKind.wrap IntKind.i64 (x2 - (1 : Int))) < (20 : Int)))) then (bif (((decide ((0 : Int) ≤ (IntKind.wrap IntKind.i64 (x2 - (1 : Int))))) && (decide ((IntKind.wrap IntKind.i64 (x2 - (1 : Int))) ≤ (20 : Int)))) && true) then (ret ((ByteArray.mk (List.toArray (List.map (fun n => (UInt8.ofNat (Int.toNat n))) (List.take ((20 : Nat) - (Int.toNat (IntKind.wrap IntKind.i64 (x2 - (1 : Int))))) (List.drop (Int.toNat (IntKind.wrap IntKind.i64 (x2 - (1 : Int)))) (List.set x4 (Int.toNat (IntKind.wrap IntKind.i64 (x2 - (1 : Int)))) (45 : Int))))))))) else none) else none) else (bif (((decide ((0 : Int) ≤ x2)) && (decide (x2 ≤ (20 : Int)))) && true) then (ret ((ByteArray.mk (List.toArray (List.map (fun n => (UInt8.ofNat (Int.toNat n))) (List.take ((20 : Nat) - (Int.toNat x2)) (List.drop (Int.toNat x2) x4))))))) else none)))
def convert_Digits.s3c {β : Type}  (s0 : Int → Int → Option ByteArray) (s1 : Int → Int → Int → (List Int) → Option ByteArray) (s2 : Int → Int → Int → Bool → (List Int) → Option ByteArray) (s3 : Int → Int → Int → (List Int) → Option ByteArray) (x0 : Int) (x1 : Int) (x2 : Int) (x3 : List Int) (ret : ByteArray → Option β) : Option β := (bif ((decide ((0 : Int) ≤ (IntKind.wrap IntKind.i64 (x2 - (1 : Int))))) && (decide ((IntKind.wrap IntKind.i64 (x2 - (1 : Int))) < (20 : Int)))) then ((s1 x0 (IntKind.wrap IntKind.u64 (Int.tdiv x1 (10 : Int))) (IntKind.wrap IntKind.i64 (x2 - (1 : Int))) (List.set x3 (Int.toNat (IntKind.wrap IntKind.i64 (x2 - (1 : Int)))) (IntKind.wrap IntKind.u8 (IntKind.wrap IntKind.u64 ((48 : Int) + (Int.tmod x1 (10 : Int))))))).bind ret) else none)
theorem convert_Digits.c_bind {β : Type}  (s0 : Int → Int → Option ByteArray) (s1 : Int → Int → Int → (List Int) → Option ByteArray) (s2 : Int → Int → Int → Bool → (List Int) → Option ByteArray) (s3 : Int → Int → Int → (List Int) → Option ByteArray) (a0 : Int) (ret : ByteArray → Option β) : convert_Digits.c  s0 s1 s2 s3 a0 ret = (convert_Digits.c  s0 s1 s2 s3 a0 some).bind ret := by
  simp only [convert_Digits.c, bif_bind, sum_bind, Option.bind_assoc, Option.bind_some, Option.bind_none, Option.bind_fun_some]
theorem convert_Digits.s0c_bind {β : Type}  (s0 : Int → Int → Option ByteArray) (s1 : Int → Int → Int → (List Int) → Option ByteArray) (s2 : Int → Int → Int → Bool → (List Int) → Option ByteArray) (s3 : Int → Int → Int → (List Int) → Option ByteArray) (x0 : Int) (x1 : Int) (ret : ByteArray → Option β) : convert_Digits.s0c  s0 s1 s2 s3 x0 x1 ret = (convert_Digits.s0c  s0 s1 s2 s3 x0 x1 some).bind ret := by
  simp only [convert_Digits.s0c, bif_bind, sum_bind, Option.bind_assoc, Option.bind_some, Option.bind_none, Option.bind_fun_some]
theorem convert_Digits.s1c_bind {β : Type}  (s0 : Int → Int → Option ByteArray) (s1 : Int → Int → Int → (List Int) → Option ByteArray) (s2 : Int → Int → Int → Bool → (List Int) → Option ByteArray) (s3 : Int → Int → Int → (List Int) → Option ByteArray) (x0 : Int) (x1 : Int) (x2 : Int) (x3 : List Int) (ret : ByteArray → Option β) : convert_Digits.s1c  s0 s1 s2 s3 x0 x1 x2 x3 ret = (convert_Digits.s1c  s0 s1 s2 s3 x0 x1 x2 x3 some).bind ret := by
  simp only [convert_Digits.s1c, bif_bind, sum_bind, Option.bind_assoc, Option.bind_some, Option.bind_none, Option.bind_fun_some]
theorem convert_Digits.s2c_bind {β : Type}  (s0 : Int → Int → Option ByteArray) (s1 : Int → Int → Int → (List Int) → Option ByteArray) (s2 : Int → Int → Int → Bool → (List Int) → Option ByteArray) (s3 : Int → Int → Int → (List Int) → Option ByteArray) (x0 : Int) (x1 : Int) (x2 : Int) (x3 : Bool) (x4 : List Int) (ret : ByteArray → Option β) : convert_Digits.s2c  s0 s1 s2 s3 x0 x1 x2 x3 x4 ret = (convert_Digits.s2c  s0 s1 s2 s3 x0 x1 x2 x3 x4 some).bind ret := by
  simp only [convert_Digits.s2c, bif_bind, sum_bind, Option.bind_assoc, Option.bind_some, Option.bind_none, Option.bind_fun_some]
theorem convert_Digits.s3c_bind {β : Type}  (s0 : Int → Int → Option ByteArray) (s1 : Int → Int → Int → (List Int) → Option ByteArray) (s2 : Int → Int → Int → Bool → (List Int) → Option ByteArray) (s3 : Int → Int → Int → (List Int) → Option ByteArray) (x0 : Int) (x1 : Int) (x2 : Int) (x3 : List Int) (ret : ByteArray → Option β) : convert_Digits.s3c  s0 s1 s2 s3 x0 x1 x2 x3 ret = (convert_Digits.s3c  s0 s1 s2 s3 x0 x1 x2 x3 some).bind ret := by
  simp only [convert_Digits.s3c, bif_bind, sum_bind, Option.bind_assoc, Option.bind_some, Option.bind_none, Option.bind_fun_some]
theorem convert_Digits.ev  (s0 : Int → Int → Option ByteArray) (s1 : Int → Int → Int → (List Int) → Option ByteArray) (s2 : Int → Int → Int → Bool → (List Int) → Option ByteArray) (s3 : Int → Int → Int → (List Int) → Option ByteArray) (a0 : Int) : evAt (env_convert_Digits  s0 s1 s2 s3) [] [0] [.v (.one (.d (.int .i64) a0))] [] some = convert_Digits.c  s0 s1 s2 s3 a0 (fun r => some ⟨.v (.one (.d .str r)), []⟩) := by
  kernel_rfl
theorem convert_Digits.s0_ev  (s0 : Int → Int → Option ByteArray) (s1 : Int → Int → Int → (List Int) → Option ByteArray) (s2 : Int → Int → Int → Bool → (List Int) → Option ByteArray) (s3 : Int → Int → Int → (List Int) → Option ByteArray) (x0 : Int) (x1 : Int) : evAt (env_convert_Digits  s0 s1 s2 s3) [1, 1, 1] [0, 3] [.v (.one (.d (.int .i64) x0)), .v (.one (.d (.int .u64) x1))] [] some = convert_Digits.s0c  s0 s1 s2 s3 x0 x1 (fun r => some ⟨.v (.one (.d .str r)), []⟩) := by
  kernel_rfl
theorem convert_Digits.s1_ev  (s0 : Int → Int → Option ByteArray) (s1 : Int → Int → Int → (List Int) → Option ByteArray) (s2 : Int → Int → Int → Bool → (List Int) → Option ByteArray) (s3 : Int → Int → Int → (List Int) → Option ByteArray) (x0 : Int) (x1 : Int) (x2 : Int) (x3 : List Int) : evAt (env_convert_Digits  s0 s1 s2 s3) [4, 0, 1, 1, 1, 1, 1] [0, 3, 4, 5] [.v (.one (.d (.int .i64) x0)), .v (.one (.d (.int .u64) x1)), .v (.one (.arr 0 20)), .v (.one (.d (.int .i64) x2))] [some (.own (.int .u8) true x3)] some = convert_Digits.s1c  s0 s1 s2 s3 x0 x1 x2 x3 (fun r => some ⟨.v (.one (.d .str r)), []⟩) := by
  kernel_rfl
theorem convert_Digits.s2_ev  (s0 : Int → Int → Option ByteArray) (s1 : Int → Int → Int → (List Int) → Option ByteArray) (s2 : Int → Int → Int → Bool → (List Int) → Option ByteArray) (s3 : Int → Int → Int → (List Int) → Option ByteArray) (x0 : Int) (x1 : Int) (x2 : Int) (x3 : Bool) (x4 : List Int) : evAt (env_convert_Digits  s0 s1 s2 s3) [1, 0, 5, 4, 0, 1, 1, 1, 1, 1] [0, 3, 4, 5, 17] [.v (.one (.d (.int .i64) x0)), .v (.one (.d (.int .u64) x1)), .v (.one (.arr 0 20)), .v (.one (.d (.int .i64) x2)), .v (.one (.d .bool x3))] [some (.own (.int .u8) true x4)] some = convert_Digits.s2c  s0 s1 s2 s3 x0 x1 x2 x3 x4 (fun r => some ⟨.v (.one (.d .str r)), []⟩) := by
  kernel_rfl
theorem convert_Digits.s3_ev  (s0 : Int → Int → Option ByteArray) (s1 : Int → Int → Int → (List Int) → Option ByteArray) (s2 : Int → Int → Int → Bool → (List Int) → Option ByteArray) (s3 : Int → Int → Int → (List Int) → Option ByteArray) (x0 : Int) (x1 : Int) (x2 : Int) (x3 : List Int) : evAt (env_convert_Digits  s0 s1 s2 s3) [1, 5, 4, 0, 1, 1, 1, 1, 1] [0, 3, 4, 5] [.v (.one (.d (.int .i64) x0)), .v (.one (.d (.int .u64) x1)), .v (.one (.arr 0 20)), .v (.one (.d (.int .i64) x2))] [some (.own (.int .u8) true x3)] some = convert_Digits.s3c  s0 s1 s2 s3 x0 x1 x2 x3 (fun r => some ⟨.v (.one (.d .str r)), []⟩) := by
  kernel_rfl
mutual
def convert_Digits.s0 : Nat → Int → Int → Option ByteArray
  | 0, _, _ => none
  | k + 1, x0, x1 => convert_Digits.s0c  (convert_Digits.s0 k) (convert_Digits.s1 k) (convert_Digits.s2 k) (convert_Digits.s3 k) x0 x1 some
def convert_Digits.s1 : Nat → Int → Int → Int → (List Int) → Option ByteArray
  | 0, _, _, _, _ => none
  | k + 1, x0, x1, x2, x3 => convert_Digits.s1c  (convert_Digits.s0 k) (convert_Digits.s1 k) (convert_Digits.s2 k) (convert_Digits.s3 k) x0 x1 x2 x3 some
def convert_Digits.s2 : Nat → Int → Int → Int → Bool → (List Int) → Option ByteArray
  | 0, _, _, _, _, _ => none
  | k + 1, x0, x1, x2, x3, x4 => convert_Digits.s2c  (convert_Digits.s0 k) (convert_Digits.s1 k) (convert_Digits.s2 k) (convert_Digits.s3 k) x0 x1 x2 x3 x4 some
def convert_Digits.s3 : Nat → Int → Int → Int → (List Int) → Option ByteArray
  | 0, _, _, _, _ => none
  | k + 1, x0, x1, x2, x3 => convert_Digits.s3c  (convert_Digits.s0 k) (convert_Digits.s1 k) (convert_Digits.s2 k) (convert_Digits.s3 k) x0 x1 x2 x3 some
end
def convert_Digits.f (k : Nat) (a0 : Int) : Option ByteArray := convert_Digits.c  (convert_Digits.s0 k) (convert_Digits.s1 k) (convert_Digits.s2 k) (convert_Digits.s3 k) a0 some
theorem convert_Digits.is  (s0 : Int → Int → Option ByteArray) (s1 : Int → Int → Int → (List Int) → Option ByteArray) (s2 : Int → Int → Int → Bool → (List Int) → Option ByteArray) (s3 : Int → Int → Int → (List Int) → Option ByteArray) : FnIs (env_convert_Digits  s0 s1 s2 s3) 26 Go.Proofs.Try.f26 := ⟨Go.Proofs.Try.func26, rfl, rfl, rfl, by decide⟩
theorem convert_Digits.envok  (s0 : Int → Int → Option ByteArray) (s1 : Int → Int → Int → (List Int) → Option ByteArray) (s2 : Int → Int → Int → Bool → (List Int) → Option ByteArray) (s3 : Int → Int → Int → (List Int) → Option ByteArray)  : EnvOK (env_convert_Digits  s0 s1 s2 s3).toEnv := by
  intro f c h
  simp only [env_convert_Digits] at h
  simp at h
theorem convert_Digits.segs_ok : ∀ k, ∀ s ∈ (env_convert_Digits  (convert_Digits.s0 k) (convert_Digits.s1 k) (convert_Digits.s2 k) (convert_Digits.s3 k)).segs, SegOK (env_convert_Digits  (convert_Digits.s0 k) (convert_Digits.s1 k) (convert_Digits.s2 k) (convert_Digits.s3 k)) Go.Proofs.Try.f26 s
  | 0 => by
    intro s hs
    simp only [env_convert_Digits, List.mem_cons, List.not_mem_nil, or_false] at hs
    rcases hs with rfl | rfl | rfl | rfl
    · intro tvs blks res h; exfalso; simp only [seg_convert_Digits_0] at h; split at h <;> simp [convert_Digits.s0] at h
    · intro tvs blks res h; exfalso; simp only [seg_convert_Digits_1] at h; split at h <;> simp [convert_Digits.s1] at h
    · intro tvs blks res h; exfalso; simp only [seg_convert_Digits_2] at h; split at h <;> simp [convert_Digits.s2] at h
    · intro tvs blks res h; exfalso; simp only [seg_convert_Digits_3] at h; split at h <;> simp [convert_Digits.s3] at h
  | k + 1 => by
    have ih := convert_Digits.segs_ok k
    intro s hs
    simp only [env_convert_Digits, List.mem_cons, List.not_mem_nil, or_false] at hs
    rcases hs with rfl | rfl | rfl | rfl
    · refine seg_of_ev (E := env_convert_Digits  (convert_Digits.s0 k) (convert_Digits.s1 k) (convert_Digits.s2 k) (convert_Digits.s3 k)) (convert_Digits.envok _ _ _ _  ) ⟨(convert_Digits.is  (convert_Digits.s0 k) (convert_Digits.s1 k) (convert_Digits.s2 k) (convert_Digits.s3 k)).rvs⟩ ih ?_
      intro tvs blks res h
      simp only [seg_convert_Digits_0] at h
      split at h
      · refine (convert_Digits.s0_ev  (convert_Digits.s0 k) (convert_Digits.s1 k) (convert_Digits.s2 k) (convert_Digits.s3 k) _ _ ).trans ?_
        rw [convert_Digits.s0c_bind]
        exact h
      · simp at h
    · refine seg_of_ev (E := env_convert_Digits  (convert_Digits.s0 k) (convert_Digits.s1 k) (convert_Digits.s2 k) (convert_Digits.s3 k)) (convert_Digits.envok _ _ _ _  ) ⟨(convert_Digits.is  (convert_Digits.s0 k) (convert_Digits.s1 k) (convert_Digits.s2 k) (convert_Digits.s3 k)).rvs⟩ ih ?_
      intro tvs blks res h
      simp only [seg_convert_Digits_1] at h
      split at h
      · refine (convert_Digits.s1_ev  (convert_Digits.s0 k) (convert_Digits.s1 k) (convert_Digits.s2 k) (convert_Digits.s3 k) _ _ _ _ ).trans ?_
        rw [convert_Digits.s1c_bind]
        exact h
      · simp at h
    · refine seg_of_ev (E := env_convert_Digits  (convert_Digits.s0 k) (convert_Digits.s1 k) (convert_Digits.s2 k) (convert_Digits.s3 k)) (convert_Digits.envok _ _ _ _  ) ⟨(convert_Digits.is  (convert_Digits.s0 k) (convert_Digits.s1 k) (convert_Digits.s2 k) (convert_Digits.s3 k)).rvs⟩ ih ?_
      intro tvs blks res h
      simp only [seg_convert_Digits_2] at h
      split at h
      · refine (convert_Digits.s2_ev  (convert_Digits.s0 k) (convert_Digits.s1 k) (convert_Digits.s2 k) (convert_Digits.s3 k) _ _ _ _ _ ).trans ?_
        rw [convert_Digits.s2c_bind]
        exact h
      · simp at h
    · refine seg_of_ev (E := env_convert_Digits  (convert_Digits.s0 k) (convert_Digits.s1 k) (convert_Digits.s2 k) (convert_Digits.s3 k)) (convert_Digits.envok _ _ _ _  ) ⟨(convert_Digits.is  (convert_Digits.s0 k) (convert_Digits.s1 k) (convert_Digits.s2 k) (convert_Digits.s3 k)).rvs⟩ ih ?_
      intro tvs blks res h
      simp only [seg_convert_Digits_3] at h
      split at h
      · refine (convert_Digits.s3_ev  (convert_Digits.s0 k) (convert_Digits.s1 k) (convert_Digits.s2 k) (convert_Digits.s3 k) _ _ _ _ ).trans ?_
        rw [convert_Digits.s3c_bind]
        exact h
      · simp at h
theorem convert_Digits.ok (k : Nat) : CtOK Go.Proofs.Try.prog 26 (ct_convert_Digits (convert_Digits.f k)) := by
  refine ct_of_ev (E := env_convert_Digits  (convert_Digits.s0 k) (convert_Digits.s1 k) (convert_Digits.s2 k) (convert_Digits.s3 k)) (convert_Digits.is _ _ _ _ ) (convert_Digits.envok _ _ _ _  ) (convert_Digits.segs_ok k) rfl ?_
  intro tvs blks res h
  simp only [ct_convert_Digits] at h
  split at h
  · refine (convert_Digits.ev  (convert_Digits.s0 k) (convert_Digits.s1 k) (convert_Digits.s2 k) (convert_Digits.s3 k) _ ).trans ?_
    rw [convert_Digits.c_bind]
    exact h
  · simp at h

/-! ### words_Show: function 16 -/
def ct_words_Show (g : Int → Int → Int → ByteArray → Option (ByteArray × Int)) : Ct where
  nin := 0
  mv := []
  F := fun tvs blks {β} K => match tvs, blks with
    | [.v (.agg [(.d (.int .i64) a0), (.d (.int .i64) a1), (.d (.int .u64) a2), (.d .str a3)])], [] => (g a0 a1 a2 a3).bind fun r => K ⟨.tup [(.one (.d .str r.1)), (.one (.d (.int .i64) r.2))], []⟩
    | _, _ => none
  legit := fun tvs blks K r h => by
    split at h
    · obtain ⟨x, hx, hk⟩ := Option.bind_eq_some_iff.1 h
      refine ⟨_, ?_, hk⟩
      simp only [hx, Option.bind_some]
    · simp at h
def seg_words_Show_0 (g : Int → Int → Int → Int → ByteArray → (List Int) → Option (ByteArray × Int)) : Seg where
  path := [4, 1, 0, 1, 2, 1, 3, 1, 3, 1, 4, 1, 0, 1, 1]
  prep := [.own 5 (.int .u8)]
  keep := [1, 5, 6]
  F := fun tvs blks {β} K => match tvs, blks with
    | [.v (.one (.ptr 0 0)), .v (.one (.own 1)), .v (.one (.d (.int .i64) x0))], [some (.box [(.d (.int .i64) x1), (.d (.int .i64) x2), (.d (.int .u64) x3), (.d .str x4)]), some (.own (.int .u8) false x5)] => (g x0 x1 x2 x3 x4 x5).bind fun r => K ⟨.tup [(.one (.d .str r.1)), (.one (.d (.int .i64) r.2))], []⟩
    | _, _ => none
  legit := fun tvs blks K r h => by
    split at h
    · obtain ⟨x, hx, hk⟩ := Option.bind_eq_some_iff.1 h
      refine ⟨_, ?_, hk⟩
      simp only [hx, Option.bind_some]
    · simp at h
noncomputable def env_words_Show (g11 : ByteArray → Option ByteArray) (g25 : Int → Int → Int → ByteArray → Option Int) (g26 : Int → Option ByteArray) (s0 : Int → Int → Int → Int → ByteArray → (List Int) → Option (ByteArray × Int)) : FEnv := { P := Go.Proofs.Try.prog, ct := fun m => if m = 11 then some (ct_words_Quote g11) else if m = 25 then some (ct_values_Check g25) else if m = 26 then some (ct_convert_Digits g26) else none, N := 54, body := Go.Proofs.Try.f16.body.getD .skip, rvs := [.tmp 2, .tmp 3], rts := [9, 24], nin := 0, rmv := [], segs := [seg_words_Show_0 s0] }
def words_Show.c {β : Type} (g11 : ByteArray → Option ByteArray) (g25 : Int → Int → Int → ByteArray → Option Int) (g26 : Int → Option ByteArray) (s0 : Int → Int → Int → Int → ByteArray → (List Int) → Option (ByteArray × Int)) (a0 : Int) (a1 : Int) (a2 : Int) (a3 : ByteArray) (ret : (ByteArray × Int) → Option β) : Option β := ((g25 a0 a1 a2 a3).bind fun r0 => (bif (r0 != (0 : Int)) then (ret ((ByteArray.mk (List.toArray [])), r0)) else (bif (a0 == (1 : Int)) then (bif ((decide ((0 : Int) ≤ a1)) && (decide (a1 < (2 : Int)))) then (ret ((bif (decide (a1 = (0 : Int))) then (ByteArray.mk (List.toArray [(102 : UInt8), (97 : UInt8), (108 : UInt8), (115 : UInt8), (101 : UInt8)])) else (ByteArray.mk (List.toArray [(116 : UInt8), (114 : UInt8), (117 : UInt8), (101 : UInt8)]))), (0 : Int))) else none) else (bif (a0 == (2 : Int)) then ((g26 a1).bind fun r1 => (ret (r1, (0 : Int)))) else (bif (a0 == (3 : Int)) then ((s0 (60 : Int) a0 a1 a2 a3 [(114 : Int)]).bind ret) else (bif (a0 == (4 : Int)) then ((g11 a3).bind fun r2 => (bif (true && (decide ((ByteArray.size r2) ≤ (4611686018427387903 : Nat)))) then (ret (((ByteArray.mk (List.toArray [(98 : UInt8)])) ++ r2), (0 : Int))) else none)) else (bif (a0 == (5 : Int)) then ((g11 a3).bind fun r3 => (ret (r3, (0 : Int)))) else (ret ((ByteArray.mk (List.toArray [(110 : UInt8), (117 : UInt8), (108 : UInt8), (108 : UInt8)])), (0 : Int))))))))))
def words_Show.s0c {β : Type} (g11 : ByteArray → Option ByteArray) (g25 : Int → Int → Int → ByteArray → Option Int) (g26 : Int → Option ByteArray) (s0 : Int → Int → Int → Int → ByteArray → (List Int) → Option (ByteArray × Int)) (x0 : Int) (x1 : Int) (x2 : Int) (x3 : Int) (x4 : ByteArray) (x5 : List Int) (ret : (ByteArray × Int) → Option β) : Option β := (bif (decide (x0 ≥ (0 : Int))) then (bif (decide ((0 : Int) ≤ x0)) then (bif (true && (decide ((IntKind.wrap IntKind.u64 ((BitVec.toNat ((BitVec.ofInt (64 : Nat) (Int.fdiv x3 ((2 : Int) ^ (Min.min (Int.toNat x0) (64 : Nat))))) &&& (BitVec.ofInt (64 : Nat) (15 : Int)))) : Int)) < (16 : Int)))) then (bif (decide ((((List.length x5) + (1 : Nat)) * (1 : Nat)) ≤ (35184372088832 : Nat))) then ((s0 (IntKind.wrap IntKind.i64 (x0 - (4 : Int))) x1 x2 x3 x4 (x5 ++ [(bt (ByteArray.mk (List.toArray [(48 : UInt8), (49 : UInt8), (50 : UInt8), (51 : UInt8), (52 : UInt8), (53 : UInt8), (54 : UInt8), (55 : UInt8), (56 : UInt8), (57 : UInt8), (97 : UInt8), (98 : UInt8), (99 : UInt8), (100 : UInt8), (101 : UInt8), (102 : UInt8)])) (IntKind.wrap IntKind.u64 ((BitVec.toNat ((BitVec.ofInt (64 : Nat) (Int.fdiv x3 ((2 : Int) ^ (Min.min (Int.toNat x0) (64 : Nat))))) &&& (BitVec.ofInt (64 : Nat) (15 : Int)))) : Int)))])).bind ret) else none) else none) else none) else (ret ((ByteArray.mk (List.toArray (List.map (fun n => (UInt8.ofNat (Int.toNat n))) x5))), (0 : Int))))
theorem words_Show.c_bind {β : Type} (g11 : ByteArray → Option ByteArray) (g25 : Int → Int → Int → ByteArray → Option Int) (g26 : Int → Option ByteArray) (s0 : Int → Int → Int → Int → ByteArray → (List Int) → Option (ByteArray × Int)) (a0 : Int) (a1 : Int) (a2 : Int) (a3 : ByteArray) (ret : (ByteArray × Int) → Option β) : words_Show.c g11 g25 g26 s0 a0 a1 a2 a3 ret = (words_Show.c g11 g25 g26 s0 a0 a1 a2 a3 some).bind ret := by
  simp only [words_Show.c, bif_bind, sum_bind, Option.bind_assoc, Option.bind_some, Option.bind_none, Option.bind_fun_some]
theorem words_Show.s0c_bind {β : Type} (g11 : ByteArray → Option ByteArray) (g25 : Int → Int → Int → ByteArray → Option Int) (g26 : Int → Option ByteArray) (s0 : Int → Int → Int → Int → ByteArray → (List Int) → Option (ByteArray × Int)) (x0 : Int) (x1 : Int) (x2 : Int) (x3 : Int) (x4 : ByteArray) (x5 : List Int) (ret : (ByteArray × Int) → Option β) : words_Show.s0c g11 g25 g26 s0 x0 x1 x2 x3 x4 x5 ret = (words_Show.s0c g11 g25 g26 s0 x0 x1 x2 x3 x4 x5 some).bind ret := by
  simp only [words_Show.s0c, bif_bind, sum_bind, Option.bind_assoc, Option.bind_some, Option.bind_none, Option.bind_fun_some]
theorem words_Show.ev (g11 : ByteArray → Option ByteArray) (g25 : Int → Int → Int → ByteArray → Option Int) (g26 : Int → Option ByteArray) (s0 : Int → Int → Int → Int → ByteArray → (List Int) → Option (ByteArray × Int)) (a0 : Int) (a1 : Int) (a2 : Int) (a3 : ByteArray) : evAt (env_words_Show g11 g25 g26 s0) [] [0] [.v (.agg [(.d (.int .i64) a0), (.d (.int .i64) a1), (.d (.int .u64) a2), (.d .str a3)])] [] some = words_Show.c g11 g25 g26 s0 a0 a1 a2 a3 (fun r => some ⟨.tup [(.one (.d .str r.1)), (.one (.d (.int .i64) r.2))], []⟩) := by
  kernel_rfl
theorem words_Show.s0_ev (g11 : ByteArray → Option ByteArray) (g25 : Int → Int → Int → ByteArray → Option Int) (g26 : Int → Option ByteArray) (s0 : Int → Int → Int → Int → ByteArray → (List Int) → Option (ByteArray × Int)) (x0 : Int) (x1 : Int) (x2 : Int) (x3 : Int) (x4 : ByteArray) (x5 : List Int) : evAt (env_words_Show g11 g25 g26 s0) [4, 1, 0, 1, 2, 1, 3, 1, 3, 1, 4, 1, 0, 1, 1] [1, 5, 6] [.v (.one (.ptr 0 0)), .v (.one (.own 1)), .v (.one (.d (.int .i64) x0))] [some (.box [(.d (.int .i64) x1), (.d (.int .i64) x2), (.d (.int .u64) x3), (.d .str x4)]), some (.own (.int .u8) false x5)] some = words_Show.s0c g11 g25 g26 s0 x0 x1 x2 x3 x4 x5 (fun r => some ⟨.tup [(.one (.d .str r.1)), (.one (.d (.int .i64) r.2))], []⟩) := by
  kernel_rfl
def words_Show.s0 : Nat → Int → Int → Int → Int → ByteArray → (List Int) → Option (ByteArray × Int)
  | 0, _, _, _, _, _, _ => none
  | k + 1, x0, x1, x2, x3, x4, x5 => words_Show.s0c (words_Quote.f k) (values_Check.f k) (convert_Digits.f k) (words_Show.s0 k) x0 x1 x2 x3 x4 x5 some
def words_Show.f (k : Nat) (a0 : Int) (a1 : Int) (a2 : Int) (a3 : ByteArray) : Option (ByteArray × Int) := words_Show.c (words_Quote.f k) (values_Check.f k) (convert_Digits.f k) (words_Show.s0 k) a0 a1 a2 a3 some
theorem words_Show.is (g11 : ByteArray → Option ByteArray) (g25 : Int → Int → Int → ByteArray → Option Int) (g26 : Int → Option ByteArray) (s0 : Int → Int → Int → Int → ByteArray → (List Int) → Option (ByteArray × Int)) : FnIs (env_words_Show g11 g25 g26 s0) 16 Go.Proofs.Try.f16 := ⟨Go.Proofs.Try.func16, rfl, rfl, rfl, by decide⟩
theorem words_Show.envok (g11 : ByteArray → Option ByteArray) (g25 : Int → Int → Int → ByteArray → Option Int) (g26 : Int → Option ByteArray) (s0 : Int → Int → Int → Int → ByteArray → (List Int) → Option (ByteArray × Int)) (h11 : CtOK Go.Proofs.Try.prog 11 (ct_words_Quote g11)) (h25 : CtOK Go.Proofs.Try.prog 25 (ct_values_Check g25)) (h26 : CtOK Go.Proofs.Try.prog 26 (ct_convert_Digits g26)) : EnvOK (env_words_Show g11 g25 g26 s0).toEnv := by
  intro f c h
  simp only [env_words_Show] at h
  split at h
  · rename_i e; subst e; cases h; exact h11
  split at h
  · rename_i e; subst e; cases h; exact h25
  split at h
  · rename_i e; subst e; cases h; exact h26
  simp at h
theorem words_Show.segs_ok : ∀ k, ∀ s ∈ (env_words_Show (words_Quote.f k) (values_Check.f k) (convert_Digits.f k) (words_Show.s0 k)).segs, SegOK (env_words_Show (words_Quote.f k) (values_Check.f k) (convert_Digits.f k) (words_Show.s0 k)) Go.Proofs.Try.f16 s
  | 0 => by
    intro s hs
    simp only [env_words_Show, List.mem_cons, List.not_mem_nil, or_false] at hs
    rcases hs with rfl
    · intro tvs blks res h; exfalso; simp only [seg_words_Show_0] at h; split at h <;> simp [words_Show.s0] at h
  | k + 1 => by
    have ih := words_Show.segs_ok k
    intro s hs
    simp only [env_words_Show, List.mem_cons, List.not_mem_nil, or_false] at hs
    rcases hs with rfl
    · refine seg_of_ev (E := env_words_Show (words_Quote.f k) (values_Check.f k) (convert_Digits.f k) (words_Show.s0 k)) (words_Show.envok _ _ _ _  (words_Quote.ok k) (values_Check.ok k) (convert_Digits.ok k)) ⟨(words_Show.is (words_Quote.f k) (values_Check.f k) (convert_Digits.f k) (words_Show.s0 k)).rvs⟩ ih ?_
      intro tvs blks res h
      simp only [seg_words_Show_0] at h
      split at h
      · refine (words_Show.s0_ev (words_Quote.f k) (values_Check.f k) (convert_Digits.f k) (words_Show.s0 k) _ _ _ _ _ _ ).trans ?_
        rw [words_Show.s0c_bind]
        exact h
      · simp at h
theorem words_Show.ok (k : Nat) : CtOK Go.Proofs.Try.prog 16 (ct_words_Show (words_Show.f k)) := by
  refine ct_of_ev (E := env_words_Show (words_Quote.f k) (values_Check.f k) (convert_Digits.f k) (words_Show.s0 k)) (words_Show.is _ _ _ _ ) (words_Show.envok _ _ _ _  (words_Quote.ok k) (values_Check.ok k) (convert_Digits.ok k)) (words_Show.segs_ok k) rfl ?_
  intro tvs blks res h
  simp only [ct_words_Show] at h
  split at h
  · refine (words_Show.ev (words_Quote.f k) (values_Check.f k) (convert_Digits.f k) (words_Show.s0 k) _ _ _ _ ).trans ?_
    rw [words_Show.c_bind]
    exact h
  · simp at h

/-! ### stringslite_HasPrefix: function 43 -/
def ct_stringslite_HasPrefix (g : ByteArray → ByteArray → Option Bool) : Ct where
  nin := 0
  mv := []
  F := fun tvs blks {β} K => match tvs, blks with
    | [.v (.one (.d .str a0)), .v (.one (.d .str a1))], [] => (g a0 a1).bind fun r => K ⟨.v (.one (.d .bool r)), []⟩
    | _, _ => none
  legit := fun tvs blks K r h => by
    split at h
    · obtain ⟨x, hx, hk⟩ := Option.bind_eq_some_iff.1 h
      refine ⟨_, ?_, hk⟩
      simp only [hx, Option.bind_some]
    · simp at h
noncomputable def env_stringslite_HasPrefix   : FEnv := { P := Go.Proofs.Try.prog, ct := fun m => none, N := 18, body := Go.Proofs.Try.f43.body.getD .skip, rvs := [.tmp 4], rts := [4], nin := 0, rmv := [], segs := [] }
def stringslite_HasPrefix.c {β : Type}   (a0 : ByteArray) (a1 : ByteArray) (ret : Bool → Option β) : Option β := (bif (decide (((ByteArray.size a0) : Int) ≥ ((ByteArray.size a1) : Int))) then (bif (true && (decide (((ByteArray.size a1) : Int) ≤ ((ByteArray.size a0) : Int)))) then (ret (((ByteArray.toList (ByteArray.extract a0 (0 : Nat) (Int.toNat ((ByteArray.size a1) : Int)))) == (ByteArray.toList a1)))) else none) else (ret (false)))
theorem stringslite_HasPrefix.c_bind {β : Type}   (a0 : ByteArray) (a1 : ByteArray) (ret : Bool → Option β) : stringslite_HasPrefix.c   a0 a1 ret = (stringslite_HasPrefix.c   a0 a1 some).bind ret := by
  simp only [stringslite_HasPrefix.c, bif_bind, sum_bind, Option.bind_assoc, Option.bind_some, Option.bind_none, Option.bind_fun_some]
theorem stringslite_HasPrefix.ev   (a0 : ByteArray) (a1 : ByteArray) : evAt (env_stringslite_HasPrefix  ) [] [0, 1] [.v (.one (.d .str a0)), .v (.one (.d .str a1))] [] some = stringslite_HasPrefix.c   a0 a1 (fun r => some ⟨.v (.one (.d .bool r)), []⟩) := by
  kernel_rfl
def stringslite_HasPrefix.f (k : Nat) (a0 : ByteArray) (a1 : ByteArray) : Option Bool := stringslite_HasPrefix.c   a0 a1 some
theorem stringslite_HasPrefix.is   : FnIs (env_stringslite_HasPrefix  ) 43 Go.Proofs.Try.f43 := ⟨Go.Proofs.Try.func43, rfl, rfl, rfl, by decide⟩
theorem stringslite_HasPrefix.envok    : EnvOK (env_stringslite_HasPrefix  ).toEnv := by
  intro f c h
  simp only [env_stringslite_HasPrefix] at h
  simp at h
theorem stringslite_HasPrefix.ok (k : Nat) : CtOK Go.Proofs.Try.prog 43 (ct_stringslite_HasPrefix (stringslite_HasPrefix.f k)) := by
  refine ct_of_ev (E := env_stringslite_HasPrefix  ) (stringslite_HasPrefix.is ) (stringslite_HasPrefix.envok  ) (fun s hs => by simp [env_stringslite_HasPrefix] at hs) rfl ?_
  intro tvs blks res h
  simp only [ct_stringslite_HasPrefix] at h
  split at h
  · refine (stringslite_HasPrefix.ev   _ _ ).trans ?_
    rw [stringslite_HasPrefix.c_bind]
    exact h
  · simp at h

/-! ### strings_HasPrefix: function 36 -/
def ct_strings_HasPrefix (g : ByteArray → ByteArray → Option Bool) : Ct where
  nin := 0
  mv := []
  F := fun tvs blks {β} K => match tvs, blks with
    | [.v (.one (.d .str a0)), .v (.one (.d .str a1))], [] => (g a0 a1).bind fun r => K ⟨.v (.one (.d .bool r)), []⟩
    | _, _ => none
  legit := fun tvs blks K r h => by
    split at h
    · obtain ⟨x, hx, hk⟩ := Option.bind_eq_some_iff.1 h
      refine ⟨_, ?_, hk⟩
      simp only [hx, Option.bind_some]
    · simp at h
noncomputable def env_strings_HasPrefix (g43 : ByteArray → ByteArray → Option Bool)  : FEnv := { P := Go.Proofs.Try.prog, ct := fun m => if m = 43 then some (ct_stringslite_HasPrefix g43) else none, N := 8, body := Go.Proofs.Try.f36.body.getD .skip, rvs := [.tmp 4], rts := [4], nin := 0, rmv := [], segs := [] }
def strings_HasPrefix.c {β : Type} (g43 : ByteArray → ByteArray → Option Bool)  (a0 : ByteArray) (a1 : ByteArray) (ret : Bool → Option β) : Option β := ((g43 a0 a1).bind fun r0 => (ret (r0)))
theorem strings_HasPrefix.c_bind {β : Type} (g43 : ByteArray → ByteArray → Option Bool)  (a0 : ByteArray) (a1 : ByteArray) (ret : Bool → Option β) : strings_HasPrefix.c g43  a0 a1 ret = (strings_HasPrefix.c g43  a0 a1 some).bind ret := by
  simp only [strings_HasPrefix.c, bif_bind, sum_bind, Option.bind_assoc, Option.bind_some, Option.bind_none, Option.bind_fun_some]
theorem strings_HasPrefix.ev (g43 : ByteArray → ByteArray → Option Bool)  (a0 : ByteArray) (a1 : ByteArray) : evAt (env_strings_HasPrefix g43 ) [] [0, 1] [.v (.one (.d .str a0)), .v (.one (.d .str a1))] [] some = strings_HasPrefix.c g43  a0 a1 (fun r => some ⟨.v (.one (.d .bool r)), []⟩) := by
  kernel_rfl
def strings_HasPrefix.f (k : Nat) (a0 : ByteArray) (a1 : ByteArray) : Option Bool := strings_HasPrefix.c (stringslite_HasPrefix.f k)  a0 a1 some
theorem strings_HasPrefix.is (g43 : ByteArray → ByteArray → Option Bool)  : FnIs (env_strings_HasPrefix g43 ) 36 Go.Proofs.Try.f36 := ⟨Go.Proofs.Try.func36, rfl, rfl, rfl, by decide⟩
theorem strings_HasPrefix.envok (g43 : ByteArray → ByteArray → Option Bool)  (h43 : CtOK Go.Proofs.Try.prog 43 (ct_stringslite_HasPrefix g43)) : EnvOK (env_strings_HasPrefix g43 ).toEnv := by
  intro f c h
  simp only [env_strings_HasPrefix] at h
  split at h
  · rename_i e; subst e; cases h; exact h43
  simp at h
theorem strings_HasPrefix.ok (k : Nat) : CtOK Go.Proofs.Try.prog 36 (ct_strings_HasPrefix (strings_HasPrefix.f k)) := by
  refine ct_of_ev (E := env_strings_HasPrefix (stringslite_HasPrefix.f k) ) (strings_HasPrefix.is _ ) (strings_HasPrefix.envok _  (stringslite_HasPrefix.ok k)) (fun s hs => by simp [env_strings_HasPrefix] at hs) rfl ?_
  intro tvs blks res h
  simp only [ct_strings_HasPrefix] at h
  split at h
  · refine (strings_HasPrefix.ev (stringslite_HasPrefix.f k)  _ _ ).trans ?_
    rw [strings_HasPrefix.c_bind]
    exact h
  · simp at h
end Go.Proofs.Ytchlbajnmhffpaa.Aev
