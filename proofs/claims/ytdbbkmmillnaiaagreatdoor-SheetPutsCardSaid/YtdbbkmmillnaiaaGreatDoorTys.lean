/- By a program of this session (AEV): short names for the kinds of the program's structs. -/
import Derived.Test.YtdbbkmmillnaiaaGreatDoorAevW
namespace Go.Proofs.YtdbbkmmillnaiaaGreatDoor.Aev
open Go
abbrev T_reflectlite_ValueError : Ty := (.pair .str (.pair (.int .u8) .unit))
abbrev D_reflectlite_ValueError : Type := ByteArray × (Int × Unit)
abbrev T_runtime_errorAddressString : Ty := (.pair .str (.pair (.int .u64) .unit))
abbrev D_runtime_errorAddressString : Type := ByteArray × (Int × Unit)
abbrev T_runtime_boundsError : Ty := (.pair (.int .i64) (.pair (.int .i64) (.pair .bool (.pair (.int .u8) .unit))))
abbrev D_runtime_boundsError : Type := Int × (Int × (Bool × (Int × Unit)))
abbrev T_api_Value : Ty := (.pair (.int .i64) (.pair (.int .i64) (.pair (.int .u64) (.pair .str .unit))))
abbrev D_api_Value : Type := Int × (Int × (Int × (ByteArray × Unit)))
abbrev T_abi_Method : Ty := (.pair (.int .i32) (.pair (.int .i32) (.pair (.int .i32) (.pair (.int .i32) .unit))))
abbrev D_abi_Method : Type := Int × (Int × (Int × (Int × Unit)))
abbrev T_abi_UncommonType : Ty := (.pair (.int .i32) (.pair (.int .u16) (.pair (.int .u16) (.pair (.int .u32) (.pair (.int .u32) .unit)))))
abbrev D_abi_UncommonType : Type := Int × (Int × (Int × (Int × (Int × Unit))))
abbrev T_api_Line : Ty := (.pair .str (.pair (.sl T_api_Value) .unit))
abbrev D_api_Line : Type := ByteArray × ((List D_api_Value) × Unit)
abbrev T_api_Col : Ty := (.pair .str (.pair (.int .i64) (.pair .bool (.pair T_api_Value .unit))))
abbrev D_api_Col : Type := ByteArray × (Int × (Bool × (D_api_Value × Unit)))
abbrev T_api_Table : Ty := (.pair .str (.pair (.int .i64) (.pair (.sl T_api_Col) .unit)))
abbrev D_api_Table : Type := ByteArray × (Int × ((List D_api_Col) × Unit))
abbrev T_api_Sheet : Ty := (.pair T_api_Table (.pair (.sl T_api_Line) .unit))
abbrev D_api_Sheet : Type := D_api_Table × ((List D_api_Line) × Unit)
theorem legit1 {α β γ : Type} {o : Option α} {m : α → γ} (K : γ → Option β) {r : β} (h : (o.bind fun x => K (m x)) = some r) : ∃ x, (o.bind fun x => some (m x)) = some x ∧ K x = some r := by
  obtain ⟨x, hx, hk⟩ := Option.bind_eq_some_iff.1 h
  exact ⟨_, by rw [hx]; rfl, hk⟩
theorem oa {α β γ : Type} (x : Option α) (f : α → Option β) (g : β → Option γ) : (x.bind f).bind g = x.bind fun y => (f y).bind g := Option.bind_assoc x f g
theorem os {α β : Type} (a : α) (f : α → Option β) : (some a).bind f = f a := rfl
theorem on {α β : Type} (f : α → Option β) : (none : Option α).bind f = none := rfl
theorem ofs {α : Type} (x : Option α) : x.bind some = x := Option.bind_fun_some x
end Go.Proofs.YtdbbkmmillnaiaaGreatDoor.Aev
