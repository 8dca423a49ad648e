import Derived.Test.YtijjlpgcpdapnaaGreatDoorAevZ
/- By a program of this session (AEV): short names for the kinds of the program's structs. -/
namespace Go.Proofs.YtijjlpgcpdapnaaGreatDoor.Aev
open Go
abbrev T_api_Value : Ty := (.pair (.int .i64) (.pair (.int .i64) (.pair (.int .u64) (.pair .str .unit))))
abbrev D_api_Value : Type := Int × (Int × (Int × (ByteArray × Unit)))
abbrev T_api_Col : Ty := (.pair .str (.pair (.int .i64) (.pair .bool (.pair T_api_Value .unit))))
abbrev D_api_Col : Type := ByteArray × (Int × (Bool × (D_api_Value × Unit)))
abbrev T_api_Table : Ty := (.pair .str (.pair (.int .i64) (.pair (.sl T_api_Col) .unit)))
abbrev D_api_Table : Type := ByteArray × (Int × ((List D_api_Col) × Unit))
abbrev T_api_Change : Ty := (.pair (.int .i64) (.pair .str (.pair .str (.pair .str (.pair .str (.pair .str (.pair (.int .i64) (.pair (.sl .str) (.pair T_api_Col (.pair T_api_Table .unit))))))))))
abbrev D_api_Change : Type := Int × (ByteArray × (ByteArray × (ByteArray × (ByteArray × (ByteArray × (Int × ((List ByteArray) × (D_api_Col × (D_api_Table × Unit)))))))))
theorem legit1 {α β γ : Type} {o : Option α} {m : α → γ} (K : γ → Option β) {r : β} (h : (o.bind fun x => K (m x)) = some r) : ∃ x, (o.bind fun x => some (m x)) = some x ∧ K x = some r := by
 obtain ⟨x, hx, hk⟩ := Option.bind_eq_some_iff.1 h
 exact ⟨_, by rw [hx]; rfl, hk⟩
end Go.Proofs.YtijjlpgcpdapnaaGreatDoor.Aev
