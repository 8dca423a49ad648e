/- By a program of this session (AEV): short names for the kinds of the program's structs. -/
import Derived.Test.YtddlebbjaadbeaaDoorAevW
namespace Go.Proofs.YtddlebbjaadbeaaDoor.Aev
open Go
abbrev T_reflectlite_ValueError : Ty := (.pair .str (.pair (.int .u8) .unit))
abbrev D_reflectlite_ValueError : Type := ByteArray × (Int × Unit)
abbrev T_runtime_errorAddressString : Ty := (.pair .str (.pair (.int .u64) .unit))
abbrev D_runtime_errorAddressString : Type := ByteArray × (Int × Unit)
abbrev T_schema_reader : Ty := (.pair .str (.pair (.int .i64) .unit))
abbrev D_schema_reader : Type := ByteArray × (Int × Unit)
abbrev T_runtime_boundsError : Ty := (.pair (.int .i64) (.pair (.int .i64) (.pair .bool (.pair (.int .u8) .unit))))
abbrev D_runtime_boundsError : Type := Int × (Int × (Bool × (Int × Unit)))
abbrev T_api_Value : Ty := (.pair (.int .i64) (.pair (.int .i64) (.pair (.int .u64) (.pair .str .unit))))
abbrev D_api_Value : Type := Int × (Int × (Int × (ByteArray × Unit)))
abbrev T_abi_Method : Ty := (.pair (.int .i32) (.pair (.int .i32) (.pair (.int .i32) (.pair (.int .i32) .unit))))
abbrev D_abi_Method : Type := Int × (Int × (Int × (Int × Unit)))
abbrev T_abi_UncommonType : Ty := (.pair (.int .i32) (.pair (.int .u16) (.pair (.int .u16) (.pair (.int .u32) (.pair (.int .u32) .unit)))))
abbrev D_abi_UncommonType : Type := Int × (Int × (Int × (Int × (Int × Unit))))
abbrev T_api_Col : Ty := (.pair .str (.pair (.int .i64) (.pair .bool (.pair T_api_Value .unit))))
abbrev D_api_Col : Type := ByteArray × (Int × (Bool × (D_api_Value × Unit)))
abbrev T_api_Table : Ty := (.pair .str (.pair (.int .i64) (.pair (.sl T_api_Col) .unit)))
abbrev D_api_Table : Type := ByteArray × (Int × ((List D_api_Col) × Unit))
end Go.Proofs.YtddlebbjaadbeaaDoor.Aev
