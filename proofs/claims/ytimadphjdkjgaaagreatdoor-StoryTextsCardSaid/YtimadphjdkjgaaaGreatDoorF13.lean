import Derived.Test.YtimadphjdkjgaaaGreatDoorTys
import Derived.Test.YtimadphjdkjgaaaGreatDoorProg
import Derived.Laws.Externs
import Derived.Lib.Bytealg
import Derived.Test.YtimadphjdkjgaaaGreatDoorF9
import Derived.Test.YtimadphjdkjgaaaGreatDoorF10
import Derived.Test.YtimadphjdkjgaaaGreatDoorF11
import Derived.Test.YtimadphjdkjgaaaGreatDoorF12
/- By a program of this session (AEV): functions of the program as plain functions, and that the machine does what they say. -/
namespace Go.Proofs.YtimadphjdkjgaaaGreatDoor.Aev
set_option linter.unusedVariables false
set_option linter.unusedSimpArgs false
set_option maxRecDepth 100000
set_option maxHeartbeats 4000000
open Go Go.Proofs.Tryz
namespace r37_asked
abbrev R : Type := D_api_Op × Bool
def e (r : R) : Res := ⟨.tup [(.agg (flat T_api_Op r.1)), (.one (.d .bool r.2))], []⟩
abbrev T (δ : Type) : Type := (List ByteArray) → Option δ
abbrev A {δ : Type} (g : T δ) : Arm δ := ⟨[.d (.sl .str)], [], fun x y => g x.1⟩
abbrev G : Type := T R
def ct (g : G) : Ct := mkCt 0 [] [A g] e
abbrev S0 (δ : Type) : Type := (List ByteArray) → ByteArray → Int → Int → ByteArray → Int → Int → ByteArray → ByteArray → ByteArray → ByteArray → ByteArray → Int → ByteArray → Int → Bool → Int → Int → Int → ByteArray → ByteArray → Int → Int → ByteArray → Int → Int → ByteArray → ByteArray → ByteArray → ByteArray → ByteArray → Int → ByteArray → Int → Bool → Int → Int → Int → ByteArray → ByteArray → Int → Option δ
abbrev A_0 {δ : Type} (s : S0 δ) : Arm δ := ⟨[.d (.sl .str), .k (.ptr 0 0), .d .str, .k (.ptr 1 0), .d (.int .i64)], [.box [.g (.int .i64), .g .str, .c .nilS, .c .nilS, .c .nilS, .g (.int .i64), .g (.int .i64), .g .str, .g .str, .g .str, .g .str, .g .str, .g (.int .i64), .c .nilS, .g T_api_Col, .g .str, .g (.int .i64), .c .nilS], .box [.g (.int .i64), .g .str, .c .nilS, .c .nilS, .c .nilS, .g (.int .i64), .g (.int .i64), .g .str, .g .str, .g .str, .g .str, .g .str, .g (.int .i64), .c .nilS, .g T_api_Col, .g .str, .g (.int .i64), .c .nilS]], fun x y => s x.1 x.2.2.1 x.2.2.2.2.1 y.1.1 y.1.2.1 y.1.2.2.2.2.2.1 y.1.2.2.2.2.2.2.1 y.1.2.2.2.2.2.2.2.1 y.1.2.2.2.2.2.2.2.2.1 y.1.2.2.2.2.2.2.2.2.2.1 y.1.2.2.2.2.2.2.2.2.2.2.1 y.1.2.2.2.2.2.2.2.2.2.2.2.1 y.1.2.2.2.2.2.2.2.2.2.2.2.2.1 y.1.2.2.2.2.2.2.2.2.2.2.2.2.2.2.1.1 y.1.2.2.2.2.2.2.2.2.2.2.2.2.2.2.1.2.1 y.1.2.2.2.2.2.2.2.2.2.2.2.2.2.2.1.2.2.1 y.1.2.2.2.2.2.2.2.2.2.2.2.2.2.2.1.2.2.2.1.1 y.1.2.2.2.2.2.2.2.2.2.2.2.2.2.2.1.2.2.2.1.2.1 y.1.2.2.2.2.2.2.2.2.2.2.2.2.2.2.1.2.2.2.1.2.2.1 y.1.2.2.2.2.2.2.2.2.2.2.2.2.2.2.1.2.2.2.1.2.2.2.1 y.1.2.2.2.2.2.2.2.2.2.2.2.2.2.2.2.1 y.1.2.2.2.2.2.2.2.2.2.2.2.2.2.2.2.2.1 y.2.1.1 y.2.1.2.1 y.2.1.2.2.2.2.2.1 y.2.1.2.2.2.2.2.2.1 y.2.1.2.2.2.2.2.2.2.1 y.2.1.2.2.2.2.2.2.2.2.1 y.2.1.2.2.2.2.2.2.2.2.2.1 y.2.1.2.2.2.2.2.2.2.2.2.2.1 y.2.1.2.2.2.2.2.2.2.2.2.2.2.1 y.2.1.2.2.2.2.2.2.2.2.2.2.2.2.1 y.2.1.2.2.2.2.2.2.2.2.2.2.2.2.2.2.1.1 y.2.1.2.2.2.2.2.2.2.2.2.2.2.2.2.2.1.2.1 y.2.1.2.2.2.2.2.2.2.2.2.2.2.2.2.2.1.2.2.1 y.2.1.2.2.2.2.2.2.2.2.2.2.2.2.2.2.1.2.2.2.1.1 y.2.1.2.2.2.2.2.2.2.2.2.2.2.2.2.2.1.2.2.2.1.2.1 y.2.1.2.2.2.2.2.2.2.2.2.2.2.2.2.2.1.2.2.2.1.2.2.1 y.2.1.2.2.2.2.2.2.2.2.2.2.2.2.2.2.1.2.2.2.1.2.2.2.1 y.2.1.2.2.2.2.2.2.2.2.2.2.2.2.2.2.2.1 y.2.1.2.2.2.2.2.2.2.2.2.2.2.2.2.2.2.2.1⟩
abbrev S1 (δ : Type) : Type := (List ByteArray) → ByteArray → Int → Bool → Int → ByteArray → Int → Int → ByteArray → ByteArray → ByteArray → ByteArray → ByteArray → Int → ByteArray → Int → Bool → Int → Int → Int → ByteArray → ByteArray → Int → Int → ByteArray → Int → Int → ByteArray → ByteArray → ByteArray → ByteArray → ByteArray → Int → ByteArray → Int → Bool → Int → Int → Int → ByteArray → ByteArray → Int → Option δ
abbrev A_1 {δ : Type} (s : S1 δ) : Arm δ := ⟨[.d (.sl .str), .k (.ptr 0 0), .d .str, .k (.ptr 1 0), .d (.int .i64), .d .bool], [.box [.g (.int .i64), .g .str, .c .nilS, .c .nilS, .c .nilS, .g (.int .i64), .g (.int .i64), .g .str, .g .str, .g .str, .g .str, .g .str, .g (.int .i64), .c .nilS, .g T_api_Col, .g .str, .g (.int .i64), .c .nilS], .box [.g (.int .i64), .g .str, .c .nilS, .c .nilS, .c .nilS, .g (.int .i64), .g (.int .i64), .g .str, .g .str, .g .str, .g .str, .g .str, .g (.int .i64), .c .nilS, .g T_api_Col, .g .str, .g (.int .i64), .c .nilS]], fun x y => s x.1 x.2.2.1 x.2.2.2.2.1 x.2.2.2.2.2.1 y.1.1 y.1.2.1 y.1.2.2.2.2.2.1 y.1.2.2.2.2.2.2.1 y.1.2.2.2.2.2.2.2.1 y.1.2.2.2.2.2.2.2.2.1 y.1.2.2.2.2.2.2.2.2.2.1 y.1.2.2.2.2.2.2.2.2.2.2.1 y.1.2.2.2.2.2.2.2.2.2.2.2.1 y.1.2.2.2.2.2.2.2.2.2.2.2.2.1 y.1.2.2.2.2.2.2.2.2.2.2.2.2.2.2.1.1 y.1.2.2.2.2.2.2.2.2.2.2.2.2.2.2.1.2.1 y.1.2.2.2.2.2.2.2.2.2.2.2.2.2.2.1.2.2.1 y.1.2.2.2.2.2.2.2.2.2.2.2.2.2.2.1.2.2.2.1.1 y.1.2.2.2.2.2.2.2.2.2.2.2.2.2.2.1.2.2.2.1.2.1 y.1.2.2.2.2.2.2.2.2.2.2.2.2.2.2.1.2.2.2.1.2.2.1 y.1.2.2.2.2.2.2.2.2.2.2.2.2.2.2.1.2.2.2.1.2.2.2.1 y.1.2.2.2.2.2.2.2.2.2.2.2.2.2.2.2.1 y.1.2.2.2.2.2.2.2.2.2.2.2.2.2.2.2.2.1 y.2.1.1 y.2.1.2.1 y.2.1.2.2.2.2.2.1 y.2.1.2.2.2.2.2.2.1 y.2.1.2.2.2.2.2.2.2.1 y.2.1.2.2.2.2.2.2.2.2.1 y.2.1.2.2.2.2.2.2.2.2.2.1 y.2.1.2.2.2.2.2.2.2.2.2.2.1 y.2.1.2.2.2.2.2.2.2.2.2.2.2.1 y.2.1.2.2.2.2.2.2.2.2.2.2.2.2.1 y.2.1.2.2.2.2.2.2.2.2.2.2.2.2.2.2.1.1 y.2.1.2.2.2.2.2.2.2.2.2.2.2.2.2.2.1.2.1 y.2.1.2.2.2.2.2.2.2.2.2.2.2.2.2.2.1.2.2.1 y.2.1.2.2.2.2.2.2.2.2.2.2.2.2.2.2.1.2.2.2.1.1 y.2.1.2.2.2.2.2.2.2.2.2.2.2.2.2.2.1.2.2.2.1.2.1 y.2.1.2.2.2.2.2.2.2.2.2.2.2.2.2.2.1.2.2.2.1.2.2.1 y.2.1.2.2.2.2.2.2.2.2.2.2.2.2.2.2.1.2.2.2.1.2.2.2.1 y.2.1.2.2.2.2.2.2.2.2.2.2.2.2.2.2.2.1 y.2.1.2.2.2.2.2.2.2.2.2.2.2.2.2.2.2.2.1⟩
abbrev S2 (δ : Type) : Type := (List ByteArray) → ByteArray → Int → Int → ByteArray → Int → Int → ByteArray → ByteArray → ByteArray → ByteArray → ByteArray → Int → ByteArray → Int → Bool → Int → Int → Int → ByteArray → ByteArray → Int → Int → ByteArray → Int → Int → ByteArray → ByteArray → ByteArray → ByteArray → ByteArray → Int → ByteArray → Int → Bool → Int → Int → Int → ByteArray → ByteArray → Int → Option δ
abbrev A_2 {δ : Type} (s : S2 δ) : Arm δ := ⟨[.d (.sl .str), .k (.ptr 0 0), .d .str, .k (.ptr 1 0), .d (.int .i64)], [.box [.g (.int .i64), .g .str, .c .nilS, .c .nilS, .c .nilS, .g (.int .i64), .g (.int .i64), .g .str, .g .str, .g .str, .g .str, .g .str, .g (.int .i64), .c .nilS, .g T_api_Col, .g .str, .g (.int .i64), .c .nilS], .box [.g (.int .i64), .g .str, .c .nilS, .c .nilS, .c .nilS, .g (.int .i64), .g (.int .i64), .g .str, .g .str, .g .str, .g .str, .g .str, .g (.int .i64), .c .nilS, .g T_api_Col, .g .str, .g (.int .i64), .c .nilS]], fun x y => s x.1 x.2.2.1 x.2.2.2.2.1 y.1.1 y.1.2.1 y.1.2.2.2.2.2.1 y.1.2.2.2.2.2.2.1 y.1.2.2.2.2.2.2.2.1 y.1.2.2.2.2.2.2.2.2.1 y.1.2.2.2.2.2.2.2.2.2.1 y.1.2.2.2.2.2.2.2.2.2.2.1 y.1.2.2.2.2.2.2.2.2.2.2.2.1 y.1.2.2.2.2.2.2.2.2.2.2.2.2.1 y.1.2.2.2.2.2.2.2.2.2.2.2.2.2.2.1.1 y.1.2.2.2.2.2.2.2.2.2.2.2.2.2.2.1.2.1 y.1.2.2.2.2.2.2.2.2.2.2.2.2.2.2.1.2.2.1 y.1.2.2.2.2.2.2.2.2.2.2.2.2.2.2.1.2.2.2.1.1 y.1.2.2.2.2.2.2.2.2.2.2.2.2.2.2.1.2.2.2.1.2.1 y.1.2.2.2.2.2.2.2.2.2.2.2.2.2.2.1.2.2.2.1.2.2.1 y.1.2.2.2.2.2.2.2.2.2.2.2.2.2.2.1.2.2.2.1.2.2.2.1 y.1.2.2.2.2.2.2.2.2.2.2.2.2.2.2.2.1 y.1.2.2.2.2.2.2.2.2.2.2.2.2.2.2.2.2.1 y.2.1.1 y.2.1.2.1 y.2.1.2.2.2.2.2.1 y.2.1.2.2.2.2.2.2.1 y.2.1.2.2.2.2.2.2.2.1 y.2.1.2.2.2.2.2.2.2.2.1 y.2.1.2.2.2.2.2.2.2.2.2.1 y.2.1.2.2.2.2.2.2.2.2.2.2.1 y.2.1.2.2.2.2.2.2.2.2.2.2.2.1 y.2.1.2.2.2.2.2.2.2.2.2.2.2.2.1 y.2.1.2.2.2.2.2.2.2.2.2.2.2.2.2.2.1.1 y.2.1.2.2.2.2.2.2.2.2.2.2.2.2.2.2.1.2.1 y.2.1.2.2.2.2.2.2.2.2.2.2.2.2.2.2.1.2.2.1 y.2.1.2.2.2.2.2.2.2.2.2.2.2.2.2.2.1.2.2.2.1.1 y.2.1.2.2.2.2.2.2.2.2.2.2.2.2.2.2.1.2.2.2.1.2.1 y.2.1.2.2.2.2.2.2.2.2.2.2.2.2.2.2.1.2.2.2.1.2.2.1 y.2.1.2.2.2.2.2.2.2.2.2.2.2.2.2.2.1.2.2.2.1.2.2.2.1 y.2.1.2.2.2.2.2.2.2.2.2.2.2.2.2.2.2.1 y.2.1.2.2.2.2.2.2.2.2.2.2.2.2.2.2.2.2.1⟩
abbrev S3 (δ : Type) : Type := (List ByteArray) → Bool → Int → ByteArray → Int → Int → ByteArray → ByteArray → ByteArray → ByteArray → ByteArray → Int → ByteArray → Int → Bool → Int → Int → Int → ByteArray → ByteArray → Int → Int → ByteArray → Int → Int → ByteArray → ByteArray → ByteArray → ByteArray → ByteArray → Int → ByteArray → Int → Bool → Int → Int → Int → ByteArray → ByteArray → Int → Option δ
abbrev A_3 {δ : Type} (s : S3 δ) : Arm δ := ⟨[.d (.sl .str), .k (.ptr 0 0), .k (.ptr 1 0), .d .bool], [.box [.g (.int .i64), .g .str, .c .nilS, .c .nilS, .c .nilS, .g (.int .i64), .g (.int .i64), .g .str, .g .str, .g .str, .g .str, .g .str, .g (.int .i64), .c .nilS, .g T_api_Col, .g .str, .g (.int .i64), .c .nilS], .box [.g (.int .i64), .g .str, .c .nilS, .c .nilS, .c .nilS, .g (.int .i64), .g (.int .i64), .g .str, .g .str, .g .str, .g .str, .g .str, .g (.int .i64), .c .nilS, .g T_api_Col, .g .str, .g (.int .i64), .c .nilS]], fun x y => s x.1 x.2.2.2.1 y.1.1 y.1.2.1 y.1.2.2.2.2.2.1 y.1.2.2.2.2.2.2.1 y.1.2.2.2.2.2.2.2.1 y.1.2.2.2.2.2.2.2.2.1 y.1.2.2.2.2.2.2.2.2.2.1 y.1.2.2.2.2.2.2.2.2.2.2.1 y.1.2.2.2.2.2.2.2.2.2.2.2.1 y.1.2.2.2.2.2.2.2.2.2.2.2.2.1 y.1.2.2.2.2.2.2.2.2.2.2.2.2.2.2.1.1 y.1.2.2.2.2.2.2.2.2.2.2.2.2.2.2.1.2.1 y.1.2.2.2.2.2.2.2.2.2.2.2.2.2.2.1.2.2.1 y.1.2.2.2.2.2.2.2.2.2.2.2.2.2.2.1.2.2.2.1.1 y.1.2.2.2.2.2.2.2.2.2.2.2.2.2.2.1.2.2.2.1.2.1 y.1.2.2.2.2.2.2.2.2.2.2.2.2.2.2.1.2.2.2.1.2.2.1 y.1.2.2.2.2.2.2.2.2.2.2.2.2.2.2.1.2.2.2.1.2.2.2.1 y.1.2.2.2.2.2.2.2.2.2.2.2.2.2.2.2.1 y.1.2.2.2.2.2.2.2.2.2.2.2.2.2.2.2.2.1 y.2.1.1 y.2.1.2.1 y.2.1.2.2.2.2.2.1 y.2.1.2.2.2.2.2.2.1 y.2.1.2.2.2.2.2.2.2.1 y.2.1.2.2.2.2.2.2.2.2.1 y.2.1.2.2.2.2.2.2.2.2.2.1 y.2.1.2.2.2.2.2.2.2.2.2.2.1 y.2.1.2.2.2.2.2.2.2.2.2.2.2.1 y.2.1.2.2.2.2.2.2.2.2.2.2.2.2.1 y.2.1.2.2.2.2.2.2.2.2.2.2.2.2.2.2.1.1 y.2.1.2.2.2.2.2.2.2.2.2.2.2.2.2.2.1.2.1 y.2.1.2.2.2.2.2.2.2.2.2.2.2.2.2.2.1.2.2.1 y.2.1.2.2.2.2.2.2.2.2.2.2.2.2.2.2.1.2.2.2.1.1 y.2.1.2.2.2.2.2.2.2.2.2.2.2.2.2.2.1.2.2.2.1.2.1 y.2.1.2.2.2.2.2.2.2.2.2.2.2.2.2.2.1.2.2.2.1.2.2.1 y.2.1.2.2.2.2.2.2.2.2.2.2.2.2.2.2.1.2.2.2.1.2.2.2.1 y.2.1.2.2.2.2.2.2.2.2.2.2.2.2.2.2.2.1 y.2.1.2.2.2.2.2.2.2.2.2.2.2.2.2.2.2.2.1⟩
abbrev S4 (δ : Type) : Type := (List ByteArray) → Int → ByteArray → Int → Int → ByteArray → ByteArray → ByteArray → ByteArray → ByteArray → Int → ByteArray → Int → Bool → Int → Int → Int → ByteArray → ByteArray → Int → Int → ByteArray → Int → Int → ByteArray → ByteArray → ByteArray → ByteArray → ByteArray → Int → ByteArray → Int → Bool → Int → Int → Int → ByteArray → ByteArray → Int → Option δ
abbrev A_4 {δ : Type} (s : S4 δ) : Arm δ := ⟨[.d (.sl .str), .k (.ptr 0 0), .k (.ptr 1 0)], [.box [.g (.int .i64), .g .str, .c .nilS, .c .nilS, .c .nilS, .g (.int .i64), .g (.int .i64), .g .str, .g .str, .g .str, .g .str, .g .str, .g (.int .i64), .c .nilS, .g T_api_Col, .g .str, .g (.int .i64), .c .nilS], .box [.g (.int .i64), .g .str, .c .nilS, .c .nilS, .c .nilS, .g (.int .i64), .g (.int .i64), .g .str, .g .str, .g .str, .g .str, .g .str, .g (.int .i64), .c .nilS, .g T_api_Col, .g .str, .g (.int .i64), .c .nilS]], fun x y => s x.1 y.1.1 y.1.2.1 y.1.2.2.2.2.2.1 y.1.2.2.2.2.2.2.1 y.1.2.2.2.2.2.2.2.1 y.1.2.2.2.2.2.2.2.2.1 y.1.2.2.2.2.2.2.2.2.2.1 y.1.2.2.2.2.2.2.2.2.2.2.1 y.1.2.2.2.2.2.2.2.2.2.2.2.1 y.1.2.2.2.2.2.2.2.2.2.2.2.2.1 y.1.2.2.2.2.2.2.2.2.2.2.2.2.2.2.1.1 y.1.2.2.2.2.2.2.2.2.2.2.2.2.2.2.1.2.1 y.1.2.2.2.2.2.2.2.2.2.2.2.2.2.2.1.2.2.1 y.1.2.2.2.2.2.2.2.2.2.2.2.2.2.2.1.2.2.2.1.1 y.1.2.2.2.2.2.2.2.2.2.2.2.2.2.2.1.2.2.2.1.2.1 y.1.2.2.2.2.2.2.2.2.2.2.2.2.2.2.1.2.2.2.1.2.2.1 y.1.2.2.2.2.2.2.2.2.2.2.2.2.2.2.1.2.2.2.1.2.2.2.1 y.1.2.2.2.2.2.2.2.2.2.2.2.2.2.2.2.1 y.1.2.2.2.2.2.2.2.2.2.2.2.2.2.2.2.2.1 y.2.1.1 y.2.1.2.1 y.2.1.2.2.2.2.2.1 y.2.1.2.2.2.2.2.2.1 y.2.1.2.2.2.2.2.2.2.1 y.2.1.2.2.2.2.2.2.2.2.1 y.2.1.2.2.2.2.2.2.2.2.2.1 y.2.1.2.2.2.2.2.2.2.2.2.2.1 y.2.1.2.2.2.2.2.2.2.2.2.2.2.1 y.2.1.2.2.2.2.2.2.2.2.2.2.2.2.1 y.2.1.2.2.2.2.2.2.2.2.2.2.2.2.2.2.1.1 y.2.1.2.2.2.2.2.2.2.2.2.2.2.2.2.2.1.2.1 y.2.1.2.2.2.2.2.2.2.2.2.2.2.2.2.2.1.2.2.1 y.2.1.2.2.2.2.2.2.2.2.2.2.2.2.2.2.1.2.2.2.1.1 y.2.1.2.2.2.2.2.2.2.2.2.2.2.2.2.2.1.2.2.2.1.2.1 y.2.1.2.2.2.2.2.2.2.2.2.2.2.2.2.2.1.2.2.2.1.2.2.1 y.2.1.2.2.2.2.2.2.2.2.2.2.2.2.2.2.1.2.2.2.1.2.2.2.1 y.2.1.2.2.2.2.2.2.2.2.2.2.2.2.2.2.2.1 y.2.1.2.2.2.2.2.2.2.2.2.2.2.2.2.2.2.2.1⟩
def sg0 (s : S0 R) : Seg := mkSg [4, 1, 0, 1, 1, 1, 1, 1] [] [0, 2, 4, 7, 8] [A_0 s] e
def sg1 (s : S1 R) : Seg := mkSg [1, 4, 0, 1, 5, 4, 1, 0, 1, 1, 1, 1, 1] [] [0, 2, 4, 7, 8, 43] [A_1 s] e
def sg2 (s : S2 R) : Seg := mkSg [1, 1, 5, 4, 1, 0, 1, 1, 1, 1, 1] [] [0, 2, 4, 7, 8] [A_2 s] e
def sg3 (s : S3 R) : Seg := mkSg [1, 0, 1, 1, 1, 1, 1, 1] [] [0, 2, 7, 53] [A_3 s] e
def sg4 (s : S4 R) : Seg := mkSg [1, 1, 1, 1, 1, 1, 1] [] [0, 2, 7] [A_4 s] e
section
variable {β : Type} (g45 : r37_at.G) (g62 : r37_word.G) (g75 : r37_scanned.G) (g76 : r37_change.G) (g77 : r37_vals.G) (s0 : S0 R) (s1 : S1 R) (s2 : S2 R) (s3 : S3 R) (s4 : S4 R)
noncomputable abbrev env : FEnv := mkEnv prog f46 [(45, r37_at.ct g45), (62, r37_word.ct g62), (75, r37_scanned.ct g75), (76, r37_change.ct g76), (77, r37_vals.ct g77)] 0 [] [sg0 s0, sg1 s1, sg2 s2, sg3 s3, sg4 s4]
def c (ret : R → Option β) (a0 : List ByteArray) : Option β := ((g45 a0 (0 : Int)).bind fun r0 => (bif (r0.toList == (ByteArray.toList (ByteArray.mk (List.toArray [115, 99, 97, 110])))) then ((g75 a0).bind fun r1 => (ret (r1.1, r1.2))) else (bif (r0.toList == (ByteArray.toList (ByteArray.mk (List.toArray [99, 104, 97, 110, 103, 101])))) then (bif ((true && (decide ((1 : Int) ≤ (a0.length : Int)))) && (decide ((a0.length : Int) ≤ (a0.length : Int)))) then ((g76 (List.take ((Int.toNat (a0.length : Int)) - (1 : Nat)) (List.drop (1 : Nat) a0))).bind fun r2 => (ret (((6 : Int), ((ByteArray.mk (List.toArray [])), ([], ([], ([], ((0 : Int), (r2.1, ()))))))), r2.2))) else none) else ((s0 a0 r0 (1 : Int) (0 : Int) (ByteArray.mk (List.toArray [])) (0 : Int) (0 : Int) (ByteArray.mk (List.toArray [])) (ByteArray.mk (List.toArray [])) (ByteArray.mk (List.toArray [])) (ByteArray.mk (List.toArray [])) (ByteArray.mk (List.toArray [])) (0 : Int) (ByteArray.mk (List.toArray [])) (0 : Int) false (0 : Int) (0 : Int) (0 : Int) (ByteArray.mk (List.toArray [])) (ByteArray.mk (List.toArray [])) (0 : Int) (0 : Int) (ByteArray.mk (List.toArray [])) (0 : Int) (0 : Int) (ByteArray.mk (List.toArray [])) (ByteArray.mk (List.toArray [])) (ByteArray.mk (List.toArray [])) (ByteArray.mk (List.toArray [])) (ByteArray.mk (List.toArray [])) (0 : Int) (ByteArray.mk (List.toArray [])) (0 : Int) false (0 : Int) (0 : Int) (0 : Int) (ByteArray.mk (List.toArray [])) (ByteArray.mk (List.toArray [])) (0 : Int)).bind ret))))
def s0c (ret : R → Option β) (x0 : List ByteArray) (x1 : ByteArray) (x2 x3 : Int) (x4 : ByteArray) (x5 x6 : Int) (x7 x8 : ByteArray) (x9 x10 x11 : ByteArray) (x12 : Int) (x13 : ByteArray) (x14 : Int) (x15 : Bool) (x16 x17 x18 : Int) (x19 x20 : ByteArray) (x21 x22 : Int) (x23 : ByteArray) (x24 x25 : Int) (x26 x27 : ByteArray) (x28 x29 x30 : ByteArray) (x31 : Int) (x32 : ByteArray) (x33 : Int) (x34 : Bool) (x35 x36 x37 : Int) (x38 x39 : ByteArray) (x40 : Int) : Option β := (bif (decide (x2 ≤ (9 : Int))) then ((g62 x2).bind fun r0 => (bif (!(r0.toList == (ByteArray.toList (ByteArray.mk (List.toArray []))))) then ((g62 x2).bind fun r1 => ((s1 x0 x1 x2 (r1.toList == x1.toList) x3 x4 x5 x6 x7 x8 x9 x10 x11 x12 x13 x14 x15 x16 x17 x18 x19 x20 x21 x22 x23 x24 x25 x26 x27 x28 x29 x30 x31 x32 x33 x34 x35 x36 x37 x38 x39 x40).bind ret)) else ((s1 x0 x1 x2 false x3 x4 x5 x6 x7 x8 x9 x10 x11 x12 x13 x14 x15 x16 x17 x18 x19 x20 x21 x22 x23 x24 x25 x26 x27 x28 x29 x30 x31 x32 x33 x34 x35 x36 x37 x38 x39 x40).bind ret))) else (bif (decide (x22 ≥ (7 : Int))) then ((s3 x0 true x3 x4 x5 x6 x7 x8 x9 x10 x11 x12 x13 x14 x15 x16 x17 x18 x19 x20 x21 x22 x23 x24 x25 x26 x27 x28 x29 x30 x31 x32 x33 x34 x35 x36 x37 x38 x39 x40).bind ret) else ((s3 x0 (x22 == (0 : Int)) x3 x4 x5 x6 x7 x8 x9 x10 x11 x12 x13 x14 x15 x16 x17 x18 x19 x20 x21 x22 x23 x24 x25 x26 x27 x28 x29 x30 x31 x32 x33 x34 x35 x36 x37 x38 x39 x40).bind ret)))
def s1c (ret : R → Option β) (x0 : List ByteArray) (x1 : ByteArray) (x2 : Int) (x3 : Bool) (x4 : Int) (x5 : ByteArray) (x6 x7 : Int) (x8 x9 : ByteArray) (x10 x11 x12 : ByteArray) (x13 : Int) (x14 : ByteArray) (x15 : Int) (x16 : Bool) (x17 x18 x19 : Int) (x20 x21 : ByteArray) (x22 x23 : Int) (x24 : ByteArray) (x25 x26 : Int) (x27 x28 : ByteArray) (x29 x30 x31 : ByteArray) (x32 : Int) (x33 : ByteArray) (x34 : Int) (x35 : Bool) (x36 x37 x38 : Int) (x39 x40 : ByteArray) (x41 : Int) : Option β := (bif x3 then ((s2 x0 x1 x2 x4 x5 x6 x7 x8 x9 x10 x11 x12 x13 x14 x15 x16 x17 x18 x19 x20 x21 x22 x2 x24 x25 x26 x27 x28 x29 x30 x31 x32 x33 x34 x35 x36 x37 x38 x39 x40 x41).bind ret) else ((s2 x0 x1 x2 x4 x5 x6 x7 x8 x9 x10 x11 x12 x13 x14 x15 x16 x17 x18 x19 x20 x21 x22 x23 x24 x25 x26 x27 x28 x29 x30 x31 x32 x33 x34 x35 x36 x37 x38 x39 x40 x41).bind ret))
def s2c (ret : R → Option β) (x0 : List ByteArray) (x1 : ByteArray) (x2 x3 : Int) (x4 : ByteArray) (x5 x6 : Int) (x7 x8 : ByteArray) (x9 x10 x11 : ByteArray) (x12 : Int) (x13 : ByteArray) (x14 : Int) (x15 : Bool) (x16 x17 x18 : Int) (x19 x20 : ByteArray) (x21 x22 : Int) (x23 : ByteArray) (x24 x25 : Int) (x26 x27 : ByteArray) (x28 x29 x30 : ByteArray) (x31 : Int) (x32 : ByteArray) (x33 : Int) (x34 : Bool) (x35 x36 x37 : Int) (x38 x39 : ByteArray) (x40 : Int) : Option β := ((s0 x0 x1 (IntKind.wrap .i64 (x2 + (1 : Int))) x3 x4 x5 x6 x7 x8 x9 x10 x11 x12 x13 x14 x15 x16 x17 x18 x19 x20 x21 x22 x23 x24 x25 x26 x27 x28 x29 x30 x31 x32 x33 x34 x35 x36 x37 x38 x39 x40).bind ret)
def s3c (ret : R → Option β) (x0 : List ByteArray) (x1 : Bool) (x2 : Int) (x3 : ByteArray) (x4 x5 : Int) (x6 x7 : ByteArray) (x8 x9 x10 : ByteArray) (x11 : Int) (x12 : ByteArray) (x13 : Int) (x14 : Bool) (x15 x16 x17 : Int) (x18 x19 : ByteArray) (x20 x21 : Int) (x22 : ByteArray) (x23 x24 : Int) (x25 x26 : ByteArray) (x27 x28 x29 : ByteArray) (x30 : Int) (x31 : ByteArray) (x32 : Int) (x33 : Bool) (x34 x35 x36 : Int) (x37 x38 : ByteArray) (x39 : Int) : Option β := (bif x1 then (ret ((x21, (x22, ([], ([], ([], (x23, ((x24, (x25, (x26, (x27, (x28, (x29, (x30, ([], ((x31, (x32, (x33, ((x34, (x35, (x36, (x37, ())))), ())))), ((x38, (x39, ([], ()))), ())))))))))), ()))))))), (x21 != (0 : Int)))) else ((s4 x0 x2 x3 x4 x5 x6 x7 x8 x9 x10 x11 x12 x13 x14 x15 x16 x17 x18 x19 x20 x21 x22 x23 x24 x25 x26 x27 x28 x29 x30 x31 x32 x33 x34 x35 x36 x37 x38 x39).bind ret))
def s4c (ret : R → Option β) (x0 : List ByteArray) (x1 : Int) (x2 : ByteArray) (x3 x4 : Int) (x5 x6 : ByteArray) (x7 x8 x9 : ByteArray) (x10 : Int) (x11 : ByteArray) (x12 : Int) (x13 : Bool) (x14 x15 x16 : Int) (x17 x18 : ByteArray) (x19 x20 : Int) (x21 : ByteArray) (x22 x23 : Int) (x24 x25 : ByteArray) (x26 x27 x28 : ByteArray) (x29 : Int) (x30 : ByteArray) (x31 : Int) (x32 : Bool) (x33 x34 x35 : Int) (x36 x37 : ByteArray) (x38 : Int) : Option β := (bif (((decide ((0 : Int) ≤ (if ((x0.length : Int) < (2 : Int)) then (x0.length : Int) else (2 : Int)))) && (decide ((if ((x0.length : Int) < (2 : Int)) then (x0.length : Int) else (2 : Int)) ≤ (x0.length : Int)))) && (decide ((x0.length : Int) ≤ (x0.length : Int)))) then ((g77 (List.take ((Int.toNat (x0.length : Int)) - (Int.toNat (if ((x0.length : Int) < (2 : Int)) then (x0.length : Int) else (2 : Int)))) (List.drop (Int.toNat (if ((x0.length : Int) < (2 : Int)) then (x0.length : Int) else (2 : Int))) x0))).bind fun r0 => ((g45 x0 (1 : Int)).bind fun r1 => (ret ((x20, (r1, (r0.1, ([], ([], (x22, ((x23, (x24, (x25, (x26, (x27, (x28, (x29, ([], ((x30, (x31, (x32, ((x33, (x34, (x35, (x36, ())))), ())))), ((x37, (x38, ([], ()))), ())))))))))), ()))))))), r0.2)))) else none)
variable {g45} {g62} {g75} {g76} {g77} {s0} {s1} {s2} {s3} {s4}
theorem ev : EvA (env g45 g62 g75 g76 g77 s0 s1 s2 s3 s4) [] [0] e (A (c g45 g75 g76 s0 some)) := fun x y => Eq.trans (b := (A (c g45 g75 g76 s0 fun r => some (e r))).G x y) (by kernel_rfl) (by simp only [A, c, bo, so, oa, os, on, ofs])
theorem s0_ev : EvA (env g45 g62 g75 g76 g77 s0 s1 s2 s3 s4) [4, 1, 0, 1, 1, 1, 1, 1] [0, 2, 4, 7, 8] e (A_0 (s0c g62 s1 s3 some)) := fun x y => Eq.trans (b := (A_0 (s0c g62 s1 s3 fun r => some (e r))).G x y) (by kernel_rfl) (by simp only [A_0, s0c, bo, so, oa, os, on, ofs])
theorem s1_ev : EvA (env g45 g62 g75 g76 g77 s0 s1 s2 s3 s4) [1, 4, 0, 1, 5, 4, 1, 0, 1, 1, 1, 1, 1] [0, 2, 4, 7, 8, 43] e (A_1 (s1c s2 some)) := fun x y => Eq.trans (b := (A_1 (s1c s2 fun r => some (e r))).G x y) (by kernel_rfl) (by simp only [A_1, s1c, bo, so, oa, os, on, ofs])
theorem s2_ev : EvA (env g45 g62 g75 g76 g77 s0 s1 s2 s3 s4) [1, 1, 5, 4, 1, 0, 1, 1, 1, 1, 1] [0, 2, 4, 7, 8] e (A_2 (s2c s0 some)) := fun x y => Eq.trans (b := (A_2 (s2c s0 fun r => some (e r))).G x y) (by kernel_rfl) (by simp only [A_2, s2c, bo, so, oa, os, on, ofs])
theorem s3_ev : EvA (env g45 g62 g75 g76 g77 s0 s1 s2 s3 s4) [1, 0, 1, 1, 1, 1, 1, 1] [0, 2, 7, 53] e (A_3 (s3c s4 some)) := fun x y => Eq.trans (b := (A_3 (s3c s4 fun r => some (e r))).G x y) (by kernel_rfl) (by simp only [A_3, s3c, bo, so, oa, os, on, ofs])
theorem s4_ev : EvA (env g45 g62 g75 g76 g77 s0 s1 s2 s3 s4) [1, 1, 1, 1, 1, 1, 1] [0, 2, 7] e (A_4 (s4c g45 g77 some)) := fun x y => Eq.trans (b := (A_4 (s4c g45 g77 fun r => some (e r))).G x y) (by kernel_rfl) (by simp only [A_4, s4c, bo, so, oa, os, on, ofs])
end
mutual
def s0 : Nat → S0 R
 | 0, _, _, _, _, _, _, _, _, _, _, _, _, _, _, _, _, _, _, _, _, _, _, _, _, _, _, _, _, _, _, _, _, _, _, _, _, _, _, _, _, _ => none
 | k + 1, x0, x1, x2, x3, x4, x5, x6, x7, x8, x9, x10, x11, x12, x13, x14, x15, x16, x17, x18, x19, x20, x21, x22, x23, x24, x25, x26, x27, x28, x29, x30, x31, x32, x33, x34, x35, x36, x37, x38, x39, x40 => s0c (r37_word.f k) (s1 k) (s3 k) some x0 x1 x2 x3 x4 x5 x6 x7 x8 x9 x10 x11 x12 x13 x14 x15 x16 x17 x18 x19 x20 x21 x22 x23 x24 x25 x26 x27 x28 x29 x30 x31 x32 x33 x34 x35 x36 x37 x38 x39 x40
def s1 : Nat → S1 R
 | 0, _, _, _, _, _, _, _, _, _, _, _, _, _, _, _, _, _, _, _, _, _, _, _, _, _, _, _, _, _, _, _, _, _, _, _, _, _, _, _, _, _, _ => none
 | k + 1, x0, x1, x2, x3, x4, x5, x6, x7, x8, x9, x10, x11, x12, x13, x14, x15, x16, x17, x18, x19, x20, x21, x22, x23, x24, x25, x26, x27, x28, x29, x30, x31, x32, x33, x34, x35, x36, x37, x38, x39, x40, x41 => s1c (s2 k) some x0 x1 x2 x3 x4 x5 x6 x7 x8 x9 x10 x11 x12 x13 x14 x15 x16 x17 x18 x19 x20 x21 x22 x23 x24 x25 x26 x27 x28 x29 x30 x31 x32 x33 x34 x35 x36 x37 x38 x39 x40 x41
def s2 : Nat → S2 R
 | 0, _, _, _, _, _, _, _, _, _, _, _, _, _, _, _, _, _, _, _, _, _, _, _, _, _, _, _, _, _, _, _, _, _, _, _, _, _, _, _, _, _ => none
 | k + 1, x0, x1, x2, x3, x4, x5, x6, x7, x8, x9, x10, x11, x12, x13, x14, x15, x16, x17, x18, x19, x20, x21, x22, x23, x24, x25, x26, x27, x28, x29, x30, x31, x32, x33, x34, x35, x36, x37, x38, x39, x40 => s2c (s0 k) some x0 x1 x2 x3 x4 x5 x6 x7 x8 x9 x10 x11 x12 x13 x14 x15 x16 x17 x18 x19 x20 x21 x22 x23 x24 x25 x26 x27 x28 x29 x30 x31 x32 x33 x34 x35 x36 x37 x38 x39 x40
def s3 : Nat → S3 R
 | 0, _, _, _, _, _, _, _, _, _, _, _, _, _, _, _, _, _, _, _, _, _, _, _, _, _, _, _, _, _, _, _, _, _, _, _, _, _, _, _, _ => none
 | k + 1, x0, x1, x2, x3, x4, x5, x6, x7, x8, x9, x10, x11, x12, x13, x14, x15, x16, x17, x18, x19, x20, x21, x22, x23, x24, x25, x26, x27, x28, x29, x30, x31, x32, x33, x34, x35, x36, x37, x38, x39 => s3c (s4 k) some x0 x1 x2 x3 x4 x5 x6 x7 x8 x9 x10 x11 x12 x13 x14 x15 x16 x17 x18 x19 x20 x21 x22 x23 x24 x25 x26 x27 x28 x29 x30 x31 x32 x33 x34 x35 x36 x37 x38 x39
def s4 : Nat → S4 R
 | 0, _, _, _, _, _, _, _, _, _, _, _, _, _, _, _, _, _, _, _, _, _, _, _, _, _, _, _, _, _, _, _, _, _, _, _, _, _, _, _ => none
 | k + 1, x0, x1, x2, x3, x4, x5, x6, x7, x8, x9, x10, x11, x12, x13, x14, x15, x16, x17, x18, x19, x20, x21, x22, x23, x24, x25, x26, x27, x28, x29, x30, x31, x32, x33, x34, x35, x36, x37, x38 => s4c (r37_at.f k) (r37_vals.f k) some x0 x1 x2 x3 x4 x5 x6 x7 x8 x9 x10 x11 x12 x13 x14 x15 x16 x17 x18 x19 x20 x21 x22 x23 x24 x25 x26 x27 x28 x29 x30 x31 x32 x33 x34 x35 x36 x37 x38
end
def f (k : Nat) (a0 : List ByteArray) : Option R := c (r37_at.f k) (r37_scanned.f k) (r37_change.f k) (s0 k) some a0
noncomputable abbrev E (k : Nat) : FEnv := env (r37_at.f k) (r37_word.f k) (r37_scanned.f k) (r37_change.f k) (r37_vals.f k) (s0 k) (s1 k) (s2 k) (s3 k) (s4 k)
theorem hE (k : Nat) : EnvOK (E k).toEnv := ctsOK (Lc (r37_at.ok k) (Lc (r37_word.ok k) (Lc (r37_scanned.ok k) (Lc (r37_change.ok k) (Lc (r37_vals.ok k) L0)))))
theorem sk : ∀ k, ∀ s ∈ [sg0 (s0 k), sg1 (s1 k), sg2 (s2 k), sg3 (s3 k), sg4 (s4 k)], SegB prog f46 0 s
 | 0 => (Lc (sn (Lc (fun _ _ => rfl) L0)) (Lc (sn (Lc (fun _ _ => rfl) L0)) (Lc (sn (Lc (fun _ _ => rfl) L0)) (Lc (sn (Lc (fun _ _ => rfl) L0)) (Lc (sn (Lc (fun _ _ => rfl) L0)) L0)))))
 | k + 1 => (Lc (sg_ok (hE k) (sk k) (Lc s0_ev L0)) (Lc (sg_ok (hE k) (sk k) (Lc s1_ev L0)) (Lc (sg_ok (hE k) (sk k) (Lc s2_ev L0)) (Lc (sg_ok (hE k) (sk k) (Lc s3_ev L0)) (Lc (sg_ok (hE k) (sk k) (Lc s4_ev L0)) L0)))))
theorem ok (k : Nat) : CtOK prog 46 (ct (f k)) := fn_ok func46 rfl (by decide) (hE k) (sk k) (Lc ev L0)
end r37_asked
namespace r37_step
abbrev R : Type := D_api_Step × Bool
def e (r : R) : Res := ⟨.tup [(.agg (flat T_api_Step r.1)), (.one (.d .bool r.2))], []⟩
abbrev T (δ : Type) : Type := (List ByteArray) → Option δ
abbrev A {δ : Type} (g : T δ) : Arm δ := ⟨[.d (.sl .str)], [], fun x y => g x.1⟩
abbrev G : Type := T R
def ct (g : G) : Ct := mkCt 0 [] [A g] e
section
variable {β : Type} (g44 : r37_number.G) (g45 : r37_at.G) (g46 : r37_asked.G)
noncomputable abbrev env : FEnv := mkEnv prog f20 [(44, r37_number.ct g44), (45, r37_at.ct g45), (46, r37_asked.ct g46)] 0 [] []
def c (ret : R → Option β) (a0 : List ByteArray) : Option β := ((g45 a0 (1 : Int)).bind fun r0 => ((g44 r0).bind fun r1 => ((g45 a0 (0 : Int)).bind fun r2 => (bif (r2.toList == (ByteArray.toList (ByteArray.mk (List.toArray [109, 105, 103, 114, 97, 116, 101])))) then (ret (((3 : Int), ((0 : Int), (Z_api_Op, ()))), true)) else (bif (r2.toList == (ByteArray.toList (ByteArray.mk (List.toArray [116, 105, 99, 107])))) then (ret (((4 : Int), ((0 : Int), (Z_api_Op, ()))), true)) else (bif (r2.toList == (ByteArray.toList (ByteArray.mk (List.toArray [99, 111, 108, 108, 101, 99, 116])))) then (ret (((5 : Int), ((0 : Int), (Z_api_Op, ()))), true)) else (bif (r2.toList == (ByteArray.toList (ByteArray.mk (List.toArray [102, 114, 101, 101])))) then (ret (((6 : Int), ((0 : Int), (Z_api_Op, ()))), true)) else (bif (r2.toList == (ByteArray.toList (ByteArray.mk (List.toArray [114, 117, 110])))) then (ret (((2 : Int), (r1.1, (Z_api_Op, ()))), r1.2)) else (bif (r2.toList == (ByteArray.toList (ByteArray.mk (List.toArray [97, 115, 107])))) then (bif (((decide ((0 : Int) ≤ (if ((a0.length : Int) < (2 : Int)) then (a0.length : Int) else (2 : Int)))) && (decide ((if ((a0.length : Int) < (2 : Int)) then (a0.length : Int) else (2 : Int)) ≤ (a0.length : Int)))) && (decide ((a0.length : Int) ≤ (a0.length : Int)))) then ((g46 (List.take ((Int.toNat (a0.length : Int)) - (Int.toNat (if ((a0.length : Int) < (2 : Int)) then (a0.length : Int) else (2 : Int)))) (List.drop (Int.toNat (if ((a0.length : Int) < (2 : Int)) then (a0.length : Int) else (2 : Int))) a0))).bind fun r3 => (bif r1.2 then (ret (((1 : Int), (r1.1, (r3.1, ()))), r3.2)) else (ret (((1 : Int), (r1.1, (r3.1, ()))), false)))) else none) else (ret (Z_api_Step, false)))))))))))
variable {g44} {g45} {g46}
theorem ev : EvA (env g44 g45 g46) [] [0] e (A (c g44 g45 g46 some)) := fun x y => Eq.trans (b := (A (c g44 g45 g46 fun r => some (e r))).G x y) (by kernel_rfl) (by simp only [A, c, bo, so, oa, os, on, ofs])
end
def f (k : Nat) (a0 : List ByteArray) : Option R := c (r37_number.f k) (r37_at.f k) (r37_asked.f k) some a0
noncomputable abbrev E (k : Nat) : FEnv := env (r37_number.f k) (r37_at.f k) (r37_asked.f k) 
theorem hE (k : Nat) : EnvOK (E k).toEnv := ctsOK (Lc (r37_number.ok k) (Lc (r37_at.ok k) (Lc (r37_asked.ok k) L0)))
theorem ok (k : Nat) : CtOK prog 20 (ct (f k)) := fn_ok func20 rfl (by decide) (hE k) L0 (Lc ev L0)
end r37_step
namespace r37_Read
abbrev R : Type := D_api_Step × Int
def e (r : R) : Res := ⟨.tup [(.agg (flat T_api_Step r.1)), (.one (.d (.int .i64) r.2))], []⟩
abbrev T (δ : Type) : Type := ByteArray → Option δ
abbrev A {δ : Type} (g : T δ) : Arm δ := ⟨[.d .str], [], fun x y => g x.1⟩
abbrev G : Type := T R
def ct (g : G) : Ct := mkCt 0 [] [A g] e
section
variable {β : Type} (g14 : r37_Line.G) (g19 : r36_Split.G) (g20 : r37_step.G)
noncomputable abbrev env : FEnv := mkEnv prog f8 [(14, r37_Line.ct g14), (19, r36_Split.ct g19), (20, r37_step.ct g20)] 0 [] []
def c (ret : R → Option β) (a0 : ByteArray) : Option β := ((g19 a0).bind fun r0 => (bif (r0.2 != (0 : Int)) then (ret (Z_api_Step, r0.2)) else ((g20 r0.1).bind fun r1 => (bif (!r1.2) then (ret (Z_api_Step, (4 : Int))) else ((g14 r1.1).bind fun r2 => (bif (r2.2 != (0 : Int)) then (ret (Z_api_Step, (4 : Int))) else (bif (!(r2.1.toList == a0.toList)) then (ret (Z_api_Step, (4 : Int))) else (ret (r1.1, (0 : Int))))))))))
variable {g14} {g19} {g20}
theorem ev : EvA (env g14 g19 g20) [] [0] e (A (c g14 g19 g20 some)) := fun x y => Eq.trans (b := (A (c g14 g19 g20 fun r => some (e r))).G x y) (by kernel_rfl) (by simp only [A, c, bo, so, oa, os, on, ofs])
end
def f (k : Nat) (a0 : ByteArray) : Option R := c (r37_Line.f k) (r36_Split.f k) (r37_step.f k) some a0
noncomputable abbrev E (k : Nat) : FEnv := env (r37_Line.f k) (r36_Split.f k) (r37_step.f k) 
theorem hE (k : Nat) : EnvOK (E k).toEnv := ctsOK (Lc (r37_Line.ok k) (Lc (r36_Split.ok k) (Lc (r37_step.ok k) L0)))
theorem ok (k : Nat) : CtOK prog 8 (ct (f k)) := fn_ok func8 rfl (by decide) (hE k) L0 (Lc ev L0)
end r37_Read
namespace r04_Same
def e (r : Bool) : Res := ⟨.v (.one (.d .bool r)), []⟩
abbrev T (δ : Type) : Type := Int → Int → Int → ByteArray → Int → Int → Int → ByteArray → Option δ
abbrev A {δ : Type} (g : T δ) : Arm δ := ⟨[.s T_api_Value, .s T_api_Value], [], fun x y => g x.1.1.1 x.1.1.2.1 x.1.1.2.2.1 x.1.1.2.2.2.1 x.2.1.1.1 x.2.1.1.2.1 x.2.1.1.2.2.1 x.2.1.1.2.2.2.1⟩
abbrev G : Type := T Bool
def ct (g : G) : Ct := mkCt 0 [] [A g] e
section
variable {β : Type} 
noncomputable abbrev env : FEnv := mkEnv prog f78 [] 0 [] []
def c (ret : Bool → Option β) (a0 a1 a2 : Int) (a3 : ByteArray) (a4 a5 a6 : Int) (a7 : ByteArray) : Option β := (bif (a0 == a4) then (bif (a1 == a5) then (bif (a2 == a6) then (ret ((a3.toList == a7.toList))) else (ret (false))) else (ret (false))) else (ret (false)))
theorem ev : EvA (env) [] [0, 1] e (A (c some)) := fun x y => Eq.trans (b := (A (c fun r => some (e r))).G x y) (by kernel_rfl) (by simp only [A, c, bo, so, oa, os, on, ofs])
end
def f (k : Nat) (a0 a1 a2 : Int) (a3 : ByteArray) (a4 a5 a6 : Int) (a7 : ByteArray) : Option Bool := c  some a0 a1 a2 a3 a4 a5 a6 a7
noncomputable abbrev E (k : Nat) : FEnv := env  
theorem hE (k : Nat) : EnvOK (E k).toEnv := ctsOK L0
theorem ok (k : Nat) : CtOK prog 78 (ct (f k)) := fn_ok func78 rfl (by decide) (hE k) L0 (Lc ev L0)
end r04_Same
namespace r04_SameRow
def e (r : Bool) : Res := ⟨.v (.one (.d .bool r)), []⟩
abbrev T (δ : Type) : Type := (List D_api_Value) → (List D_api_Value) → Option δ
abbrev A {δ : Type} (g : T δ) : Arm δ := ⟨[.d (.sl T_api_Value), .d (.sl T_api_Value)], [], fun x y => g x.1 x.2.1⟩
abbrev G : Type := T Bool
def ct (g : G) : Ct := mkCt 0 [] [A g] e
abbrev S0 (δ : Type) : Type := (List D_api_Value) → (List D_api_Value) → Int → Option δ
abbrev A_0 {δ : Type} (s : S0 δ) : Arm δ := ⟨[.d (.sl T_api_Value), .d (.sl T_api_Value), .d (.int .i64)], [], fun x y => s x.1 x.2.1 x.2.2.1⟩
def sg0 (s : S0 Bool) : Seg := mkSg [4, 1, 0, 1, 1] [] [0, 1, 5] [A_0 s] e
section
variable {β : Type} (g78 : r04_Same.G) (s0 : S0 Bool)
noncomputable abbrev env : FEnv := mkEnv prog f47 [(78, r04_Same.ct g78)] 0 [] [sg0 s0]
def c (ret : Bool → Option β) (a0 a1 : List D_api_Value) : Option β := (bif ((a0.length : Int) != (a1.length : Int)) then (ret (false)) else ((s0 a0 a1 (0 : Int)).bind ret))
def s0c (ret : Bool → Option β) (x0 x1 : List D_api_Value) (x2 : Int) : Option β := (bif (decide (x2 < (x0.length : Int))) then (bif ((decide ((0 : Int) ≤ x2)) && (decide (x2 < (x0.length : Int)))) then (bif ((decide ((0 : Int) ≤ x2)) && (decide (x2 < (x1.length : Int)))) then ((g78 (elem T_api_Value x0 x2).1 (elem T_api_Value x0 x2).2.1 (elem T_api_Value x0 x2).2.2.1 (elem T_api_Value x0 x2).2.2.2.1 (elem T_api_Value x1 x2).1 (elem T_api_Value x1 x2).2.1 (elem T_api_Value x1 x2).2.2.1 (elem T_api_Value x1 x2).2.2.2.1).bind fun r0 => (bif (!r0) then (ret (false)) else ((s0 x0 x1 (IntKind.wrap .i64 (x2 + (1 : Int)))).bind ret))) else none) else none) else (ret (true)))
variable {g78} {s0}
theorem ev : EvA (env g78 s0) [] [0, 1] e (A (c s0 some)) := fun x y => Eq.trans (b := (A (c s0 fun r => some (e r))).G x y) (by kernel_rfl) (by simp only [A, c, bo, so, oa, os, on, ofs])
theorem s0_ev : EvA (env g78 s0) [4, 1, 0, 1, 1] [0, 1, 5] e (A_0 (s0c g78 s0 some)) := fun x y => Eq.trans (b := (A_0 (s0c g78 s0 fun r => some (e r))).G x y) (by kernel_rfl) (by simp only [A_0, s0c, bo, so, oa, os, on, ofs])
end
def s0 : Nat → S0 Bool
 | 0, _, _, _ => none
 | k + 1, x0, x1, x2 => s0c (r04_Same.f k) (s0 k) some x0 x1 x2
def f (k : Nat) (a0 a1 : List D_api_Value) : Option Bool := c (s0 k) some a0 a1
noncomputable abbrev E (k : Nat) : FEnv := env (r04_Same.f k) (s0 k)
theorem hE (k : Nat) : EnvOK (E k).toEnv := ctsOK (Lc (r04_Same.ok k) L0)
theorem sk : ∀ k, ∀ s ∈ [sg0 (s0 k)], SegB prog f47 0 s
 | 0 => (Lc (sn (Lc (fun _ _ => rfl) L0)) L0)
 | k + 1 => (Lc (sg_ok (hE k) (sk k) (Lc s0_ev L0)) L0)
theorem ok (k : Nat) : CtOK prog 47 (ct (f k)) := fn_ok func47 rfl (by decide) (hE k) (sk k) (Lc ev L0)
end r04_SameRow
namespace r06_Same
def e (r : Bool) : Res := ⟨.v (.one (.d .bool r)), []⟩
abbrev T (δ : Type) : Type := (List D_api_Value) → (List D_api_Value) → Option δ
abbrev A {δ : Type} (g : T δ) : Arm δ := ⟨[.d (.sl T_api_Value), .d (.sl T_api_Value)], [], fun x y => g x.1 x.2.1⟩
abbrev G : Type := T Bool
def ct (g : G) : Ct := mkCt 0 [] [A g] e
section
variable {β : Type} (g47 : r04_SameRow.G)
noncomputable abbrev env : FEnv := mkEnv prog f21 [(47, r04_SameRow.ct g47)] 0 [] []
def c (ret : Bool → Option β) (a0 a1 : List D_api_Value) : Option β := ((g47 a0 a1).bind fun r0 => (ret (r0)))
variable {g47}
theorem ev : EvA (env g47) [] [0, 1] e (A (c g47 some)) := fun x y => Eq.trans (b := (A (c g47 fun r => some (e r))).G x y) (by kernel_rfl) (by simp only [A, c, bo, so, oa, os, on, ofs])
end
def f (k : Nat) (a0 a1 : List D_api_Value) : Option Bool := c (r04_SameRow.f k) some a0 a1
noncomputable abbrev E (k : Nat) : FEnv := env (r04_SameRow.f k) 
theorem hE (k : Nat) : EnvOK (E k).toEnv := ctsOK (Lc (r04_SameRow.ok k) L0)
theorem ok (k : Nat) : CtOK prog 21 (ct (f k)) := fn_ok func21 rfl (by decide) (hE k) L0 (Lc ev L0)
end r06_Same
namespace r01_Texts
def e (r : Bool) : Res := ⟨.v (.one (.d .bool r)), []⟩
abbrev T (δ : Type) : Type := (List ByteArray) → (List ByteArray) → Option δ
abbrev A {δ : Type} (g : T δ) : Arm δ := ⟨[.d (.sl .str), .d (.sl .str)], [], fun x y => g x.1 x.2.1⟩
abbrev G : Type := T Bool
def ct (g : G) : Ct := mkCt 0 [] [A g] e
abbrev S0 (δ : Type) : Type := (List ByteArray) → (List ByteArray) → Int → Option δ
abbrev A_0 {δ : Type} (s : S0 δ) : Arm δ := ⟨[.d (.sl .str), .d (.sl .str), .d (.int .i64)], [], fun x y => s x.1 x.2.1 x.2.2.1⟩
def sg0 (s : S0 Bool) : Seg := mkSg [4, 1, 0, 1, 1] [] [0, 1, 5] [A_0 s] e
section
variable {β : Type} (s0 : S0 Bool)
noncomputable abbrev env : FEnv := mkEnv prog f48 [] 0 [] [sg0 s0]
def c (ret : Bool → Option β) (a0 a1 : List ByteArray) : Option β := (bif ((a0.length : Int) != (a1.length : Int)) then (ret (false)) else ((s0 a0 a1 (0 : Int)).bind ret))
def s0c (ret : Bool → Option β) (x0 x1 : List ByteArray) (x2 : Int) : Option β := (bif (decide (x2 < (x0.length : Int))) then (bif ((decide ((0 : Int) ≤ x2)) && (decide (x2 < (x0.length : Int)))) then (bif ((decide ((0 : Int) ≤ x2)) && (decide (x2 < (x1.length : Int)))) then (bif (!((ByteArray.toList (elem Ty.str x0 x2)) == (ByteArray.toList (elem Ty.str x1 x2)))) then (ret (false)) else ((s0 x0 x1 (IntKind.wrap .i64 (x2 + (1 : Int)))).bind ret)) else none) else none) else (ret (true)))
variable {s0}
theorem ev : EvA (env s0) [] [0, 1] e (A (c s0 some)) := fun x y => Eq.trans (b := (A (c s0 fun r => some (e r))).G x y) (by kernel_rfl) (by simp only [A, c, bo, so, oa, os, on, ofs])
theorem s0_ev : EvA (env s0) [4, 1, 0, 1, 1] [0, 1, 5] e (A_0 (s0c s0 some)) := fun x y => Eq.trans (b := (A_0 (s0c s0 fun r => some (e r))).G x y) (by kernel_rfl) (by simp only [A_0, s0c, bo, so, oa, os, on, ofs])
end
def s0 : Nat → S0 Bool
 | 0, _, _, _ => none
 | k + 1, x0, x1, x2 => s0c (s0 k) some x0 x1 x2
def f (k : Nat) (a0 a1 : List ByteArray) : Option Bool := c (s0 k) some a0 a1
noncomputable abbrev E (k : Nat) : FEnv := env  (s0 k)
theorem hE (k : Nat) : EnvOK (E k).toEnv := ctsOK L0
theorem sk : ∀ k, ∀ s ∈ [sg0 (s0 k)], SegB prog f48 0 s
 | 0 => (Lc (sn (Lc (fun _ _ => rfl) L0)) L0)
 | k + 1 => (Lc (sg_ok (hE k) (sk k) (Lc s0_ev L0)) L0)
theorem ok (k : Nat) : CtOK prog 48 (ct (f k)) := fn_ok func48 rfl (by decide) (hE k) (sk k) (Lc ev L0)
end r01_Texts
end Go.Proofs.YtimadphjdkjgaaaGreatDoor.Aev
