import Derived.Test.YtimadphjdkjgaaaDoorF3
import Derived.Test.YtimadphjdkjgaaaDoorLineR

/- Steps as lines: what is asked, and whole steps; the program's lines are the document's. -/
namespace Go.Proofs.YtimadphjdkjgaaaDoor.Aev
open Go
set_option linter.unusedVariables false
set_option linter.unusedSimpArgs false
set_option maxRecDepth 100000
theorem jb_cons (x : ByteArray) (r : List ByteArray) : jb (x :: r) = 32 :: (x.data.toList ++ jb r) := by simp [jb]
theorem verbW_in {a : Int} {w : ByteArray} (h : verbW a = some w) : (a = 1 ∨ a = 3 ∨ a = 4 ∨ a = 5) ∨ (a = 7 ∨ a = 8 ∨ a = 9) := by
 unfold verbW at h
 (repeat' split at h) <;> first | (cases h; done) | omega
/-! ### steps -/
abbrev Sp : Type := D_api_Step
noncomputable def linP (s : Sp) : P2 :=
 match plainW s.1 with
 | some w => (0, [w])
 | none => if s.1 = 1 then sq (0, [mkW [97, 115, 107]]) (sq (numP s.2.1) (opP s.2.2.1)) else if s.1 = 2 then sq (0, [mkW [114, 117, 110]]) (numP s.2.1) else (1, [])
structure OkS (s : Sp) : Prop where
 at' : -9223372036854775808 ≤ s.2.1 ∧ s.2.1 ≤ 9223372036854775807
 op : OkO s.2.2.1
end Go.Proofs.YtimadphjdkjgaaaDoor.Aev
