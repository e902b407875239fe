/- What the proof of this claim needs: part MR2. No conditions. -/
import Derived.Test.YtmahogkfgjibjaaGreatDoorMK
set_option linter.unusedVariables false
set_option linter.unusedSimpArgs false

namespace Go.Ev
open Go Go.RowKit Go.Proofs
theorem right_W4 : runSpec C6 500 20 [W4] = some [pbool true] := by kernel_rfl
theorem right_W5 : runSpec C6 500 20 [W5] = some [pbool true] := by kernel_rfl
theorem right_W6 : runSpec C6 500 20 [W6] = some [pbool true] := by kernel_rfl
end Go.Ev
