/- What the proof of this claim needs: part MR1. No conditions. -/
import Derived.Test.YtmahogkfgjibjaaGreatDoorMK
set_option linter.unusedVariables false
set_option linter.unusedSimpArgs false

namespace Go.Ev
open Go Go.RowKit Go.Proofs
theorem right_W0 : runSpec C6 500 20 [W0] = some [pbool true] := by kernel_rfl
theorem right_W2 : runSpec C6 500 20 [W2] = some [pbool true] := by kernel_rfl
theorem right_W3 : runSpec C6 500 20 [W3] = some [pbool true] := by kernel_rfl
end Go.Ev
