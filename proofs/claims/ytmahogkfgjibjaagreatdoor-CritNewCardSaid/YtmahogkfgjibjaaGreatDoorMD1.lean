/- What the proof of this claim needs: part MD1. No conditions. -/
import Derived.Test.YtmahogkfgjibjaaGreatDoorMK
set_option linter.unusedVariables false
set_option linter.unusedSimpArgs false

namespace Go.Ev
open Go Go.RowKit Go.Proofs
theorem do_C : runSpec CB 400 16 [W0, callC, pint 2, pint (-1)] = some [W1, ansC, pint 0, pint (-1), pint (-1)] := by kernel_rfl
theorem do_P : runSpec C7 400 16 [W2, callP, pint 0, pint (-1)] = some [W3, ansC, pint 0, pint (-1), pint (-1)] := by kernel_rfl
end Go.Ev
