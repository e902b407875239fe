/- What the proof of this claim needs: part MD3. No conditions. -/
import Derived.Test.YtmahogkfgjibjaaGreatDoorMK
set_option linter.unusedVariables false
set_option linter.unusedSimpArgs false

namespace Go.Ev
open Go Go.RowKit Go.Proofs
theorem do_S : runSpec C7 400 16 [W4, callS, pint 0, pint (-1)] = some [W4, ans0, pint 4, pint 0, pint 1] := by kernel_rfl
theorem do_T : runSpec C7 400 16 [W4, callS, pint 0, pint 1] = some [W5, ansS, pint 2, pint (-1), pint (-1)] := by kernel_rfl
theorem fin_S : runSpec C7 400 19 [W5, callS, ansS] = some [W6, pint 0] := by kernel_rfl
end Go.Ev
