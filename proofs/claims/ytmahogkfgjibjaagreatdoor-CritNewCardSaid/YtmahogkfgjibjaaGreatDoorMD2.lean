/- What the proof of this claim needs: part MD2. No conditions. -/
import Derived.Test.YtmahogkfgjibjaaGreatDoorMK
set_option linter.unusedVariables false
set_option linter.unusedSimpArgs false

namespace Go.Ev
open Go Go.RowKit Go.Proofs
theorem ask_M : runSpec C7 400 18 [W3, callM] = some [pint 0, pint 1, ans0, pbool false] := by kernel_rfl
theorem do_M : runSpec C7 400 16 [W3, callM, pint 0, pint 1] = some [W4, ansP, pint 0, pint (-1), pint (-1)] := by kernel_rfl
end Go.Ev
