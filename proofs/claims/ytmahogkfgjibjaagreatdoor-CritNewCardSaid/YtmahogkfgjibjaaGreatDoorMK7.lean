/- What the proof of this claim needs: part MK7. No conditions. -/
import Derived.Test.YtmahogkfgjibjaaGreatDoorMK
set_option linter.unusedVariables false
set_option linter.unusedSimpArgs false

namespace Go.Ev
open Go Go.RowKit Go.Proofs
def newP : Pts := [([pint 2, pint 2, pu 9], [W0, pint 0])]
def wokenP : Pts := [([W1, pint 0], [W2])]
noncomputable def C8 : Ctx := addAt (addAt (addAt (addAt (addAt C7 4 newP) 17 wokenP) 16 doP) 18 askP) 19 finP
theorem new_2 : runSpec C1 500 4 [pint 2, pint 2, pu 9] = some [W0, pint 0] := by kernel_rfl
theorem woken_W1 : runSpec C5 500 17 [W1, pint 0] = some [W2] := by kernel_rfl
theorem awake_run : runSpec C8 400 6 [] = some [pbool true] := by kernel_rfl
end Go.Ev
