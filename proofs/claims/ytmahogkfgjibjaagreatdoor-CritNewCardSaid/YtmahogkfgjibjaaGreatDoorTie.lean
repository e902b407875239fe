/-
  DERIVED. GIVEN WITH THE SEED: THE PROGRAM's TIES (one call each: nine closed facts by the kernel) AND EACH ROW's TIE, after the 31st guide's Derived/Test/Toyas{Tie, Card}.lean. No idea stands in it: it is a product of the set-up. Laid BY PROGRAM, IN A SANDBOX (cutbox-door.mjs). By AI agents, Wed Nov 11 2026. No macro, syntax, notation, axiom, sorry.
-/
import Derived.Test.YtmahogkfgjibjaaGreatDoorRows
import Derived.LaidByTextLater
import Derived.SevenTiedAt
import Derived.LaidSub
import Derived.LaidOnce
namespace Go.Proofs.YtmahogkfgjibjaaGreatDoor
open Go
set_option maxRecDepth 100000
theorem seatTie1 : Tryz.prog.laidByTextLater [("turnspit/packed.spans", Rows.laid_turnspit_packed_spans), ("turnspit/life.rules", Rows.laid_turnspit_life_rules), ("turnspit/tree.empty", Rows.laid_turnspit_tree_empty), ("turnspit/weight.weights", Rows.laid_turnspit_weight_weights), ("turnspit/crit.kinds", Rows.laid_turnspit_crit_kinds)] [.data, .funcsDeep, .data, .data, .funcs] true :=
  Program.laidByTextLater_by_one 229 8 41 (by kernel_rfl) (by kernel_rfl) (by kernel_rfl) (by kernel_rfl) (by kernel_rfl) (by kernel_rfl) (fun _ _ => by kernel_rfl)
theorem noOwnUnsafe : Tryz.pinned.checked.prog.headLifts.contains "ownunsafe" = false := by kernel_rfl
theorem tie : Tryz.prog.laidByTextLater [("turnspit/packed.spans", Rows.laid_turnspit_packed_spans), ("turnspit/life.rules", Rows.laid_turnspit_life_rules), ("turnspit/tree.empty", Rows.laid_turnspit_tree_empty), ("turnspit/weight.weights", Rows.laid_turnspit_weight_weights), ("turnspit/crit.kinds", Rows.laid_turnspit_crit_kinds)] [.data, .funcsDeep, .data, .data, .funcs] true :=
  Program.laidByTextLater.sub seatTie1 ["turnspit/packed.spans", "turnspit/life.rules", "turnspit/tree.empty", "turnspit/weight.weights", "turnspit/crit.kinds"] (by kernel_rfl) (by kernel_rfl)
theorem critNew_row_tie : Rows.critNewRow.laidByTextAt .later Tryz.pinned [.data, .funcsDeep, .data, .data, .funcs] true :=
  OpenClaim.laidByTextAt_later rfl rfl tie noOwnUnsafe
theorem critNewUpto_row_tie : Rows.critNewUptoRow.laidByTextAt .later Tryz.pinned [.data, .funcsDeep, .data, .data, .funcs] true :=
  OpenClaim.laidByTextAt_later rfl rfl tie noOwnUnsafe
end Go.Proofs.YtmahogkfgjibjaaGreatDoor
