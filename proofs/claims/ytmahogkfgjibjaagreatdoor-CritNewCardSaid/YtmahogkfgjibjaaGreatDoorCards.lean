/-
  DERIVED. GIVEN WITH THE SEED: THE CARDS: each row of YtmahogkfgjibjaaGreatDoorRows.lean that lists a variable, with what it lists TIED to the program's text (the seventh form; the later family's looks); each row that meets fmt, with fmt's text TOLD by the authors' own Lean function (tested against real Go, not proved from fmt's source: count such statements apart). THE CARD IS WHAT COUNTS. Prove the row's statement (the work); the ties are given (YtmahogkfgjibjaaGreatDoorTie.lean); close each card by the builder's one call (the guide's Derived/Test/ToyasCard.lean, 'card_holds'). Laid BY PROGRAM, IN A SANDBOX (cutbox-door.mjs). By AI agents, Wed Nov 11 2026. No macro, syntax, notation, axiom, sorry.
-/
import Derived.Test.YtmahogkfgjibjaaGreatDoorRows
import GoSem.ClaimSeven
namespace Go.Proofs.YtmahogkfgjibjaaGreatDoor
namespace Rows

/-- THE TIED CARD OF 'turnspitlaw17.CritNew'. -/
def critNewCard : Claim7 := { stood := { row := critNewRow, standIns := [], harness := (true, "77d73d2e7f684ff4d1860e6fc8c713ae08fd2da69d58fbc858a78b5e99b41de4"), looks := true }, kinds := [], alts := [], laidByText := true, laidKinds := [.data, .funcsDeep, .data, .data, .funcs], laidTests := true, laidLooks := .later }
def CritNewCardSaid : Prop := Claim7.holds Tryz.pinned (.plain (OpenSpec.ofChange critNewSpec)) critNewCard

/-- THE SECOND FORM's CARD OF 'turnspitlaw17.CritNew'. -/
def critNewUptoCard : Claim7 := { stood := { row := critNewUptoRow, standIns := [], harness := (true, "77d73d2e7f684ff4d1860e6fc8c713ae08fd2da69d58fbc858a78b5e99b41de4"), looks := true }, kinds := [], alts := [], laidByText := true, laidKinds := [.data, .funcsDeep, .data, .data, .funcs], laidTests := true, laidLooks := .later }
def CritNewUptoCardSaid : Prop := Claim7.holds Tryz.pinned (.plain (OpenSpec.upto critNewSpec)) critNewUptoCard
end Rows
end Go.Proofs.YtmahogkfgjibjaaGreatDoor
