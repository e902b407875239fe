/-
  DERIVED. GIVEN WITH THE SEED: THE CARDS: each row of YtbgdnghnfdijnaaGreatDoorRows.lean that lists a variable, with what it lists TIED to the program's text (the seventh form; the later family's looks); each row that meets fmt, with fmt's text TOLD by the authors' own Lean function (tested against real Go, not proved from fmt's source: count such statements apart). THE CARD IS WHAT COUNTS. Prove the row's statement (the work); the ties are given (YtbgdnghnfdijnaaGreatDoorTie.lean); close each card by the builder's one call (the guide's Derived/Test/ToyasCard.lean, 'card_holds'). Laid BY PROGRAM, IN A SANDBOX (cutbox-door.mjs). By AI agents, Wed Nov 11 2026. No macro, syntax, notation, axiom, sorry.
-/
import Derived.Test.YtbgdnghnfdijnaaGreatDoorRows
import GoSem.ClaimSeven
namespace Go.Proofs.YtbgdnghnfdijnaaGreatDoor
namespace Rows

/-- THE TIED CARD OF 'turnspitlaw21.AbstTells'. -/
def abstTellsCard : Claim7 := { stood := { row := abstTellsRow, standIns := [], harness := (true, "6d935e182f7c10670bf67341f95ba7831dca1c68585674185f83d606edb085fc"), looks := true }, kinds := [], alts := [], laidByText := true, laidKinds := [.data, .data, .data], laidTests := true, laidLooks := .later }
def AbstTellsCardSaid : Prop := Claim7.holds Tryz.pinned (.plain (OpenSpec.ofChange abstTellsSpec)) abstTellsCard

/-- THE TIED CARD OF 'turnspitlaw21.AbstMade'. -/
def abstMadeCard : Claim7 := { stood := { row := abstMadeRow, standIns := [], harness := (true, "6d935e182f7c10670bf67341f95ba7831dca1c68585674185f83d606edb085fc"), looks := true }, kinds := [], alts := [], laidByText := true, laidKinds := [.data, .data, .data], laidTests := true, laidLooks := .later }
def AbstMadeCardSaid : Prop := Claim7.holds Tryz.pinned (.plain (OpenSpec.ofChange abstMadeSpec)) abstMadeCard

/-- THE TIED CARD OF 'turnspitlaw21.AbstKinds'. -/
def abstKindsCard : Claim7 := { stood := { row := abstKindsRow, standIns := [], harness := (true, "6d935e182f7c10670bf67341f95ba7831dca1c68585674185f83d606edb085fc"), looks := true }, kinds := [], alts := [], laidByText := true, laidKinds := [.data, .data, .data], laidTests := true, laidLooks := .later }
def AbstKindsCardSaid : Prop := Claim7.holds Tryz.pinned (.plain (OpenSpec.ofChange abstKindsSpec)) abstKindsCard

/-- THE TIED CARD OF 'turnspitlaw21.AbstRight'. -/
def abstRightCard : Claim7 := { stood := { row := abstRightRow, standIns := [], harness := (true, "6d935e182f7c10670bf67341f95ba7831dca1c68585674185f83d606edb085fc"), looks := true }, kinds := [], alts := [], laidByText := true, laidKinds := [.data, .data, .data], laidTests := true, laidLooks := .later }
def AbstRightCardSaid : Prop := Claim7.holds Tryz.pinned (.plain (OpenSpec.ofChange abstRightSpec)) abstRightCard

/-- THE TIED CARD OF 'turnspitlaw21.AbstPlaces'. -/
def abstPlacesCard : Claim7 := { stood := { row := abstPlacesRow, standIns := [], harness := (true, "6d935e182f7c10670bf67341f95ba7831dca1c68585674185f83d606edb085fc"), looks := true }, kinds := [], alts := [], laidByText := true, laidKinds := [.data, .data, .data], laidTests := true, laidLooks := .later }
def AbstPlacesCardSaid : Prop := Claim7.holds Tryz.pinned (.plain (OpenSpec.ofChange abstPlacesSpec)) abstPlacesCard

/-- THE TIED CARD OF 'turnspitlaw21.AbstPending'. -/
def abstPendingCard : Claim7 := { stood := { row := abstPendingRow, standIns := [], harness := (true, "6d935e182f7c10670bf67341f95ba7831dca1c68585674185f83d606edb085fc"), looks := true }, kinds := [], alts := [], laidByText := true, laidKinds := [.data, .data, .data], laidTests := true, laidLooks := .later }
def AbstPendingCardSaid : Prop := Claim7.holds Tryz.pinned (.plain (OpenSpec.ofChange abstPendingSpec)) abstPendingCard

/-- THE SECOND FORM's CARD OF 'turnspitlaw21.AbstTells'. -/
def abstTellsUptoCard : Claim7 := { stood := { row := abstTellsUptoRow, standIns := [], harness := (true, "6d935e182f7c10670bf67341f95ba7831dca1c68585674185f83d606edb085fc"), looks := true }, kinds := [], alts := [], laidByText := true, laidKinds := [.data, .data, .data], laidTests := true, laidLooks := .later }
def AbstTellsUptoCardSaid : Prop := Claim7.holds Tryz.pinned (.plain (OpenSpec.upto abstTellsSpec)) abstTellsUptoCard

/-- THE SECOND FORM's CARD OF 'turnspitlaw21.AbstMade'. -/
def abstMadeUptoCard : Claim7 := { stood := { row := abstMadeUptoRow, standIns := [], harness := (true, "6d935e182f7c10670bf67341f95ba7831dca1c68585674185f83d606edb085fc"), looks := true }, kinds := [], alts := [], laidByText := true, laidKinds := [.data, .data, .data], laidTests := true, laidLooks := .later }
def AbstMadeUptoCardSaid : Prop := Claim7.holds Tryz.pinned (.plain (OpenSpec.upto abstMadeSpec)) abstMadeUptoCard

/-- THE SECOND FORM's CARD OF 'turnspitlaw21.AbstKinds'. -/
def abstKindsUptoCard : Claim7 := { stood := { row := abstKindsUptoRow, standIns := [], harness := (true, "6d935e182f7c10670bf67341f95ba7831dca1c68585674185f83d606edb085fc"), looks := true }, kinds := [], alts := [], laidByText := true, laidKinds := [.data, .data, .data], laidTests := true, laidLooks := .later }
def AbstKindsUptoCardSaid : Prop := Claim7.holds Tryz.pinned (.plain (OpenSpec.upto abstKindsSpec)) abstKindsUptoCard

/-- THE SECOND FORM's CARD OF 'turnspitlaw21.AbstRight'. -/
def abstRightUptoCard : Claim7 := { stood := { row := abstRightUptoRow, standIns := [], harness := (true, "6d935e182f7c10670bf67341f95ba7831dca1c68585674185f83d606edb085fc"), looks := true }, kinds := [], alts := [], laidByText := true, laidKinds := [.data, .data, .data], laidTests := true, laidLooks := .later }
def AbstRightUptoCardSaid : Prop := Claim7.holds Tryz.pinned (.plain (OpenSpec.upto abstRightSpec)) abstRightUptoCard

/-- THE SECOND FORM's CARD OF 'turnspitlaw21.AbstPlaces'. -/
def abstPlacesUptoCard : Claim7 := { stood := { row := abstPlacesUptoRow, standIns := [], harness := (true, "6d935e182f7c10670bf67341f95ba7831dca1c68585674185f83d606edb085fc"), looks := true }, kinds := [], alts := [], laidByText := true, laidKinds := [.data, .data, .data], laidTests := true, laidLooks := .later }
def AbstPlacesUptoCardSaid : Prop := Claim7.holds Tryz.pinned (.plain (OpenSpec.upto abstPlacesSpec)) abstPlacesUptoCard

/-- THE SECOND FORM's CARD OF 'turnspitlaw21.AbstPending'. -/
def abstPendingUptoCard : Claim7 := { stood := { row := abstPendingUptoRow, standIns := [], harness := (true, "6d935e182f7c10670bf67341f95ba7831dca1c68585674185f83d606edb085fc"), looks := true }, kinds := [], alts := [], laidByText := true, laidKinds := [.data, .data, .data], laidTests := true, laidLooks := .later }
def AbstPendingUptoCardSaid : Prop := Claim7.holds Tryz.pinned (.plain (OpenSpec.upto abstPendingSpec)) abstPendingUptoCard
end Rows
end Go.Proofs.YtbgdnghnfdijnaaGreatDoor
