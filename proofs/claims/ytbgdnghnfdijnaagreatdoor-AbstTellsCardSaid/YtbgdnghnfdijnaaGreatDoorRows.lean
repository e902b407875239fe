/-
  NARROWER THAN 'FOR EVERY INPUT', by the rows' own cells (each row's printed sentence says how): AbstTells: laid · AbstMade: laid · AbstKinds: laid · AbstRight: laid · AbstPlaces: laid · AbstPending: laid.
  DERIVED. THE GIVEN ROWS OF THIS SEAT. 6 by the template 'for every input the law returns true; each argument reads behind the call as it read before'; 0 by the template 'total and deterministic' (their statements: YtbgdnghnfdijnaaGreatDoorTotals.lean).
  GIVEN WITH THE SEED: the statements are not yours to turn. If you find one false, say at which input.
  Laid BY PROGRAM, IN A SANDBOX (cutbox-rows.mjs): the forced cells as the released guide's own fill.sh prints them over the translation 19e842add44000c3… (all of the seat's roots in one cut). By AI agents, Wed Nov 11 2026. No macro, syntax, notation, axiom, sorry.
-/
import Derived.Test.YtbgdnghnfdijnaaGreatDoorChecked
import GoSem.Claim
import GoSem.ClaimJoined
import GoSem.ClaimMapViews
import Derived.JoinedTies
import Derived.KernelRfl
namespace Go.Proofs.YtbgdnghnfdijnaaGreatDoor
/- THE CELL 'sum', in the pinned program and in every row, IS THE sha256 OF THE DUMP (.gsa) THAT YtbgdnghnfdijnaaGreatDoorProg.lean LOADS. Nothing in Lean hashes anything: it is a label: what it is worth is what the hold of that sum in a sandbox is worth. -/
noncomputable def Tryz.pinned : Pinned := { name := "ytbgdnghnfdijnaagreatdoor", sum := "19e842add44000c3a850fb329137f85c3b72153a1b2dd584b49fe47b6c6ecf40", checked := Tryz.checked }
namespace Rows
def none {H : Type} : Left H := { results := [], args := [] }

/- WHAT THE LISTED PACKAGE-LEVEL VARIABLES READ AS WHEN THE CALL BEGINS. Each datum BY PROGRAM (the guide's laid-datum.mjs) off the statement by which the dump's own 'gosem.cut.vars' lays the variable. In a bare row this is a premise. The card (YtbgdnghnfdijnaaGreatDoorCards.lean) ties it to the program's text. -/
def laid_turnspit_packed_spans {H : Type} : DataW H := .agg [.agg [.lit (.int .i64 0), .lit (.int .i64 3)], .agg [.lit (.int .i64 3), .lit (.int .i64 9)], .agg [.lit (.int .i64 9), .lit (.int .i64 10)], .agg [.lit (.int .i64 10), .lit (.int .i64 26)], .agg [.lit (.int .i64 26), .lit (.int .i64 58)]]
def laid_turnspit_tree_empty {H : Type} : DataW H := .agg [.lit (.bool false), .lit (.bool false), .lit (.int .u64 0), .lit (.int .i64 (-1)), .lit (.int .i64 (-1)), .lit (.int .i64 (-1))]
def laid_turnspit_weight_weights {H : Type} : DataW H := .agg [.lit (.int .i64 88761), .lit (.int .i64 71755), .lit (.int .i64 56483), .lit (.int .i64 46273), .lit (.int .i64 36291), .lit (.int .i64 29154), .lit (.int .i64 23254), .lit (.int .i64 18705), .lit (.int .i64 14949), .lit (.int .i64 11916), .lit (.int .i64 9548), .lit (.int .i64 7620), .lit (.int .i64 6100), .lit (.int .i64 4904), .lit (.int .i64 3906), .lit (.int .i64 3121), .lit (.int .i64 2501), .lit (.int .i64 1991), .lit (.int .i64 1586), .lit (.int .i64 1277), .lit (.int .i64 1024), .lit (.int .i64 820), .lit (.int .i64 655), .lit (.int .i64 526), .lit (.int .i64 423), .lit (.int .i64 335), .lit (.int .i64 272), .lit (.int .i64 215), .lit (.int .i64 172), .lit (.int .i64 137), .lit (.int .i64 110), .lit (.int .i64 87), .lit (.int .i64 70), .lit (.int .i64 56), .lit (.int .i64 45), .lit (.int .i64 36), .lit (.int .i64 29), .lit (.int .i64 23), .lit (.int .i64 18), .lit (.int .i64 15)]

/-- 'turnspitlaw21.AbstTells': WHATEVER THE INPUT: true; the input reads as it did. -/
def abstTellsSpec : ChangeSpec := { name := "abstTells", fn := fun _ => fun
  | [d] => { results := [.lit (.bool true)], args := [d] }
  | _ => none }
def abstTellsRow : OpenClaim := { program := "ytbgdnghnfdijnaagreatdoor", sum := "19e842add44000c3a850fb329137f85c3b72153a1b2dd584b49fe47b6c6ecf40", func := "turnspit/turnspitlaw21.AbstTells", spec := "abstTells", unfollowed := true, recurses := true, named := ["turnspit/packed.spans", "turnspit/tree.empty", "turnspit/weight.weights"], plainKeys := false, apart := false, laid := [("turnspit/packed.spans", laid_turnspit_packed_spans), ("turnspit/tree.empty", laid_turnspit_tree_empty), ("turnspit/weight.weights", laid_turnspit_weight_weights)] }
def AbstTellsSaid : Prop := abstTellsRow.holds Tryz.pinned (OpenSpec.ofChange abstTellsSpec)

/-- ITS FALSE NEIGHBOUR: 'it returns false'. Refute it at one input. -/
def abstTellsWrong : ChangeSpec := { name := "abstTells", fn := fun _ => fun
  | [d] => { results := [.lit (.bool false)], args := [d] }
  | _ => none }
def AbstTellsWrongFalsely : Prop := abstTellsRow.holds Tryz.pinned (OpenSpec.ofChange abstTellsWrong)

/-- 'turnspitlaw21.AbstMade': WHATEVER THE INPUT: true; the input reads as it did. -/
def abstMadeSpec : ChangeSpec := { name := "abstMade", fn := fun _ => fun
  | [d1, d2, d3] => { results := [.lit (.bool true)], args := [d1, d2, d3] }
  | _ => none }
def abstMadeRow : OpenClaim := { program := "ytbgdnghnfdijnaagreatdoor", sum := "19e842add44000c3a850fb329137f85c3b72153a1b2dd584b49fe47b6c6ecf40", func := "turnspit/turnspitlaw21.AbstMade", spec := "abstMade", unfollowed := true, recurses := true, named := ["turnspit/packed.spans", "turnspit/tree.empty", "turnspit/weight.weights"], plainKeys := false, apart := false, laid := [("turnspit/packed.spans", laid_turnspit_packed_spans), ("turnspit/tree.empty", laid_turnspit_tree_empty), ("turnspit/weight.weights", laid_turnspit_weight_weights)] }
def AbstMadeSaid : Prop := abstMadeRow.holds Tryz.pinned (OpenSpec.ofChange abstMadeSpec)

/-- ITS FALSE NEIGHBOUR: 'it returns false'. Refute it at one input. -/
def abstMadeWrong : ChangeSpec := { name := "abstMade", fn := fun _ => fun
  | [d1, d2, d3] => { results := [.lit (.bool false)], args := [d1, d2, d3] }
  | _ => none }
def AbstMadeWrongFalsely : Prop := abstMadeRow.holds Tryz.pinned (OpenSpec.ofChange abstMadeWrong)

/-- 'turnspitlaw21.AbstKinds': WHATEVER THE INPUT: true; the input reads as it did. -/
def abstKindsSpec : ChangeSpec := { name := "abstKinds", fn := fun _ => fun
  | [d] => { results := [.lit (.bool true)], args := [d] }
  | _ => none }
def abstKindsRow : OpenClaim := { program := "ytbgdnghnfdijnaagreatdoor", sum := "19e842add44000c3a850fb329137f85c3b72153a1b2dd584b49fe47b6c6ecf40", func := "turnspit/turnspitlaw21.AbstKinds", spec := "abstKinds", unfollowed := true, recurses := true, named := ["turnspit/packed.spans", "turnspit/tree.empty", "turnspit/weight.weights"], plainKeys := false, apart := false, laid := [("turnspit/packed.spans", laid_turnspit_packed_spans), ("turnspit/tree.empty", laid_turnspit_tree_empty), ("turnspit/weight.weights", laid_turnspit_weight_weights)] }
def AbstKindsSaid : Prop := abstKindsRow.holds Tryz.pinned (OpenSpec.ofChange abstKindsSpec)

/-- ITS FALSE NEIGHBOUR: 'it returns false'. Refute it at one input. -/
def abstKindsWrong : ChangeSpec := { name := "abstKinds", fn := fun _ => fun
  | [d] => { results := [.lit (.bool false)], args := [d] }
  | _ => none }
def AbstKindsWrongFalsely : Prop := abstKindsRow.holds Tryz.pinned (OpenSpec.ofChange abstKindsWrong)

/-- 'turnspitlaw21.AbstRight': WHATEVER THE INPUT: true; the input reads as it did. -/
def abstRightSpec : ChangeSpec := { name := "abstRight", fn := fun _ => fun
  | [d1, d2, d3] => { results := [.lit (.bool true)], args := [d1, d2, d3] }
  | _ => none }
def abstRightRow : OpenClaim := { program := "ytbgdnghnfdijnaagreatdoor", sum := "19e842add44000c3a850fb329137f85c3b72153a1b2dd584b49fe47b6c6ecf40", func := "turnspit/turnspitlaw21.AbstRight", spec := "abstRight", unfollowed := true, recurses := true, named := ["turnspit/packed.spans", "turnspit/tree.empty", "turnspit/weight.weights"], plainKeys := false, apart := false, laid := [("turnspit/packed.spans", laid_turnspit_packed_spans), ("turnspit/tree.empty", laid_turnspit_tree_empty), ("turnspit/weight.weights", laid_turnspit_weight_weights)] }
def AbstRightSaid : Prop := abstRightRow.holds Tryz.pinned (OpenSpec.ofChange abstRightSpec)

/-- ITS FALSE NEIGHBOUR: 'it returns false'. Refute it at one input. -/
def abstRightWrong : ChangeSpec := { name := "abstRight", fn := fun _ => fun
  | [d1, d2, d3] => { results := [.lit (.bool false)], args := [d1, d2, d3] }
  | _ => none }
def AbstRightWrongFalsely : Prop := abstRightRow.holds Tryz.pinned (OpenSpec.ofChange abstRightWrong)

/-- 'turnspitlaw21.AbstPlaces': WHATEVER THE INPUT: true; the input reads as it did. -/
def abstPlacesSpec : ChangeSpec := { name := "abstPlaces", fn := fun _ => fun
  | [d1, d2, d3] => { results := [.lit (.bool true)], args := [d1, d2, d3] }
  | _ => none }
def abstPlacesRow : OpenClaim := { program := "ytbgdnghnfdijnaagreatdoor", sum := "19e842add44000c3a850fb329137f85c3b72153a1b2dd584b49fe47b6c6ecf40", func := "turnspit/turnspitlaw21.AbstPlaces", spec := "abstPlaces", unfollowed := true, recurses := true, named := ["turnspit/packed.spans", "turnspit/tree.empty", "turnspit/weight.weights"], plainKeys := false, apart := false, laid := [("turnspit/packed.spans", laid_turnspit_packed_spans), ("turnspit/tree.empty", laid_turnspit_tree_empty), ("turnspit/weight.weights", laid_turnspit_weight_weights)] }
def AbstPlacesSaid : Prop := abstPlacesRow.holds Tryz.pinned (OpenSpec.ofChange abstPlacesSpec)

/-- ITS FALSE NEIGHBOUR: 'it returns false'. Refute it at one input. -/
def abstPlacesWrong : ChangeSpec := { name := "abstPlaces", fn := fun _ => fun
  | [d1, d2, d3] => { results := [.lit (.bool false)], args := [d1, d2, d3] }
  | _ => none }
def AbstPlacesWrongFalsely : Prop := abstPlacesRow.holds Tryz.pinned (OpenSpec.ofChange abstPlacesWrong)

/-- 'turnspitlaw21.AbstPending': WHATEVER THE INPUT: true; the input reads as it did. -/
def abstPendingSpec : ChangeSpec := { name := "abstPending", fn := fun _ => fun
  | [d1, d2, d3] => { results := [.lit (.bool true)], args := [d1, d2, d3] }
  | _ => none }
def abstPendingRow : OpenClaim := { program := "ytbgdnghnfdijnaagreatdoor", sum := "19e842add44000c3a850fb329137f85c3b72153a1b2dd584b49fe47b6c6ecf40", func := "turnspit/turnspitlaw21.AbstPending", spec := "abstPending", unfollowed := true, recurses := true, named := ["turnspit/packed.spans", "turnspit/tree.empty", "turnspit/weight.weights"], plainKeys := false, apart := false, laid := [("turnspit/packed.spans", laid_turnspit_packed_spans), ("turnspit/tree.empty", laid_turnspit_tree_empty), ("turnspit/weight.weights", laid_turnspit_weight_weights)] }
def AbstPendingSaid : Prop := abstPendingRow.holds Tryz.pinned (OpenSpec.ofChange abstPendingSpec)

/-- ITS FALSE NEIGHBOUR: 'it returns false'. Refute it at one input. -/
def abstPendingWrong : ChangeSpec := { name := "abstPending", fn := fun _ => fun
  | [d1, d2, d3] => { results := [.lit (.bool false)], args := [d1, d2, d3] }
  | _ => none }
def AbstPendingWrongFalsely : Prop := abstPendingRow.holds Tryz.pinned (OpenSpec.ofChange abstPendingWrong)

/- THE SECOND FORM. 'bulk': how many values and letters a reading holds, each counted each time it is reached (what is shared counts as often as it is met; a slice's spare places count too). A statement '..UptoSaid' is the law's where the arguments, and the package variables that the reading takes, are together of bulk at most 1048576: NARROWER than '..Said'. Prove '..Said' where nothing that the law and all that it calls make is longer than what came in: it says more and counts as full. Else prove '..UptoSaid'. A law counts once. -/
mutual
def uptoBulk {H : Type} : DataW H → Nat
  | .lit (.string bytes) => bytes.length + 1
  | .lit _ => 1
  | .nil => 1
  | .ptr d => uptoBulk d + 1
  | .slice elems spare => uptoBulkAll elems + uptoBulkAll spare + 1
  | .agg parts => uptoBulkAll parts + 1
  | .iface _ d => uptoBulk d + 1
  | .map entries => uptoBulkEntries entries + 1
  | .held _ => 1
def uptoBulkAll {H : Type} : List (DataW H) → Nat
  | [] => 0
  | d :: r => uptoBulk d + uptoBulkAll r
def uptoBulkEntries {H : Type} : List (Lit × DataW H) → Nat
  | [] => 0
  | x :: r => uptoBulkEntry x + uptoBulkEntries r
def uptoBulkEntry {H : Type} : Lit × DataW H → Nat
  | (.string bytes, d) => bytes.length + uptoBulk d + 1
  | (_, d) => uptoBulk d + 1
 end
def uptoSmall : (H : Type) → List (DataW H) → Bool := fun _ ds => decide (uptoBulkAll ds ≤ 1048576)
def OpenSpec.upto (s : _root_.Go.ChangeSpec) : _root_.Go.OpenSpec := { _root_.Go.OpenSpec.ofChange s with cond := some uptoSmall }

/-- 'turnspitlaw21.AbstTells', WHERE WHAT IT READS IS OF BULK AT MOST 1048576: true; the input reads as it did. -/
def abstTellsUptoRow : OpenClaim := { program := "ytbgdnghnfdijnaagreatdoor", sum := "19e842add44000c3a850fb329137f85c3b72153a1b2dd584b49fe47b6c6ecf40", func := "turnspit/turnspitlaw21.AbstTells", spec := "abstTells", unfollowed := true, recurses := true, named := ["turnspit/packed.spans", "turnspit/tree.empty", "turnspit/weight.weights"], plainKeys := false, apart := false, laid := [("turnspit/packed.spans", laid_turnspit_packed_spans), ("turnspit/tree.empty", laid_turnspit_tree_empty), ("turnspit/weight.weights", laid_turnspit_weight_weights)], narrowed := true }
def AbstTellsUptoSaid : Prop := abstTellsUptoRow.holds Tryz.pinned (OpenSpec.upto abstTellsSpec)

/-- 'turnspitlaw21.AbstMade', WHERE WHAT IT READS IS OF BULK AT MOST 1048576: true; the input reads as it did. -/
def abstMadeUptoRow : OpenClaim := { program := "ytbgdnghnfdijnaagreatdoor", sum := "19e842add44000c3a850fb329137f85c3b72153a1b2dd584b49fe47b6c6ecf40", func := "turnspit/turnspitlaw21.AbstMade", spec := "abstMade", unfollowed := true, recurses := true, named := ["turnspit/packed.spans", "turnspit/tree.empty", "turnspit/weight.weights"], plainKeys := false, apart := false, laid := [("turnspit/packed.spans", laid_turnspit_packed_spans), ("turnspit/tree.empty", laid_turnspit_tree_empty), ("turnspit/weight.weights", laid_turnspit_weight_weights)], narrowed := true }
def AbstMadeUptoSaid : Prop := abstMadeUptoRow.holds Tryz.pinned (OpenSpec.upto abstMadeSpec)

/-- 'turnspitlaw21.AbstKinds', WHERE WHAT IT READS IS OF BULK AT MOST 1048576: true; the input reads as it did. -/
def abstKindsUptoRow : OpenClaim := { program := "ytbgdnghnfdijnaagreatdoor", sum := "19e842add44000c3a850fb329137f85c3b72153a1b2dd584b49fe47b6c6ecf40", func := "turnspit/turnspitlaw21.AbstKinds", spec := "abstKinds", unfollowed := true, recurses := true, named := ["turnspit/packed.spans", "turnspit/tree.empty", "turnspit/weight.weights"], plainKeys := false, apart := false, laid := [("turnspit/packed.spans", laid_turnspit_packed_spans), ("turnspit/tree.empty", laid_turnspit_tree_empty), ("turnspit/weight.weights", laid_turnspit_weight_weights)], narrowed := true }
def AbstKindsUptoSaid : Prop := abstKindsUptoRow.holds Tryz.pinned (OpenSpec.upto abstKindsSpec)

/-- 'turnspitlaw21.AbstRight', WHERE WHAT IT READS IS OF BULK AT MOST 1048576: true; the input reads as it did. -/
def abstRightUptoRow : OpenClaim := { program := "ytbgdnghnfdijnaagreatdoor", sum := "19e842add44000c3a850fb329137f85c3b72153a1b2dd584b49fe47b6c6ecf40", func := "turnspit/turnspitlaw21.AbstRight", spec := "abstRight", unfollowed := true, recurses := true, named := ["turnspit/packed.spans", "turnspit/tree.empty", "turnspit/weight.weights"], plainKeys := false, apart := false, laid := [("turnspit/packed.spans", laid_turnspit_packed_spans), ("turnspit/tree.empty", laid_turnspit_tree_empty), ("turnspit/weight.weights", laid_turnspit_weight_weights)], narrowed := true }
def AbstRightUptoSaid : Prop := abstRightUptoRow.holds Tryz.pinned (OpenSpec.upto abstRightSpec)

/-- 'turnspitlaw21.AbstPlaces', WHERE WHAT IT READS IS OF BULK AT MOST 1048576: true; the input reads as it did. -/
def abstPlacesUptoRow : OpenClaim := { program := "ytbgdnghnfdijnaagreatdoor", sum := "19e842add44000c3a850fb329137f85c3b72153a1b2dd584b49fe47b6c6ecf40", func := "turnspit/turnspitlaw21.AbstPlaces", spec := "abstPlaces", unfollowed := true, recurses := true, named := ["turnspit/packed.spans", "turnspit/tree.empty", "turnspit/weight.weights"], plainKeys := false, apart := false, laid := [("turnspit/packed.spans", laid_turnspit_packed_spans), ("turnspit/tree.empty", laid_turnspit_tree_empty), ("turnspit/weight.weights", laid_turnspit_weight_weights)], narrowed := true }
def AbstPlacesUptoSaid : Prop := abstPlacesUptoRow.holds Tryz.pinned (OpenSpec.upto abstPlacesSpec)

/-- 'turnspitlaw21.AbstPending', WHERE WHAT IT READS IS OF BULK AT MOST 1048576: true; the input reads as it did. -/
def abstPendingUptoRow : OpenClaim := { program := "ytbgdnghnfdijnaagreatdoor", sum := "19e842add44000c3a850fb329137f85c3b72153a1b2dd584b49fe47b6c6ecf40", func := "turnspit/turnspitlaw21.AbstPending", spec := "abstPending", unfollowed := true, recurses := true, named := ["turnspit/packed.spans", "turnspit/tree.empty", "turnspit/weight.weights"], plainKeys := false, apart := false, laid := [("turnspit/packed.spans", laid_turnspit_packed_spans), ("turnspit/tree.empty", laid_turnspit_tree_empty), ("turnspit/weight.weights", laid_turnspit_weight_weights)], narrowed := true }
def AbstPendingUptoSaid : Prop := abstPendingUptoRow.holds Tryz.pinned (OpenSpec.upto abstPendingSpec)

end Rows
end Go.Proofs.YtbgdnghnfdijnaaGreatDoor
