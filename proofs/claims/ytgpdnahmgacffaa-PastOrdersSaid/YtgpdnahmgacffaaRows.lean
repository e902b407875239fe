/-
  No cell of these rows narrows 'for every input' (looked for: loops, veiled, ifaces, maps, wideKeys, modest, calm, conditions, laid).
  DERIVED. THE GIVEN ROWS OF THIS SEAT. 7 by the template 'for every input the law returns true; each argument reads behind the call as it read before'; 0 by the template 'total and deterministic' (their statements: YtgpdnahmgacffaaTotals.lean).
  GIVEN WITH THE SEED: the statements are not yours to turn. If you find one false, say at which input.
  Laid BY PROGRAM, IN A SANDBOX (cutbox-rows.mjs): the forced cells as the released guide's own fill.sh prints them over the translation 04870795799f9240… (all of the seat's roots in one cut). By AI agents, Wed Nov 11 2026. No macro, syntax, notation, axiom, sorry.
-/
import Derived.Test.YtgpdnahmgacffaaChecked
import GoSem.Claim
import GoSem.ClaimJoined
import GoSem.ClaimMapViews
import Derived.JoinedTies
import Derived.KernelRfl
namespace Go.Proofs.Ytgpdnahmgacffaa
/- THE CELL 'sum', in the pinned program and in every row, IS THE sha256 OF THE DUMP (.gsa) THAT YtgpdnahmgacffaaProg.lean LOADS. Nothing in Lean hashes anything: it is a label: what it is worth is what the hold of that sum in a sandbox is worth. -/
noncomputable def Try.pinned : Pinned := { name := "ytgpdnahmgacffaa", sum := "04870795799f9240824b028879afc7e32c96d6b0ad4c3cac67d5ab59975876d4", checked := Try.checked }
namespace Rows
def none {H : Type} : Left H := { results := [], args := [] }

/-- 'turnspitlaw20.PastTells': WHATEVER THE INPUT: true; the input reads as it did. -/
def pastTellsSpec : ChangeSpec := { name := "pastTells", fn := fun _ => fun
  | [d1, d2, d3] => { results := [.lit (.bool true)], args := [d1, d2, d3] }
  | _ => none }
def pastTellsRow : OpenClaim := { program := "ytgpdnahmgacffaa", sum := "04870795799f9240824b028879afc7e32c96d6b0ad4c3cac67d5ab59975876d4", func := "turnspit/turnspitlaw20.PastTells", spec := "pastTells", unfollowed := true, recurses := true, plainKeys := false, apart := false }
def PastTellsSaid : Prop := pastTellsRow.holds Try.pinned (OpenSpec.ofChange pastTellsSpec)

/-- ITS FALSE NEIGHBOUR: 'it returns false'. Refute it at one input. -/
def pastTellsWrong : ChangeSpec := { name := "pastTells", fn := fun _ => fun
  | [d1, d2, d3] => { results := [.lit (.bool false)], args := [d1, d2, d3] }
  | _ => none }
def PastTellsWrongFalsely : Prop := pastTellsRow.holds Try.pinned (OpenSpec.ofChange pastTellsWrong)

/-- 'turnspitlaw20.PastFits': WHATEVER THE INPUT: true; the input reads as it did. -/
def pastFitsSpec : ChangeSpec := { name := "pastFits", fn := fun _ => fun
  | [d1, d2] => { results := [.lit (.bool true)], args := [d1, d2] }
  | _ => none }
def pastFitsRow : OpenClaim := { program := "ytgpdnahmgacffaa", sum := "04870795799f9240824b028879afc7e32c96d6b0ad4c3cac67d5ab59975876d4", func := "turnspit/turnspitlaw20.PastFits", spec := "pastFits", unfollowed := true, recurses := true, plainKeys := false, apart := false }
def PastFitsSaid : Prop := pastFitsRow.holds Try.pinned (OpenSpec.ofChange pastFitsSpec)

/-- ITS FALSE NEIGHBOUR: 'it returns false'. Refute it at one input. -/
def pastFitsWrong : ChangeSpec := { name := "pastFits", fn := fun _ => fun
  | [d1, d2] => { results := [.lit (.bool false)], args := [d1, d2] }
  | _ => none }
def PastFitsWrongFalsely : Prop := pastFitsRow.holds Try.pinned (OpenSpec.ofChange pastFitsWrong)

/-- 'turnspitlaw20.PastOrders': WHATEVER THE INPUT: true; the input reads as it did. -/
def pastOrdersSpec : ChangeSpec := { name := "pastOrders", fn := fun _ => fun
  | [d1, d2, d3] => { results := [.lit (.bool true)], args := [d1, d2, d3] }
  | _ => none }
def pastOrdersRow : OpenClaim := { program := "ytgpdnahmgacffaa", sum := "04870795799f9240824b028879afc7e32c96d6b0ad4c3cac67d5ab59975876d4", func := "turnspit/turnspitlaw20.PastOrders", spec := "pastOrders", unfollowed := true, recurses := true, plainKeys := false, apart := false }
def PastOrdersSaid : Prop := pastOrdersRow.holds Try.pinned (OpenSpec.ofChange pastOrdersSpec)

/-- ITS FALSE NEIGHBOUR: 'it returns false'. Refute it at one input. -/
def pastOrdersWrong : ChangeSpec := { name := "pastOrders", fn := fun _ => fun
  | [d1, d2, d3] => { results := [.lit (.bool false)], args := [d1, d2, d3] }
  | _ => none }
def PastOrdersWrongFalsely : Prop := pastOrdersRow.holds Try.pinned (OpenSpec.ofChange pastOrdersWrong)

/-- 'turnspitlaw20.PastBefore': WHATEVER THE INPUT: true; the input reads as it did. -/
def pastBeforeSpec : ChangeSpec := { name := "pastBefore", fn := fun _ => fun
  | [d] => { results := [.lit (.bool true)], args := [d] }
  | _ => none }
def pastBeforeRow : OpenClaim := { program := "ytgpdnahmgacffaa", sum := "04870795799f9240824b028879afc7e32c96d6b0ad4c3cac67d5ab59975876d4", func := "turnspit/turnspitlaw20.PastBefore", spec := "pastBefore", unfollowed := true, recurses := true, plainKeys := false, apart := false }
def PastBeforeSaid : Prop := pastBeforeRow.holds Try.pinned (OpenSpec.ofChange pastBeforeSpec)

/-- ITS FALSE NEIGHBOUR: 'it returns false'. Refute it at one input. -/
def pastBeforeWrong : ChangeSpec := { name := "pastBefore", fn := fun _ => fun
  | [d] => { results := [.lit (.bool false)], args := [d] }
  | _ => none }
def PastBeforeWrongFalsely : Prop := pastBeforeRow.holds Try.pinned (OpenSpec.ofChange pastBeforeWrong)

/-- 'turnspitlaw20.PastBegins': WHATEVER THE INPUT: true; the input reads as it did. -/
def pastBeginsSpec : ChangeSpec := { name := "pastBegins", fn := fun _ => fun
  | [d] => { results := [.lit (.bool true)], args := [d] }
  | _ => none }
def pastBeginsRow : OpenClaim := { program := "ytgpdnahmgacffaa", sum := "04870795799f9240824b028879afc7e32c96d6b0ad4c3cac67d5ab59975876d4", func := "turnspit/turnspitlaw20.PastBegins", spec := "pastBegins", unfollowed := true, recurses := true, plainKeys := false, apart := false }
def PastBeginsSaid : Prop := pastBeginsRow.holds Try.pinned (OpenSpec.ofChange pastBeginsSpec)

/-- ITS FALSE NEIGHBOUR: 'it returns false'. Refute it at one input. -/
def pastBeginsWrong : ChangeSpec := { name := "pastBegins", fn := fun _ => fun
  | [d] => { results := [.lit (.bool false)], args := [d] }
  | _ => none }
def PastBeginsWrongFalsely : Prop := pastBeginsRow.holds Try.pinned (OpenSpec.ofChange pastBeginsWrong)

/-- 'turnspitlaw20.PastSwaps': WHATEVER THE INPUT: true; the input reads as it did. -/
def pastSwapsSpec : ChangeSpec := { name := "pastSwaps", fn := fun _ => fun
  | [d] => { results := [.lit (.bool true)], args := [d] }
  | _ => none }
def pastSwapsRow : OpenClaim := { program := "ytgpdnahmgacffaa", sum := "04870795799f9240824b028879afc7e32c96d6b0ad4c3cac67d5ab59975876d4", func := "turnspit/turnspitlaw20.PastSwaps", spec := "pastSwaps", unfollowed := true, recurses := true, plainKeys := false, apart := false }
def PastSwapsSaid : Prop := pastSwapsRow.holds Try.pinned (OpenSpec.ofChange pastSwapsSpec)

/-- ITS FALSE NEIGHBOUR: 'it returns false'. Refute it at one input. -/
def pastSwapsWrong : ChangeSpec := { name := "pastSwaps", fn := fun _ => fun
  | [d] => { results := [.lit (.bool false)], args := [d] }
  | _ => none }
def PastSwapsWrongFalsely : Prop := pastSwapsRow.holds Try.pinned (OpenSpec.ofChange pastSwapsWrong)

/-- 'turnspitlaw20.PastParts': WHATEVER THE INPUT: true; the input reads as it did. -/
def pastPartsSpec : ChangeSpec := { name := "pastParts", fn := fun _ => fun
  | [d1, d2] => { results := [.lit (.bool true)], args := [d1, d2] }
  | _ => none }
def pastPartsRow : OpenClaim := { program := "ytgpdnahmgacffaa", sum := "04870795799f9240824b028879afc7e32c96d6b0ad4c3cac67d5ab59975876d4", func := "turnspit/turnspitlaw20.PastParts", spec := "pastParts", unfollowed := true, recurses := true, plainKeys := false, apart := false }
def PastPartsSaid : Prop := pastPartsRow.holds Try.pinned (OpenSpec.ofChange pastPartsSpec)

/-- ITS FALSE NEIGHBOUR: 'it returns false'. Refute it at one input. -/
def pastPartsWrong : ChangeSpec := { name := "pastParts", fn := fun _ => fun
  | [d1, d2] => { results := [.lit (.bool false)], args := [d1, d2] }
  | _ => none }
def PastPartsWrongFalsely : Prop := pastPartsRow.holds Try.pinned (OpenSpec.ofChange pastPartsWrong)

/- THE SECOND FORM. 'bulk': how many values and letters a reading holds, each counted each time it is reached (what is shared counts as often as it is met; a slice's spare places count too). A statement '..UptoSaid' is the law's where the arguments, and the package variables that the reading takes, are together of bulk at most 1048576: NARROWER than '..Said'. Prove '..Said' where nothing that the law and all that it calls make is longer than what came in: it says more and counts as full. Else prove '..UptoSaid'. A law counts once. -/
mutual
def uptoBulk {H : Type} : DataW H → Nat
  | .lit (.string bytes) => bytes.length + 1
  | .lit _ => 1
  | .nil => 1
  | .ptr d => uptoBulk d + 1
  | .slice elems spare => uptoBulkAll elems + uptoBulkAll spare + 1
  | .agg parts => uptoBulkAll parts + 1
  | .iface _ d => uptoBulk d + 1
  | .map entries => uptoBulkEntries entries + 1
  | .held _ => 1
def uptoBulkAll {H : Type} : List (DataW H) → Nat
  | [] => 0
  | d :: r => uptoBulk d + uptoBulkAll r
def uptoBulkEntries {H : Type} : List (Lit × DataW H) → Nat
  | [] => 0
  | x :: r => uptoBulkEntry x + uptoBulkEntries r
def uptoBulkEntry {H : Type} : Lit × DataW H → Nat
  | (.string bytes, d) => bytes.length + uptoBulk d + 1
  | (_, d) => uptoBulk d + 1
 end
def uptoSmall : (H : Type) → List (DataW H) → Bool := fun _ ds => decide (uptoBulkAll ds ≤ 1048576)
def OpenSpec.upto (s : _root_.Go.ChangeSpec) : _root_.Go.OpenSpec := { _root_.Go.OpenSpec.ofChange s with cond := some uptoSmall }

/-- 'turnspitlaw20.PastTells', WHERE WHAT IT READS IS OF BULK AT MOST 1048576: true; the input reads as it did. -/
def pastTellsUptoRow : OpenClaim := { program := "ytgpdnahmgacffaa", sum := "04870795799f9240824b028879afc7e32c96d6b0ad4c3cac67d5ab59975876d4", func := "turnspit/turnspitlaw20.PastTells", spec := "pastTells", unfollowed := true, recurses := true, plainKeys := false, apart := false, narrowed := true }
def PastTellsUptoSaid : Prop := pastTellsUptoRow.holds Try.pinned (OpenSpec.upto pastTellsSpec)

/-- 'turnspitlaw20.PastFits', WHERE WHAT IT READS IS OF BULK AT MOST 1048576: true; the input reads as it did. -/
def pastFitsUptoRow : OpenClaim := { program := "ytgpdnahmgacffaa", sum := "04870795799f9240824b028879afc7e32c96d6b0ad4c3cac67d5ab59975876d4", func := "turnspit/turnspitlaw20.PastFits", spec := "pastFits", unfollowed := true, recurses := true, plainKeys := false, apart := false, narrowed := true }
def PastFitsUptoSaid : Prop := pastFitsUptoRow.holds Try.pinned (OpenSpec.upto pastFitsSpec)

/-- 'turnspitlaw20.PastOrders', WHERE WHAT IT READS IS OF BULK AT MOST 1048576: true; the input reads as it did. -/
def pastOrdersUptoRow : OpenClaim := { program := "ytgpdnahmgacffaa", sum := "04870795799f9240824b028879afc7e32c96d6b0ad4c3cac67d5ab59975876d4", func := "turnspit/turnspitlaw20.PastOrders", spec := "pastOrders", unfollowed := true, recurses := true, plainKeys := false, apart := false, narrowed := true }
def PastOrdersUptoSaid : Prop := pastOrdersUptoRow.holds Try.pinned (OpenSpec.upto pastOrdersSpec)

/-- 'turnspitlaw20.PastBefore', WHERE WHAT IT READS IS OF BULK AT MOST 1048576: true; the input reads as it did. -/
def pastBeforeUptoRow : OpenClaim := { program := "ytgpdnahmgacffaa", sum := "04870795799f9240824b028879afc7e32c96d6b0ad4c3cac67d5ab59975876d4", func := "turnspit/turnspitlaw20.PastBefore", spec := "pastBefore", unfollowed := true, recurses := true, plainKeys := false, apart := false, narrowed := true }
def PastBeforeUptoSaid : Prop := pastBeforeUptoRow.holds Try.pinned (OpenSpec.upto pastBeforeSpec)

/-- 'turnspitlaw20.PastBegins', WHERE WHAT IT READS IS OF BULK AT MOST 1048576: true; the input reads as it did. -/
def pastBeginsUptoRow : OpenClaim := { program := "ytgpdnahmgacffaa", sum := "04870795799f9240824b028879afc7e32c96d6b0ad4c3cac67d5ab59975876d4", func := "turnspit/turnspitlaw20.PastBegins", spec := "pastBegins", unfollowed := true, recurses := true, plainKeys := false, apart := false, narrowed := true }
def PastBeginsUptoSaid : Prop := pastBeginsUptoRow.holds Try.pinned (OpenSpec.upto pastBeginsSpec)

/-- 'turnspitlaw20.PastSwaps', WHERE WHAT IT READS IS OF BULK AT MOST 1048576: true; the input reads as it did. -/
def pastSwapsUptoRow : OpenClaim := { program := "ytgpdnahmgacffaa", sum := "04870795799f9240824b028879afc7e32c96d6b0ad4c3cac67d5ab59975876d4", func := "turnspit/turnspitlaw20.PastSwaps", spec := "pastSwaps", unfollowed := true, recurses := true, plainKeys := false, apart := false, narrowed := true }
def PastSwapsUptoSaid : Prop := pastSwapsUptoRow.holds Try.pinned (OpenSpec.upto pastSwapsSpec)

/-- 'turnspitlaw20.PastParts', WHERE WHAT IT READS IS OF BULK AT MOST 1048576: true; the input reads as it did. -/
def pastPartsUptoRow : OpenClaim := { program := "ytgpdnahmgacffaa", sum := "04870795799f9240824b028879afc7e32c96d6b0ad4c3cac67d5ab59975876d4", func := "turnspit/turnspitlaw20.PastParts", spec := "pastParts", unfollowed := true, recurses := true, plainKeys := false, apart := false, narrowed := true }
def PastPartsUptoSaid : Prop := pastPartsUptoRow.holds Try.pinned (OpenSpec.upto pastPartsSpec)

end Rows
end Go.Proofs.Ytgpdnahmgacffaa
