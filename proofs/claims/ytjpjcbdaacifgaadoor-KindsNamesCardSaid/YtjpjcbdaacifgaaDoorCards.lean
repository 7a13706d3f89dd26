/-
  DERIVED. GIVEN WITH THE SEED: THE CARDS: each row of YtjpjcbdaacifgaaDoorRows.lean that lists a variable, with what it lists TIED to the program's text (the seventh form; the later family's looks); each row that meets fmt, with fmt's text TOLD by the authors' own Lean function (tested against real Go, not proved from fmt's source: count such statements apart). THE CARD IS WHAT COUNTS. Prove the row's statement (the work); the ties are given (YtjpjcbdaacifgaaDoorTie.lean); close each card by the builder's one call (the guide's Derived/Test/ToyasCard.lean, 'card_holds'). Laid BY PROGRAM, IN A SANDBOX (cutbox-door.mjs). By AI agents, Wed Nov 11 2026. No macro, syntax, notation, axiom, sorry.
-/
import Derived.Test.YtjpjcbdaacifgaaDoorRows
import GoSem.ClaimSeven
namespace Go.Proofs.YtjpjcbdaacifgaaDoor
namespace Rows

/-- THE TIED CARD OF 'sticklerlaw08.KindsFlags'. -/
def kindsFlagsCard : Claim7 := { stood := { row := kindsFlagsRow, standIns := [], harness := (true, "a5a062064122ad4bd6720149fb9aad13195a70459a8168f890db53f19b95e335"), looks := false }, kinds := [], alts := [], laidByText := true, laidKinds := [.data, .data, .data, .data], laidTests := true, laidLooks := .later }
def KindsFlagsCardSaid : Prop := Claim7.holds Tryd.pinned (.plain (OpenSpec.ofChange kindsFlagsSpec)) kindsFlagsCard

/-- THE TIED CARD OF 'sticklerlaw08.KindsStreams'. -/
def kindsStreamsCard : Claim7 := { stood := { row := kindsStreamsRow, standIns := [], harness := (true, "a5a062064122ad4bd6720149fb9aad13195a70459a8168f890db53f19b95e335"), looks := false }, kinds := [], alts := [], laidByText := true, laidKinds := [.data, .data, .data, .data], laidTests := true, laidLooks := .later }
def KindsStreamsCardSaid : Prop := Claim7.holds Tryd.pinned (.plain (OpenSpec.ofChange kindsStreamsSpec)) kindsStreamsCard

/-- THE TIED CARD OF 'sticklerlaw08.KindsNames'. -/
def kindsNamesCard : Claim7 := { stood := { row := kindsNamesRow, standIns := [], harness := (true, "a5a062064122ad4bd6720149fb9aad13195a70459a8168f890db53f19b95e335"), looks := false }, kinds := [], alts := [], laidByText := true, laidKinds := [.data, .data, .data, .data], laidTests := true, laidLooks := .later }
def KindsNamesCardSaid : Prop := Claim7.holds Tryd.pinned (.plain (OpenSpec.ofChange kindsNamesSpec)) kindsNamesCard

/-- THE SECOND FORM's CARD OF 'sticklerlaw08.KindsFlags'. -/
def kindsFlagsUptoCard : Claim7 := { stood := { row := kindsFlagsUptoRow, standIns := [], harness := (true, "a5a062064122ad4bd6720149fb9aad13195a70459a8168f890db53f19b95e335"), looks := false }, kinds := [], alts := [], laidByText := true, laidKinds := [.data, .data, .data, .data], laidTests := true, laidLooks := .later }
def KindsFlagsUptoCardSaid : Prop := Claim7.holds Tryd.pinned (.plain (OpenSpec.upto kindsFlagsSpec)) kindsFlagsUptoCard

/-- THE SECOND FORM's CARD OF 'sticklerlaw08.KindsStreams'. -/
def kindsStreamsUptoCard : Claim7 := { stood := { row := kindsStreamsUptoRow, standIns := [], harness := (true, "a5a062064122ad4bd6720149fb9aad13195a70459a8168f890db53f19b95e335"), looks := false }, kinds := [], alts := [], laidByText := true, laidKinds := [.data, .data, .data, .data], laidTests := true, laidLooks := .later }
def KindsStreamsUptoCardSaid : Prop := Claim7.holds Tryd.pinned (.plain (OpenSpec.upto kindsStreamsSpec)) kindsStreamsUptoCard

/-- THE SECOND FORM's CARD OF 'sticklerlaw08.KindsNames'. -/
def kindsNamesUptoCard : Claim7 := { stood := { row := kindsNamesUptoRow, standIns := [], harness := (true, "a5a062064122ad4bd6720149fb9aad13195a70459a8168f890db53f19b95e335"), looks := false }, kinds := [], alts := [], laidByText := true, laidKinds := [.data, .data, .data, .data], laidTests := true, laidLooks := .later }
def KindsNamesUptoCardSaid : Prop := Claim7.holds Tryd.pinned (.plain (OpenSpec.upto kindsNamesSpec)) kindsNamesUptoCard
end Rows
end Go.Proofs.YtjpjcbdaacifgaaDoor
