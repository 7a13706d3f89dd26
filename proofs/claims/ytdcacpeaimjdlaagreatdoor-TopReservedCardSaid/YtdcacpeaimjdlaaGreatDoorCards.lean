/-
  DERIVED. GIVEN WITH THE SEED: THE CARDS: each row of YtdcacpeaimjdlaaGreatDoorRows.lean that lists a variable, with what it lists TIED to the program's text (the seventh form; the later family's looks); each row that meets fmt, with fmt's text TOLD by the authors' own Lean function (tested against real Go, not proved from fmt's source: count such statements apart). THE CARD IS WHAT COUNTS. Prove the row's statement (the work); the ties are given (YtdcacpeaimjdlaaGreatDoorTie.lean); close each card by the builder's one call (the guide's Derived/Test/ToyasCard.lean, 'card_holds'). Laid BY PROGRAM, IN A SANDBOX (cutbox-door.mjs). By AI agents, Wed Nov 11 2026. No macro, syntax, notation, axiom, sorry.
-/
import Derived.Test.YtdcacpeaimjdlaaGreatDoorRows
import GoSem.ClaimSeven
namespace Go.Proofs.YtdcacpeaimjdlaaGreatDoor
namespace Rows

/-- THE TIED CARD OF 'sticklertop.TopReserved'. -/
def topReservedCard : Claim7 := { stood := { row := topReservedRow, standIns := [], harness := (true, "d905ed992b7ef152d3fdf09e4c9cc4dc33d015b40139e30567c9b3a579d0a1e9"), looks := false }, kinds := [], alts := [], laidByText := true, laidKinds := [.data, .data, .pinned], laidTests := true, laidLooks := .later }
def TopReservedCardSaid : Prop := Claim7.holds Tryz.pinned (.plain (OpenSpec.ofChange topReservedSpec)) topReservedCard

/-- THE TIED CARD OF 'sticklertop.TopIgnored'. -/
def topIgnoredCard : Claim7 := { stood := { row := topIgnoredRow, standIns := [], harness := (true, "d905ed992b7ef152d3fdf09e4c9cc4dc33d015b40139e30567c9b3a579d0a1e9"), looks := false }, kinds := [], alts := [], laidByText := true, laidKinds := [.data, .data, .pinned], laidTests := true, laidLooks := .later }
def TopIgnoredCardSaid : Prop := Claim7.holds Tryz.pinned (.plain (OpenSpec.ofChange topIgnoredSpec)) topIgnoredCard

/-- THE SECOND FORM's CARD OF 'sticklertop.TopReserved'. -/
def topReservedUptoCard : Claim7 := { stood := { row := topReservedUptoRow, standIns := [], harness := (true, "d905ed992b7ef152d3fdf09e4c9cc4dc33d015b40139e30567c9b3a579d0a1e9"), looks := false }, kinds := [], alts := [], laidByText := true, laidKinds := [.data, .data, .pinned], laidTests := true, laidLooks := .later }
def TopReservedUptoCardSaid : Prop := Claim7.holds Tryz.pinned (.plain (OpenSpec.upto topReservedSpec)) topReservedUptoCard

/-- THE SECOND FORM's CARD OF 'sticklertop.TopIgnored'. -/
def topIgnoredUptoCard : Claim7 := { stood := { row := topIgnoredUptoRow, standIns := [], harness := (true, "d905ed992b7ef152d3fdf09e4c9cc4dc33d015b40139e30567c9b3a579d0a1e9"), looks := false }, kinds := [], alts := [], laidByText := true, laidKinds := [.data, .data, .pinned], laidTests := true, laidLooks := .later }
def TopIgnoredUptoCardSaid : Prop := Claim7.holds Tryz.pinned (.plain (OpenSpec.upto topIgnoredSpec)) topIgnoredUptoCard
end Rows
end Go.Proofs.YtdcacpeaimjdlaaGreatDoor
