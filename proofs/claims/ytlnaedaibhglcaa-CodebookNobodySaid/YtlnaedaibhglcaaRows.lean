/-
  No cell of these rows narrows 'for every input' (looked for: loops, veiled, ifaces, maps, wideKeys, modest, calm, conditions, laid).
  DERIVED. THE GIVEN ROWS OF THIS SEAT. 4 by the template 'for every input the law returns true; each argument reads behind the call as it read before'; 0 by the template 'total and deterministic' (their statements: YtlnaedaibhglcaaTotals.lean).
  GIVEN WITH THE SEED: the statements are not yours to turn. If you find one false, say at which input.
  Laid BY PROGRAM, IN A SANDBOX (cutbox-rows.mjs): the forced cells as the released guide's own fill.sh prints them over the translation 1d1431696645eef3… (all of the seat's roots in one cut). By AI agents, Wed Nov 11 2026. No macro, syntax, notation, axiom, sorry.
-/
import Derived.Test.YtlnaedaibhglcaaChecked
import GoSem.Claim
import GoSem.ClaimJoined
import GoSem.ClaimMapViews
import Derived.JoinedTies
import Derived.KernelRfl
namespace Go.Proofs.Ytlnaedaibhglcaa
/- THE CELL 'sum', in the pinned program and in every row, IS THE sha256 OF THE DUMP (.gsa) THAT YtlnaedaibhglcaaProg.lean LOADS. Nothing in Lean hashes anything: it is a label: what it is worth is what the hold of that sum in a sandbox is worth. -/
noncomputable def Try.pinned : Pinned := { name := "ytlnaedaibhglcaa", sum := "1d1431696645eef3bdec68014d4b95df667ef39e66c6a4d86f45e9e59099302a", checked := Try.checked }
namespace Rows
def none {H : Type} : Left H := { results := [], args := [] }

/-- 'sticklerlaw16.CodebookOne': WHATEVER THE INPUT: true; the input reads as it did. -/
def codebookOneSpec : ChangeSpec := { name := "codebookOne", fn := fun _ => fun
  | [d] => { results := [.lit (.bool true)], args := [d] }
  | _ => none }
def codebookOneRow : OpenClaim := { program := "ytlnaedaibhglcaa", sum := "1d1431696645eef3bdec68014d4b95df667ef39e66c6a4d86f45e9e59099302a", func := "stickler/sticklerlaw16.CodebookOne", spec := "codebookOne", apart := false }
def CodebookOneSaid : Prop := codebookOneRow.holds Try.pinned (OpenSpec.ofChange codebookOneSpec)

/-- ITS FALSE NEIGHBOUR: 'it returns false'. Refute it at one input. -/
def codebookOneWrong : ChangeSpec := { name := "codebookOne", fn := fun _ => fun
  | [d] => { results := [.lit (.bool false)], args := [d] }
  | _ => none }
def CodebookOneWrongFalsely : Prop := codebookOneRow.holds Try.pinned (OpenSpec.ofChange codebookOneWrong)

/-- 'sticklerlaw16.CodebookFinds': WHATEVER THE INPUT: true; the input reads as it did. -/
def codebookFindsSpec : ChangeSpec := { name := "codebookFinds", fn := fun _ => fun
  | [d1, d2] => { results := [.lit (.bool true)], args := [d1, d2] }
  | _ => none }
def codebookFindsRow : OpenClaim := { program := "ytlnaedaibhglcaa", sum := "1d1431696645eef3bdec68014d4b95df667ef39e66c6a4d86f45e9e59099302a", func := "stickler/sticklerlaw16.CodebookFinds", spec := "codebookFinds", apart := false }
def CodebookFindsSaid : Prop := codebookFindsRow.holds Try.pinned (OpenSpec.ofChange codebookFindsSpec)

/-- ITS FALSE NEIGHBOUR: 'it returns false'. Refute it at one input. -/
def codebookFindsWrong : ChangeSpec := { name := "codebookFinds", fn := fun _ => fun
  | [d1, d2] => { results := [.lit (.bool false)], args := [d1, d2] }
  | _ => none }
def CodebookFindsWrongFalsely : Prop := codebookFindsRow.holds Try.pinned (OpenSpec.ofChange codebookFindsWrong)

/-- 'sticklerlaw16.CodebookCodes': WHATEVER THE INPUT: true; the input reads as it did. -/
def codebookCodesSpec : ChangeSpec := { name := "codebookCodes", fn := fun _ => fun
  | [d] => { results := [.lit (.bool true)], args := [d] }
  | _ => none }
def codebookCodesRow : OpenClaim := { program := "ytlnaedaibhglcaa", sum := "1d1431696645eef3bdec68014d4b95df667ef39e66c6a4d86f45e9e59099302a", func := "stickler/sticklerlaw16.CodebookCodes", spec := "codebookCodes", apart := false }
def CodebookCodesSaid : Prop := codebookCodesRow.holds Try.pinned (OpenSpec.ofChange codebookCodesSpec)

/-- ITS FALSE NEIGHBOUR: 'it returns false'. Refute it at one input. -/
def codebookCodesWrong : ChangeSpec := { name := "codebookCodes", fn := fun _ => fun
  | [d] => { results := [.lit (.bool false)], args := [d] }
  | _ => none }
def CodebookCodesWrongFalsely : Prop := codebookCodesRow.holds Try.pinned (OpenSpec.ofChange codebookCodesWrong)

/-- 'sticklerlaw16.CodebookNobody': WHATEVER THE INPUT: true; the input reads as it did. -/
def codebookNobodySpec : ChangeSpec := { name := "codebookNobody", fn := fun _ => fun
  | [d1, d2] => { results := [.lit (.bool true)], args := [d1, d2] }
  | _ => none }
def codebookNobodyRow : OpenClaim := { program := "ytlnaedaibhglcaa", sum := "1d1431696645eef3bdec68014d4b95df667ef39e66c6a4d86f45e9e59099302a", func := "stickler/sticklerlaw16.CodebookNobody", spec := "codebookNobody", apart := false }
def CodebookNobodySaid : Prop := codebookNobodyRow.holds Try.pinned (OpenSpec.ofChange codebookNobodySpec)

/-- ITS FALSE NEIGHBOUR: 'it returns false'. Refute it at one input. -/
def codebookNobodyWrong : ChangeSpec := { name := "codebookNobody", fn := fun _ => fun
  | [d1, d2] => { results := [.lit (.bool false)], args := [d1, d2] }
  | _ => none }
def CodebookNobodyWrongFalsely : Prop := codebookNobodyRow.holds Try.pinned (OpenSpec.ofChange codebookNobodyWrong)

/- THE SECOND FORM. 'bulk': how many values and letters a reading holds, each counted each time it is reached (what is shared counts as often as it is met; a slice's spare places count too). A statement '..UptoSaid' is the law's where the arguments, and the package variables that the reading takes, are together of bulk at most 1048576: NARROWER than '..Said'. Prove '..Said' where nothing that the law and all that it calls make is longer than what came in: it says more and counts as full. Else prove '..UptoSaid'. A law counts once. -/
mutual
def uptoBulk {H : Type} : DataW H → Nat
  | .lit (.string bytes) => bytes.length + 1
  | .lit _ => 1
  | .nil => 1
  | .ptr d => uptoBulk d + 1
  | .slice elems spare => uptoBulkAll elems + uptoBulkAll spare + 1
  | .agg parts => uptoBulkAll parts + 1
  | .iface _ d => uptoBulk d + 1
  | .map entries => uptoBulkEntries entries + 1
  | .held _ => 1
def uptoBulkAll {H : Type} : List (DataW H) → Nat
  | [] => 0
  | d :: r => uptoBulk d + uptoBulkAll r
def uptoBulkEntries {H : Type} : List (Lit × DataW H) → Nat
  | [] => 0
  | x :: r => uptoBulkEntry x + uptoBulkEntries r
def uptoBulkEntry {H : Type} : Lit × DataW H → Nat
  | (.string bytes, d) => bytes.length + uptoBulk d + 1
  | (_, d) => uptoBulk d + 1
 end
def uptoSmall : (H : Type) → List (DataW H) → Bool := fun _ ds => decide (uptoBulkAll ds ≤ 1048576)
def OpenSpec.upto (s : _root_.Go.ChangeSpec) : _root_.Go.OpenSpec := { _root_.Go.OpenSpec.ofChange s with cond := some uptoSmall }

/-- 'sticklerlaw16.CodebookOne', WHERE WHAT IT READS IS OF BULK AT MOST 1048576: true; the input reads as it did. -/
def codebookOneUptoRow : OpenClaim := { program := "ytlnaedaibhglcaa", sum := "1d1431696645eef3bdec68014d4b95df667ef39e66c6a4d86f45e9e59099302a", func := "stickler/sticklerlaw16.CodebookOne", spec := "codebookOne", apart := false, narrowed := true }
def CodebookOneUptoSaid : Prop := codebookOneUptoRow.holds Try.pinned (OpenSpec.upto codebookOneSpec)

/-- 'sticklerlaw16.CodebookFinds', WHERE WHAT IT READS IS OF BULK AT MOST 1048576: true; the input reads as it did. -/
def codebookFindsUptoRow : OpenClaim := { program := "ytlnaedaibhglcaa", sum := "1d1431696645eef3bdec68014d4b95df667ef39e66c6a4d86f45e9e59099302a", func := "stickler/sticklerlaw16.CodebookFinds", spec := "codebookFinds", apart := false, narrowed := true }
def CodebookFindsUptoSaid : Prop := codebookFindsUptoRow.holds Try.pinned (OpenSpec.upto codebookFindsSpec)

/-- 'sticklerlaw16.CodebookCodes', WHERE WHAT IT READS IS OF BULK AT MOST 1048576: true; the input reads as it did. -/
def codebookCodesUptoRow : OpenClaim := { program := "ytlnaedaibhglcaa", sum := "1d1431696645eef3bdec68014d4b95df667ef39e66c6a4d86f45e9e59099302a", func := "stickler/sticklerlaw16.CodebookCodes", spec := "codebookCodes", apart := false, narrowed := true }
def CodebookCodesUptoSaid : Prop := codebookCodesUptoRow.holds Try.pinned (OpenSpec.upto codebookCodesSpec)

/-- 'sticklerlaw16.CodebookNobody', WHERE WHAT IT READS IS OF BULK AT MOST 1048576: true; the input reads as it did. -/
def codebookNobodyUptoRow : OpenClaim := { program := "ytlnaedaibhglcaa", sum := "1d1431696645eef3bdec68014d4b95df667ef39e66c6a4d86f45e9e59099302a", func := "stickler/sticklerlaw16.CodebookNobody", spec := "codebookNobody", apart := false, narrowed := true }
def CodebookNobodyUptoSaid : Prop := codebookNobodyUptoRow.holds Try.pinned (OpenSpec.upto codebookNobodySpec)

end Rows
end Go.Proofs.Ytlnaedaibhglcaa
