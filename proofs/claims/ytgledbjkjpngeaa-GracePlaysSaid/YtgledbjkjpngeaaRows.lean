/-
  No cell of these rows narrows 'for every input' (looked for: loops, veiled, ifaces, maps, wideKeys, modest, calm, conditions, laid).
  DERIVED. THE GIVEN ROWS OF THIS SEAT. 3 by the template 'for every input the law returns true; each argument reads behind the call as it read before'; 0 by the template 'total and deterministic' (their statements: YtgledbjkjpngeaaTotals.lean).
  GIVEN WITH THE SEED: the statements are not yours to turn. If you find one false, say at which input.
  Laid BY PROGRAM, IN A SANDBOX (cutbox-rows.mjs): the forced cells as the released guide's own fill.sh prints them over the translation 5f2694c96535e220… (all of the seat's roots in one cut). By AI agents, Wed Nov 11 2026. No macro, syntax, notation, axiom, sorry.
-/
import Derived.Test.YtgledbjkjpngeaaChecked
import GoSem.Claim
import GoSem.ClaimJoined
import GoSem.ClaimMapViews
import Derived.JoinedTies
import Derived.KernelRfl
namespace Go.Proofs.Ytgledbjkjpngeaa
/- THE CELL 'sum', in the pinned program and in every row, IS THE sha256 OF THE DUMP (.gsa) THAT YtgledbjkjpngeaaProg.lean LOADS. Nothing in Lean hashes anything: it is a label: what it is worth is what the hold of that sum in a sandbox is worth. -/
noncomputable def Try.pinned : Pinned := { name := "ytgledbjkjpngeaa", sum := "5f2694c96535e220f32d72591b40a0dd7af8bb619859c70afa805fd24e0c002a", checked := Try.checked }
namespace Rows
def none {H : Type} : Left H := { results := [], args := [] }

/-- 'sticklerlaw35.GracePlays': WHATEVER THE INPUT: true; the input reads as it did. -/
def gracePlaysSpec : ChangeSpec := { name := "gracePlays", fn := fun _ => fun
  | [d1, d2] => { results := [.lit (.bool true)], args := [d1, d2] }
  | _ => none }
def gracePlaysRow : OpenClaim := { program := "ytgledbjkjpngeaa", sum := "5f2694c96535e220f32d72591b40a0dd7af8bb619859c70afa805fd24e0c002a", func := "stickler/sticklerlaw35.GracePlays", spec := "gracePlays", apart := false }
def GracePlaysSaid : Prop := gracePlaysRow.holds Try.pinned (OpenSpec.ofChange gracePlaysSpec)

/-- ITS FALSE NEIGHBOUR: 'it returns false'. Refute it at one input. -/
def gracePlaysWrong : ChangeSpec := { name := "gracePlays", fn := fun _ => fun
  | [d1, d2] => { results := [.lit (.bool false)], args := [d1, d2] }
  | _ => none }
def GracePlaysWrongFalsely : Prop := gracePlaysRow.holds Try.pinned (OpenSpec.ofChange gracePlaysWrong)

/-- 'sticklerlaw35.GraceMore': WHATEVER THE INPUT: true; the input reads as it did. -/
def graceMoreSpec : ChangeSpec := { name := "graceMore", fn := fun _ => fun
  | [d1, d2, d3] => { results := [.lit (.bool true)], args := [d1, d2, d3] }
  | _ => none }
def graceMoreRow : OpenClaim := { program := "ytgledbjkjpngeaa", sum := "5f2694c96535e220f32d72591b40a0dd7af8bb619859c70afa805fd24e0c002a", func := "stickler/sticklerlaw35.GraceMore", spec := "graceMore", apart := false }
def GraceMoreSaid : Prop := graceMoreRow.holds Try.pinned (OpenSpec.ofChange graceMoreSpec)

/-- ITS FALSE NEIGHBOUR: 'it returns false'. Refute it at one input. -/
def graceMoreWrong : ChangeSpec := { name := "graceMore", fn := fun _ => fun
  | [d1, d2, d3] => { results := [.lit (.bool false)], args := [d1, d2, d3] }
  | _ => none }
def GraceMoreWrongFalsely : Prop := graceMoreRow.holds Try.pinned (OpenSpec.ofChange graceMoreWrong)

/-- 'sticklerlaw35.GraceFew': WHATEVER THE INPUT: true; the input reads as it did. -/
def graceFewSpec : ChangeSpec := { name := "graceFew", fn := fun _ => fun
  | [d1, d2] => { results := [.lit (.bool true)], args := [d1, d2] }
  | _ => none }
def graceFewRow : OpenClaim := { program := "ytgledbjkjpngeaa", sum := "5f2694c96535e220f32d72591b40a0dd7af8bb619859c70afa805fd24e0c002a", func := "stickler/sticklerlaw35.GraceFew", spec := "graceFew", apart := false }
def GraceFewSaid : Prop := graceFewRow.holds Try.pinned (OpenSpec.ofChange graceFewSpec)

/-- ITS FALSE NEIGHBOUR: 'it returns false'. Refute it at one input. -/
def graceFewWrong : ChangeSpec := { name := "graceFew", fn := fun _ => fun
  | [d1, d2] => { results := [.lit (.bool false)], args := [d1, d2] }
  | _ => none }
def GraceFewWrongFalsely : Prop := graceFewRow.holds Try.pinned (OpenSpec.ofChange graceFewWrong)

/- THE SECOND FORM. 'bulk': how many values and letters a reading holds, each counted each time it is reached (what is shared counts as often as it is met; a slice's spare places count too). A statement '..UptoSaid' is the law's where the arguments, and the package variables that the reading takes, are together of bulk at most 1048576: NARROWER than '..Said'. Prove '..Said' where nothing that the law and all that it calls make is longer than what came in: it says more and counts as full. Else prove '..UptoSaid'. A law counts once. -/
mutual
def uptoBulk {H : Type} : DataW H → Nat
  | .lit (.string bytes) => bytes.length + 1
  | .lit _ => 1
  | .nil => 1
  | .ptr d => uptoBulk d + 1
  | .slice elems spare => uptoBulkAll elems + uptoBulkAll spare + 1
  | .agg parts => uptoBulkAll parts + 1
  | .iface _ d => uptoBulk d + 1
  | .map entries => uptoBulkEntries entries + 1
  | .held _ => 1
def uptoBulkAll {H : Type} : List (DataW H) → Nat
  | [] => 0
  | d :: r => uptoBulk d + uptoBulkAll r
def uptoBulkEntries {H : Type} : List (Lit × DataW H) → Nat
  | [] => 0
  | x :: r => uptoBulkEntry x + uptoBulkEntries r
def uptoBulkEntry {H : Type} : Lit × DataW H → Nat
  | (.string bytes, d) => bytes.length + uptoBulk d + 1
  | (_, d) => uptoBulk d + 1
 end
def uptoSmall : (H : Type) → List (DataW H) → Bool := fun _ ds => decide (uptoBulkAll ds ≤ 1048576)
def OpenSpec.upto (s : _root_.Go.ChangeSpec) : _root_.Go.OpenSpec := { _root_.Go.OpenSpec.ofChange s with cond := some uptoSmall }

/-- 'sticklerlaw35.GracePlays', WHERE WHAT IT READS IS OF BULK AT MOST 1048576: true; the input reads as it did. -/
def gracePlaysUptoRow : OpenClaim := { program := "ytgledbjkjpngeaa", sum := "5f2694c96535e220f32d72591b40a0dd7af8bb619859c70afa805fd24e0c002a", func := "stickler/sticklerlaw35.GracePlays", spec := "gracePlays", apart := false, narrowed := true }
def GracePlaysUptoSaid : Prop := gracePlaysUptoRow.holds Try.pinned (OpenSpec.upto gracePlaysSpec)

/-- 'sticklerlaw35.GraceMore', WHERE WHAT IT READS IS OF BULK AT MOST 1048576: true; the input reads as it did. -/
def graceMoreUptoRow : OpenClaim := { program := "ytgledbjkjpngeaa", sum := "5f2694c96535e220f32d72591b40a0dd7af8bb619859c70afa805fd24e0c002a", func := "stickler/sticklerlaw35.GraceMore", spec := "graceMore", apart := false, narrowed := true }
def GraceMoreUptoSaid : Prop := graceMoreUptoRow.holds Try.pinned (OpenSpec.upto graceMoreSpec)

/-- 'sticklerlaw35.GraceFew', WHERE WHAT IT READS IS OF BULK AT MOST 1048576: true; the input reads as it did. -/
def graceFewUptoRow : OpenClaim := { program := "ytgledbjkjpngeaa", sum := "5f2694c96535e220f32d72591b40a0dd7af8bb619859c70afa805fd24e0c002a", func := "stickler/sticklerlaw35.GraceFew", spec := "graceFew", apart := false, narrowed := true }
def GraceFewUptoSaid : Prop := graceFewUptoRow.holds Try.pinned (OpenSpec.upto graceFewSpec)

end Rows
end Go.Proofs.Ytgledbjkjpngeaa
