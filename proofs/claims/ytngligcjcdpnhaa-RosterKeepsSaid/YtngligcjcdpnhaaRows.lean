/-
  No cell of these rows narrows 'for every input' (looked for: loops, veiled, ifaces, maps, wideKeys, modest, calm, conditions, laid).
  DERIVED. THE GIVEN ROWS OF THIS SEAT. 3 by the template 'for every input the law returns true; each argument reads behind the call as it read before'; 0 by the template 'total and deterministic' (their statements: YtngligcjcdpnhaaTotals.lean).
  GIVEN WITH THE SEED: the statements are not yours to turn. If you find one false, say at which input.
  Laid BY PROGRAM, IN A SANDBOX (cutbox-rows.mjs): the forced cells as the released guide's own fill.sh prints them over the translation 1eb0e210b3db3d11… (all of the seat's roots in one cut). By AI agents, Wed Nov 11 2026. No macro, syntax, notation, axiom, sorry.
-/
import Derived.Test.YtngligcjcdpnhaaChecked
import GoSem.Claim
import GoSem.ClaimJoined
import GoSem.ClaimMapViews
import Derived.JoinedTies
import Derived.KernelRfl
namespace Go.Proofs.Ytngligcjcdpnhaa
/- THE CELL 'sum', in the pinned program and in every row, IS THE sha256 OF THE DUMP (.gsa) THAT YtngligcjcdpnhaaProg.lean LOADS. Nothing in Lean hashes anything: it is a label: what it is worth is what the hold of that sum in a sandbox is worth. -/
noncomputable def Try.pinned : Pinned := { name := "ytngligcjcdpnhaa", sum := "1eb0e210b3db3d11d5e35ca5bfb82c0e1861d087ce31a546563694d429691778", checked := Try.checked }
namespace Rows
def none {H : Type} : Left H := { results := [], args := [] }

/-- 'sticklerlaw34.RosterPlays': WHATEVER THE INPUT: true; the input reads as it did. -/
def rosterPlaysSpec : ChangeSpec := { name := "rosterPlays", fn := fun _ => fun
  | [d1, d2, d3] => { results := [.lit (.bool true)], args := [d1, d2, d3] }
  | _ => none }
def rosterPlaysRow : OpenClaim := { program := "ytngligcjcdpnhaa", sum := "1eb0e210b3db3d11d5e35ca5bfb82c0e1861d087ce31a546563694d429691778", func := "stickler/sticklerlaw34.RosterPlays", spec := "rosterPlays", apart := false }
def RosterPlaysSaid : Prop := rosterPlaysRow.holds Try.pinned (OpenSpec.ofChange rosterPlaysSpec)

/-- ITS FALSE NEIGHBOUR: 'it returns false'. Refute it at one input. -/
def rosterPlaysWrong : ChangeSpec := { name := "rosterPlays", fn := fun _ => fun
  | [d1, d2, d3] => { results := [.lit (.bool false)], args := [d1, d2, d3] }
  | _ => none }
def RosterPlaysWrongFalsely : Prop := rosterPlaysRow.holds Try.pinned (OpenSpec.ofChange rosterPlaysWrong)

/-- 'sticklerlaw34.RosterNobody': WHATEVER THE INPUT: true; the input reads as it did. -/
def rosterNobodySpec : ChangeSpec := { name := "rosterNobody", fn := fun _ => fun
  | [d1, d2] => { results := [.lit (.bool true)], args := [d1, d2] }
  | _ => none }
def rosterNobodyRow : OpenClaim := { program := "ytngligcjcdpnhaa", sum := "1eb0e210b3db3d11d5e35ca5bfb82c0e1861d087ce31a546563694d429691778", func := "stickler/sticklerlaw34.RosterNobody", spec := "rosterNobody", apart := false }
def RosterNobodySaid : Prop := rosterNobodyRow.holds Try.pinned (OpenSpec.ofChange rosterNobodySpec)

/-- ITS FALSE NEIGHBOUR: 'it returns false'. Refute it at one input. -/
def rosterNobodyWrong : ChangeSpec := { name := "rosterNobody", fn := fun _ => fun
  | [d1, d2] => { results := [.lit (.bool false)], args := [d1, d2] }
  | _ => none }
def RosterNobodyWrongFalsely : Prop := rosterNobodyRow.holds Try.pinned (OpenSpec.ofChange rosterNobodyWrong)

/-- 'sticklerlaw34.RosterKeeps': WHATEVER THE INPUT: true; the input reads as it did. -/
def rosterKeepsSpec : ChangeSpec := { name := "rosterKeeps", fn := fun _ => fun
  | [d1, d2, d3] => { results := [.lit (.bool true)], args := [d1, d2, d3] }
  | _ => none }
def rosterKeepsRow : OpenClaim := { program := "ytngligcjcdpnhaa", sum := "1eb0e210b3db3d11d5e35ca5bfb82c0e1861d087ce31a546563694d429691778", func := "stickler/sticklerlaw34.RosterKeeps", spec := "rosterKeeps", apart := false }
def RosterKeepsSaid : Prop := rosterKeepsRow.holds Try.pinned (OpenSpec.ofChange rosterKeepsSpec)

/-- ITS FALSE NEIGHBOUR: 'it returns false'. Refute it at one input. -/
def rosterKeepsWrong : ChangeSpec := { name := "rosterKeeps", fn := fun _ => fun
  | [d1, d2, d3] => { results := [.lit (.bool false)], args := [d1, d2, d3] }
  | _ => none }
def RosterKeepsWrongFalsely : Prop := rosterKeepsRow.holds Try.pinned (OpenSpec.ofChange rosterKeepsWrong)

/- THE SECOND FORM. 'bulk': how many values and letters a reading holds, each counted each time it is reached (what is shared counts as often as it is met; a slice's spare places count too). A statement '..UptoSaid' is the law's where the arguments, and the package variables that the reading takes, are together of bulk at most 1048576: NARROWER than '..Said'. Prove '..Said' where nothing that the law and all that it calls make is longer than what came in: it says more and counts as full. Else prove '..UptoSaid'. A law counts once. -/
mutual
def uptoBulk {H : Type} : DataW H → Nat
  | .lit (.string bytes) => bytes.length + 1
  | .lit _ => 1
  | .nil => 1
  | .ptr d => uptoBulk d + 1
  | .slice elems spare => uptoBulkAll elems + uptoBulkAll spare + 1
  | .agg parts => uptoBulkAll parts + 1
  | .iface _ d => uptoBulk d + 1
  | .map entries => uptoBulkEntries entries + 1
  | .held _ => 1
def uptoBulkAll {H : Type} : List (DataW H) → Nat
  | [] => 0
  | d :: r => uptoBulk d + uptoBulkAll r
def uptoBulkEntries {H : Type} : List (Lit × DataW H) → Nat
  | [] => 0
  | x :: r => uptoBulkEntry x + uptoBulkEntries r
def uptoBulkEntry {H : Type} : Lit × DataW H → Nat
  | (.string bytes, d) => bytes.length + uptoBulk d + 1
  | (_, d) => uptoBulk d + 1
 end
def uptoSmall : (H : Type) → List (DataW H) → Bool := fun _ ds => decide (uptoBulkAll ds ≤ 1048576)
def OpenSpec.upto (s : _root_.Go.ChangeSpec) : _root_.Go.OpenSpec := { _root_.Go.OpenSpec.ofChange s with cond := some uptoSmall }

/-- 'sticklerlaw34.RosterPlays', WHERE WHAT IT READS IS OF BULK AT MOST 1048576: true; the input reads as it did. -/
def rosterPlaysUptoRow : OpenClaim := { program := "ytngligcjcdpnhaa", sum := "1eb0e210b3db3d11d5e35ca5bfb82c0e1861d087ce31a546563694d429691778", func := "stickler/sticklerlaw34.RosterPlays", spec := "rosterPlays", apart := false, narrowed := true }
def RosterPlaysUptoSaid : Prop := rosterPlaysUptoRow.holds Try.pinned (OpenSpec.upto rosterPlaysSpec)

/-- 'sticklerlaw34.RosterNobody', WHERE WHAT IT READS IS OF BULK AT MOST 1048576: true; the input reads as it did. -/
def rosterNobodyUptoRow : OpenClaim := { program := "ytngligcjcdpnhaa", sum := "1eb0e210b3db3d11d5e35ca5bfb82c0e1861d087ce31a546563694d429691778", func := "stickler/sticklerlaw34.RosterNobody", spec := "rosterNobody", apart := false, narrowed := true }
def RosterNobodyUptoSaid : Prop := rosterNobodyUptoRow.holds Try.pinned (OpenSpec.upto rosterNobodySpec)

/-- 'sticklerlaw34.RosterKeeps', WHERE WHAT IT READS IS OF BULK AT MOST 1048576: true; the input reads as it did. -/
def rosterKeepsUptoRow : OpenClaim := { program := "ytngligcjcdpnhaa", sum := "1eb0e210b3db3d11d5e35ca5bfb82c0e1861d087ce31a546563694d429691778", func := "stickler/sticklerlaw34.RosterKeeps", spec := "rosterKeeps", apart := false, narrowed := true }
def RosterKeepsUptoSaid : Prop := rosterKeepsUptoRow.holds Try.pinned (OpenSpec.upto rosterKeepsSpec)

end Rows
end Go.Proofs.Ytngligcjcdpnhaa
