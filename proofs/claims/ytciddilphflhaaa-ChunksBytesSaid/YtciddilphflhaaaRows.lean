/-
  No cell of these rows narrows 'for every input' (looked for: loops, veiled, ifaces, maps, wideKeys, modest, calm, conditions, laid).
  DERIVED. THE GIVEN ROWS OF THIS SEAT. 3 by the template 'for every input the law returns true; each argument reads behind the call as it read before'; 0 by the template 'total and deterministic' (their statements: YtciddilphflhaaaTotals.lean).
  GIVEN WITH THE SEED: the statements are not yours to turn. If you find one false, say at which input.
  Laid BY PROGRAM, IN A SANDBOX (cutbox-rows.mjs): the forced cells as the released guide's own fill.sh prints them over the translation accc0f45b0537407… (all of the seat's roots in one cut). By AI agents, Wed Nov 11 2026. No macro, syntax, notation, axiom, sorry.
-/
import Derived.Test.YtciddilphflhaaaChecked
import GoSem.Claim
import GoSem.ClaimJoined
import GoSem.ClaimMapViews
import Derived.JoinedTies
import Derived.KernelRfl
namespace Go.Proofs.Ytciddilphflhaaa
/- THE CELL 'sum', in the pinned program and in every row, IS THE sha256 OF THE DUMP (.gsa) THAT YtciddilphflhaaaProg.lean LOADS. Nothing in Lean hashes anything: it is a label: what it is worth is what the hold of that sum in a sandbox is worth. -/
noncomputable def Try.pinned : Pinned := { name := "ytciddilphflhaaa", sum := "accc0f45b05374073de72fc1737fc6dfd22d011ad6ebf3b40a984189f7c39803", checked := Try.checked }
namespace Rows
def none {H : Type} : Left H := { results := [], args := [] }

/-- 'sticklerlaw10.ChunksJoins': WHATEVER THE INPUT: true; the input reads as it did. -/
def chunksJoinsSpec : ChangeSpec := { name := "chunksJoins", fn := fun _ => fun
  | [d] => { results := [.lit (.bool true)], args := [d] }
  | _ => none }
def chunksJoinsRow : OpenClaim := { program := "ytciddilphflhaaa", sum := "accc0f45b05374073de72fc1737fc6dfd22d011ad6ebf3b40a984189f7c39803", func := "stickler/sticklerlaw10.ChunksJoins", spec := "chunksJoins", apart := false }
def ChunksJoinsSaid : Prop := chunksJoinsRow.holds Try.pinned (OpenSpec.ofChange chunksJoinsSpec)

/-- ITS FALSE NEIGHBOUR: 'it returns false'. Refute it at one input. -/
def chunksJoinsWrong : ChangeSpec := { name := "chunksJoins", fn := fun _ => fun
  | [d] => { results := [.lit (.bool false)], args := [d] }
  | _ => none }
def ChunksJoinsWrongFalsely : Prop := chunksJoinsRow.holds Try.pinned (OpenSpec.ofChange chunksJoinsWrong)

/-- 'sticklerlaw10.ChunksCuts': WHATEVER THE INPUT: true; the input reads as it did. -/
def chunksCutsSpec : ChangeSpec := { name := "chunksCuts", fn := fun _ => fun
  | [d1, d2] => { results := [.lit (.bool true)], args := [d1, d2] }
  | _ => none }
def chunksCutsRow : OpenClaim := { program := "ytciddilphflhaaa", sum := "accc0f45b05374073de72fc1737fc6dfd22d011ad6ebf3b40a984189f7c39803", func := "stickler/sticklerlaw10.ChunksCuts", spec := "chunksCuts", apart := false }
def ChunksCutsSaid : Prop := chunksCutsRow.holds Try.pinned (OpenSpec.ofChange chunksCutsSpec)

/-- ITS FALSE NEIGHBOUR: 'it returns false'. Refute it at one input. -/
def chunksCutsWrong : ChangeSpec := { name := "chunksCuts", fn := fun _ => fun
  | [d1, d2] => { results := [.lit (.bool false)], args := [d1, d2] }
  | _ => none }
def ChunksCutsWrongFalsely : Prop := chunksCutsRow.holds Try.pinned (OpenSpec.ofChange chunksCutsWrong)

/-- 'sticklerlaw10.ChunksBytes': WHATEVER THE INPUT: true; the input reads as it did. -/
def chunksBytesSpec : ChangeSpec := { name := "chunksBytes", fn := fun _ => fun
  | [d1, d2] => { results := [.lit (.bool true)], args := [d1, d2] }
  | _ => none }
def chunksBytesRow : OpenClaim := { program := "ytciddilphflhaaa", sum := "accc0f45b05374073de72fc1737fc6dfd22d011ad6ebf3b40a984189f7c39803", func := "stickler/sticklerlaw10.ChunksBytes", spec := "chunksBytes", unfollowed := true, recurses := true, apart := false }
def ChunksBytesSaid : Prop := chunksBytesRow.holds Try.pinned (OpenSpec.ofChange chunksBytesSpec)

/-- ITS FALSE NEIGHBOUR: 'it returns false'. Refute it at one input. -/
def chunksBytesWrong : ChangeSpec := { name := "chunksBytes", fn := fun _ => fun
  | [d1, d2] => { results := [.lit (.bool false)], args := [d1, d2] }
  | _ => none }
def ChunksBytesWrongFalsely : Prop := chunksBytesRow.holds Try.pinned (OpenSpec.ofChange chunksBytesWrong)

/- THE SECOND FORM. 'bulk': how many values and letters a reading holds, each counted each time it is reached (what is shared counts as often as it is met; a slice's spare places count too). A statement '..UptoSaid' is the law's where the arguments, and the package variables that the reading takes, are together of bulk at most 1048576: NARROWER than '..Said'. Prove '..Said' where nothing that the law and all that it calls make is longer than what came in: it says more and counts as full. Else prove '..UptoSaid'. A law counts once. -/
mutual
def uptoBulk {H : Type} : DataW H → Nat
  | .lit (.string bytes) => bytes.length + 1
  | .lit _ => 1
  | .nil => 1
  | .ptr d => uptoBulk d + 1
  | .slice elems spare => uptoBulkAll elems + uptoBulkAll spare + 1
  | .agg parts => uptoBulkAll parts + 1
  | .iface _ d => uptoBulk d + 1
  | .map entries => uptoBulkEntries entries + 1
  | .held _ => 1
def uptoBulkAll {H : Type} : List (DataW H) → Nat
  | [] => 0
  | d :: r => uptoBulk d + uptoBulkAll r
def uptoBulkEntries {H : Type} : List (Lit × DataW H) → Nat
  | [] => 0
  | x :: r => uptoBulkEntry x + uptoBulkEntries r
def uptoBulkEntry {H : Type} : Lit × DataW H → Nat
  | (.string bytes, d) => bytes.length + uptoBulk d + 1
  | (_, d) => uptoBulk d + 1
 end
def uptoSmall : (H : Type) → List (DataW H) → Bool := fun _ ds => decide (uptoBulkAll ds ≤ 1048576)
def OpenSpec.upto (s : _root_.Go.ChangeSpec) : _root_.Go.OpenSpec := { _root_.Go.OpenSpec.ofChange s with cond := some uptoSmall }

/-- 'sticklerlaw10.ChunksJoins', WHERE WHAT IT READS IS OF BULK AT MOST 1048576: true; the input reads as it did. -/
def chunksJoinsUptoRow : OpenClaim := { program := "ytciddilphflhaaa", sum := "accc0f45b05374073de72fc1737fc6dfd22d011ad6ebf3b40a984189f7c39803", func := "stickler/sticklerlaw10.ChunksJoins", spec := "chunksJoins", apart := false, narrowed := true }
def ChunksJoinsUptoSaid : Prop := chunksJoinsUptoRow.holds Try.pinned (OpenSpec.upto chunksJoinsSpec)

/-- 'sticklerlaw10.ChunksCuts', WHERE WHAT IT READS IS OF BULK AT MOST 1048576: true; the input reads as it did. -/
def chunksCutsUptoRow : OpenClaim := { program := "ytciddilphflhaaa", sum := "accc0f45b05374073de72fc1737fc6dfd22d011ad6ebf3b40a984189f7c39803", func := "stickler/sticklerlaw10.ChunksCuts", spec := "chunksCuts", apart := false, narrowed := true }
def ChunksCutsUptoSaid : Prop := chunksCutsUptoRow.holds Try.pinned (OpenSpec.upto chunksCutsSpec)

/-- 'sticklerlaw10.ChunksBytes', WHERE WHAT IT READS IS OF BULK AT MOST 1048576: true; the input reads as it did. -/
def chunksBytesUptoRow : OpenClaim := { program := "ytciddilphflhaaa", sum := "accc0f45b05374073de72fc1737fc6dfd22d011ad6ebf3b40a984189f7c39803", func := "stickler/sticklerlaw10.ChunksBytes", spec := "chunksBytes", unfollowed := true, recurses := true, apart := false, narrowed := true }
def ChunksBytesUptoSaid : Prop := chunksBytesUptoRow.holds Try.pinned (OpenSpec.upto chunksBytesSpec)

end Rows
end Go.Proofs.Ytciddilphflhaaa
