/-
  No cell of these rows narrows 'for every input' (looked for: loops, veiled, ifaces, maps, wideKeys, modest, calm, conditions, laid).
  DERIVED. THE GIVEN ROWS OF THIS SEAT. 2 by the template 'for every input the law returns true; each argument reads behind the call as it read before'; 0 by the template 'total and deterministic' (their statements: YtngcjgnbehbdfaaTotals.lean).
  GIVEN WITH THE SEED: the statements are not yours to turn. If you find one false, say at which input.
  Laid BY PROGRAM, IN A SANDBOX (cutbox-rows.mjs): the forced cells as the released guide's own fill.sh prints them over the translation b9e0d8193fc0cce0… (all of the seat's roots in one cut). By AI agents, Wed Nov 11 2026. No macro, syntax, notation, axiom, sorry.
-/
import Derived.Test.YtngcjgnbehbdfaaChecked
import GoSem.Claim
import GoSem.ClaimJoined
import GoSem.ClaimMapViews
import Derived.JoinedTies
import Derived.KernelRfl
namespace Go.Proofs.Ytngcjgnbehbdfaa
/- THE CELL 'sum', in the pinned program and in every row, IS THE sha256 OF THE DUMP (.gsa) THAT YtngcjgnbehbdfaaProg.lean LOADS. Nothing in Lean hashes anything: it is a label: what it is worth is what the hold of that sum in a sandbox is worth. -/
noncomputable def Try.pinned : Pinned := { name := "ytngcjgnbehbdfaa", sum := "b9e0d8193fc0cce0b0d8c46b321685dbbf00d0180417927387888536aac34c5f", checked := Try.checked }
namespace Rows
def none {H : Type} : Left H := { results := [], args := [] }

/-- 'sticklerlaw11.PrefaceLike': WHATEVER THE INPUT: true; the input reads as it did. -/
def prefaceLikeSpec : ChangeSpec := { name := "prefaceLike", fn := fun _ => fun
  | [d] => { results := [.lit (.bool true)], args := [d] }
  | _ => none }
def prefaceLikeRow : OpenClaim := { program := "ytngcjgnbehbdfaa", sum := "b9e0d8193fc0cce0b0d8c46b321685dbbf00d0180417927387888536aac34c5f", func := "stickler/sticklerlaw11.PrefaceLike", spec := "prefaceLike", apart := false }
def PrefaceLikeSaid : Prop := prefaceLikeRow.holds Try.pinned (OpenSpec.ofChange prefaceLikeSpec)

/-- ITS FALSE NEIGHBOUR: 'it returns false'. Refute it at one input. -/
def prefaceLikeWrong : ChangeSpec := { name := "prefaceLike", fn := fun _ => fun
  | [d] => { results := [.lit (.bool false)], args := [d] }
  | _ => none }
def PrefaceLikeWrongFalsely : Prop := prefaceLikeRow.holds Try.pinned (OpenSpec.ofChange prefaceLikeWrong)

/-- 'sticklerlaw11.PrefaceOne': WHATEVER THE INPUT: true; the input reads as it did. -/
def prefaceOneSpec : ChangeSpec := { name := "prefaceOne", fn := fun _ => fun
  | [d1, d2] => { results := [.lit (.bool true)], args := [d1, d2] }
  | _ => none }
def prefaceOneRow : OpenClaim := { program := "ytngcjgnbehbdfaa", sum := "b9e0d8193fc0cce0b0d8c46b321685dbbf00d0180417927387888536aac34c5f", func := "stickler/sticklerlaw11.PrefaceOne", spec := "prefaceOne", apart := false }
def PrefaceOneSaid : Prop := prefaceOneRow.holds Try.pinned (OpenSpec.ofChange prefaceOneSpec)

/-- ITS FALSE NEIGHBOUR: 'it returns false'. Refute it at one input. -/
def prefaceOneWrong : ChangeSpec := { name := "prefaceOne", fn := fun _ => fun
  | [d1, d2] => { results := [.lit (.bool false)], args := [d1, d2] }
  | _ => none }
def PrefaceOneWrongFalsely : Prop := prefaceOneRow.holds Try.pinned (OpenSpec.ofChange prefaceOneWrong)

/- THE SECOND FORM. 'bulk': how many values and letters a reading holds, each counted each time it is reached (what is shared counts as often as it is met; a slice's spare places count too). A statement '..UptoSaid' is the law's where the arguments, and the package variables that the reading takes, are together of bulk at most 1048576: NARROWER than '..Said'. Prove '..Said' where nothing that the law and all that it calls make is longer than what came in: it says more and counts as full. Else prove '..UptoSaid'. A law counts once. -/
mutual
def uptoBulk {H : Type} : DataW H → Nat
  | .lit (.string bytes) => bytes.length + 1
  | .lit _ => 1
  | .nil => 1
  | .ptr d => uptoBulk d + 1
  | .slice elems spare => uptoBulkAll elems + uptoBulkAll spare + 1
  | .agg parts => uptoBulkAll parts + 1
  | .iface _ d => uptoBulk d + 1
  | .map entries => uptoBulkEntries entries + 1
  | .held _ => 1
def uptoBulkAll {H : Type} : List (DataW H) → Nat
  | [] => 0
  | d :: r => uptoBulk d + uptoBulkAll r
def uptoBulkEntries {H : Type} : List (Lit × DataW H) → Nat
  | [] => 0
  | x :: r => uptoBulkEntry x + uptoBulkEntries r
def uptoBulkEntry {H : Type} : Lit × DataW H → Nat
  | (.string bytes, d) => bytes.length + uptoBulk d + 1
  | (_, d) => uptoBulk d + 1
 end
def uptoSmall : (H : Type) → List (DataW H) → Bool := fun _ ds => decide (uptoBulkAll ds ≤ 1048576)
def OpenSpec.upto (s : _root_.Go.ChangeSpec) : _root_.Go.OpenSpec := { _root_.Go.OpenSpec.ofChange s with cond := some uptoSmall }

/-- 'sticklerlaw11.PrefaceLike', WHERE WHAT IT READS IS OF BULK AT MOST 1048576: true; the input reads as it did. -/
def prefaceLikeUptoRow : OpenClaim := { program := "ytngcjgnbehbdfaa", sum := "b9e0d8193fc0cce0b0d8c46b321685dbbf00d0180417927387888536aac34c5f", func := "stickler/sticklerlaw11.PrefaceLike", spec := "prefaceLike", apart := false, narrowed := true }
def PrefaceLikeUptoSaid : Prop := prefaceLikeUptoRow.holds Try.pinned (OpenSpec.upto prefaceLikeSpec)

/-- 'sticklerlaw11.PrefaceOne', WHERE WHAT IT READS IS OF BULK AT MOST 1048576: true; the input reads as it did. -/
def prefaceOneUptoRow : OpenClaim := { program := "ytngcjgnbehbdfaa", sum := "b9e0d8193fc0cce0b0d8c46b321685dbbf00d0180417927387888536aac34c5f", func := "stickler/sticklerlaw11.PrefaceOne", spec := "prefaceOne", apart := false, narrowed := true }
def PrefaceOneUptoSaid : Prop := prefaceOneUptoRow.holds Try.pinned (OpenSpec.upto prefaceOneSpec)

end Rows
end Go.Proofs.Ytngcjgnbehbdfaa
