/-
  No cell of these rows narrows 'for every input' (looked for: loops, veiled, ifaces, maps, wideKeys, modest, calm, conditions, laid).
  DERIVED. THE GIVEN ROWS OF THIS SEAT. 4 by the template 'for every input the law returns true; each argument reads behind the call as it read before'; 0 by the template 'total and deterministic' (their statements: YtohkholbaidjlaaTotals.lean).
  GIVEN WITH THE SEED: the statements are not yours to turn. If you find one false, say at which input.
  Laid BY PROGRAM, IN A SANDBOX (cutbox-rows.mjs): the forced cells as the released guide's own fill.sh prints them over the translation b1b71079d8fe4d2d… (all of the seat's roots in one cut). By AI agents, Wed Nov 11 2026. No macro, syntax, notation, axiom, sorry.
-/
import Derived.Test.YtohkholbaidjlaaChecked
import GoSem.Claim
import GoSem.ClaimJoined
import GoSem.ClaimMapViews
import Derived.JoinedTies
import Derived.KernelRfl
namespace Go.Proofs.Ytohkholbaidjlaa
/- THE CELL 'sum', in the pinned program and in every row, IS THE sha256 OF THE DUMP (.gsa) THAT YtohkholbaidjlaaProg.lean LOADS. Nothing in Lean hashes anything: it is a label: what it is worth is what the hold of that sum in a sandbox is worth. -/
noncomputable def Try.pinned : Pinned := { name := "ytohkholbaidjlaa", sum := "b1b71079d8fe4d2d247bd94915ae0fad598b377a3c9f24192c349da8d8c0b4c7", checked := Try.checked }
namespace Rows
def none {H : Type} : Left H := { results := [], args := [] }

/-- 'sticklerlaw33.LifeAsks': WHATEVER THE INPUT: true; the input reads as it did. -/
def lifeAsksSpec : ChangeSpec := { name := "lifeAsks", fn := fun _ => fun
  | [d1, d2, d3] => { results := [.lit (.bool true)], args := [d1, d2, d3] }
  | _ => none }
def lifeAsksRow : OpenClaim := { program := "ytohkholbaidjlaa", sum := "b1b71079d8fe4d2d247bd94915ae0fad598b377a3c9f24192c349da8d8c0b4c7", func := "stickler/sticklerlaw33.LifeAsks", spec := "lifeAsks", apart := false }
def LifeAsksSaid : Prop := lifeAsksRow.holds Try.pinned (OpenSpec.ofChange lifeAsksSpec)

/-- ITS FALSE NEIGHBOUR: 'it returns false'. Refute it at one input. -/
def lifeAsksWrong : ChangeSpec := { name := "lifeAsks", fn := fun _ => fun
  | [d1, d2, d3] => { results := [.lit (.bool false)], args := [d1, d2, d3] }
  | _ => none }
def LifeAsksWrongFalsely : Prop := lifeAsksRow.holds Try.pinned (OpenSpec.ofChange lifeAsksWrong)

/-- 'sticklerlaw33.LifeKnows': WHATEVER THE INPUT: true; the input reads as it did. -/
def lifeKnowsSpec : ChangeSpec := { name := "lifeKnows", fn := fun _ => fun
  | [d1, d2, d3] => { results := [.lit (.bool true)], args := [d1, d2, d3] }
  | _ => none }
def lifeKnowsRow : OpenClaim := { program := "ytohkholbaidjlaa", sum := "b1b71079d8fe4d2d247bd94915ae0fad598b377a3c9f24192c349da8d8c0b4c7", func := "stickler/sticklerlaw33.LifeKnows", spec := "lifeKnows", apart := false }
def LifeKnowsSaid : Prop := lifeKnowsRow.holds Try.pinned (OpenSpec.ofChange lifeKnowsSpec)

/-- ITS FALSE NEIGHBOUR: 'it returns false'. Refute it at one input. -/
def lifeKnowsWrong : ChangeSpec := { name := "lifeKnows", fn := fun _ => fun
  | [d1, d2, d3] => { results := [.lit (.bool false)], args := [d1, d2, d3] }
  | _ => none }
def LifeKnowsWrongFalsely : Prop := lifeKnowsRow.holds Try.pinned (OpenSpec.ofChange lifeKnowsWrong)

/-- 'sticklerlaw33.LifeGoes': WHATEVER THE INPUT: true; the input reads as it did. -/
def lifeGoesSpec : ChangeSpec := { name := "lifeGoes", fn := fun _ => fun
  | [d1, d2] => { results := [.lit (.bool true)], args := [d1, d2] }
  | _ => none }
def lifeGoesRow : OpenClaim := { program := "ytohkholbaidjlaa", sum := "b1b71079d8fe4d2d247bd94915ae0fad598b377a3c9f24192c349da8d8c0b4c7", func := "stickler/sticklerlaw33.LifeGoes", spec := "lifeGoes", apart := false }
def LifeGoesSaid : Prop := lifeGoesRow.holds Try.pinned (OpenSpec.ofChange lifeGoesSpec)

/-- ITS FALSE NEIGHBOUR: 'it returns false'. Refute it at one input. -/
def lifeGoesWrong : ChangeSpec := { name := "lifeGoes", fn := fun _ => fun
  | [d1, d2] => { results := [.lit (.bool false)], args := [d1, d2] }
  | _ => none }
def LifeGoesWrongFalsely : Prop := lifeGoesRow.holds Try.pinned (OpenSpec.ofChange lifeGoesWrong)

/-- 'sticklerlaw33.LifeFalls': WHATEVER THE INPUT: true; the input reads as it did. -/
def lifeFallsSpec : ChangeSpec := { name := "lifeFalls", fn := fun _ => fun
  | [d1, d2] => { results := [.lit (.bool true)], args := [d1, d2] }
  | _ => none }
def lifeFallsRow : OpenClaim := { program := "ytohkholbaidjlaa", sum := "b1b71079d8fe4d2d247bd94915ae0fad598b377a3c9f24192c349da8d8c0b4c7", func := "stickler/sticklerlaw33.LifeFalls", spec := "lifeFalls", apart := false }
def LifeFallsSaid : Prop := lifeFallsRow.holds Try.pinned (OpenSpec.ofChange lifeFallsSpec)

/-- ITS FALSE NEIGHBOUR: 'it returns false'. Refute it at one input. -/
def lifeFallsWrong : ChangeSpec := { name := "lifeFalls", fn := fun _ => fun
  | [d1, d2] => { results := [.lit (.bool false)], args := [d1, d2] }
  | _ => none }
def LifeFallsWrongFalsely : Prop := lifeFallsRow.holds Try.pinned (OpenSpec.ofChange lifeFallsWrong)

/- THE SECOND FORM. 'bulk': how many values and letters a reading holds, each counted each time it is reached (what is shared counts as often as it is met; a slice's spare places count too). A statement '..UptoSaid' is the law's where the arguments, and the package variables that the reading takes, are together of bulk at most 1048576: NARROWER than '..Said'. Prove '..Said' where nothing that the law and all that it calls make is longer than what came in: it says more and counts as full. Else prove '..UptoSaid'. A law counts once. -/
mutual
def uptoBulk {H : Type} : DataW H → Nat
  | .lit (.string bytes) => bytes.length + 1
  | .lit _ => 1
  | .nil => 1
  | .ptr d => uptoBulk d + 1
  | .slice elems spare => uptoBulkAll elems + uptoBulkAll spare + 1
  | .agg parts => uptoBulkAll parts + 1
  | .iface _ d => uptoBulk d + 1
  | .map entries => uptoBulkEntries entries + 1
  | .held _ => 1
def uptoBulkAll {H : Type} : List (DataW H) → Nat
  | [] => 0
  | d :: r => uptoBulk d + uptoBulkAll r
def uptoBulkEntries {H : Type} : List (Lit × DataW H) → Nat
  | [] => 0
  | x :: r => uptoBulkEntry x + uptoBulkEntries r
def uptoBulkEntry {H : Type} : Lit × DataW H → Nat
  | (.string bytes, d) => bytes.length + uptoBulk d + 1
  | (_, d) => uptoBulk d + 1
 end
def uptoSmall : (H : Type) → List (DataW H) → Bool := fun _ ds => decide (uptoBulkAll ds ≤ 1048576)
def OpenSpec.upto (s : _root_.Go.ChangeSpec) : _root_.Go.OpenSpec := { _root_.Go.OpenSpec.ofChange s with cond := some uptoSmall }

/-- 'sticklerlaw33.LifeAsks', WHERE WHAT IT READS IS OF BULK AT MOST 1048576: true; the input reads as it did. -/
def lifeAsksUptoRow : OpenClaim := { program := "ytohkholbaidjlaa", sum := "b1b71079d8fe4d2d247bd94915ae0fad598b377a3c9f24192c349da8d8c0b4c7", func := "stickler/sticklerlaw33.LifeAsks", spec := "lifeAsks", apart := false, narrowed := true }
def LifeAsksUptoSaid : Prop := lifeAsksUptoRow.holds Try.pinned (OpenSpec.upto lifeAsksSpec)

/-- 'sticklerlaw33.LifeKnows', WHERE WHAT IT READS IS OF BULK AT MOST 1048576: true; the input reads as it did. -/
def lifeKnowsUptoRow : OpenClaim := { program := "ytohkholbaidjlaa", sum := "b1b71079d8fe4d2d247bd94915ae0fad598b377a3c9f24192c349da8d8c0b4c7", func := "stickler/sticklerlaw33.LifeKnows", spec := "lifeKnows", apart := false, narrowed := true }
def LifeKnowsUptoSaid : Prop := lifeKnowsUptoRow.holds Try.pinned (OpenSpec.upto lifeKnowsSpec)

/-- 'sticklerlaw33.LifeGoes', WHERE WHAT IT READS IS OF BULK AT MOST 1048576: true; the input reads as it did. -/
def lifeGoesUptoRow : OpenClaim := { program := "ytohkholbaidjlaa", sum := "b1b71079d8fe4d2d247bd94915ae0fad598b377a3c9f24192c349da8d8c0b4c7", func := "stickler/sticklerlaw33.LifeGoes", spec := "lifeGoes", apart := false, narrowed := true }
def LifeGoesUptoSaid : Prop := lifeGoesUptoRow.holds Try.pinned (OpenSpec.upto lifeGoesSpec)

/-- 'sticklerlaw33.LifeFalls', WHERE WHAT IT READS IS OF BULK AT MOST 1048576: true; the input reads as it did. -/
def lifeFallsUptoRow : OpenClaim := { program := "ytohkholbaidjlaa", sum := "b1b71079d8fe4d2d247bd94915ae0fad598b377a3c9f24192c349da8d8c0b4c7", func := "stickler/sticklerlaw33.LifeFalls", spec := "lifeFalls", apart := false, narrowed := true }
def LifeFallsUptoSaid : Prop := lifeFallsUptoRow.holds Try.pinned (OpenSpec.upto lifeFallsSpec)

end Rows
end Go.Proofs.Ytohkholbaidjlaa
