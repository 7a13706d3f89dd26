/- A parameter that is a state, opened. -/
import Derived.Test.YtohkholbaidjlaaRows
import Derived.Test.YtohkholbaidjlaaK0
import Derived.WalkKit
import Derived.ProofKit
import Derived.OpenShut
namespace Go.Proofs.Ytohkholbaidjlaa
open Go.ChangeShapes Go.WideShapes Go.ChangeAt Go.RowKit

theorem cells24 : Try.prog.cellsOf 24 = 5 := by kernel_rfl
theorem cells22 : Try.prog.cellsOf 22 = 2 := by kernel_rfl
theorem cells3 : Try.prog.cellsOf 3 = 1 := by kernel_rfl
theorem cells4 : Try.prog.cellsOf 4 = 1 := by kernel_rfl

theorem list5 {l : List Value} (h : l.length = 5) : ∃ a b c d e, l = [a, b, c, d, e] := by
  match l, h with
  | [a, b, c, d, e], _ => exact ⟨a, b, c, d, e, rfl⟩

theorem open_state {H : Type} {enc : TypeId × Value → H} {w : World} {r : Reach} {b0 base : Nat} {spare : Nat → Bool} {held : Bool} {v : Value} {x : DataW H} {p : List MemPlace}
    (hv : Value.okWide Try.prog w r b0 24 v) (h : DataW.Trod enc Try.prog w base spare held 24 v x p) :
    ∃ (k o : Int) (a b : Bool) (y : Int), v = .agg #[.int .i64 k, .int .i64 o, .bool a, .bool b, .int .i64 y] := by
  obtain ⟨cs, rfl, hsz⟩ := okWide_struct Try.underlying24 hv
  obtain ⟨l⟩ := cs
  obtain ⟨c0, c1, c2, c3, c4, rfl⟩ := list5 (hsz.trans cells24)
  obtain ⟨fuel, hf⟩ := h
  obtain ⟨xs, n, _, _, _, hlen, hg⟩ := DataW.trod_struct Try.underlying24 hf
  have g0 := hg 0 _ rfl
  have g1 := hg 1 _ rfl
  have g2 := hg 2 _ rfl
  have g3 := hg 3 _ rfl
  simp [Value.cells, cells3, cells22] at g0 g1 g2 g3
  have hl : xs.length = 4 := hlen
  rw [List.getElem?_eq_getElem (by omega)] at g0 g1 g2 g3
  obtain ⟨k, e0, _, _⟩ := DataW.trod_int Try.underlying3 g0
  obtain ⟨o, e1, _, _⟩ := DataW.trod_int Try.underlying3 g1
  obtain ⟨y, e4, _, _⟩ := DataW.trod_int Try.underlying3 g3
  obtain ⟨ys, m, _, _, _, hl2, hg2⟩ := DataW.trod_array Try.underlying22 g2
  have a0 := hg2 0 (by omega)
  have a1 := hg2 1 (by omega)
  simp [cells4] at a0 a1
  rw [List.getElem?_eq_getElem (by omega)] at a0 a1
  obtain ⟨a, e2, _⟩ := DataW.trod_bool Try.underlying4 a0
  obtain ⟨b, e3, _⟩ := DataW.trod_bool Try.underlying4 a1
  simp at e0 e1 e2 e3 e4
  subst e0 e1 e2 e3 e4
  exact ⟨k, o, a, b, y, rfl⟩
end Go.Proofs.Ytohkholbaidjlaa
