/- The last chunk of the call's own. -/
import Derived.Test.YtciddilphflhaaaM
namespace Go.Proofs.Ytciddilphflhaaa
open Go.RowKit

structure LastC (base : Nat) (w : World) (g q c : Nat) (hs0 : HL) (o1 : CL) (f : Int) (cc : List Int) (B : Option Addr) (p cb : Nat) : Prop where
  own : OwnC base w (some ⟨g, 0, none⟩) (q + 1) c (hs0 ++ [(f, .slice B p cb)]) (o1 ++ [(f, cc)])
  lp : cc.length = p
  lq : o1.length = q
  lh : hs0.length = q
theorem OwnC.toLast {base : Nat} {w : World} {A : Option Addr} {n c : Nat} {hs : HL} {o1 : CL} {f : Int} {cc : List Int} (h : OwnC base w A n c hs (o1 ++ [(f, cc)])) :
    ∃ g q hs0 B p cb, A = some ⟨g, 0, none⟩ ∧ n = q + 1 ∧ LastC base w g q c hs0 o1 f cc B p cb := by
  obtain ⟨hs0, B, cb, g, rfl, h1, rfl, rfl, _⟩ := h.last
  exact ⟨g, _, hs0, B, _, cb, rfl, rfl, h, rfl, rfl, h1⟩
section
variable {base : Nat} {w w1 w2 : World} {g q c : Nat} {hs0 : HL} {o1 : CL} {f : Int} {cc : List Int} {B : Option Addr} {p cb : Nat}
theorem LastC.facts (h : LastC base w g q c hs0 o1 f cc B p cb) : w.cell? ⟨g, q * 2, none⟩ = some (.int .i64 f) ∧ w.cell? ⟨g, q * 2 + 1, none⟩ = some (.slice B p cb) ∧ w.frozen? ⟨g, q * 2 + 1, none⟩ = false ∧ w.ownsRow base 5 1 (.slice B p cb) p (cc.map (Value.int .u8)) ∧ base ≤ g := by
  obtain ⟨ho, rfl, rfl, hh⟩ := h
  obtain ⟨hs1, B1, cb1, g1, e1, h1, h2, e2, c0, c1, fr, inn, hb⟩ := ho.last
  injection e2 with e2
  injection e2 with e2
  subst e2
  obtain ⟨e3, e4⟩ := List.append_inj' e1 rfl
  injection e4 with e4
  injection e4 with _ e4
  rw [e4]
  exact ⟨c0, c1, fr, inn, hb⟩
theorem LastC.kept (h : LastC base w g q c hs0 o1 f cc B p cb) (hb : Below w.heap.size w w1) : LastC base w1 g q c hs0 o1 f cc B p cb := ⟨h.own.kept hb, h.lp, h.lq, h.lh⟩
/-- The outer cells, behind an append to the inner row. -/
theorem LastC.outer (h : LastC base w g q c hs0 o1 f cc B p cb) (hk : Below w.heap.size w w1) (hg : w1.grownBy w2 (Value.slice B p cb).ownBlock) : w2.cell? ⟨g, q * 2 + 1, none⟩ = some (.slice B p cb) ∧ w2.frozen? ⟨g, q * 2 + 1, none⟩ = false := by
  obtain ⟨_, c1, fr, inn, _⟩ := (h.kept hk).facts
  have ho := (h.kept hk).own.own
  have hne := own_types ho inn (by decide)
  have hgl : g < w1.heap.size := World.block_lt_of_cell? _ _ c1
  have hb := hg.block g hgl (by
    rcases hne with h2 | h2
    · cases h2
    · exact h2)
  exact ⟨(World.cell?_of_block (a := ⟨g, q * 2 + 1, none⟩) hb).trans c1, (World.frozen?_of_block (a := ⟨g, q * 2 + 1, none⟩) hb).trans fr⟩
theorem LastC.more {g' c' m : Nat} {e : List Int} (h : LastC base w g q c hs0 o1 f cc B p cb) (hk : Below w.heap.size w w1) (hv : w2.ownsRow base 5 1 (.slice (some ⟨g', 0, none⟩) (p + m) c') (p + m) ((cc ++ e).map (Value.int .u8))) (hm : e.length = m)
    (hg : w1.grownBy w2 (Value.slice B p cb).ownBlock) (hat : (Value.slice B p cb).ownBlock = some g' ∨ g' = w1.heap.size) :
    ∃ hs, OwnC base (w2.setCell ⟨g, q * 2 + 1, none⟩ (.slice (some ⟨g', 0, none⟩) (p + m) c')) (some ⟨g, 0, none⟩) (q + 1) c hs (o1 ++ [(f, cc ++ e)]) := by
  obtain ⟨ho, rfl, rfl, hh⟩ := h
  exact ⟨_, ho.more hh hk hv (by rw [List.length_append, hm]) hg hat⟩
/-- The world behind it. -/
theorem more_below {w0 : World} {B0 g' : Nat} {u : Value} (hb : Below B0 w0 w1) (hg : w1.grownBy w2 (Value.slice B p cb).ownBlock) (inn : ∀ k, (Value.slice B p cb).ownBlock = some k → B0 ≤ k) (hg0 : B0 ≤ g') (j : Nat) (hB : B0 ≤ w1.heap.size) : Below B0 w0 (w2.setCell ⟨g', j, none⟩ u) :=
  (hb.grown hg hB inn).setCell hg0 _
end
/-- A new chunk, with no bytes yet. -/
theorem OwnC.bare {base : Nat} {w w1 w2 : World} {A A' : Option Addr} {n c c' : Nat} {hs : HL} {l : CL} {f : Int} (h : OwnC base w A n c hs l) (hk : Below w.heap.size w w1) (ho : w2.ownsRow base 33 2 (.slice A' (n + 1) c') (n + 1) (cellsC hs ++ [.int .i64 f, .slice none 0 0])) (hg : w1.grownBy w2 (Value.slice A n c).ownBlock) :
    ∃ hs', OwnC base w2 A' (n + 1) c' hs' (l ++ [(f, [])]) :=
  ⟨_, h.push hk (World.ownsRow_nil _ _ _ _) (fun g hg => by cases hg) ho hg⟩
end Go.Proofs.Ytciddilphflhaaa
