/- The argument that is a slice of steps, opened. -/
import Derived.Test.YtoegcmklilmnfaaU
import Derived.Deep.Slices
import Derived.Deep.Fields
import Derived.ChangeSame
import Derived.ProofKit
import Derived.OpenShut
namespace Go.Proofs.Ytoegcmklilmnfaa
open Go.ChangeShapes Go.WideShapes Go.ChangeAt Go.RowKit Go.Deep

theorem cells37 : Try.prog.cellsOf 37 = 3 := by kernel_rfl
theorem cells3 : Try.prog.cellsOf 3 = 1 := by kernel_rfl
theorem cells4 : Try.prog.cellsOf 4 = 1 := by kernel_rfl

theorem open_steps {H : Type} {enc : TypeId × Value → H} {w : World} {base : Nat} {spare : Nat → Bool} {held : Bool} {A : Option Addr} {len cap : Nat} {d : DataW H} {p : List MemPlace}
    (h : DataW.Trod enc Try.prog w base spare held 35 (.slice A len cap) d p) : ∃ l : List (Int × Int × Bool), l.length = len ∧ len ≤ maxLen ∧ Steps w A l := by
  obtain ⟨fuel, hf⟩ := h
  rcases open_slice Try.underlying35 hf with h0 | ⟨a, len', cap', m, n, D, Pl, hcs, hb, hl, hm, hmm, hx, hi⟩
  · simp [Value.cells] at h0
    obtain ⟨⟨rfl, rfl, rfl⟩, _⟩ := h0
    exact ⟨[], rfl, Nat.zero_le _, fun i s k t h => by simp at h⟩
  · simp [Value.cells] at hcs
    obtain ⟨rfl, rfl, rfl⟩ := hcs
    have hlm : len ≤ m := by rw [hmm]; split <;> omega
    have hex : ∀ i, ∃ q : Int × Int × Bool, i < len → ∃ b o, some a = some (⟨b, o, none⟩ : Addr) ∧ w.cell? ⟨b, o + i * 3, none⟩ = some (.int .i64 q.1) ∧ w.cell? ⟨b, o + i * 3 + 1, none⟩ = some (.int .i64 q.2.1) ∧ w.cell? ⟨b, o + i * 3 + 2, none⟩ = some (.bool q.2.2) := by
      intro i
      by_cases hil : i < len
      · obtain ⟨cs', hc, ht'⟩ := hi i (by omega)
        rw [cells37] at hc
        obtain ⟨ys, n', hn', hy, hlen, hyl, hg⟩ := DataW.trod_struct Try.underlying37 ht'
        obtain ⟨_, hcl, hat⟩ := World.cells?_some hc
        obtain ⟨q0, q1, q2, rfl⟩ : ∃ q0 q1 q2, cs' = [q0, q1, q2] := by
          match cs', hcl with
          | [q0, q1, q2], _ => exact ⟨q0, q1, q2, rfl⟩
        have g0 := hg 0 _ rfl
        have g1 := hg 1 _ rfl
        have g2 := hg 2 _ rfl
        simp [cells3, cells4] at g0 g1 g2
        have hyl3 : ys.length = 3 := hyl
        rw [List.getElem?_eq_getElem (by omega)] at g0 g1 g2
        obtain ⟨x, e0, _, _⟩ := DataW.trod_int Try.underlying3 g0
        obtain ⟨y, e1, _, _⟩ := DataW.trod_int Try.underlying3 g1
        obtain ⟨t, e2, _⟩ := DataW.trod_bool Try.underlying4 g2
        simp at e0 e1 e2
        subst e0 e1 e2
        have t0 := hat 0 (by decide)
        have t1 := hat 1 (by decide)
        have t2 := hat 2 (by decide)
        obtain ⟨b, o, spot⟩ := a
        have hspot : spot = none := by
          obtain ⟨cs0, hc0, _⟩ := hi 0 (by omega)
          rw [cells37] at hc0
          obtain ⟨_, hcl0, hat0⟩ := World.cells?_some hc0
          have z := hat0 0 (by decide)
          rw [List.getElem?_eq_getElem (by omega)] at z
          simpa [Addr.add] using World.cell?_spot z
        subst hspot
        simp only [Addr.add_lit, Nat.add_zero, List.getElem?_cons_zero, List.getElem?_cons_succ] at t0 t1 t2
        exact ⟨(x, y, t), fun _ => ⟨b, o, rfl, t0, t1, t2⟩⟩
      · exact ⟨(0, 0, false), fun h => absurd h hil⟩
    obtain ⟨f, hf2⟩ := Classical.axiomOfChoice hex
    refine ⟨(List.range len).map f, by simp, by omega, fun i s k t h => ?_⟩
    have hil : i < len := by
      have := (List.getElem?_eq_some_iff.1 h).1
      simpa using this
    simp [hil] at h
    have := hf2 i hil
    rw [h] at this
    exact this

theorem moves_any (A : Option Addr) (n c : Nat) (l : List (Int × Int × Bool)) (w : World) (hl : l.length = n) (hm : n ≤ maxLen) (hs : Steps w A l) : Calls Try.prog 4 #[.slice A n c] w fun e w' => e = .returned (.bool true) ∧ Below w.heap.size w w' := by
  by_cases h : 60 < n
  · exact moves_far A n c w h hm
  · exact moves_near A n c l w (by omega) (hide hl) (hide hs)
end Go.Proofs.Ytoegcmklilmnfaa
