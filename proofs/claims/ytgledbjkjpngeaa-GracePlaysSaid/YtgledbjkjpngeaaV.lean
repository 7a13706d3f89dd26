/- The argument that is a slice of deeds, opened; GraceMore for every argument. -/
import Derived.Test.YtgledbjkjpngeaaR
import Derived.Deep.Slices
import Derived.Deep.Fields
import Derived.ChangeSame
import Derived.ProofKit
import Derived.OpenShut
namespace Go.Proofs.Ytgledbjkjpngeaa
open Go.ChangeShapes Go.WideShapes Go.ChangeAt Go.RowKit Go.Deep

theorem cells33 : Try.prog.cellsOf 33 = 2 := by kernel_rfl
theorem cells3 : Try.prog.cellsOf 3 = 1 := by kernel_rfl
theorem cells4 : Try.prog.cellsOf 4 = 1 := by kernel_rfl

theorem open_deeds {H : Type} {enc : TypeId × Value → H} {w : World} {base : Nat} {spare : Nat → Bool} {held : Bool} {A : Option Addr} {len cap : Nat} {d : DataW H} {p : List MemPlace}
    (h : DataW.Trod enc Try.prog w base spare held 22 (.slice A len cap) d p) : ∃ l : List (Bool × Int), l.length = len ∧ len ≤ maxLen ∧ Deeds w A l := by
  obtain ⟨fuel, hf⟩ := h
  rcases open_slice Try.underlying22 hf with h0 | ⟨a, len', cap', m, n, D, Pl, hcs, hb, hl, hm, hmm, hx, hi⟩
  · simp [Value.cells] at h0
    obtain ⟨⟨rfl, rfl, rfl⟩, _⟩ := h0
    exact ⟨[], rfl, Nat.zero_le _, fun i k x h => by simp at h⟩
  · simp [Value.cells] at hcs
    obtain ⟨rfl, rfl, rfl⟩ := hcs
    have hlm : len ≤ m := by rw [hmm]; split <;> omega
    have hex : ∀ i, ∃ q : Bool × Int, i < len → (Lit.int .i64 q.2).wf = true ∧ ∃ b o, some a = some (⟨b, o, none⟩ : Addr) ∧ w.cell? ⟨b, o + i * 2, none⟩ = some (.bool q.1) ∧ w.cell? ⟨b, o + i * 2 + 1, none⟩ = some (.int .i64 q.2) := by
      intro i
      by_cases hil : i < len
      · obtain ⟨cs', hc, ht'⟩ := hi i (by omega)
        rw [cells33] at hc
        obtain ⟨ys, n', hn', hy, hlen, hyl, hg⟩ := DataW.trod_struct Try.underlying33 ht'
        obtain ⟨_, hcl, hat⟩ := World.cells?_some hc
        obtain ⟨q0, q1, rfl⟩ : ∃ q0 q1, cs' = [q0, q1] := by
          match cs', hcl with
          | [q0, q1], _ => exact ⟨q0, q1, rfl⟩
        have g0 := hg 0 _ rfl
        have g1 := hg 1 _ rfl
        simp [cells3, cells4] at g0 g1
        have hyl3 : ys.length = 2 := hyl
        rw [List.getElem?_eq_getElem (by omega)] at g0 g1
        obtain ⟨t, e0, _⟩ := DataW.trod_bool Try.underlying4 g0
        obtain ⟨x, e1, _, hwf⟩ := DataW.trod_int Try.underlying3 g1
        simp at e0 e1
        subst e0 e1
        have t0 := hat 0 (by decide)
        have t1 := hat 1 (by decide)
        obtain ⟨b, o, spot⟩ := a
        have hspot : spot = none := by
          obtain ⟨cs0, hc0, _⟩ := hi 0 (by omega)
          rw [cells33] at hc0
          obtain ⟨_, hcl0, hat0⟩ := World.cells?_some hc0
          have z := hat0 0 (by decide)
          rw [List.getElem?_eq_getElem (by omega)] at z
          simpa [Addr.add] using World.cell?_spot z
        subst hspot
        simp only [Addr.add_lit, Nat.add_zero, List.getElem?_cons_zero, List.getElem?_cons_succ] at t0 t1
        exact ⟨(t, x), fun _ => ⟨hwf, b, o, rfl, t0, t1⟩⟩
      · exact ⟨(false, 0), fun h => absurd h hil⟩
    obtain ⟨f, hf2⟩ := Classical.axiomOfChoice hex
    refine ⟨(List.range len).map f, by simp, by omega, fun i k x h => ?_⟩
    have hil : i < len := by
      have := (List.getElem?_eq_some_iff.1 h).1
      simpa using this
    simp [hil] at h
    have := hf2 i hil
    rw [h] at this
    exact this

theorem more_any (A : Option Addr) (n c : Nat) (u v : Int) (l : List (Bool × Int)) (w : World) (hu : 0 ≤ u ∧ u ≤ 255) (hv : 0 ≤ v ∧ v ≤ 255) (hl : l.length = n) (hm : n ≤ maxLen) (hs : Deeds w A l) : Calls Try.prog 4 #[.int .u8 u, .int .u8 v, .slice A n c] w fun e w' => e = .returned (.bool true) ∧ Below w.heap.size w w' := by
  by_cases h : 60 < n
  · exact more_far A n c u v w h hm
  · exact more_near A n c u v l w (by omega) hu hv (hide hl) (hide hs)
end Go.Proofs.Ytgledbjkjpngeaa
