/- A parameter that is a list of chunks, and one of integers, opened. -/
import Derived.Test.YtciddilphflhaaaV
import Derived.Deep.Slices
import Derived.Deep.Fields
import Derived.ChangeSame
import Derived.ProofKit
import Derived.OpenShut
namespace Go.Proofs.Ytciddilphflhaaa
open Go.ChangeShapes Go.WideShapes Go.ChangeAt Go.RowKit Go.Deep

theorem cells33 : Try.prog.cellsOf 33 = 2 := by kernel_rfl
theorem cells3 : Try.prog.cellsOf 3 = 1 := by kernel_rfl
theorem cells31 : Try.prog.cellsOf 31 = 1 := by kernel_rfl
theorem cells5 : Try.prog.cellsOf 5 = 1 := by kernel_rfl

theorem row_at {H : Type} {enc : TypeId × Value → H} {w : World} {base : Nat} {spare : Nat → Bool} {held : Bool} {t e : TypeId} {k : IntKind} {fuel : Nat} {v : Value} {x : DataW H × List MemPlace}
    (ht : Try.prog.underlying t = some (.slice e)) (he : Try.prog.underlying e = some (.int k)) (hc : Try.prog.cellsOf e = 1) (h : DataW.trod enc Try.prog w base spare held fuel t [v] = some x) :
    ∃ (B : Option Addr) (n c : Nat) (b : List Int), v = .slice B n c ∧ b.length = n ∧ n ≤ maxLen ∧ (B = none → n = 0 ∧ c = 0) ∧ n ≤ c ∧ Sees w B (b.map (Value.int k)) ∧ ∀ z ∈ b, (Lit.int k z).wf = true := by
  rcases open_ints ht he hc h with ⟨hcs, _⟩ | ⟨x, l, c, zs, hcs, _, hl, hm, hz, _, hcell, hwz⟩
  · simp at hcs
    subst hcs
    exact ⟨none, 0, 0, [], rfl, rfl, Nat.zero_le _, fun _ => ⟨rfl, rfl⟩, Nat.le_refl _, Sees.nil _ _, fun z hz => by cases hz⟩
  · simp at hcs
    subst hcs
    have hzl : l ≤ zs.length := by rw [hz]; split <;> omega
    refine ⟨some x, l, c, zs.take l, rfl, by simp; omega, by omega, (fun h => by cases h), hl, ?_, fun n hn => hwz n (List.mem_of_mem_take hn)⟩
    intro j u hu
    have hj : j < l ∧ j < zs.length := by
      have := (List.getElem?_eq_some_iff.1 hu).1
      simp at this; omega
    obtain ⟨b, o, spot⟩ := x
    have hc2 := hcell j hj.2
    have hspot : spot = none := by
      have := hcell 0 (by omega)
      simpa [Addr.add] using World.cell?_spot this
    subst hspot
    refine ⟨b, o, rfl, ?_⟩
    rw [Addr.add_lit] at hc2
    rw [hc2]
    simp [List.getElem?_take, hj.1, hj.2] at hu
    simp [← hu, hj.2]

theorem open_chunks {H : Type} {enc : TypeId × Value → H} {w : World} {base : Nat} {spare : Nat → Bool} {held : Bool} {A : Option Addr} {len cap : Nat} {d : DataW H} {p : List MemPlace}
    (h : DataW.Trod enc Try.prog w base spare held 22 (.slice A len cap) d p) : ∃ l : CL, l.length = len ∧ len ≤ maxLen ∧ Chunks w A l := by
  obtain ⟨fuel, hf⟩ := h
  rcases open_slice Try.underlying22 hf with h0 | ⟨a, len', cap', m, n, D, Pl, hcs, hb, hl, hm, hmm, hx, hi⟩
  · simp [Value.cells] at h0
    obtain ⟨⟨rfl, rfl, rfl⟩, _⟩ := h0
    exact ⟨[], rfl, Nat.zero_le _, Chunks.nil _ _⟩
  · simp [Value.cells] at hcs
    obtain ⟨rfl, rfl, rfl⟩ := hcs
    have hlm : len ≤ m := by rw [hmm]; split <;> omega
    have hex : ∀ i, ∃ q : Int × List Int, i < len → ∃ g o B c, some a = some (⟨g, o, none⟩ : Addr) ∧ w.cell? ⟨g, o + i * 2, none⟩ = some (.int .i64 q.1) ∧ w.cell? ⟨g, o + i * 2 + 1, none⟩ = some (.slice B q.2.length c) ∧ (B = none → q.2.length = 0 ∧ c = 0) ∧ q.2.length ≤ c ∧ Sees w B (q.2.map (Value.int .u8)) := by
      intro i
      by_cases hil : i < len
      · obtain ⟨cs', hc, ht'⟩ := hi i (by omega)
        rw [cells33] at hc
        obtain ⟨ys, n', hn', hy, hlen, hyl, hg⟩ := DataW.trod_struct Try.underlying33 ht'
        obtain ⟨_, hcl, hat⟩ := World.cells?_some hc
        obtain ⟨q0, q1, rfl⟩ : ∃ q0 q1, cs' = [q0, q1] := by
          match cs', hcl with
          | [q0, q1], _ => exact ⟨q0, q1, rfl⟩
        have g0 := hg 0 _ rfl
        have g1 := hg 1 _ rfl
        simp [cells3, cells31] at g0 g1
        have hyl3 : ys.length = 2 := hyl
        rw [List.getElem?_eq_getElem (by omega)] at g0 g1
        obtain ⟨x, e0, _, hwf⟩ := DataW.trod_int Try.underlying3 g0
        obtain ⟨B, nb, cb, bb, e1, hbl, _, hbn, hbc, hbs, _⟩ := row_at Try.underlying31 Try.underlying5 cells5 g1
        simp at e0
        subst e0 e1 hbl
        have t0 := hat 0 (by decide)
        have t1 := hat 1 (by decide)
        obtain ⟨b, o, spot⟩ := a
        have hspot : spot = none := by
          obtain ⟨cs0, hc0, _⟩ := hi 0 (by omega)
          rw [cells33] at hc0
          obtain ⟨_, hcl0, hat0⟩ := World.cells?_some hc0
          have z := hat0 0 (by decide)
          rw [List.getElem?_eq_getElem (by omega)] at z
          simpa [Addr.add] using World.cell?_spot z
        subst hspot
        simp only [Addr.add_lit, Nat.add_zero, List.getElem?_cons_zero, List.getElem?_cons_succ] at t0 t1
        exact ⟨(x, bb), fun _ => ⟨b, o, B, cb, rfl, t0, t1, hbn, hbc, hbs⟩⟩
      · exact ⟨(0, []), fun h => absurd h hil⟩
    obtain ⟨f, hf2⟩ := Classical.axiomOfChoice hex
    refine ⟨(List.range len).map f, by simp, by omega, fun i k x h => ?_⟩
    have hil : i < len := by
      have := (List.getElem?_eq_some_iff.1 h).1
      simpa using this
    simp [hil] at h
    have := hf2 i hil
    rw [h] at this
    exact this
/-- A slice of integers. -/
theorem open_sizes {H : Type} {enc : TypeId × Value → H} {w : World} {base : Nat} {spare : Nat → Bool} {held : Bool} {A : Option Addr} {len cap : Nat} {d : DataW H} {p : List MemPlace}
    (h : DataW.Trod enc Try.prog w base spare held 28 (.slice A len cap) d p) : ∃ l : List Int, l.length = len ∧ len ≤ maxLen ∧ Sees w A (l.map (Value.int .i64)) ∧ ∀ z ∈ l, -9223372036854775808 ≤ z ∧ z ≤ 9223372036854775807 := by
  obtain ⟨fuel, hf⟩ := h
  obtain ⟨B, n, c, b, e, hl, hm, _, _, hs, hw⟩ := row_at Try.underlying28 Try.underlying3 cells3 (v := .slice A len cap) hf
  injection e with e1 e2 e3
  subst e1 e2 e3
  exact ⟨b, hl, hm, hs, fun z hz => wf_i64 (hw z hz)⟩
end Go.Proofs.Ytciddilphflhaaa
