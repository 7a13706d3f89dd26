/- Parameters opened: a state, a list of deeds. -/
import Derived.Test.YtngligcjcdpnhaaZd
import Derived.Deep.Slices
import Derived.Deep.Fields
import Derived.ChangeSame
import Derived.ProofKit
import Derived.OpenShut
namespace Go.Proofs.Ytngligcjcdpnhaa
open Go.ChangeShapes Go.WideShapes Go.ChangeAt Go.RowKit Go.Maps Go.Deep
set_option linter.unusedSimpArgs false
set_option linter.unusedVariables false

theorem cells29 : Try.prog.cellsOf 29 = 5 := by kernel_rfl
theorem cells31 : Try.prog.cellsOf 31 = 7 := by kernel_rfl
theorem cells27 : Try.prog.cellsOf 27 = 2 := by kernel_rfl
theorem cells3 : Try.prog.cellsOf 3 = 1 := by kernel_rfl
theorem cells4 : Try.prog.cellsOf 4 = 1 := by kernel_rfl

theorem list5 {l : List Value} (h : l.length = 5) : ∃ a b c d e, l = [a, b, c, d, e] := by
  match l, h with
  | [a, b, c, d, e], _ => exact ⟨a, b, c, d, e, rfl⟩
theorem list7 {l : List Value} (h : l.length = 7) : ∃ a b c d e f g, l = [a, b, c, d, e, f, g] := by
  match l, h with
  | [a, b, c, d, e, f, g], _ => exact ⟨a, b, c, d, e, f, g, rfl⟩
theorem state_at {H : Type} {enc : TypeId × Value → H} {w : World} {base : Nat} {spare : Nat → Bool} {held : Bool} {fuel : Nat} {cs : List Value} {x : DataW H × List MemPlace}
    (hcl : cs.length = 5) (hf : DataW.trod enc Try.prog w base spare held fuel 29 cs = some x) : ∃ (k o : Int) (a b : Bool) (y : Int), cs = [.int .i64 k, .int .i64 o, .bool a, .bool b, .int .i64 y] := by
  obtain ⟨c0, c1, c2, c3, c4, rfl⟩ := list5 hcl
  obtain ⟨xs, n, _, _, _, hlen, hg⟩ := DataW.trod_struct Try.underlying29 hf
  have g0 := hg 0 _ rfl
  have g1 := hg 1 _ rfl
  have g2 := hg 2 _ rfl
  have g3 := hg 3 _ rfl
  simp [Value.cells, cells3, cells27] at g0 g1 g2 g3
  have hl : xs.length = 4 := hlen
  rw [List.getElem?_eq_getElem (by omega)] at g0 g1 g2 g3
  obtain ⟨k, e0, _, _⟩ := DataW.trod_int Try.underlying3 g0
  obtain ⟨o, e1, _, _⟩ := DataW.trod_int Try.underlying3 g1
  obtain ⟨y, e4, _, _⟩ := DataW.trod_int Try.underlying3 g3
  obtain ⟨ys, m, _, _, _, hl2, hg2⟩ := DataW.trod_array Try.underlying27 g2
  have a0 := hg2 0 (by omega)
  have a1 := hg2 1 (by omega)
  simp [cells4] at a0 a1
  rw [List.getElem?_eq_getElem (by omega)] at a0 a1
  obtain ⟨a, e2, _⟩ := DataW.trod_bool Try.underlying4 a0
  obtain ⟨b, e3, _⟩ := DataW.trod_bool Try.underlying4 a1
  simp at e0 e1 e2 e3 e4
  subst e0 e1 e2 e3 e4
  exact ⟨k, o, a, b, y, rfl⟩
theorem open_state {H : Type} {enc : TypeId × Value → H} {w : World} {r : Reach} {b0 base : Nat} {spare : Nat → Bool} {held : Bool} {v : Value} {x : DataW H} {p : List MemPlace}
    (hv : Value.okWide Try.prog w r b0 29 v) (h : DataW.Trod enc Try.prog w base spare held 29 v x p) :
    ∃ (k o : Int) (a b : Bool) (y : Int), v = .agg #[.int .i64 k, .int .i64 o, .bool a, .bool b, .int .i64 y] := by
  obtain ⟨cs, rfl, hsz⟩ := okWide_struct Try.underlying29 hv
  obtain ⟨l⟩ := cs
  obtain ⟨fuel, hf⟩ := h
  obtain ⟨k, o, a, b, y, e⟩ := state_at (hsz.trans cells29) (by simpa [Value.cells] using hf)
  exact ⟨k, o, a, b, y, by subst e; rfl⟩
theorem deed_at {H : Type} {enc : TypeId × Value → H} {w : World} {base : Nat} {spare : Nat → Bool} {held : Bool} {fuel : Nat} {cs : List Value} {x : DataW H × List MemPlace}
    (hcl : cs.length = 7) (hf : DataW.trod enc Try.prog w base spare held fuel 31 cs = some x) : ∃ d : Dd, cs = row7 d ∧ (Lit.int .i64 d.id).wf = true := by
  obtain ⟨c0, c1, c2, c3, c4, c5, c6, rfl⟩ := list7 hcl
  obtain ⟨xs, n, _, _, _, hlen, hg⟩ := DataW.trod_struct Try.underlying31 hf
  have g0 := hg 0 _ rfl
  have g1 := hg 1 _ rfl
  have g2 := hg 2 _ rfl
  simp [Value.cells, cells3, cells4, cells29] at g0 g1 g2
  have hl : xs.length = 3 := hlen
  rw [List.getElem?_eq_getElem (by omega)] at g0 g1 g2
  obtain ⟨s, e0, _⟩ := DataW.trod_bool Try.underlying4 g0
  obtain ⟨id, e1, _, hw⟩ := DataW.trod_int Try.underlying3 g1
  obtain ⟨k, o, a, b, y, e2⟩ := state_at rfl g2
  simp at e0 e1 e2
  obtain ⟨e2, e3, e4, e5, e6⟩ := e2
  subst e0 e1 e2 e3 e4 e5 e6
  exact ⟨⟨s, id, k, o, a, b, y⟩, rfl, hw⟩
theorem cells7_length (l : List Dd) : (cells7 l).length = l.length * 7 := by
  induction l with
  | nil => rfl
  | cons d t ih =>
    unfold cells7 at ih ⊢
    rw [List.flatMap_cons, List.length_append, ih, List.length_cons]
    have : (row7 d).length = 7 := rfl
    omega
theorem sees_deeds {w : World} {A : Option Addr} {l : List Dd} (h : ∀ i x, l[i]? = some x → ∃ g o, A = some ⟨g, o, none⟩ ∧ ∀ j v, (row7 x)[j]? = some v → w.cell? ⟨g, o + i * 7 + j, none⟩ = some v) : Sees w A (cells7 l) := fun j u hu => by
  have hj := (List.getElem?_eq_some_iff.1 hu).1
  rw [cells7_length] at hj
  obtain ⟨x, hx⟩ : ∃ x, l[j / 7]? = some x := ⟨_, List.getElem?_eq_getElem (by omega)⟩
  obtain ⟨g, o, e, hc⟩ := h _ _ hx
  refine ⟨g, o, e, ?_⟩
  have e1 := cells7_get hx (j % 7) (by omega)
  rw [show j / 7 * 7 + j % 7 = j by omega, hu] at e1
  have := hc (j % 7) u e1.symm
  rwa [show o + j / 7 * 7 + j % 7 = o + j by omega] at this
theorem open_deeds {H : Type} {enc : TypeId × Value → H} {w : World} {base : Nat} {spare : Nat → Bool} {held : Bool} {A : Option Addr} {len cap : Nat} {d : DataW H} {p : List MemPlace}
    (h : DataW.Trod enc Try.prog w base spare held 22 (.slice A len cap) d p) : ∃ l : List Dd, len ≤ maxLen ∧ l.length = len ∧ Sees w A (cells7 l) ∧ ∀ x ∈ l, (Lit.int .i64 x.id).wf = true := by
  obtain ⟨fuel, hf⟩ := h
  rcases open_slice Try.underlying22 hf with h0 | ⟨a, len', cap', m, n, D, Pl, hcs, hb, hl, hm, hmm, hx, hi⟩
  · simp [Value.cells] at h0
    obtain ⟨⟨rfl, rfl, rfl⟩, _⟩ := h0
    exact ⟨[], Nat.zero_le _, rfl, (fun j u h => by simp [cells7] at h), fun x hx => by cases hx⟩
  · simp [Value.cells] at hcs
    obtain ⟨rfl, rfl, rfl⟩ := hcs
    have hlm : len ≤ m := by rw [hmm]; split <;> omega
    have hex : ∀ i, ∃ q : Dd, i < len → (Lit.int .i64 q.id).wf = true ∧ ∃ b o, some a = some (⟨b, o, none⟩ : Addr) ∧ ∀ j v, (row7 q)[j]? = some v → w.cell? ⟨b, o + i * 7 + j, none⟩ = some v := by
      intro i
      by_cases hil : i < len
      · obtain ⟨cs', hc, ht'⟩ := hi i (by omega)
        rw [cells31] at hc
        obtain ⟨_, hcl, hat⟩ := World.cells?_some hc
        obtain ⟨y, rfl, hin⟩ := deed_at hcl ht'
        obtain ⟨b, o, spot⟩ := a
        have hspot : spot = none := by
          obtain ⟨cs0, hc0, _⟩ := hi 0 (by omega)
          rw [cells31] at hc0
          obtain ⟨_, hcl0, hat0⟩ := World.cells?_some hc0
          have z := hat0 0 (by decide)
          rw [List.getElem?_eq_getElem (by omega)] at z
          simpa [Addr.add] using World.cell?_spot z
        subst hspot
        refine ⟨y, fun _ => ⟨hin, b, o, rfl, fun j v hv => ?_⟩⟩
        have hj : j < 7 := (List.getElem?_eq_some_iff.1 hv).1
        have t0 := hat j hj
        rw [hv] at t0
        simpa only [Addr.add_lit] using t0
      · exact ⟨⟨false, 0, 0, 0, false, false, 0⟩, fun h => absurd h hil⟩
    obtain ⟨f, hf2⟩ := Classical.axiomOfChoice hex
    have hat : ∀ i x, ((List.range len).map f)[i]? = some x → (Lit.int .i64 x.id).wf = true ∧ ∃ g o, some a = some (⟨g, o, none⟩ : Addr) ∧ ∀ j v, (row7 x)[j]? = some v → w.cell? ⟨g, o + i * 7 + j, none⟩ = some v := fun i x h => by
      have hil : i < len := by
        have := (List.getElem?_eq_some_iff.1 h).1
        simpa using this
      simp [hil] at h
      have := hf2 i hil
      rw [h] at this
      exact this
    exact ⟨(List.range len).map f, by omega, by simp, sees_deeds fun i x h => (hat i x h).2, fun x hx => by
      obtain ⟨i, hi⟩ := List.getElem?_of_mem hx
      exact (hat i x hi).1⟩
theorem plays_any (most id : Int) (A : Option Addr) (n c : Nat) (ds : List Dd) (w : World) (hn : n ≤ maxLen) (HL : ds.length = n) (HS : Sees w A (cells7 ds)) (HW : ∀ d ∈ ds, (Lit.int .i64 d.id).wf = true) (HX0 : (Lit.int .i64 id).wf = true) : Calls Try.prog 3 #[.int .i64 most, .slice A n c, .int .i64 id] w fun e w' => e = .returned (.bool true) ∧ Below w.heap.size w w' := by
  by_cases h : n ≤ 40
  · exact plays_near most id A n c ds w h (hide HL) (hide HS) (hide HW) (hide HX0)
  · exact plays_far most id A n c w (by omega) hn
end Go.Proofs.Ytngligcjcdpnhaa
